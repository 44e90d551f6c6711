/- Parts: MFilE. -/
import Derived.Test.YtemooicddjimbaaGreatDoorTlG0FilC
set_option maxRecDepth 10000
set_option maxHeartbeats 8000000
namespace Go.Proofs.YtemooicddjimbaaGreatDoor
open Go.RowKit Go.Shelf
open Go.Proofs.Tryz
theorem NR(l:List ByteArray):∀u∈sv l,u.oneCell'=true:=by
 intro u a;obtain⟨x,-,rfl⟩:=jX.1 a;rfl
theorem MM(l:List ByteArray)(x:ByteArray):sv (l++[x])=sv l++[.string x]:=by simp[sv]
theorem Mt(s:ByteArray)(m j:Nat):(ls (s.extract m s.size))[j]? =(ls s)[m+j]? :=by rw[Y9,List.getElem?_drop]
theorem Qa{s:ByteArray}{m k:Nat}(hm:m<=k)(hk:(ls s)[k]? =some 47)(hn:∀j,m<=j->j<k->(ls s)[j]? ≠some 47):lvs (s.extract m s.size)=s.extract m k :: lvs (s.extract (k+1) s.size):=by
 have c:k<s.size:=by have:=(YI.1 hk).1;rwa[aN]at this
 rw[Er (i:=k- m) (by rw[Mt,show m+(k- m)=k by omega];exact hk) (fun j d=>by rw[Mt];exact hn _ (by omega) (by omega))];have a:(s.extract m s.size).extract 0 (k- m)=s.extract m k:=by
  apply eX;rw[ix,Y9];show _=(s.extract m k).data.toList;rw[Lib.extract_data];rfl
 have b:(s.extract m s.size).extract (k- m+1) (s.extract m s.size).size=s.extract (k+1) s.size:=by
  apply eX;rw[Y9,Y9,Y9,et,show m+(k- m+1)=k+1 by omega]
 rw[a,b]
theorem Om{s:ByteArray}{m:Nat}(hn:∀j,m<=j->j<s.size->(ls s)[j]? ≠some 47):lvs (s.extract m s.size)=[s.extract m s.size]:=by
 refine Cm fun j=>?_;rw[Mt]
 by_cases h:m+j<s.size
 ·exact hn _ (by omega) h
 ·rw[aG (by rw[aN];omega)];simp
theorem Jn(s:ByteArray)(w:World)(hs:s.size<=65535):
  Calls prog 191 #[.string s] w fun e w'=>∃v,e= .returned v/\w'.ownsRow w.heap.size 9 1 v (lvs s).length (sv (lvs s))/\Below w.heap.size w w':=by
 have T:=aa hs;have G:=aa (Eo s);go_enter func191,ntmps191;go_wp2
 go_loopw [3,4,5] (fun o O i wr=>∃(k m:Nat) (done:List ByteArray),k<=s.size/\m<=k/\i= .int .i64 k/\O= .int .i64 m/\wr.ownsRow w.heap.size 9 1 o done.length (sv done)/\lvs s=done++lvs (s.extract m s.size)/\(∀j,m<=j->j<k->(ls s)[j]? ≠some 47)/\Below w.heap.size w wr) (fun _ _ i _=>s.size- (intOf i).toNat)
 case atStart=>exact⟨0,0,[],by omega,by omega,rfl,rfl,dD _ _ _ _,by rw[ByteArray.extract_zero_size,dX],fun j _ V=>by omega,aq _ _⟩
 case round=>
  obtain⟨k,m,done,W,S,rfl,rfl,r,F,A,f⟩:=hrel;have n:=aa r;have C:=aa F;have D:=aa A;have B:=aa f
  have l:Hid (done.length<=65536):=aa (by
   have:=congrArg List.length F;rw[List.length_append]at this;have:=G.o;omega)
  clear r F A
  by_cases q:k<s.size
  ·obtain⟨b,Q⟩:∃b,s[k]'q=b:=⟨_,rfl⟩;have z:(ls s)[k]? =some b:=by rw[List.getElem?_eq_getElem (by rw[aN];exact q),uY s k q,Q]
   have y:=aa z;have b1:(0:Int)<=(k:Int):=by omega
   have b2:(k:Int)<(s.size:Int):=by omega
   have J:=f.size;clear z
   by_cases h:b=47
   ·have N:((b.toNat:Int)==47)=true:=by subst h;rfl
    have L:(0:Int)<=(m:Int):=by omega
    have M:(m:Int)<=(k:Int):=by omega
    have U:(k:Int)<=(s.size:Int):=by omega
    have p:Hid (lvs s=(done++[s.extract m k])++lvs (s.extract (k+1) s.size)):=aa (by
     rw[C.o,Qa S (by rw[y.o,h]) D.o];simp)
    have K:=aa h;clear h
    go_wp2_with (at_builtin;refine kF _ rfl (.tmp 16) (.tmp 21) 35 rfl w.heap.size 9 (.string ByteArray.empty) 1 16 underlying35 vl rfl (by decide) u3 _ _ rfl (n.o.alloc _) _ _ 1 1 [.string (s.extract m k)] rfl (Rd.lit _ _ _ rfl (ed _) rfl) (NR [s.extract m k]) (by have:=l.o;unfold maxLen;omega) (by have:=l.o;omega) (by simp;omega) ?_;intro u t a c d)
    have R:t.ownsRow w.heap.size 9 1 u (done++[s.extract m k]).length (sv (done++[s.extract m k]))/\Below w.heap.size w t:=by
     refine⟨by rw[MM,List.length_append];exact a,?_⟩;exact kz (B.o.alloc (by omega) _) c (by simp;omega) (fun g E=>(cX n.o g E).1)
    clear a c d;go_wp2
    go_roundw
    case rel=>exact⟨k+1,k+1,done++[s.extract m k],by omega,by omega,by go_num,by go_num,R.1,p.o,fun j H I=>by omega,R.2⟩
    case measure=>simp[intOf];omega
   ·have N:((b.toNat:Int)==47)=false:=ar.2 (fun x=>h (UInt8.toNat_inj.1 (by rw[show(47:UInt8).toNat=47 from rfl];omega)));have p:Hid (∀j,m<=j->j<k+1->(ls s)[j]? ≠some 47):=aa (by
     intro j H I;rcases dx.1 I with P| rfl
     ·exact D.o j H P
     ·rw[y.o];simpa using h)
    clear h;go_wp2
    go_roundw
    case rel=>exact⟨k+1,m,done,by omega,by omega,by go_num,rfl,n.o,C.o,p.o,B.o⟩
    case measure=>simp[intOf];omega
  ·obtain rfl:k=s.size:=by omega
   have L:(0:Int)<=(m:Int):=by omega
   have M:(m:Int)<=(s.size:Int):=by omega
   have J:=f.size;have p:Hid (lvs s=done++[s.extract m s.size]):=aa (by rw[C.o,Om D.o])
   go_wp2_with (at_builtin;refine kF _ rfl (.tmp 25) (.tmp 29) 35 rfl w.heap.size 9 (.string ByteArray.empty) 1 16 underlying35 vl rfl (by decide) u3 _ _ rfl (n.o.alloc _) _ _ 1 1 [.string (s.extract m s.size)] rfl (Rd.lit _ _ _ rfl (ed _) rfl) (NR [s.extract m s.size]) (by have:=l.o;unfold maxLen;omega) (by have:=l.o;omega) (by simp;omega) ?_;intro u t a c d)
   have R:t.ownsRow w.heap.size 9 1 u (lvs s).length (sv (lvs s))/\Below w.heap.size w t:=by
    rw[p.o];refine⟨by rw[MM,List.length_append];exact a,?_⟩;exact kz (B.o.alloc (by omega) _) c (by simp;omega) (fun g E=>(cX n.o g E).1)
   clear a c d;go_wp2;go_ret;exact⟨u,rfl,R.1,R.2⟩
theorem PE:∀(l:List ByteArray) (k:Nat),(jn (l.take k)).length<=(jn l).length
 | [],k=>by simp
 | x :: l,0=>by simp[jn]
 | x :: l,k+1=>by
   have:∀(m:List ByteArray) (k:Nat),(jt (m.take k)).length<=(jt m).length:=by
    intro m
    induction m with
    | nil=>intro k;simp
    | cons y m ih=>
      intro k;cases k with
      | zero=>simp[jt]
      | succ k=>
        have:=ih k;rw[GG,jt,jt,bM,bM,List.length_append,List.length_append];omega
   have:=this l k;rw[GG,jn,jn,List.length_append,List.length_append];omega
theorem PG(l:List ByteArray)(k:Nat)(x:ByteArray)(hx:l[k]? =some x):jn (l.take (k+1))=if k=0 then ls x else jn (l.take k)++47 :: ls x:=by
 have a:=(YI.1 hx).1;rw[List.take_add_one,hx];simp only[Option.toList_some];rw[PF]
 by_cases h:k=0
 ·subst h;rfl
 ·rw[Fl h,Fl (fun e=>by have:=congrArg List.length e;rw[cY,eC]at this;omega)]
theorem LL(A:Option Addr)(n c:Nat)(l:List ByteArray)(w:World)(hn:l.length=n)(h:Rd w w.heap.size 1 A n (sv l))(hl:(jn l).length<=65535)(hn2:n<=4611686018427387904):
  Calls prog 251 #[.slice A n c] w fun e w'=>e= .returned (.string ⟨(jn l).toArray⟩)/\Below w.heap.size w w':=by
 have u:=aa hn;have y:=aa h;have v:=aa hl
 clear hn h hl;go_enter func251,ntmps251;go_wp2
 go_loopw [3,4] (fun o i wr=>∃k:Nat,k<=n/\i= .int .i64 k/\o= .string ⟨(jn (l.take k)).toArray⟩/\Below w.heap.size w wr) (fun _ i _=>n- (intOf i).toNat)
 case atStart=>exact⟨0,by omega,rfl,rfl,aq _ _⟩
 case round=>
  obtain⟨k,J,rfl,rfl,d⟩:=hrel;have p:=aa d
  by_cases t:k<n
  ·obtain⟨b,o,x,rfl,H,m,I⟩:=Gd (y.o.below d) t;have q:=aa m;have f:=aa (PG l k x m);have B:=aa (PE l (k+1));have j:Hid ((jn (l.take k)).length+1+x.size<=65536):=aa (by
    have F:=B.o;have G:=v.o;have r:=congrArg List.length f.o
    by_cases a:k=0
    ·rw[if_pos a,aN]at r;subst a;simp[jn];omega
    ·rw[Fl a,List.length_append,bM,aN]at r;omega)
   have b1:(0:Int)<=(k:Int):=by omega
   have b2:(k:Int)<(n:Int):=by omega
   generalize s:jn (l.take k)=P at*;have z:=aa s;clear m s
   by_cases a:k=0
   ·have g:Hid ((⟨P.toArray⟩:ByteArray)++x=⟨(jn (l.take (k+1))).toArray⟩):=aa (by
     rw[f.o,if_pos a,<-z.o,a,GZ];apply eX;rw[fe,jo,jo];rfl)
    have C:¬(0:Int)<(k:Int):=by omega
    have f1:P.length+x.size<=65536:=by have:=j.o;omega
    have D:¬(9223372036854775807<P.length+x.size):=by omega
    clear a;go_wp2
    go_roundw
    case rel=>exact⟨k+1,by omega,by go_num,by rw[<-g.o],p.o⟩
    case measure=>simp[intOf];omega
   ·have g:Hid (((⟨P.toArray⟩:ByteArray)++⟨#[47]⟩)++x=⟨(jn (l.take (k+1))).toArray⟩):=aa (by
     rw[f.o,Fl a];apply eX;rw[fe,fe,jo,jo];show P++[47]++ls x=_;rw[jo,List.append_assoc];rfl)
    have C:(0:Int)<(k:Int):=by omega
    have E:¬(9223372036854775807<P.length+1):=by have:=j.o;omega
    have D:¬(9223372036854775807<P.length+1+x.size):=by have:=j.o;omega
    clear a;go_wp2
    go_roundw
    case rel=>exact⟨k+1,by omega,by go_num,by rw[<-g.o],p.o⟩
    case measure=>simp[intOf];omega
  ·obtain rfl:k=n:=by omega
   have q:Hid (l.take k=l):=aa (by rw[<-u.o,GK]);go_wp2;go_ret;exact⟨by rw[q.o];rfl,d⟩
theorem LY{l:List ByteArray}{i:Nat}{x:ByteArray}(hx:l[i]? =some x)(h:Ju x (decide (i+1=l.length))=false):jk l=false:=yA hx (by rw[<-KV];exact h)
theorem Jo(s:ByteArray)(w:World)(hs:s.size<=4611686018427387904):
  Calls prog 118 #[.string s] w fun e w'=>e= .returned (.bool (gj s))/\Below w.heap.size w w':=by
 have P:Hid (gj s=((decide (s.size≠0)&&YF s)&&jk (lvs s))):=aa rfl;have I:=kR s;have HS:=aa hs;clear hs
 go_enter func118,ntmps118
 by_cases B:s.size=0
 ·rw[au B]at I;have z:Hid (gj s=false):=aa (by rw[P.o,ah (fun x=>x B)];rfl);clear B;go_wp2;go_ret;exact⟨by rw[z.o];rfl,aq _ _⟩
 rw[ah B]at I;have C:Hid (gj s=(YF s&&jk (lvs s))):=aa (by rw[P.o,au B,aL]);clear B P
 go_wp2_with fail
 refine Yg (xj s _ HS.o) fun w1 ai=>?_;subst ai;cases K:YF s
 ·have z:Hid (gj s=false):=aa (by rw[C.o,K];rfl);clear K;go_wp2;go_ret;exact⟨by rw[z.o];rfl,aq _ _⟩
 have u:Hid (gj s=jk (lvs s)):=aa (by rw[C.o,K,aL]);have Q:Hid (s.size<=65535):=aa (gL K);clear K C;have ae:Hid (∀x∈lvs s,x.size<=65535):=aa fun x L=>aC (YD s x L) Q.o;have N:Hid ((lvs s).length<=65536):=aa (by have:=Eo s;have:=Q.o;omega)
 go_wp2_with fail
 refine(Jn s _ Q.o).mono ?_;rintro e w2 ⟨v,rfl,J,R⟩;have Z:=aa R;obtain⟨A,c,rfl,S,O⟩:=jK J;have HL:=aa O;clear R J O;generalize lvs s=l at*;obtain⟨n,U⟩:∃n,l.length=n:=⟨_,rfl⟩;rw[U]at HL N S⊢;have X:=aa U;have ap:n<=65536:=N.o;clear U I;go_wp2
 go_loopw [4] (fun i wr=>∃k:Nat,k<=n/\i= .int .i64 k/\(∀(j:Nat) (y:ByteArray),j<k->l[j]? =some y->j8 y (decide (j+1=l.length))=true)/\Below w2.heap.size w2 wr) (fun i _=>n- (intOf i).toNat)
 case atStart=>exact⟨0,by omega,rfl,fun j x hj=>by omega,aq _ _⟩
 case round=>
  obtain⟨k,hk,rfl,H,p⟩:=hrel;have Y:=aa H;have t:=aa (Yf Z.o p);have ab:=aa p;clear H
  by_cases ag:k<n
  focus
   obtain⟨b,o,x,rfl,R,L,hc⟩:=Gd (HL.o.below p) ag;have z:=aa L;have G:=aa (ae.o x (iL L));obtain⟨d,T⟩:∃d,decide (k+1=l.length)=d:=⟨_,rfl⟩;have f:decide ((k:Int)+1<(n:Int))= !d:=by
    rw[<-T,X.o,eG,cH,Bool.not_eq_true',Ip];omega
   have HD:=aa T;have b1:(0:Int)<=(k:Int):=by omega
   have b2:(k:Int)<(n:Int):=by omega
   have E:Hid (Ju x d= !((Hh (ls x) 43&& !(x.toList==[43])) || (Hh (ls x) 35&&(!(x.toList==[35]) || !d)))):=aa rfl;have r:Hid (Ju x d=true->∀(j:Nat) (y:ByteArray),j<k+1->l[j]? =some y->j8 y (decide (j+1=l.length))=true):=aa fun h=>oc z.o (by rw[HD.o,<-KV];exact h) Y.o;have D:Hid (Ju x d=false->jk l=false):=aa fun h=>LY z.o (by rw[HD.o];exact h);clear L T p;generalize hP:Ju x d=RL at*;clear hP
   go_wp2_with fail
   refine Yg (Iv x 43 _ (by have:=G.o;omega)) fun w3 q=>?_;subst q;cases m:Hh (ls x) 43
   focus
    have M:Hid (RL= !(Hh (ls x) 35&&(!(x.toList==[35]) || !d))):=aa (by rw[E.o,m];rfl);clear m
    go_wp2_with fail
    refine Yg (Iv x 35 _ (by have:=G.o;omega)) fun w3 q=>?_;subst q;cases a:Hh (ls x) 35
    focus
     have g:=aa (r.o (by rw[M.o,a];rfl));clear a
    rotate_left
    focus
     cases W:(x.toList==[35])
     ·have g:=aa (D.o (by rw[M.o,a,W];rfl));clear a;go_wp2;go_ret;exact⟨by rw[u.o,g.o];rfl,t.o⟩
     focus
      cases d
      ·have g:=aa (D.o (by rw[M.o,a,W];rfl));have af:(k:Int)+1<(n:Int):=aR f;clear a f;go_wp2;go_ret;exact⟨by rw[u.o,g.o];rfl,t.o⟩
      focus
       have g:=aa (r.o (by rw[M.o,a,W];rfl));have af:¬(k:Int)+1<(n:Int):=Gy f;clear a f
      rotate_left
     rotate_left
    rotate_left
   rotate_left 2
   focus
    cases V:(x.toList==[43])
    ·have g:=aa (D.o (by rw[E.o,m,V];rfl));clear m;go_wp2;go_ret;exact⟨by rw[u.o,g.o];rfl,t.o⟩
    focus
     have F:Hid (Hh (ls x) 35=false):=aa (by
      have:ls x=[43]:=by rw[<-Gc];exact aK.1 V
      rw[this];rfl)
     have g:=aa (r.o (by rw[E.o,m,V,F.o];rfl));clear m
     go_wp2_with fail
     refine Yg (Iv x 35 _ (by have:=G.o;omega)) fun w3 q=>?_;subst q;rw[F.o]
    rotate_left
   rotate_left
  rotate_left 3
  ·obtain rfl:k=n:=by omega
   have g:Hid (jk l=true):=aa (Cu (fun j y hj=>Y.o j y (by have:=X.o;omega)));go_wp2;go_ret;exact⟨by rw[u.o,g.o];rfl,t.o⟩
  all_goals
   go_wp2
   go_roundw
   case rel=>exact⟨k+1,by omega,by go_num,g.o,ab.o⟩
   case measure=>simp[intOf];omega
end Go.Proofs.YtemooicddjimbaaGreatDoor
namespace Go.Proofs.YtemooicddjimbaaGreatDoor
open Go.RowKit Go.Shelf
open Go.Proofs.Tryz
theorem OU(l:List ByteArray)(k:Nat):(sv l).drop (k*1)=sv (l.drop k):=by rw[Y8];simp[sv]
theorem Ow(s:ByteArray):(jn ((lvs s).drop 2)).length<=s.size:=by
 have h:∀l:List ByteArray,(jn (l.drop 1)).length<=(jn l).length:=by
  intro l;cases l with
  | nil=>simp
  | cons x l=>
    cases l with
    | nil=>simp[jn,jt]
    | cons y l=>simp[jn,jt];omega
 have c:=h (lvs s);have a:=h ((lvs s).drop 1);rw[et,show 1+1=2 from rfl]at a;have b:=congrArg List.length (Ov s);rw[aN]at b;omega
theorem KB(s:ByteArray)(w:World)(hs:s.size<=4611686018427387904):
  Calls prog 192 #[.string s] w (AK s w):=by
 have T:Hid (fy s=(YF s&&(gV s&&(decide (3<=(lvs s).length)&&((decide (((lvs s).getD 1 ⟨#[]⟩).size≠0)&& !(Hh (ls ((lvs s).getD 1 ⟨#[]⟩)) 43 || Hh (ls ((lvs s).getD 1 ⟨#[]⟩)) 35))&&gj ⟨(jn ((lvs s).drop 2)).toArray⟩))))):=aa (Na s).symm;have HS:=aa hs;clear hs
 go_enter func192,ntmps192
 go_wp2_with fail
 refine Yg (xj s _ HS.o) fun w1 aj=>?_;subst aj;cases G:YF s
 ·have a:Hid (fy s=false):=aa (by rw[T.o,G];rfl);clear G;go_wp2;go_ret3;exact⟨⟨_,_,by rw[a.o];rfl⟩,aq _ _⟩
 have d:=T.o;rw[G,aL]at d
 replace d:=aa d
 have J:Hid (s.size<=65535):=aa (gL G);clear G T
 by_cases K:7<=s.size
 rotate_left
 ·have a:Hid (fy s=false):=aa (by rw[d.o,Zn,ah K];rfl);have d7:(s.size:Int)<7:=by omega
  clear K;go_wp2;go_ret3;exact⟨⟨_,_,by rw[a.o];rfl⟩,aq _ _⟩
 have U:Hid (gV s=((s.extract 0 7).toList==[36,115,104,97,114,101,47])):=aa (by rw[Zn,au K,aL]);have d7:¬(s.size:Int)<7:=by omega
 have ax:(7:Int)<=(s.size:Int):=by omega
 clear K;cases Z:((s.extract 0 7).toList==[36,115,104,97,114,101,47])
 ·have a:Hid (fy s=false):=aa (by rw[d.o,U.o,Z];rfl);go_wp2;go_ret3;exact⟨⟨_,_,by rw[a.o];rfl⟩,aq _ _⟩
 have f:=d.o;rw[U.o,Z,aL]at f
 replace f:=aa f
 clear d U;have ae:Hid (∀x∈lvs s,x.size<=65535):=aa fun x I=>aC (YD s x I) J.o;have N:Hid ((lvs s).length<=65536):=aa (by have:=Eo s;have:=J.o;omega);have HJ:Hid ((jn ((lvs s).drop 2)).length<=65535):=aa (by have:=Ow s;have:=J.o;omega)
 go_wp2_with fail
 refine(Jn s _ J.o).mono ?_;rintro e w2 ⟨v,rfl,F,L⟩;have j:=aa L;obtain⟨A,c,rfl,D,S⟩:=jK F;have V:=aa S;clear L F S;generalize lvs s=l at*;obtain⟨n,hn⟩:∃n,l.length=n:=⟨_,rfl⟩;rw[hn]at V N D f⊢;have E1:=aa hn;have az:n<=65536:=N.o;clear hn Z
 by_cases u:3<=n
 rotate_left
 ·have a:Hid (fy s=false):=aa (by rw[f.o,ah u];rfl);have d3:(n:Int)<3:=by omega
  clear u;go_wp2;go_ret3;exact⟨⟨_,_,by rw[a.o];rfl⟩,j.o⟩
 have g:=f.o;rw[au u,aL]at g;have d3:¬(n:Int)<3:=by omega
 have d1:(1:Int)<(n:Int):=by omega
 have H3:=aa u;obtain⟨b,o,x,rfl,L,I,hc⟩:=Gd V.o (show 1<n by omega);have O:=aa (ae.o x (iL I));have R:l.getD 1 ⟨#[]⟩=x:=by rw[List.getD_eq_getElem?_getD,I];rfl
 rw[R]at g
 replace g:=aa g
 have Q:=kR x;clear u I R f
 by_cases q:x.size=0
 ·rw[au q]at Q;have a:Hid (fy s=false):=aa (by rw[g.o,ah (fun y=>y q)];rfl);clear q;go_wp2;go_ret3;exact⟨⟨_,_,by rw[a.o];rfl⟩,j.o⟩
 rw[ah q]at Q;have h:=g.o;rw[au q,aL]at h
 replace h:=aa h
 clear q g
 go_wp2_with fail
 refine Yg (Iv x 43 _ (by have:=O.o;omega)) fun w3 H=>?_;subst H;cases m:Hh (ls x) 43;rotate_left
 ·have a:Hid (fy s=false):=aa (by rw[h.o,m];rfl);clear m;go_wp2;go_ret3;exact⟨⟨_,_,by rw[a.o];rfl⟩,j.o⟩
 have i:=h.o;rw[m,nB]at i
 replace i:=aa i
 clear m h
 go_wp2_with fail
 refine Yg (Iv x 35 _ (by have:=O.o;omega)) fun w3 H=>?_;subst H;cases k:Hh (ls x) 35;rotate_left
 ·have a:Hid (fy s=false):=aa (by rw[i.o,k];rfl);clear k;go_wp2;go_ret3;exact⟨⟨_,_,by rw[a.o];rfl⟩,j.o⟩
 have t:Hid (fy s=gj ⟨(jn (l.drop 2)).toArray⟩):=aa (by rw[i.o,k];rfl);clear k i;have ai:∀W,(Instr.slice 35 (.slice (some ⟨b,o,none⟩) n c) (some (.int .i64 2)) none none).run prog W= .ok (.slice (xt (some ⟨b,o,none⟩) c 2 1) (n- 2) (c- 2)) W:=fun W=>NV (P:=prog) underlying35 Tryz.sizeOf9 (some ⟨b,o,none⟩) n c 2 (by have:=H3.o;omega) W;have HR:Hid (Rd w2 w2.heap.size 1 (xt (some ⟨b,o,none⟩) c 2 1) (n- 2) (sv (l.drop 2))):=aa (by
  rw[<-OU];exact V.o.cut_from (by have:=H3.o;omega) D)
 generalize xt (some ⟨b,o,none⟩) c 2 1=A2 at*
 go_wp2_with fail
 refine Yg (LL A2 (n- 2) (c- 2) (l.drop 2) _ (by rw[bU,E1.o]) HR.o HJ.o (by omega)) fun w4 z=>?_;have r:=aa (Yf j.o z);have C:=(z.cell (p:=⟨b,o+1,none⟩) L).trans hc;obtain⟨Y,X⟩:∃Y:ByteArray,(⟨(jn (l.drop 2)).toArray⟩:ByteArray)=Y:=⟨_,rfl⟩;have af:Hid (Y.size<=65535):=aa (by rw[<-X,<-aN,jo];exact HJ.o);rw[X]at t⊢;clear z ai hc X
 go_wp2_with fail
 refine Yg (Jo Y _ (by have:=af.o;omega)) fun w5 B=>?_;have M:=aa (Yf r.o B);have E:b<w4.heap.size:=by have:=r.o.size;have:=j.o.size;exact(eY _ _ C)
 have ay:=(B.cell (p:=⟨b,o+1,none⟩) E).trans C;clear B C E;cases hF:gj Y
 ·have a:Hid (fy s=false):=aa (by rw[t.o,hF]);clear hF;go_wp2;go_ret3;exact⟨⟨_,_,by rw[a.o];rfl⟩,M.o⟩
 ·have a:Hid (fy s=true):=aa (by rw[t.o,hF]);clear hF;go_wp2;go_ret3;exact⟨⟨_,_,by rw[a.o];rfl⟩,M.o⟩
end Go.Proofs.YtemooicddjimbaaGreatDoor
