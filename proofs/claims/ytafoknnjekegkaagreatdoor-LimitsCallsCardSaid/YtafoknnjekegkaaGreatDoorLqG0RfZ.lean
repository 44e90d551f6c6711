/- Parts: RfZ, MFilE. -/
import Derived.Test.YtafoknnjekegkaaGreatDoorLqG0MRfP
set_option maxRecDepth 10000
set_option maxHeartbeats 8000000
namespace Go.Proofs.YtafoknnjekegkaaGreatDoor
open Go.RowKit Go.Proofs.Tryz
section
theorem G7(v k:Int)(w:abP):
  abT 127 #[.int .i64 v,.int .i64 k] w (.bool (Ih v k)):=by
 have f:Hid (Ih v k=decide (k=12\/k=13\/(k=14/\v=4))):=aa rfl;go_enter func127,ntmps127;by_cases b:k=12
 ·have h:(k==12)=true:=aK.2 b;have a:Hid (Ih v k=true):=aa (by rw[f.o];exact au (.inl b));clear b;go_wp2;go_ret;exact⟨by rw[a.o];rfl,rfl⟩
 have h:(k==12)=false:=ar.2 b;by_cases c:k=13
 ·have i:(k==13)=true:=aK.2 c;have a:Hid (Ih v k=true):=aa (by rw[f.o];exact au (.inr (.inl c)));clear b c;go_wp2;go_ret;exact⟨by rw[a.o];rfl,rfl⟩
 have i:(k==13)=false:=ar.2 c;by_cases d:k=14
 ·have j:(k==14)=true:=aK.2 d;by_cases g:v=4
  ·have l:(v==4)=true:=aK.2 g;have a:Hid (Ih v k=true):=aa (by rw[f.o];exact au (.inr (.inr ⟨d,g⟩)));clear b c d g;go_wp2;go_ret;exact⟨by rw[a.o];rfl,rfl⟩
  ·have l:(v==4)=false:=ar.2 g;have a:Hid (Ih v k=false):=aa (by rw[f.o];exact ah (by omega));clear b c d g;go_wp2;go_ret;exact⟨by rw[a.o];rfl,rfl⟩
 ·have j:(k==14)=false:=ar.2 d;have a:Hid (Ih v k=false):=aa (by rw[f.o];exact ah (by omega));clear b c d;go_wp2;go_ret;exact⟨by rw[a.o];rfl,rfl⟩
theorem LF{v k:Int}(h:¬((12<=k/\k<=15)/\(v=4\/v=5))):jR v k=2:=by
 unfold jR;refine if_pos ?_;by_cases a:v=4\/v=5
 ·exact .inl (ah (λx=>h ⟨x,a⟩))
 ·exact .inr a
theorem NH{v k:Int}(h:k=15/\v=4):jR v k=8:=by
 obtain⟨rfl,rfl⟩:=h;rfl
theorem aao{v k:Int}(h:(12<=k/\k<=15)/\(v=4\/v=5))(h2:¬(k=15/\v=4)):jR v k=0:=by
 unfold jR;have a:qH k=true:=au h.1;rw[Fl,Fl h2];rintro (x| x)
 ·rw[a]at x;cases x
 ·exact x h.2
theorem IY(v:Int)(p:Pk)(h:Hs)(w:abP)(ip:PkIn w w.heap.size p h)(ok:PkOk p):
  abR 128 #[.int .i64 v,pkV p h] w (.int .i64 (fH v p)):=by
 have u:=aa ok;have IP:=aa ip;have z:=aa ((St.start w).push ip);have r:=aa (ON v p);clear ip ok;go_enter func128,ntmps128;have X:=z.o.cell 0 rfl 0;rw[cI]at X;go_wp2_with fail;refine(pS v _).mono ?_;rintro e w1 ⟨rfl,rfl⟩;cases s:YG v
 ·have b:Hid (fH v p=2):=aa (by have C:jR v p.kind=2:=LF (λx=>by have h2:=Gy (show decide (v=4\/v=5)=false from s);exact h2 x.2);rw[r.o,C];rfl);clear s;go_wp2;go_ret;exact⟨by rw[b.o];rfl,z.o.kept⟩
 have D:=aR (show decide (v=4\/v=5)=true from s);by_cases K:p.kind<12
 ·have b:Hid (fH v p=2):=aa (by have C:jR v p.kind=2:=LF (λx=>by omega);rw[r.o,C];rfl);clear s D;go_wp2;go_ret;exact⟨by rw[b.o];rfl,z.o.kept⟩
 have d4:decide (p.kind<(12:Int))=false:=ah K;by_cases Q:15<p.kind
 ·have b:Hid (fH v p=2):=aa (by have C:jR v p.kind=2:=LF (λx=>by omega);rw[r.o,C];rfl);clear s K D;go_wp2;go_ret;exact⟨by rw[b.o];rfl,z.o.kept⟩
 have d7:decide ((15:Int)<p.kind)=false:=ah Q;by_cases j:p.kind=15
 focus
  have W:(p.kind==15)=true:=aK.2 j;by_cases o:v=4
  ·have e4:(v==4)=true:=aK.2 o;have b:Hid (fH v p=8):=aa (by have C:jR v p.kind=8:=NH ⟨j,o⟩;rw[r.o,C];rfl);clear s K Q D j o;go_wp2;go_ret;exact⟨by rw[b.o];rfl,z.o.kept⟩
  have e4:(v==4)=false:=ar.2 o;have G:Hid (jR v p.kind=0):=aa (aao ⟨by omega,D⟩ (λx=>o x.2));have I:=aa (Jk G.o);have F:Hid (fH v p=if p≠conQ v p\/(Ih v p.kind=false/\may p.kind p.code=false)then 2 else GI v p.kind p.props):=aa (by rw[r.o,Fl (λx=>x G.o)]);have d:Hid (St w [(w.heap.size,p,h),((w.heap.size+1),aP p.kind 0 0 [],hs0)] ((w.alloc (.cells (pkC p h) PkT)).alloc (.cells (pkC (aP p.kind 0 0 []) hs0) PkT))):=aa (by
   have:=z.o.push (qs (w:=w.alloc (.cells (pkC p h) PkT)) (B:=(w.alloc (.cells (pkC p h) PkT)).heap.size) (A:=Option.none) (n:=0) (l:=[]) (Rd.nil _ _ _ _) (ag _) p.kind 0 0);rw[show(w.alloc (.cells (pkC p h) PkT)).heap.size=w.heap.size+1 by simp]at this;exact this)
  have N:∀q k,(zc (.pointer (some ⟨w.heap.size+1,0,none⟩)) (pkV q k)).run prog ((w.alloc (.cells (pkC p h) PkT)).alloc (.cells (pkC pk0 hs0) PkT))= .ok () ((w.alloc (.cells (pkC p h) PkT)).alloc (.cells (pkC q k) PkT)):=λq k=>by
   have:=ax (w.alloc (.cells (pkC p h) PkT)) pk0 q hs0 k;rw[show(w.alloc (.cells (pkC p h) PkT)).heap.size=w.heap.size+1 by simp]at this;exact this
  have Y:((w.alloc (.cells (pkC p h) PkT)).alloc (.cells (pkC (aP p.kind 0 0 []) hs0) PkT)).cell? ⟨w.heap.size,0,none⟩=some (.int .i64 p.kind):=(d.o.cell 0 rfl 0).trans (cI _ _);clear s K Q D j o r
 rotate_left;have W:(p.kind==15)=false:=ar.2 j;have G:Hid (jR v p.kind=0):=aa (aao ⟨by omega,D⟩ (λx=>j x.1));have I:=aa (Jk G.o);have F:Hid (fH v p=if p≠conQ v p\/(Ih v p.kind=false/\may p.kind p.code=false)then 2 else GI v p.kind p.props):=aa (by rw[r.o,Fl (λx=>x G.o)]);have d:Hid (St w [(w.heap.size,p,h),((w.heap.size+1),aP p.kind 0 0 [],hs0)] ((w.alloc (.cells (pkC p h) PkT)).alloc (.cells (pkC (aP p.kind 0 0 []) hs0) PkT))):=aa (by
  have:=z.o.push (qs (w:=w.alloc (.cells (pkC p h) PkT)) (B:=(w.alloc (.cells (pkC p h) PkT)).heap.size) (A:=Option.none) (n:=0) (l:=[]) (Rd.nil _ _ _ _) (ag _) p.kind 0 0);rw[show(w.alloc (.cells (pkC p h) PkT)).heap.size=w.heap.size+1 by simp]at this;exact this)
 have N:∀q k,(zc (.pointer (some ⟨w.heap.size+1,0,none⟩)) (pkV q k)).run prog ((w.alloc (.cells (pkC p h) PkT)).alloc (.cells (pkC pk0 hs0) PkT))= .ok () ((w.alloc (.cells (pkC p h) PkT)).alloc (.cells (pkC q k) PkT)):=λq k=>by
  have:=ax (w.alloc (.cells (pkC p h) PkT)) pk0 q hs0 k;rw[show(w.alloc (.cells (pkC p h) PkT)).heap.size=w.heap.size+1 by simp]at this;exact this
 have Y:((w.alloc (.cells (pkC p h) PkT)).alloc (.cells (pkC (aP p.kind 0 0 []) hs0) PkT)).cell? ⟨w.heap.size,0,none⟩=some (.int .i64 p.kind):=(d.o.cell 0 rfl 0).trans (cI _ _);clear s K Q D j r
 all_goals
  go_wp2_with fail
  (try rw[yP])
  refine(G7 v p.kind _).mono ?_;rintro e w2 ⟨rfl,rfl⟩;clear X Y N;cases t:Ih v p.kind
  ·have T:Hid (conQ v p=aP p.kind 0 p.code p.props):=aa (by unfold conQ;rw[if_pos (by have:=I.o;rw[t]at this;cases e:fO v p.kind;rw[e]at this;cases this;rfl)]);have m:Hid (fH v p=if p≠aP p.kind 0 p.code p.props\/may p.kind p.code=false then 2 else GI v p.kind p.props):=aa (by rw[F.o,T.o,t];simp);have H:=aa t;have Z:=d.o.cell 0 rfl 21;rw[YB]at Z;have k5:=d.o.cell 0 rfl 24;rw[bR]at k5;have j4:((w.alloc (.cells (pkC p h) PkT)).alloc (.cells (pkC (aP p.kind 0 0 []) hs0) PkT)).cell? ⟨(w.heap.size+1),21,none⟩=some (.int .i64 0):=d.o.cell 1 rfl 21;have j5:((w.alloc (.cells (pkC p h) PkT)).alloc (.cells (pkC (aP p.kind 0 0 []) hs0) PkT)).cell? ⟨(w.heap.size+1),24,none⟩=some (.slice none 0 0):=d.o.cell 1 rfl 24;have f4:=(d.o.bk 1 rfl).free 21;have f5:=(d.o.bk 1 rfl).free 24;have S:(w.heap.size==(w.heap.size+1))=false:=ar.2 (by simp);clear t;generalize (w.heap.size+1)=g1 at*;generalize (w.alloc (.cells (pkC p h) PkT)).alloc (.cells (pkC (aP p.kind 0 0 []) hs0) PkT)=W2 at*;go_wp2_with fail;go_region;have J:=aa ((d.o.conQ IP.o (by simpa using S)).drew);have L:=J.o.ld 0 rfl;have M:=J.o.ld 1 rfl;clear Z k5 j4 j5 f4 f5 S;generalize ((W2.setCell ⟨g1,21,none⟩ (.int .i64 p.code)).setCell ⟨g1,24,none⟩ (.slice h.props.a p.props.length h.props.c)).drew=w5 at*;go_wp2_with fail;refine Yg (GP p (aP p.kind 0 p.code p.props) h (vU h) _ (J.o.into 0 rfl) (J.o.into 1 rfl) u.o.len (Df u.o.len)) λw6 f=>?_;have i:=aa (J.o.below f);clear f L M
   by_cases g:p=aP p.kind 0 p.code p.props;rotate_left
   ·rw[ah g];have b:Hid (fH v p=2):=aa (by rw[m.o,if_pos (.inl g)]);clear g;go_wp2;go_ret;exact⟨by rw[b.o];rfl,i.o.kept⟩
   rw[au g];have V:=aa g;have O:=i.o.cell 0 rfl 0;rw[cI]at O;have P:=i.o.cell 0 rfl 21;rw[YB]at P;clear g;go_wp2_with fail;refine(G7 v p.kind _).mono ?_;rintro e w7 ⟨rfl,rfl⟩;rw[H.o];go_wp2_with fail;refine Yg (Ht p.kind p.code _) λw8 f=>?_;have E:=aa (i.o.below f);clear f O P
   cases R:may p.kind p.code
   ·have b:Hid (fH v p=2):=aa (by rw[m.o,if_pos (.inr R)]);clear R;go_wp2;go_ret;exact⟨by rw[b.o];rfl,E.o.kept⟩
   have b:Hid (fH v p=GI v p.kind p.props):=aa (by rw[m.o,Fl (λx=>x.elim (λy=>y V.o) (λy=>by rw[R]at y;cases y))]);clear R;have k8:=E.o.cell 0 rfl 0;rw[cI]at k8;have k9:=E.o.cell 0 rfl 24;rw[bR]at k9;go_wp2_with fail;refine Yg (Gx v p.kind p.props _ rfl u.o.props h.props.a h.props.c _ (E.o.into 0 rfl).props u.o.len.2.2.2 (E.o.into 0 rfl).caps.2.2.2) λw9 f=>?_;have U:=aa (E.o.below f);clear f k8 k9
   go_wp2;go_ret;exact⟨by rw[b.o];rfl,U.o.kept⟩
  ·have T:Hid (conQ v p=aP p.kind 0 0 []):=aa (by unfold conQ;rw[Fl (by have:=I.o;rw[t]at this;cases e:fO v p.kind;decide;rw[e]at this;cases this)]);have m:Hid (fH v p=if p≠aP p.kind 0 0 []then 2 else GI v p.kind p.props):=aa (by rw[F.o,T.o,t];simp);have H:=aa t;have L:=d.o.ld 0 rfl;have M:=d.o.ld 1 rfl;clear t;generalize (w.heap.size+1)=g1 at*;generalize (w.alloc (.cells (pkC p h) PkT)).alloc (.cells (pkC (aP p.kind 0 0 []) hs0) PkT)=W2 at*;go_wp2_with fail;refine Yg (GP p (aP p.kind 0 0 []) h hs0 _ (d.o.into 0 rfl) (d.o.into 1 rfl) u.o.len ⟨ag _,ag _,ag _,ag _⟩) λw6 f=>?_;have i:=aa (d.o.below f);clear f L M
   by_cases g:p=aP p.kind 0 0 [];rotate_left
   ·rw[ah g];have b:Hid (fH v p=2):=aa (by rw[m.o,if_pos g]);clear g;go_wp2;go_ret;exact⟨by rw[b.o];rfl,i.o.kept⟩
   rw[au g];have b:Hid (fH v p=GI v p.kind p.props):=aa (by rw[m.o,Fl (λx=>x g)]);have O:=i.o.cell 0 rfl 0;rw[cI]at O;have P:=i.o.cell 0 rfl 24;rw[bR]at P;clear g;go_wp2_with fail;refine(G7 v p.kind _).mono ?_;rintro e w7 ⟨rfl,rfl⟩;rw[H.o];go_wp2_with fail;refine Yg (Gx v p.kind p.props _ rfl u.o.props h.props.a h.props.c _ (i.o.into 0 rfl).props u.o.len.2.2.2 (i.o.into 0 rfl).caps.2.2.2) λw9 f=>?_;have U:=aa (i.o.below f);clear f O P
   go_wp2;go_ret;exact⟨by rw[b.o];rfl,U.o.kept⟩
theorem JZ(c k:Int)(l:List Pr)(n:Nat)(hn:l.length=n)(hg:∀p∈l,qc p)(A:Option Addr)(q:Nat)(w:abP)(h:Rd w w.heap.size 4 A n (prs l))(hl:n<=4611686018427387904)(hq:n<=q):
  abR 204 #[.int .i64 c,.slice A n q,.int .i64 k] w (.string ⟨(xV c l k).toArray⟩):=by
 have f:=aa (MY c k l);have H:=aa h;have o:=aa hg;have s:=aa hn;have r:=aa hl;have t:=aa hq
 clear h hg hn hl hq;obtain⟨Z,u⟩:∃Z:abO,(⟨(xV c l k).toArray⟩:abO)=Z:=⟨_,rfl⟩;rw[u]at f⊢;clear u;by_cases g:c<0
 ·have a:Hid (Z=⟨#[]⟩):=aa (by rw[f.o,if_pos (.inl g)]);go_enter func204,ntmps204;go_wp2;go_ret;exact⟨by rw[a.o];rfl,aq _ _⟩
 have B:decide (c<(0:Int))=false:=ah g;by_cases j:255<c
 ·have a:Hid (Z=⟨#[]⟩):=aa (by rw[f.o,if_pos (.inr (.inl j))]);clear g;go_enter func204,ntmps204;go_wp2;go_ret;exact⟨by rw[a.o];rfl,aq _ _⟩
 have C:decide ((255:Int)<c)=false:=ah j;have v:Hid (0<=c/\c<256):=aa (by omega);go_enter func204,ntmps204;go_wp2_with fail;refine Yg (Hv k l n s.o o.o A q _ H.o r.o t.o) λE i=>?_;have d:=aa i;clear i
 by_cases b:(aM k l).2=0;rotate_left
 ·have a:Hid (Z=⟨#[]⟩):=aa (by rw[f.o,if_pos (.inr (.inr b))]);have D:((aM k l).2 !=0)=true:=aA.2 b;clear g j b;go_wp2;go_ret;exact⟨by rw[a.o];rfl,d.o⟩
 have a:Hid (Z=Ia 5 k c l):=aa (by rw[f.o,Fl (λx=>x.elim (λy=>by omega) (λy=>y.elim (λz=>by omega) (λz=>z b)))]);rw[b];clear g j b;go_wp2_with fail;refine Yg (JD 5 k c l n s.o v.o o.o A q _ ((H.o.below d.o).wider d.o.size) r.o t.o) λF i=>?_;have m:=aa (Yf d.o i);clear i
 go_wp2;go_ret;exact⟨by rw[a.o];rfl,m.o⟩
theorem Kc(v:Int)(p:Pk)(h:Hs)(w:abP)(ip:PkIn w w.heap.size p h)(ok:PkOk p):
  abR 133 #[.int .i64 v,pkV p h] w (.tuple #[.string ⟨(Yq v p).1.toArray⟩,.int .i64 (Yq v p).2]):=by
 have i:=aa ok;have j:=aa ((St.start w).push ip);have l:Hid (Yq v p=if fH v p=0 then(xV p.code p.props p.kind,0)else([],fH v p)):=aa rfl;have n:=aa (λr s=>MD (v:=v) (p:=p) r s);clear ip ok;go_enter func133,ntmps133;have t:=j.o.ld 0 rfl;go_wp2_with fail;refine Yg (IY v p h _ (j.o.into 0 rfl) i.o) λB f=>?_;have b:=aa (j.o.below f);clear f t
 have u:=b.o.cell 0 rfl 0;rw[cI]at u;by_cases d:fH v p=0;rotate_left
 ·have A:(fH v p !=0)=true:=aA.2 d;have g:Hid (Yq v p=([],fH v p)):=aa (by rw[l.o,Fl d]);clear d;go_wp2;go_ret2;exact⟨by rw[g.o];rfl,b.o.kept⟩
 have g:Hid (Yq v p=(xV p.code p.props p.kind,0)):=aa (by rw[l.o,if_pos d]);have m:=aa d;rw[d];clear d;go_wp2_with fail;refine(G7 v p.kind _).mono ?_;rintro e z ⟨rfl,rfl⟩;cases k:Ih v p.kind;rotate_left
 ·have o:=aa (n.o m.o k);clear k;go_wp2;go_ret2;exact⟨by rw[o.o];rfl,b.o.kept⟩
 clear k;have x:=b.o.cell 0 rfl 21;rw[YB]at x;have y:=b.o.cell 0 rfl 24;rw[bR]at y;go_wp2_with fail;refine Yg (JZ p.code p.kind p.props _ rfl i.o.props h.props.a h.props.c _ (b.o.into 0 rfl).props i.o.len.2.2.2 (b.o.into 0 rfl).caps.2.2.2) λz f=>?_;have q:=aa (b.o.below f);clear f
 go_wp2;go_ret2;exact⟨by rw[g.o];rfl,q.o.kept⟩
end
end Go.Proofs.YtafoknnjekegkaaGreatDoor
namespace Go.Proofs.YtafoknnjekegkaaGreatDoor
open Go.RowKit Go.Shelf
open Go.Proofs.Tryz
theorem NR(l:List abO):∀u∈sv l,u.oneCell'=true:=by
 intro u a;obtain⟨x,-,rfl⟩:=jX.1 a;rfl
theorem MM(l:List abO)(x:abO):sv (l++[x])=sv l++[.string x]:=by simp[sv]
theorem Mt(s:abO)(m j:Nat):(ls (s.extract m s.size))[j]? =(ls s)[m+j]? :=by rw[Y9,List.getElem?_drop]
theorem Qa{s:abO}{m k:Nat}(hm:m<=k)(hk:(ls s)[k]? =some 47)(hn:∀j,m<=j->j<k->(ls s)[j]? ≠some 47):lvs (s.extract m s.size)=s.extract m k :: lvs (s.extract (k+1) s.size):=by
 have c:k<s.size:=by have:=(YI.1 hk).1;rwa[aN]at this
 rw[Er (i:=k- m) (by rw[Mt,show m+(k- m)=k by omega];exact hk) (λj d=>by rw[Mt];exact hn _ (by omega) (by omega))];have a:(s.extract m s.size).extract 0 (k- m)=s.extract m k:=by
  apply eX;rw[ix,Y9];show _=(s.extract m k).data.toList;rw[Lib.extract_data];rfl
 have b:(s.extract m s.size).extract (k- m+1) (s.extract m s.size).size=s.extract (k+1) s.size:=by
  apply eX;rw[Y9,Y9,Y9,ab2,show m+(k- m+1)=k+1 by omega]
 rw[a,b]
theorem Om{s:abO}{m:Nat}(hn:∀j,m<=j->j<s.size->(ls s)[j]? ≠some 47):lvs (s.extract m s.size)=[s.extract m s.size]:=by
 refine Cm λj=>?_;rw[Mt];by_cases h:m+j<s.size
 ·exact hn _ (by omega) h
 ·rw[aG (by rw[aN];omega)];simp
theorem Jn(s:abO)(w:abP)(hs:s.size<=65535):
  Calls prog 260 #[.string s] w λe w'=>∃v,e= .returned v/\w'.ownsRow w.heap.size 9 1 v (lvs s).length (sv (lvs s))/\abQ w w':=by
 have T:=aa hs;have G:=aa (Eo s);go_enter func260,ntmps260;go_wp2
 go_loopw [3,4,5] (λo O i wr=>∃(k m:Nat) (done:List abO),k<=s.size/\m<=k/\i= .int .i64 k/\O= .int .i64 m/\wr.ownsRow w.heap.size 9 1 o done.length (sv done)/\lvs s=done++lvs (s.extract m s.size)/\(∀j,m<=j->j<k->(ls s)[j]? ≠some 47)/\abQ w wr) (λ_ _ i _=>s.size- (intOf i).toNat)
 case atStart=>exact⟨0,0,[],by omega,by omega,rfl,rfl,dD _ _ _ _,by rw[ByteArray.extract_zero_size,dX],λj _ V=>by omega,aq _ _⟩
 case round=>
  obtain⟨k,m,done,W,S,rfl,rfl,r,F,A,f⟩:=hrel;have n:=aa r;have C:=aa F;have D:=aa A;have B:=aa f
  have l:Hid (done.length<=65536):=aa (by
   have:=congrArg List.length F;rw[List.length_append]at this;have:=G.o;omega)
  clear r F A;by_cases q:k<s.size
  ·obtain⟨b,Q⟩:∃b,s[k]'q=b:=⟨_,rfl⟩;have z:(ls s)[k]? =some b:=by rw[List.getElem?_eq_getElem (by rw[aN];exact q),uY s k q,Q]
   have y:=aa z;have b1:(0:Int)<=(k:Int):=by omega
   have b2:(k:Int)<(s.size:Int):=by omega
   have J:=f.size;clear z;by_cases h:b=47
   ·have N:((b.toNat:Int)==47)=true:=by subst h;rfl
    have L:(0:Int)<=(m:Int):=by omega
    have M:(m:Int)<=(k:Int):=by omega
    have U:(k:Int)<=(s.size:Int):=by omega
    have p:Hid (lvs s=(done++[s.extract m k])++lvs (s.extract (k+1) s.size)):=aa (by
     rw[C.o,Qa S (by rw[y.o,h]) D.o];simp)
    have K:=aa h;clear h;go_wp2_with (at_builtin;refine kF _ rfl (.tmp 16) (.tmp 21) 42 rfl w.heap.size 9 (.string ByteArray.empty) 1 16 underlying42 vl rfl (by decide) u3 _ _ rfl (n.o.alloc _) _ _ 1 1 [.string (s.extract m k)] rfl (Rd.lit _ _ _ rfl (ed _) rfl) (NR [s.extract m k]) (by have:=l.o;unfold maxLen;omega) (by have:=l.o;omega) (by simp;omega) ?_;intro u t a c d);have R:t.ownsRow w.heap.size 9 1 u (done++[s.extract m k]).length (sv (done++[s.extract m k]))/\abQ w t:=by
     refine⟨by rw[MM,List.length_append];exact a,?_⟩;exact kz (B.o.alloc (by omega) _) c (by simp;omega) (λg E=>(cX n.o g E).1)
    clear a c d;go_wp2;go_roundw
    case rel=>exact⟨k+1,k+1,done++[s.extract m k],by omega,by omega,by go_num,by go_num,R.1,p.o,λj H I=>by omega,R.2⟩
    case measure=>simp[intOf];omega
   ·have N:((b.toNat:Int)==47)=false:=ar.2 (λx=>h (UInt8.toNat_inj.1 (by rw[show(47:UInt8).toNat=47 from rfl];omega)));have p:Hid (∀j,m<=j->j<k+1->(ls s)[j]? ≠some 47):=aa (by
     intro j H I;rcases dx.1 I with P| rfl
     ·exact D.o j H P
     ·rw[y.o];simpa using h)
    clear h;go_wp2;go_roundw
    case rel=>exact⟨k+1,m,done,by omega,by omega,by go_num,rfl,n.o,C.o,p.o,B.o⟩
    case measure=>simp[intOf];omega
  ·obtain rfl:k=s.size:=by omega
   have L:(0:Int)<=(m:Int):=by omega
   have M:(m:Int)<=(s.size:Int):=by omega
   have J:=f.size;have p:Hid (lvs s=done++[s.extract m s.size]):=aa (by rw[C.o,Om D.o]);go_wp2_with (at_builtin;refine kF _ rfl (.tmp 25) (.tmp 29) 42 rfl w.heap.size 9 (.string ByteArray.empty) 1 16 underlying42 vl rfl (by decide) u3 _ _ rfl (n.o.alloc _) _ _ 1 1 [.string (s.extract m s.size)] rfl (Rd.lit _ _ _ rfl (ed _) rfl) (NR [s.extract m s.size]) (by have:=l.o;unfold maxLen;omega) (by have:=l.o;omega) (by simp;omega) ?_;intro u t a c d);have R:t.ownsRow w.heap.size 9 1 u (lvs s).length (sv (lvs s))/\abQ w t:=by
    rw[p.o];refine⟨by rw[MM,List.length_append];exact a,?_⟩;exact kz (B.o.alloc (by omega) _) c (by simp;omega) (λg E=>(cX n.o g E).1)
   clear a c d;go_wp2;go_ret;exact⟨u,rfl,R.1,R.2⟩
theorem PE:∀(l:List abO) (k:Nat),(jn (l.take k)).length<=(jn l).length
 | [],k=>by simp
 | x :: l,0=>by simp[jn]
 | x :: l,k+1=>by
   have:∀(m:List abO) (k:Nat),(jt (m.take k)).length<=(jt m).length:=by
    intro m
    induction m with
    | nil=>intro k;simp
    | cons y m ih=>
      intro k;cases k with
      | zero=>simp[jt]
      | succ k=>
        have:=ih k;rw[GG,jt,jt,bM,bM,List.length_append,List.length_append];omega
   have:=this l k;rw[GG,jn,jn,List.length_append,List.length_append];omega
theorem PG(l:List abO)(k:Nat)(x:abO)(hx:l[k]? =some x):jn (l.take (k+1))=if k=0 then ls x else jn (l.take k)++47 :: ls x:=by
 have a:=(YI.1 hx).1;rw[List.take_add_one,hx];simp only[Option.toList_some];rw[PF];by_cases h:k=0
 ·subst h;rfl
 ·rw[Fl h,Fl (λe=>by have:=congrArg List.length e;rw[cY,eC]at this;omega)]
theorem LL(A:Option Addr)(n c:Nat)(l:List abO)(w:abP)(hn:l.length=n)(h:Rd w w.heap.size 1 A n (sv l))(hl:(jn l).length<=65535)(hn2:n<=4611686018427387904):
  abR 297 #[.slice A n c] w (.string ⟨(jn l).toArray⟩):=by
 have u:=aa hn;have y:=aa h;have v:=aa hl
 clear hn h hl;go_enter func297,ntmps297;go_wp2
 go_loopw [3,4] (λo i wr=>∃k:Nat,k<=n/\i= .int .i64 k/\o= .string ⟨(jn (l.take k)).toArray⟩/\abQ w wr) (λ_ i _=>n- (intOf i).toNat)
 case atStart=>exact⟨0,by omega,rfl,rfl,aq _ _⟩
 case round=>
  obtain⟨k,J,rfl,rfl,d⟩:=hrel;have p:=aa d;by_cases t:k<n
  ·obtain⟨b,o,x,rfl,H,m,I⟩:=Gd (y.o.below d) t;have q:=aa m;have f:=aa (PG l k x m);have B:=aa (PE l (k+1));have j:Hid ((jn (l.take k)).length+1+x.size<=65536):=aa (by
    have F:=B.o;have G:=v.o;have r:=congrArg List.length f.o
    by_cases a:k=0
    ·rw[if_pos a,aN]at r;subst a;simp[jn];omega
    ·rw[Fl a,List.length_append,bM,aN]at r;omega)
   have b1:(0:Int)<=(k:Int):=by omega
   have b2:(k:Int)<(n:Int):=by omega
   generalize s:jn (l.take k)=P at*;have z:=aa s;clear m s;by_cases a:k=0
   ·have g:Hid ((⟨P.toArray⟩:abO)++x=⟨(jn (l.take (k+1))).toArray⟩):=aa (by
     rw[f.o,if_pos a,<-z.o,a,GZ];apply eX;rw[fe,jo,jo];rfl)
    have C:¬(0:Int)<(k:Int):=by omega
    have f1:P.length+x.size<=65536:=by have:=j.o;omega
    have D:¬(9223372036854775807<P.length+x.size):=by omega
    clear a;go_wp2;go_roundw
    case rel=>exact⟨k+1,by omega,by go_num,by rw[<-g.o],p.o⟩
    case measure=>simp[intOf];omega
   ·have g:Hid (((⟨P.toArray⟩:abO)++⟨#[47]⟩)++x=⟨(jn (l.take (k+1))).toArray⟩):=aa (by
     rw[f.o,Fl a];apply eX;rw[fe,fe,jo,jo];show P++[47]++ls x=_;rw[jo,List.append_assoc];rfl)
    have C:(0:Int)<(k:Int):=by omega
    have E:¬(9223372036854775807<P.length+1):=by have:=j.o;omega
    have D:¬(9223372036854775807<P.length+1+x.size):=by have:=j.o;omega
    clear a;go_wp2;go_roundw
    case rel=>exact⟨k+1,by omega,by go_num,by rw[<-g.o],p.o⟩
    case measure=>simp[intOf];omega
  ·obtain rfl:k=n:=by omega
   have q:Hid (l.take k=l):=aa (by rw[<-u.o,GK]);go_wp2;go_ret;exact⟨by rw[q.o];rfl,d⟩
theorem LY{l:List abO}{i:Nat}{x:abO}(hx:l[i]? =some x)(h:Ju x (decide (i+1=l.length))=false):jk l=false:=yA hx (by rw[<-KV];exact h)
theorem Jo(s:abO)(w:abP)(hs:s.size<=4611686018427387904):
  abR 195 #[.string s] w (.bool (gj s)):=by
 have P:Hid (gj s=((decide (s.size≠0)&&YF s)&&jk (lvs s))):=aa rfl;have I:=kR s;have HS:=aa hs;clear hs
 go_enter func195,ntmps195;by_cases B:s.size=0
 ·rw[au B]at I;have z:Hid (gj s=false):=aa (by rw[P.o,ah (λx=>x B)];rfl);clear B;go_wp2;go_ret;exact⟨by rw[z.o];rfl,aq _ _⟩
 rw[ah B]at I;have C:Hid (gj s=(YF s&&jk (lvs s))):=aa (by rw[P.o,au B,aL]);clear B P;go_wp2_with fail;refine Yg (xj s _ HS.o) λw1 ai=>?_;subst ai;cases K:YF s
 ·have z:Hid (gj s=false):=aa (by rw[C.o,K];rfl);clear K;go_wp2;go_ret;exact⟨by rw[z.o];rfl,aq _ _⟩
 have u:Hid (gj s=jk (lvs s)):=aa (by rw[C.o,K,aL]);have Q:Hid (s.size<=65535):=aa (gL K);clear K C;have ae:Hid (∀x∈lvs s,x.size<=65535):=aa λx L=>aC (YD s x L) Q.o;have N:Hid ((lvs s).length<=65536):=aa (by have:=Eo s;have:=Q.o;omega);go_wp2_with fail;refine(Jn s _ Q.o).mono ?_;rintro e w2 ⟨v,rfl,J,R⟩;have Z:=aa R;obtain⟨A,c,rfl,S,O⟩:=jK J;have HL:=aa O;clear R J O;generalize lvs s=l at*;obtain⟨n,U⟩:∃n,l.length=n:=⟨_,rfl⟩;rw[U]at HL N S⊢;have X:=aa U;have ap:n<=65536:=N.o;clear U I;go_wp2
 go_loopw [4] (λi wr=>∃k:Nat,k<=n/\i= .int .i64 k/\(∀(j:Nat) (y:abO),j<k->l[j]? =some y->j8 y (decide (j+1=l.length))=true)/\abQ w2 wr) (λi _=>n- (intOf i).toNat)
 case atStart=>exact⟨0,by omega,rfl,λj x hj=>by omega,aq _ _⟩
 case round=>
  obtain⟨k,hk,rfl,H,p⟩:=hrel;have Y:=aa H;have t:=aa (Yf Z.o p);have ab:=aa p;clear H
  by_cases ag:k<n
  focus
   obtain⟨b,o,x,rfl,R,L,hc⟩:=Gd (HL.o.below p) ag;have z:=aa L;have G:=aa (ae.o x (iL L));obtain⟨d,T⟩:∃d,decide (k+1=l.length)=d:=⟨_,rfl⟩;have f:decide ((k:Int)+1<(n:Int))= !d:=by
    rw[<-T,X.o,eG,cH,Bool.not_eq_true',Ip];omega
   have HD:=aa T;have b1:(0:Int)<=(k:Int):=by omega
   have b2:(k:Int)<(n:Int):=by omega
   have E:Hid (Ju x d= !((Hh (ls x) 43&& !(x.toList==[43])) || (Hh (ls x) 35&&(!(x.toList==[35]) || !d)))):=aa rfl;have r:Hid (Ju x d=true->∀(j:Nat) (y:abO),j<k+1->l[j]? =some y->j8 y (decide (j+1=l.length))=true):=aa λh=>oc z.o (by rw[HD.o,<-KV];exact h) Y.o;have D:Hid (Ju x d=false->jk l=false):=aa λh=>LY z.o (by rw[HD.o];exact h);clear L T p;generalize hP:Ju x d=RL at*;clear hP;go_wp2_with fail;refine Yg (Iv x 43 _ (by have:=G.o;omega)) λw3 q=>?_;subst q;cases m:Hh (ls x) 43
   focus
    have M:Hid (RL= !(Hh (ls x) 35&&(!(x.toList==[35]) || !d))):=aa (by rw[E.o,m];rfl);clear m;go_wp2_with fail;refine Yg (Iv x 35 _ (by have:=G.o;omega)) λw3 q=>?_;subst q;cases a:Hh (ls x) 35
    focus
     have g:=aa (r.o (by rw[M.o,a];rfl));clear a
    rotate_left
    focus
     cases W:(x.toList==[35])
     ·have g:=aa (D.o (by rw[M.o,a,W];rfl));clear a;go_wp2;go_ret;exact⟨by rw[u.o,g.o];rfl,t.o⟩
     focus
      cases d
      ·have g:=aa (D.o (by rw[M.o,a,W];rfl));have af:(k:Int)+1<(n:Int):=aR f;clear a f;go_wp2;go_ret;exact⟨by rw[u.o,g.o];rfl,t.o⟩
      focus
       have g:=aa (r.o (by rw[M.o,a,W];rfl));have af:¬(k:Int)+1<(n:Int):=Gy f;clear a f
      rotate_left
     rotate_left
    rotate_left
   rotate_left 2
   focus
    cases V:(x.toList==[43])
    ·have g:=aa (D.o (by rw[E.o,m,V];rfl));clear m;go_wp2;go_ret;exact⟨by rw[u.o,g.o];rfl,t.o⟩
    focus
     have F:Hid (Hh (ls x) 35=false):=aa (by
      have:ls x=[43]:=by rw[<-Gc];exact aK.1 V
      rw[this];rfl)
     have g:=aa (r.o (by rw[E.o,m,V,F.o];rfl));clear m;go_wp2_with fail;refine Yg (Iv x 35 _ (by have:=G.o;omega)) λw3 q=>?_;subst q;rw[F.o]
    rotate_left
   rotate_left
  rotate_left 3
  ·obtain rfl:k=n:=by omega
   have g:Hid (jk l=true):=aa (Cu (λj y hj=>Y.o j y (by have:=X.o;omega)));go_wp2;go_ret;exact⟨by rw[u.o,g.o];rfl,t.o⟩
  all_goals
   go_wp2;go_roundw
   case rel=>exact⟨k+1,by omega,by go_num,g.o,ab.o⟩
   case measure=>simp[intOf];omega
end Go.Proofs.YtafoknnjekegkaaGreatDoor
namespace Go.Proofs.YtafoknnjekegkaaGreatDoor
open Go.RowKit Go.Shelf
open Go.Proofs.Tryz
theorem OU(l:List abO)(k:Nat):(sv l).drop (k*1)=sv (l.drop k):=by rw[Y8];simp[sv]
theorem Ow(s:abO):(jn ((lvs s).drop 2)).length<=s.size:=by
 have h:∀l:List abO,(jn (l.drop 1)).length<=(jn l).length:=by
  intro l;cases l with
  | nil=>simp
  | cons x l=>
    cases l with
    | nil=>simp[jn,jt]
    | cons y l=>simp[jn,jt];omega
 have c:=h (lvs s);have a:=h ((lvs s).drop 1);rw[ab2,show 1+1=2 from rfl]at a;have b:=congrArg List.length (Ov s);rw[aN]at b;omega
theorem KB(s:abO)(w:abP)(hs:s.size<=4611686018427387904):
  Calls prog 261 #[.string s] w (AK s w):=by
 have T:Hid (fy s=(YF s&&(gV s&&(decide (3<=(lvs s).length)&&((decide (((lvs s).getD 1 ⟨#[]⟩).size≠0)&& !(Hh (ls ((lvs s).getD 1 ⟨#[]⟩)) 43 || Hh (ls ((lvs s).getD 1 ⟨#[]⟩)) 35))&&gj ⟨(jn ((lvs s).drop 2)).toArray⟩))))):=aa (Na s).symm;have HS:=aa hs;clear hs
 go_enter func261,ntmps261;go_wp2_with fail;refine Yg (xj s _ HS.o) λw1 aj=>?_;subst aj;cases G:YF s
 ·have a:Hid (fy s=false):=aa (by rw[T.o,G];rfl);clear G;go_wp2;go_ret3;exact⟨⟨_,_,by rw[a.o];rfl⟩,aq _ _⟩
 have d:=T.o;rw[G,aL]at d
 replace d:=aa d
 have J:Hid (s.size<=65535):=aa (gL G);clear G T;by_cases K:7<=s.size;rotate_left
 ·have a:Hid (fy s=false):=aa (by rw[d.o,Zn,ah K];rfl);have d7:(s.size:Int)<7:=by omega
  clear K;go_wp2;go_ret3;exact⟨⟨_,_,by rw[a.o];rfl⟩,aq _ _⟩
 have U:Hid (gV s=((s.extract 0 7).toList==[36,115,104,97,114,101,47])):=aa (by rw[Zn,au K,aL]);have d7:¬(s.size:Int)<7:=by omega
 have ax:(7:Int)<=(s.size:Int):=by omega
 clear K;cases Z:((s.extract 0 7).toList==[36,115,104,97,114,101,47])
 ·have a:Hid (fy s=false):=aa (by rw[d.o,U.o,Z];rfl);go_wp2;go_ret3;exact⟨⟨_,_,by rw[a.o];rfl⟩,aq _ _⟩
 have f:=d.o;rw[U.o,Z,aL]at f
 replace f:=aa f
 clear d U;have ae:Hid (∀x∈lvs s,x.size<=65535):=aa λx I=>aC (YD s x I) J.o;have N:Hid ((lvs s).length<=65536):=aa (by have:=Eo s;have:=J.o;omega);have HJ:Hid ((jn ((lvs s).drop 2)).length<=65535):=aa (by have:=Ow s;have:=J.o;omega);go_wp2_with fail;refine(Jn s _ J.o).mono ?_;rintro e w2 ⟨v,rfl,F,L⟩;have j:=aa L;obtain⟨A,c,rfl,D,S⟩:=jK F;have V:=aa S;clear L F S;generalize lvs s=l at*;obtain⟨n,hn⟩:∃n,l.length=n:=⟨_,rfl⟩;rw[hn]at V N D f⊢;have E1:=aa hn;have az:n<=65536:=N.o;clear hn Z;by_cases u:3<=n;rotate_left
 ·have a:Hid (fy s=false):=aa (by rw[f.o,ah u];rfl);have d3:(n:Int)<3:=by omega
  clear u;go_wp2;go_ret3;exact⟨⟨_,_,by rw[a.o];rfl⟩,j.o⟩
 have g:=f.o;rw[au u,aL]at g;have d3:¬(n:Int)<3:=by omega
 have d1:(1:Int)<(n:Int):=by omega
 have H3:=aa u;obtain⟨b,o,x,rfl,L,I,hc⟩:=Gd V.o (show 1<n by omega);have O:=aa (ae.o x (iL I));have R:l.getD 1 ⟨#[]⟩=x:=by rw[List.getD_eq_getElem?_getD,I];rfl
 rw[R]at g
 replace g:=aa g
 have Q:=kR x;clear u I R f;by_cases q:x.size=0
 ·rw[au q]at Q;have a:Hid (fy s=false):=aa (by rw[g.o,ah (λy=>y q)];rfl);clear q;go_wp2;go_ret3;exact⟨⟨_,_,by rw[a.o];rfl⟩,j.o⟩
 rw[ah q]at Q;have h:=g.o;rw[au q,aL]at h
 replace h:=aa h
 clear q g;go_wp2_with fail;refine Yg (Iv x 43 _ (by have:=O.o;omega)) λw3 H=>?_;subst H;cases m:Hh (ls x) 43;rotate_left
 ·have a:Hid (fy s=false):=aa (by rw[h.o,m];rfl);clear m;go_wp2;go_ret3;exact⟨⟨_,_,by rw[a.o];rfl⟩,j.o⟩
 have i:=h.o;rw[m,nB]at i
 replace i:=aa i
 clear m h;go_wp2_with fail;refine Yg (Iv x 35 _ (by have:=O.o;omega)) λw3 H=>?_;subst H;cases k:Hh (ls x) 35;rotate_left
 ·have a:Hid (fy s=false):=aa (by rw[i.o,k];rfl);clear k;go_wp2;go_ret3;exact⟨⟨_,_,by rw[a.o];rfl⟩,j.o⟩
 have t:Hid (fy s=gj ⟨(jn (l.drop 2)).toArray⟩):=aa (by rw[i.o,k];rfl);clear k i;have ai:∀W,(Instr.slice 42 (.slice (some ⟨b,o,none⟩) n c) (some (.int .i64 2)) none none).run prog W= .ok (.slice (xt (some ⟨b,o,none⟩) c 2 1) (n- 2) (c- 2)) W:=λW=>NV (P:=prog) underlying42 Tryz.sizeOf9 (some ⟨b,o,none⟩) n c 2 (by have:=H3.o;omega) W;have HR:Hid (Rd w2 w2.heap.size 1 (xt (some ⟨b,o,none⟩) c 2 1) (n- 2) (sv (l.drop 2))):=aa (by
  rw[<-OU];exact V.o.cut_from (by have:=H3.o;omega) D)
 generalize xt (some ⟨b,o,none⟩) c 2 1=A2 at*;go_wp2_with fail;refine Yg (LL A2 (n- 2) (c- 2) (l.drop 2) _ (by rw[bU,E1.o]) HR.o HJ.o (by omega)) λw4 z=>?_;have r:=aa (Yf j.o z);have C:=(z.cell (p:=⟨b,o+1,none⟩) L).trans hc;obtain⟨Y,X⟩:∃Y:abO,(⟨(jn (l.drop 2)).toArray⟩:abO)=Y:=⟨_,rfl⟩;have af:Hid (Y.size<=65535):=aa (by rw[<-X,<-aN,jo];exact HJ.o);rw[X]at t⊢;clear z ai hc X;go_wp2_with fail;refine Yg (Jo Y _ (by have:=af.o;omega)) λw5 B=>?_;have M:=aa (Yf r.o B);have E:b<w4.heap.size:=by have:=r.o.size;have:=j.o.size;exact(eY _ _ C)
 have ay:=(B.cell (p:=⟨b,o+1,none⟩) E).trans C;clear B C E;cases hF:gj Y
 ·have a:Hid (fy s=false):=aa (by rw[t.o,hF]);clear hF;go_wp2;go_ret3;exact⟨⟨_,_,by rw[a.o];rfl⟩,M.o⟩
 ·have a:Hid (fy s=true):=aa (by rw[t.o,hF]);clear hF;go_wp2;go_ret3;exact⟨⟨_,_,by rw[a.o];rfl⟩,M.o⟩
