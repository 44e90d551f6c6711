/- Parts: MRfB. -/
import Derived.Test.YtafoknnjekegkaaGreatDoorLqG0MRfA
import Derived.Deep.RegionLaw
set_option maxRecDepth 10000
set_option maxHeartbeats 8000000
namespace Go.Proofs.YtafoknnjekegkaaGreatDoor
open Go.RowKit Go.Proofs.Tryz
variable {a k n sh:Nat}{l:List Pr}{kind id:Int}{w z x:abP}{s T t:abO}{p q:Pr}{P:Program}
theorem Lg(src dst e:TypeId)(hs:P.underlying src=some (.slice e))(he:P.underlying e=some (.int .u8))(hd:P.underlying dst=some .string)(W:abP)(a:UInt8):
  (convert src dst (.slice (some ⟨W.heap.size,0,none⟩) 1 1)).run P (W.alloc (.cells #[.int .u8 (a.toNat:Int)] e))= .ok (.string ⟨#[a]⟩) (W.alloc (.cells #[.int .u8 (a.toNat:Int)] e)):=by
 have h:=Rd.lit W #[.int .u8 (a.toNat:Int)] e (xs:=bys [a]) rfl (ed _) rfl;exact ni src dst e hs he hd 1 h
theorem NG(src dst e:TypeId)(hs:P.underlying src=some (.slice e))(he:P.underlying e=some (.int .u8))(hd:P.underlying dst=some .string)(W:abP)(a:UInt8):
  (convert src dst (.slice (some ⟨W.heap.size,0,none⟩) 1 1)).run P (W.alloc (.cells #[.int .u8 (a.toNat:Int)] e)).drew= .ok (.string ⟨#[a]⟩) (W.alloc (.cells #[.int .u8 (a.toNat:Int)] e)).drew:=by
 have h:=(Rd.lit W #[.int .u8 (a.toNat:Int)] e (xs:=bys [a]) rfl (ed _) rfl).drewN 1;exact ni src dst e hs he hd 1 h
theorem OJ(src dst e:TypeId)(hs:P.underlying src=some (.slice e))(he:P.underlying e=some (.int .u8))(hd:P.underlying dst=some .string){W z:abP}{a:UInt8}
  (hb:Below (W.alloc (.cells #[.int .u8 (a.toNat:Int)] e)).drew.heap.size (W.alloc (.cells #[.int .u8 (a.toNat:Int)] e)).drew z):
  (convert src dst (.slice (some ⟨W.heap.size,0,none⟩) 1 1)).run P z= .ok (.string ⟨#[a]⟩) z:=by
 have h:=((Rd.lit W #[.int .u8 (a.toNat:Int)] e (xs:=bys [a]) rfl (ed _) rfl).drewN 1).below (hb.mono (by simp[World.drew]));exact ni src dst e hs he hd 1 h
theorem PB.b0(h:abQ w x)(hb:Below x.drew.heap.size x.drew z):abQ w z:=(aV h 1).trans (hb.mono (aV h 1).size)
theorem PB.b1{ob:Obj}(h:abQ w x)(hb:Below (x.alloc ob).drew.heap.size (x.alloc ob).drew z):abQ w z:=PB.b0 (h.alloc h.size ob) hb
theorem PO(h:0<=id/\id<64):id=((UInt8.ofNat id.toNat).toNat:Int):=by
 rw[UInt8.toNat_ofNat'];omega
abbrev PB(w:abP)(b o:Nat)(p:Pr)(x:abP):Prop:=abQ w x/\x.cell? ⟨b,o,none⟩=some (.int .i64 p.id)/\x.cell? ⟨b,o+1,none⟩=some (.int .u32 p.n)/\x.cell? ⟨b,o+2,none⟩=some (.string p.text)/\x.cell? ⟨b,o+3,none⟩=some (.string p.value)
theorem PB.of{b o:Nat}(h:Rd w w.heap.size 4 (some ⟨b,o,none⟩) n (prs l))(hn:l.length=n)(hp:l[k]? =some p)(hx:abQ w x):PB w b (o+k*4) p x:=by
 subst hn;obtain⟨g,rfl⟩:=YI.1 hp;obtain⟨i,j,f,-,a,c,d,e⟩:=(h.below hx).atP g;cases f;exact⟨hx,a,c,d,e⟩
theorem JP(kind:Int)(l:List Pr)(n:Nat)(hn:l.length=n)(hck:ckL kind l)(hg:∀p∈l,qc p)(hm:n<=1000)(A:Option Addr)(c:Nat)(w:abP)(h:Rd w w.heap.size 4 A n (prs l)):
  abR 296 #[.slice A n c] w (.string ⟨(l.flatMap jI).toArray⟩):=by
 have H:=aa h;have r:=aa hn;have R:=aa hck;have HG:=aa hg
 clear h hn hck hg;have N:=Lg (P:=prog) 139 9 5 underlying139 underlying5 underlying9;have G:=NG (P:=prog) 139 9 5 underlying139 underlying5 underlying9;go_enter func296,ntmps296;go_wp2
 go_loopw [3,4] (λs i wr=>∃k:Nat,k<=n/\i= .int .i64 k/\s= .string ⟨((l.take k).flatMap jI).toArray⟩/\abQ w wr) (λ_ i _=>n- (intOf i).toNat)
 case atStart=>exact⟨0,by omega,rfl,rfl,aq _ _⟩
 case round=>
  obtain⟨k,Z,rfl,rfl,F⟩:=hrel;have q:=aa F;clear F
  by_cases I:k<n
  ·have d:k<l.length:=by rw[r.o];exact I
   have ab:=r.o;obtain⟨b,o,hA,-,-,-,-,-⟩:=Rd.atP (A:=A) (show Rd w w.heap.size 4 A l.length (prs l) by rw[r.o];exact H.o) d;subst hA;have u:Hid (l[k]? =some l[k]):=aa (List.getElem?_eq_getElem d);have f:l[k]∈l:=iY d;have j:=nr (R.o _ f);have J:=HG.o _ f;have z:=zC (R.o _ f);have Q:(l.take (k+1)).flatMap jI=(l.take k).flatMap jI++jI l[k]:=by
    rw[fE d,fR];simp
   have ad:((l.take k).flatMap jI).length<=k*131075:=by
    have:=Jw (l:=l.take k) (λp hp=>R.o p (IU hp));exact aC this (iH _ (List.length_take_le _ _))
   clear f ab;have D:=aa Q;clear Q
   generalize l[k]=p at*;obtain⟨id,m,t,v⟩:=p;simp only at j J z u D;obtain⟨a,rfl⟩:∃a:UInt8,id=(a.toNat:Int):=⟨UInt8.ofNat id.toNat,PO j.1⟩;obtain⟨L,B⟩:∃L,gH (a.toNat:Int)=L:=⟨_,rfl⟩;rw[B]at j;obtain⟨C,E⟩:∃C,YX L ⟨(a.toNat:Int),m,t,v⟩=C:=⟨_,rfl⟩;have O:jI ⟨(a.toNat:Int),m,t,v⟩=a :: ls C:=by
    unfold jI;simp only;rw[B,E,dN];simp
   rw[O]at z D;have V:=aa B;have X:=aa E;have g:=aa j;have T:=aa J
   clear B E j J O;have ae:C.size<=131074:=by rw[bM,aN]at z;omega
   clear z;obtain⟨S,K⟩:∃S:abO,⟨((l.take k).flatMap jI).toArray⟩=S:=⟨_,rfl⟩;have Y:S.size<=131075000:=by rw[<-K,GW];omega
   have U:Hid ((⟨((l.take (k+1)).flatMap jI).toArray⟩:abO)=S++⟨#[a]⟩++C):=aa (by
    rw[D.o,<-K];refine eX ?_;rw[jo,fe,fe,jo];simp[ls])
   rw[K];clear K ad;have aH:IntKind.u8.wrap (a.toNat:Int)=(a.toNat:Int):=by rw[GM];have:=a.toNat_lt;omega
   have b1:(0:Int)<=(k:Int):=by omega
   have b2:(k:Int)<(n:Int):=by omega
   have aF:¬(9223372036854775807<S.size+1):=by omega
   have aG:¬(9223372036854775807<S.size+1+C.size):=by omega
   obtain⟨-,c0,c1,c2,c3⟩:=PB.of H.o r.o u.o q.o;simp only at c0 c1 c2 c3;obtain⟨-,g0,g1,g2,g3⟩:=PB.of H.o r.o u.o (q.o.alloc q.o.size (.cells #[.int .u8 (a.toNat:Int)] 5));simp only at g0 g1 g2 g3;have az:=λW=>N W a;have aA:=λW=>G W a;have M:=aa I;have HK:=aa Z
   clear N G d ae Y Z I;go_wp2_with fail
   go_region_law ((go_simp;go_at_call 328;refine Yg (Ln L ⟨(a.toNat:Int),m,t,v⟩ V.o g.o.2.1 g.o.2.2.1 T.o.1 g.o.2.2.2.1 g.o.2.2.2.2.1 g.o.2.2.2.2.2 _) λw4 y=>?_;rw[X.o];have x:abQ w w4:=(by first| exact PB.b0 q.o y| exact PB.b1 q.o y| exact PB.b2 q.o y);obtain⟨-,e0,e1,e2,e3⟩:=PB.of H.o r.o u.o x;simp only at e0 e1 e2 e3;try (have aE:=OJ 139 9 5 underlying139 underlying5 underlying9 y)))
   all_goals
    go_wp2;go_roundw
    case rel=>exact⟨k+1,M.o,by go_num,by rw[U.o],by first| exact x| exact x.alloc x.size _⟩
    case measure=>have:=M.o;simp[intOf];omega
  ·obtain rfl:k=n:=by omega
   have HT:Hid (l.take k=l):=aa (bt (by rw[r.o];exact ac _));rw[HT.o];go_wp2;go_ret;exact⟨rfl,q.o⟩
theorem Ox(kind:Int):∀(l:List Pr) (f:Nat->Nat) (o o':List UInt8),(eO kind l f o).2=(eO kind l f o').2
 | [],f,o,o'=>by rw[eO,eO];split<;>rfl
 | p :: l,f,o,o'=>by
   rw[eO,eO];split
   ·rfl
   ·split
    ·rfl
    ·exact Ox kind l _ _ _
def Zq(l:List Pr):Nat->Nat:=λj=>cnt j l
theorem Lh(l:List Pr)(p:Pr):upd (Zq l) p.id.toNat (Zq l p.id.toNat+1)=Zq (l++[p]):=by
 funext j;unfold upd Zq;rw[ME,lJ];by_cases h:j=p.id.toNat
 ·subst h;simp[cnt]
 ·rw[Fl h,Fl (λx=>h x.symm)];simp[cnt]
theorem OA(hl:ckL kind l)(hp:0<=p.id):(nh l p.id).isSome=decide (1<=cnt p.id.toNat l):=by
 rw[eG,Fx];unfold nh;rw[List.find?_isSome];constructor
 ·rintro ⟨q,a,b⟩;exact EX.2 ⟨q,a,by rw[show q.id=p.id by simpa using b]⟩
 ·intro h;obtain⟨q,a,b⟩:=EX.1 h;have:=(nr (hl q a)).1.1;exact⟨q,a,by simp;omega⟩
theorem Jy(hl:ckL kind l)(hp:de (cr p.id) kind p=0):twB kind l p.id=iC (Zq l) kind p.id.toNat:=by
 unfold twB;rw[OA hl (nr hp).1.1,KN hp];unfold iC Zq
 congr 1
 exact qf.2 (by omega)
theorem LV(l:List Pr):Kn l=jp (Zq l):=by
 have h:∀k:Nat,0<k->(nh l (k:Int)).isSome=decide (0<cnt k l):=by
  intro k d;rw[eG,Fx];unfold nh;rw[List.find?_isSome];constructor
  ·rintro ⟨q,a,c⟩;have:q.id=(k:Int):=by simpa using c
   exact EX.2 ⟨q,a,by omega⟩
  ·intro h;obtain⟨q,a,c⟩:=EX.1 h;exact⟨q,a,by simp;omega⟩
 unfold Kn jp Zq;rw[show(22:Int)=((22:Nat):Int)from rfl,show(21:Int)=((21:Nat):Int)from rfl,h 22 (by omega),h 21 (by omega)]
 congr 1
 by_cases b:cnt 21 l=0
 ·simp[b]
 ·have:0<cnt 21 l:=by omega
  simp[this,b]
structure VAt (kind:Int) (l:List Pr) (k:Nat):Prop where
 ck:ckL kind (l.take k)
 eq:(aM kind l).2=(eO kind (l.drop k) (Zq (l.take k)) []).2
theorem VAt.start(hl:l.length<=1000):VAt kind l 0:=by
 refine⟨by simp[ckL],?_⟩;unfold aM;rw[Fl (by omega)];rfl
theorem VAt.bad(v:VAt kind l k)(hp:l[k]? =some p)(hc:de (cr p.id) kind p≠0):(aM kind l).2=de (cr p.id) kind p:=by
 obtain⟨a,rfl⟩:=YI.1 hp;rw[v.eq,bQ a,eO,if_pos hc]
theorem VAt.twice(v:VAt kind l k)(hp:l[k]? =some p)(hc:de (cr p.id) kind p=0)(ht:twB kind (l.take k) p.id=true):(aM kind l).2=9:=by
 rw[Jy v.ck hc]at ht;obtain⟨a,rfl⟩:=YI.1 hp;rw[v.eq,bQ a,eO,Fl (by simpa using hc),if_pos ht]
theorem VAt.next(v:VAt kind l k)(hp:l[k]? =some p)(hc:de (cr p.id) kind p=0)(ht:twB kind (l.take k) p.id=false):VAt kind l (k+1):=by
 rw[Jy v.ck hc]at ht;obtain⟨b,rfl⟩:=YI.1 hp;have a:l.take (k+1)=l.take k++[l[k]]:=fE b;refine⟨?_,?_⟩
 ·rw[a];refine ZL.2 ⟨v.ck,?_⟩;intro q c;rw[gA.1 c];exact hc
 ·rw[v.eq,bQ b,eO,Fl (by simpa using hc),Fl (by rw[ht];simp),Lh,<-a];exact Ox kind _ _ _ _
theorem VAt.done(v:VAt kind l l.length):ckL kind l/\(aM kind l).2=if Kn l=true then 9 else 0:=by
 have a:=v.ck;have b:=v.eq;rw[GK]at a b;refine⟨a,?_⟩;rw[b,ox,eO,LV];split<;>rfl
theorem Hv(kind:Int)(l:List Pr)(n:Nat)(hn:l.length=n)(hg:∀p∈l,qc p)(A:Option Addr)(c:Nat)(w:abP)(h:Rd w w.heap.size 4 A n (prs l))(hl:n<=4611686018427387904)(hc:n<=c):
  abR 255 #[.int .i64 kind,.slice A n c] w (.int .i64 (aM kind l).2):=by
 by_cases S:1000<n
 ·have q:Hid ((aM kind l).2=4):=aa (by unfold aM;rw[if_pos (by omega)]);have d1:decide ((1000:Int)<(n:Int))=true:=au (by omega);clear S;go_enter func255,ntmps255;go_wp2;go_ret;exact⟨by rw[q.o];rfl,aq _ _⟩
 have d1:decide ((1000:Int)<(n:Int))=false:=ah (by omega);have ar:n<=1000:=by omega
 have H:=aa h;have y:=aa hn;have HG:=aa hg;have HC:=aa hc
 have V0:=aa (VAt.start (kind:=kind) (show l.length<=1000 by omega));clear h hn hg hc S hl;go_enter func255,ntmps255;go_wp2
 go_loopw [5] (λi wr=>∃k:Nat,k<=n/\i= .int .i64 k/\VAt kind l k/\abQ w wr) (λi _=>n- (intOf i).toNat)
 case atStart=>exact⟨0,by omega,rfl,V0.o,aq _ _⟩
 case round=>
  obtain⟨k,hk,rfl,hv,R⟩:=hrel;have g:=aa R;have U:=aa hv;clear R hv
  by_cases ab:k<n
  ·have z:k<l.length:=by rw[y.o];exact ab
   obtain⟨b,o,hA,-,-,-,-,-⟩:=Rd.atP (A:=A) (show Rd w w.heap.size 4 A l.length (prs l) by rw[y.o];exact H.o) z;subst hA;have C:Hid (l[k]? =some l[k]):=aa (List.getElem?_eq_getElem z);have V:=aa (HG.o _ (iY z));generalize l[k]=p at*;obtain⟨j,m,t,v⟩:=p;obtain⟨-,D,K,L,M⟩:=PB.of H.o y.o C.o g.o;simp only at D K L M;have b1:(0:Int)<=(k:Int):=by omega
   have b2:(k:Int)<(n:Int):=by omega
   have B:=aa ab;clear z hk;by_cases F:de (cr j) kind ⟨j,m,t,v⟩=0;rotate_left
   ·have q:=aa (U.o.bad C.o F);generalize hE:de (cr j) kind ⟨j,m,t,v⟩=E at*;have HE:=aa hE;have e0:(E !=0)=true:=aA.2 F;clear F hE;go_wp2_with fail;refine Yg (Jp kind ⟨j,m,t,v⟩ (rU V.o) _) λI f=>?_;rw[HE.o];have a:=aa (Yf g.o f);clear f
    go_wp2;go_ret;exact⟨by rw[q.o];(try dsimp only);rfl,a.o⟩
   have N:=aa F;clear F;go_wp2_with fail;refine Yg (Jp kind ⟨j,m,t,v⟩ (rU V.o) _) λI f=>?_;rw[N.o];have a:=aa (Yf g.o f);clear f D K L M
   obtain⟨-,D,K,L,M⟩:=PB.of H.o y.o C.o a.o;simp only at D K L M;have S1:=λW=>Bi (P:=prog) underlying24 M9 (some ⟨b,o,none⟩) n c k (by have:=HC.o;omega) W;have Y:=λn'=>(show(I.drewN n').cell? ⟨b,o+k*4,none⟩=some (.int .i64 j)from D);have r:∀d os,Calls prog 249 #[.int .i64 kind,.slice (some ⟨b,o,none⟩) k c,.int .i64 j] (Sort.grow (redrawn I d) os) λe ay=>e= .returned (.bool (twB kind (l.take k) j))/\∃p:Regrown,ay=Sort.grow (redrawn I p.d) p.os:=
    jw (λx hx=>Lo kind j (l.take k) k (by rw[cY,y.o];have:=B.o;omega) (some ⟨b,o,none⟩) c x
     (by
       have h1:=((H.o.below a.o).wider a.o.size).below hx;have h2:=(h1.wider hx.size).cut_to (k:=k) (by have:=B.o;omega);rw[Oh]at h2;exact h2) (by have:=B.o;omega))
   have k0:=cell_regrown D;have J:=aa (λd os=>a.o.trans ((below_regrown I d os).mono a.o.size));cases u:twB kind (l.take k) j
   ·have am:=aa (U.o.next C.o N.o u);rw[u]at r;clear u D K L M Y;go_wp2_with fail;refine wp_region_quiet_below (by kernel_rfl) (by kernel_rfl) ?_
    repeat (go_big_quiet_step (first| with_reducible exact r _ _))
    refine kE ?_;intro _ T;obtain⟨⟨Q,osq⟩,G⟩:=T;subst G;have KF:=aa (J.o Q osq);clear r k0 J S1;generalize Sort.grow (redrawn _ Q) osq=wq at*;go_wp2;go_roundw
    case rel=>exact⟨k+1,B.o,by go_num,am.o,KF.o⟩
    case measure=>have:=B.o;simp[intOf];omega
   ·have q:=aa (U.o.twice C.o N.o u);rw[u]at r;clear u D K L M Y;go_wp2_with fail;refine wp_region_quiet_below (by kernel_rfl) (by kernel_rfl) ?_
    repeat (go_big_quiet_step (first| with_reducible exact r _ _))
    refine kE ?_;intro _ T;obtain⟨⟨Q,osq⟩,G⟩:=T;subst G;have KF:=aa (J.o Q osq);clear r k0 J S1;generalize Sort.grow (redrawn _ Q) osq=wq at*;go_wp2;go_ret;exact⟨by rw[q.o];rfl,KF.o⟩
  ·obtain rfl:k=n:=by omega
   have hd:=(show VAt kind l l.length by rw[y.o];exact U.o).done;have ai:=aa hd.1;have X:=aa hd.2;have HR:=aa ((H.o.below g.o).wider g.o.size);clear hd;cases s:Kn l
   ·have q:Hid ((aM kind l).2=0):=aa (by rw[X.o,s];rfl);have O:=aa s;clear s
    have hz:((⟨(l.flatMap jI).toArray⟩:abO).size:Int)<=268435455:=by rw[GW];have:=(G6 kind l q.o).1;omega
    have dz:decide ((268435455:Int)<((⟨(l.flatMap jI).toArray⟩:abO).size:Int))=false:=ah (by omega);go_wp2_with fail;refine Yg (JN l k y.o A c _ HR.o (by omega)) λI f=>?_;rw[O.o];have a:=aa (Yf g.o f);have ak:=aa ((HR.o.below f).wider f.size);clear f
    go_wp2_with fail;refine Yg (JP kind l k y.o ai.o HG.o ar A c _ ak.o) λw2 f=>?_;have ag:=aa (Yf a.o f);clear f
    generalize (⟨(l.flatMap jI).toArray⟩:abO)=Z at*;go_wp2;go_ret;exact⟨by rw[q.o];rfl,ag.o⟩
   ·have q:Hid ((aM kind l).2=9):=aa (by rw[X.o,s];rfl);have O:=aa s;clear s
    go_wp2_with fail;refine Yg (JN l k y.o A c _ HR.o (by omega)) λI f=>?_;rw[O.o];have a:=aa (Yf g.o f);clear f
    go_wp2;go_ret;exact⟨by rw[q.o];rfl,a.o⟩
theorem KI(kind:Int)(l:List Pr)(n:Nat)(hn:l.length=n)(hg:∀p∈l,qc p)(A:Option Addr)(c:Nat)(w:abP)(h:Rd w w.heap.size 4 A n (prs l))(hl:n<=4611686018427387904)(hc:n<=c):
  abR 264 #[.int .i64 kind,.slice A n c] w (.tuple #[.string ⟨(aM kind l).1.toArray⟩,.int .i64 (aM kind l).2]):=by
 have H:=aa h;have k:=aa hn;have r:=aa hg;have t:=aa hc
 clear h hn hg hc;by_cases b:(aM kind l).2=0;rotate_left
 ·have a:=Ix kind l b;have d:Hid (aM kind l=([],(aM kind l).2)):=aa (by rw[<-a]);generalize (aM kind l).2=E at*;have q:=aa b;have K:(E !=0)=true:=aA.2 b;clear b a;go_enter func264,ntmps264;go_wp2_with fail;refine Yg (Hv kind l n k.o r.o A c _ H.o hl t.o) λG a=>?_;rw[d.o];have j:=aa a;clear a
  simp only;go_wp2;go_ret2;exact⟨by rw[d.o];rfl,j.o⟩
 have q:=aa b;have a:=tE kind l b;have B:=(G6 kind l b).1;have g:=(sx kind l).1 b;have u:=aa g.2.1;have v:Hid (n<=1000):=aa (by rw[<-k.o];exact g.1);have I:=aa a;have x:Hid ((eP (l.flatMap jI).length).length<=4):=aa (by rw[LG];split;omega;split;omega;split;omega;omega);obtain⟨Z,f⟩:∃Z:abO,⟨(l.flatMap jI).toArray⟩=Z:=⟨_,rfl⟩;have J:Z.size<=131075000:=by rw[<-f,GW];exact B
 have i:(l.flatMap jI).length=Z.size:=by rw[<-f,GW]
 have D:=aa f;have d:Hid ((⟨(aM kind l).1.toArray⟩:abO)=⟨(eP Z.size).toArray⟩++Z):=aa (by rw[a,<-i,<-f];exact P7 _ _);rw[i]at x;clear b a B g f i;obtain⟨V,m⟩:∃V:abO,⟨(eP Z.size).toArray⟩=V:=⟨_,rfl⟩;have y:Hid (V.size<=4):=aa (by rw[<-m,GW];exact x.o);have z:=aa m;rw[m]at d;have F:¬(9223372036854775807<V.size+Z.size):=by have:=y.o;omega
 clear m;go_enter func264,ntmps264;go_wp2_with fail;refine Yg (Hv kind l n k.o r.o A c _ H.o hl t.o) λG a=>?_;rw[q.o];have j:=aa a;have C:=aa ((H.o.below a).wider a.size);clear a
 go_wp2_with fail;refine Yg (JP kind l n k.o u.o r.o v.o A c _ C.o) λL a=>?_;rw[D.o];have o:=aa (Yf j.o a);clear a
 go_wp2_with fail;refine Yg (IB Z.size _ (by omega)) λM a=>?_;rw[z.o];have s:=aa (Yf o.o a);clear a
 go_wp2;go_ret2;exact⟨by rw[d.o,q.o];rfl,s.o⟩
section
attribute [local go_sem] Mj Mi
def txS(s:abO)(a sh:Nat):abO×Nat×Int:=
 if(dH s a 0).2.2≠0 then(⟨#[]⟩,0,5)else if sh≠6/\YF (dH s a 0).1=false then(⟨#[]⟩,0,6)else((dH s a 0).1,(dH s a 0).2.1,0)
theorem Rp(h:¬a+k<=t.size):bp t a 0 k=(⟨#[]⟩,a,5):=by
 have b:jQ t a k=false:=by simp[jQ];omega
 unfold bp;rw[if_pos rfl,b];rfl
theorem Qp{i j:Nat}(hj:a+j<=t.size):(t.extract a t.size).extract i j=t.extract (a+i) (a+j):=by
 refine eX ?_;have b:∀(s:abO) (i j:Nat),ls (s.extract i j)=(ls s).extract i j:=λs i j=>by
  unfold ls;simp[ByteArray.data_extract]
 rw[b,b,b];simp only[List.extract_eq_take_drop,List.drop_take,ab2,List.take_take]
 congr 1
 rw[Nat.min_def];split<;>omega
theorem RU(ha:a<=s.size):((dH s a 0).2.2≠0/\(dJ (s.extract a s.size)).2.2≠0)\/
  ((dH s a 0).2.2=0/\dJ (s.extract a s.size)=((dH s a 0).1,(dJ (s.extract a s.size)).2.1,0)/\(dH s a 0).2.1=a+(dJ (s.extract a s.size)).2.1/\(dH s a 0).2.1<=s.size):=by
 have i:(s.extract a s.size).size=s.size- a:=by rw[aj];omega
 by_cases e:a+2<=s.size
 ·have b:bp s a 0 (2:Nat)=(s.extract a (a+2),a+2,0):=sd e;have d:br (s.extract a s.size) 0 0 2=YZ (ls (s.extract a (a+2))):=by
   unfold br;have:aH (s.extract a s.size) 0 0 (2:Nat)=((s.extract a s.size).extract 0 (0+2),0+2,0):=dZ (by omega);rw[show((2:Nat):Int)=2 from rfl]at this;rw[this,Qp (by omega)];show YZ (ls (s.extract (a+0) (a+(0+2))))=_;rw[jV,bV]
  have c:dH s a 0=bp s (a+2) 0 (YZ (ls (s.extract a (a+2))):Nat):=by
   unfold dH;rw[show((2:Nat):Int)=2 from rfl]at b;rw[b]
  generalize h:YZ (ls (s.extract a (a+2)))=g at*;by_cases f:a+2+g<=s.size
  ·right;rw[c,sd f];have:dJ (s.extract a s.size)=(s.extract (a+2) (a+(2+g)),2+g,0):=by
    unfold dJ;rw[d,Fl (by omega),Fl (by omega),Qp (by omega)]
   rw[this];exact⟨rfl,by rw[show a+(2+g)=a+2+g by omega],by simp only;omega,by simp only;omega⟩
  ·left;rw[c,Rp f];refine⟨by show(5:Int)≠0;decide,?_⟩;unfold dJ;rw[d,Fl (by omega),if_pos (by omega)]
   decide
 ·left;have b:bp s a 0 (2:Nat)=(⟨#[]⟩,a,5):=Rp e;have c:dH s a 0=(⟨#[]⟩,a,5):=by
   unfold dH;rw[show((2:Nat):Int)=2 from rfl]at b;rw[b];rfl
  rw[c];refine⟨by show(5:Int)≠0;decide,?_⟩;unfold dJ;rw[if_pos (by omega)]
  decide
theorem Si(t:abO)(a:Nat):(dH t a 0).2.2=0\/(dH t a 0).2.2=5:=by
 have h:∀(b:Nat) (e n:Int),e=0\/e=5->(bp t b e n).2.2=0\/(bp t b e n).2.2=5:=by
  intro b e n c;unfold bp;split
  ·split
   ·exact .inl rfl
   ·exact .inr rfl
  ·exact c
 exact h _ _ _ (h _ _ _ (.inl rfl))
theorem QQ(s:abO)(a:Nat)(A:Int)(hA:A=(a:Int))(sh:Nat)(w:abP)(ha:a<=s.size)(hs:s.size<=4611686018427387904):
  abT 293 #[.string s,.int .i64 A,.int .i64 sh] w (.tuple #[.string (txS s a sh).1,.int .i64 (txS s a sh).2.1,.int .i64 (txS s a sh).2.2]):=by
 subst hA;have g:Hid (txS s a sh=if(dH s a 0).2.2≠0 then(⟨#[]⟩,0,5)else if sh≠6/\YF (dH s a 0).1=false then(⟨#[]⟩,0,6)else((dH s a 0).1,(dH s a 0).2.1,0)):=aa rfl;have r:(s.extract a s.size).size<=4611686018427387904:=by rw[aj];omega
 have D:(0:Int)<=(a:Int):=by omega
 have E:(a:Int)<=(s.size:Int):=by omega
 have q:=RU ha;obtain⟨Z,k⟩:∃Z,s.extract a s.size=Z:=⟨_,rfl⟩;rw[k]at r q;have o:=aa r;have z:=aa k
 have hcut:s.extract a s.size=Z:=k;clear r k;obtain⟨T,N,F,p⟩:∃T N F,dJ Z=(T,N,F):=⟨_,_,_,rfl⟩;rw[p]at q;have n:=aa p;clear p
 rcases q with ⟨c,h⟩ | ⟨c,h,j,y⟩
 ·have b:Hid (txS s a sh=(⟨#[]⟩,0,5)):=aa (by rw[g.o,if_pos c]);have B:(F !=0)=true:=aA.2 h;clear c h;go_enter func293,ntmps293;go_wp2_with fail;refine(QC Z _ o.o).mono ?_;rintro e l ⟨rfl,rfl⟩;rw[n.o];simp only;go_wp2;go_ret3;exact⟨by rw[b.o];rfl,rfl⟩
 obtain⟨rfl,rfl⟩:T=(dH s a 0).1/\F=0:=by cases h;exact⟨rfl,rfl⟩
 have m:txS s a sh=if sh≠6/\YF (dH s a 0).1=false then(⟨#[]⟩,0,6)else((dH s a 0).1,a+N,0):=by rw[g.o,Fl (by simpa using c)];simp only at j;rw[j]
 have u:Hid ((dH s a 0).1.size<=4611686018427387904):=aa (by
  have:=(qC ha c).1;omega)
 have C:a+N<=s.size:=by simp only at j;omega
 have f:=aa m;have l:IntKind.i64.wrap ((a:Int)+(N:Int))=(a:Int)+(N:Int):=by rw[aQ];omega
 clear c h j y m g;generalize (dH s a 0).1=T at*;by_cases i:sh=6
 ·have b:Hid (txS s a sh=(T,a+N,0)):=aa (by rw[f.o,Fl (λx=>x.1 i)]);have v:((sh:Int) !=6)=false:=by simp;omega
  clear i;go_enter func293,ntmps293;go_wp2_with fail;refine(QC Z _ o.o).mono ?_;rintro e l ⟨rfl,rfl⟩;rw[n.o];simp only;go_wp2;go_ret3;exact⟨by rw[b.o];rfl,rfl⟩
 have v:((sh:Int) !=6)=true:=aA.2 (by omega);cases d:YF T
 focus
  have b:Hid (txS s a sh=(⟨#[]⟩,0,6)):=aa (by rw[f.o,if_pos ⟨i,d⟩]);have t:=aa d;clear d i
  go_enter func293,ntmps293
 rotate_left
 focus
  have b:Hid (txS s a sh=(T,a+N,0)):=aa (by rw[f.o,Fl (λx=>by rw[d]at x;cases x.2)]);have t:=aa d;clear d i
  go_enter func293,ntmps293
 rotate_left
 all_goals
  go_wp2_with fail;refine(QC Z _ o.o).mono ?_;rintro e l ⟨rfl,rfl⟩;rw[n.o];simp only;go_wp2_with fail;refine(xj T _ u.o).mono ?_;rintro e l ⟨rfl,rfl⟩;rw[t.o];go_wp2;go_ret3;exact⟨by rw[b.o];rfl,rfl⟩
abbrev PrT:TypeId:=71
def QT(s:abO)(sh:Nat)(id:Int)(w:abP)(e:Ending)(w':abP):Prop:=
 ∃(P:Pr) (k:Int),e= .returned (.tuple #[P.val,.int .i64 k,.int .i64 (dW sh s 1).err])/\((dW sh s 1).err=0->P=⟨id,(dW sh s 1).n,(dW sh s 1).text,(dW sh s 1).value⟩/\k=(dW sh s 1).at_)/\abQ w w'
theorem QO{v:abO}{w':abP}(hv:dW sh s 1=⟨n,t,v,k,0⟩)(hb:abQ w w'):QT s sh id w (.returned (.tuple #[.agg #[.int .i64 id,.int .u32 n,.string t,.string v],.int .i64 k,.int .i64 0])) w':=by
 refine⟨⟨id,n,t,v⟩,k,?_,?_,hb⟩
 ·rw[hv];rfl
 ·intro _;rw[hv];exact⟨rfl,rfl⟩
theorem QG{k E:Int}{v:abO}{w':abP}(hv:(dW sh s 1).err=E)(hE:E≠0)(hb:abQ w w'):QT s sh id w (.returned (.tuple #[.agg #[.int .i64 id,.int .u32 n,.string t,.string v],.int .i64 k,.int .i64 E])) w':=by
 refine⟨⟨id,n,t,v⟩,k,?_,?_,hb⟩
 ·rw[hv];rfl
 ·intro h;rw[hv]at h;exact absurd h hE
theorem QA{fn:Func}{p q r:Tmp}(hr:fn.results= #[.cell p PrT,.tmp q,.tmp r])(tmps:Array Value){g:Nat}{a b c d:Value}(hp:tmps.getD p undef= .pointer (some ⟨g,0,none⟩))(hb:Bk w g PrT #[a,b,c,d]):
  (results fn tmps).run prog w= .ok (.tuple #[.agg #[a,b,c,d],tmps.getD q undef,tmps.getD r undef]) w:=by
 obtain⟨⟨e,f,h,i⟩,-⟩:=hb.four;rw[Jf]at hp;simp only[results,hr];simp[hp,go_sem,e,f,h,i]
theorem Tm(h6:sh≠6):(dd s a 0).2.2=(txS s a sh).2.2/\((txS s a sh).2.2=0->dd s a 0=((txS s a sh).1,(txS s a sh).2.1,0)):=by
 unfold dd txS;rcases Si s a with h| h
 ·cases b:YF (dH s a 0).1
  ·simp[h,h6]
  ·simp[h]
 ·simp[h]
theorem Um:(dH s a 0).2.2=(txS s a 6).2.2/\((txS s a 6).2.2=0->dH s a 0=((txS s a 6).1,(txS s a 6).2.1,0)):=by
 unfold txS;rcases Si s a with h| h
 ·rw[Fl (by simpa using h),Fl (λx=>x.1 rfl)];exact⟨h,λ_=>Prod.ext rfl (Prod.ext rfl h)⟩
 ·rw[if_pos (by rw[h];decide)];exact⟨h,λx=>by cases x⟩
theorem Tn(ha:a<=s.size)(h:(txS s a sh).2.2=0):(txS s a sh).2.1<=s.size:=by
 have d:(dH s a 0).2.2=0/\(txS s a sh).2.1=(dH s a 0).2.1:=by
  unfold txS at h⊢;by_cases c:(dH s a 0).2.2=0
  ·rw[Fl (by simpa using c)]at h⊢;by_cases b:sh≠6/\YF (dH s a 0).1=false
   ·rw[if_pos b]at h;cases h
   ·rw[Fl b];exact⟨c,rfl⟩
  ·rw[if_pos c]at h;cases h
 rcases RU ha with ⟨b,-⟩ | ⟨-,-,-,e⟩
 ·exact absurd d.1 b
 ·rw[d.2];exact e
theorem Ue(s:abO)(b0:UInt8)(h:0<s.size)(hb0:s[0]=b0)(hsh:gH (b0.toNat:Int)=1)(w:abP)(hs:s.size<=4611686018427387904):
  Calls prog 247 #[.string s] w (QT s 1 (b0.toNat:Int) w):=by
 have h0:(0:Int)<(s.size:Int):=by omega
 obtain⟨x,u,le,v,q⟩:∃sh u le v,cr (b0.toNat:Int)=⟨sh,u,le,v⟩:=⟨_,_,_,_,rfl⟩;have t:x=1:=by
  have:(cr (b0.toNat:Int)).shape=1:=hsh;rw[q]at this;exact this
 subst t;have r:=aa q;clear hsh q;have ao:IntKind.i64.wrap (b0.toNat:Int)=(b0.toNat:Int):=by rw[aQ];have:=b0.toNat_lt;omega
 have k:=aa ((Bk.fresh w PrT #[.int .i64 0,.int .u32 0,.string ⟨#[]⟩,.string ⟨#[]⟩]).alloc (.cells #[.int .i64 (b0.toNat:Int),.int .u32 0,.string ⟨#[]⟩,.string ⟨#[]⟩] PrT));have f:=aa (Bk.fresh (w.alloc (.cells #[.int .i64 0,.int .u32 0,.string ⟨#[]⟩,.string ⟨#[]⟩] PrT)) PrT #[.int .i64 (b0.toNat:Int),.int .u32 0,.string ⟨#[]⟩,.string ⟨#[]⟩]);rw[Ze]at f;have j:=aa (((aq w.heap.size w).alloc (ac _) (.cells #[.int .i64 0,.int .u32 0,.string ⟨#[]⟩,.string ⟨#[]⟩] PrT)).alloc (by simp) (.cells #[.int .i64 (b0.toNat:Int),.int .u32 0,.string ⟨#[]⟩,.string ⟨#[]⟩] PrT));by_cases b:1+1<=s.size;rotate_left
 ·have m:Hid ((dW 1 s 1).err=5):=aa (by
   have e:bp s 1 0 (1:Nat)=(⟨#[]⟩,1,5):=Rp b;show(bp s 1 0 1).2.2=5;rw[show(1:Int)=((1:Nat):Int)from rfl,e])
  have w0:IntKind.i64.wrap ((s.size:Int) - 1)=(s.size:Int) - 1:=by rw[aQ];omega
  have I:decide ((s.size:Int) - 1<1)=true:=au (by omega);clear b;go_enter func247,ntmps247;go_wp2_with fail;refine(Gz (b0.toNat:Int) _).mono ?_;rintro e w1 ⟨A,c,rfl,-,a⟩;unfold Hp;rw[r.o];have R1:=aa (Yh k.o a);have g:=aa (Yh f.o a);have d:=aa (Yf j.o a);clear a
  obtain⟨⟨V,W,X,Y⟩,Z,s1,s2,s3⟩:=R1.o.four;obtain⟨⟨D,E,F,H⟩,N,f1,O,P⟩:=g.o.four;have i:=aa (R1.o.alloc (.cells #[.int .i64 0,.int .i64 1,.int .i64 2,.int .i64 4] 3));have l:=aa (d.o.alloc d.o.size (.cells #[.int .i64 0,.int .i64 1,.int .i64 2,.int .i64 4] 3));have o:=aa (g.o.alloc (.cells #[.int .i64 0,.int .i64 1,.int .i64 2,.int .i64 4] 3));obtain⟨⟨J,K,L,M⟩,R,S,T,U⟩:=o.o.four;obtain⟨⟨t0,t1,t2,t3⟩,u0,u1,u2,u3⟩:=i.o.four;go_wp2;refine abZ (QA rfl _ rfl i.o.put_four) rfl ?_;exact QG (n:=0) m.o (by decide) (cD l.o (ac _) _ _ _ _)
 ·have m:Hid (dW 1 s 1=⟨YZ (ls (s.extract 1 2)),⟨#[]⟩,⟨#[]⟩,2,0⟩):=aa (by
   have e:bp s 1 0 (1:Nat)=(s.extract 1 (1+1),1+1,0):=sd b;show(⟨YZ (ls (bp s 1 0 1).1),⟨#[]⟩,⟨#[]⟩,(bp s 1 0 1).2.1,(bp s 1 0 1).2.2⟩:VRead)=_;rw[show(1:Int)=((1:Nat):Int)from rfl,e])
  have w0:IntKind.i64.wrap ((s.size:Int) - 1)=(s.size:Int) - 1:=by rw[aQ];omega
  have I:decide ((s.size:Int) - 1<1)=false:=ah (by omega);have i3:(2:Int)<=(s.size:Int):=by omega
  have B:Hid ((s.extract 1 2).size<=8):=aa (by rw[aj];omega);have z:Hid (YZ (ls (s.extract 1 2))<4294967296):=aa (by
   have Q:=ka (ls (s.extract 1 2));rw[aN,aj,show min 2 s.size- 1=1 by omega]at Q;omega)
  clear b;go_enter func247,ntmps247;go_wp2_with fail;refine(Gz (b0.toNat:Int) _).mono ?_;rintro e w1 ⟨A,c,rfl,-,a⟩;unfold Hp;rw[r.o];have R1:=aa (Yh k.o a);have g:=aa (Yh f.o a);have d:=aa (Yf j.o a);clear a
  obtain⟨⟨V,W,X,Y⟩,Z,s1,s2,s3⟩:=R1.o.four;obtain⟨⟨D,E,F,H⟩,N,f1,O,P⟩:=g.o.four;have i:=aa (R1.o.alloc (.cells #[.int .i64 0,.int .i64 1,.int .i64 2,.int .i64 4] 3));have o:=aa (g.o.alloc (.cells #[.int .i64 0,.int .i64 1,.int .i64 2,.int .i64 4] 3));have l:=aa (d.o.alloc d.o.size (.cells #[.int .i64 0,.int .i64 1,.int .i64 2,.int .i64 4] 3));obtain⟨⟨J,K,L,M⟩,R,S,T,U⟩:=o.o.four;obtain⟨⟨t0,t1,t2,t3⟩,u0,u1,u2,u3⟩:=i.o.four;go_wp2_with fail;refine(QS _ _ B.o).mono ?_;rintro e w2 ⟨rfl,rfl⟩;generalize YZ (ls (s.extract 1 2))=G at*;have ap:IntKind.u32.wrap (G:Int)=(G:Int):=by rw[oy];have:=z.o;omega
  have C:=aa (i.o.other (p:=⟨w.heap.size+1,1,none⟩) (by simp) (.int .u32 (G:Int)));have y:=aa (l.o.setCell (show w.heap.size<=(⟨w.heap.size+1,1,none⟩:Addr).block by simp) (.int .u32 (G:Int)));go_wp2;refine abZ (QA rfl _ rfl C.o.put_four) rfl ?_;exact QO m.o (cD y.o (ac _) _ _ _ _)
theorem Ud(s:abO)(b0:UInt8)(h:0<s.size)(hb0:s[0]=b0)(hsh:gH (b0.toNat:Int)=2)(w:abP)(hs:s.size<=4611686018427387904):
  Calls prog 247 #[.string s] w (QT s 2 (b0.toNat:Int) w):=by
 have h0:(0:Int)<(s.size:Int):=by omega
 obtain⟨x,u,le,v,q⟩:∃sh u le v,cr (b0.toNat:Int)=⟨sh,u,le,v⟩:=⟨_,_,_,_,rfl⟩;have t:x=2:=by
  have:(cr (b0.toNat:Int)).shape=2:=hsh;rw[q]at this;exact this
 subst t;have r:=aa q;clear hsh q;have ao:IntKind.i64.wrap (b0.toNat:Int)=(b0.toNat:Int):=by rw[aQ];have:=b0.toNat_lt;omega
 have k:=aa ((Bk.fresh w PrT #[.int .i64 0,.int .u32 0,.string ⟨#[]⟩,.string ⟨#[]⟩]).alloc (.cells #[.int .i64 (b0.toNat:Int),.int .u32 0,.string ⟨#[]⟩,.string ⟨#[]⟩] PrT));have f:=aa (Bk.fresh (w.alloc (.cells #[.int .i64 0,.int .u32 0,.string ⟨#[]⟩,.string ⟨#[]⟩] PrT)) PrT #[.int .i64 (b0.toNat:Int),.int .u32 0,.string ⟨#[]⟩,.string ⟨#[]⟩]);rw[Ze]at f;have j:=aa (((aq w.heap.size w).alloc (ac _) (.cells #[.int .i64 0,.int .u32 0,.string ⟨#[]⟩,.string ⟨#[]⟩] PrT)).alloc (by simp) (.cells #[.int .i64 (b0.toNat:Int),.int .u32 0,.string ⟨#[]⟩,.string ⟨#[]⟩] PrT));by_cases b:1+2<=s.size;rotate_left
 ·have m:Hid ((dW 2 s 1).err=5):=aa (by
   have e:bp s 1 0 (2:Nat)=(⟨#[]⟩,1,5):=Rp b;show(bp s 1 0 2).2.2=5;rw[show(2:Int)=((2:Nat):Int)from rfl,e])
  have w0:IntKind.i64.wrap ((s.size:Int) - 1)=(s.size:Int) - 1:=by rw[aQ];omega
  have I:decide ((s.size:Int) - 1<2)=true:=au (by omega);clear b;go_enter func247,ntmps247;go_wp2_with fail;refine(Gz (b0.toNat:Int) _).mono ?_;rintro e w1 ⟨A,c,rfl,-,a⟩;unfold Hp;rw[r.o];have R1:=aa (Yh k.o a);have g:=aa (Yh f.o a);have d:=aa (Yf j.o a);clear a
  obtain⟨⟨V,W,X,Y⟩,Z,s1,s2,s3⟩:=R1.o.four;obtain⟨⟨D,E,F,H⟩,N,f1,O,P⟩:=g.o.four;have i:=aa (R1.o.alloc (.cells #[.int .i64 0,.int .i64 1,.int .i64 2,.int .i64 4] 3));have l:=aa (d.o.alloc d.o.size (.cells #[.int .i64 0,.int .i64 1,.int .i64 2,.int .i64 4] 3));have o:=aa (g.o.alloc (.cells #[.int .i64 0,.int .i64 1,.int .i64 2,.int .i64 4] 3));obtain⟨⟨J,K,L,M⟩,R,S,T,U⟩:=o.o.four;obtain⟨⟨t0,t1,t2,t3⟩,u0,u1,u2,u3⟩:=i.o.four;go_wp2;refine abZ (QA rfl _ rfl i.o.put_four) rfl ?_;exact QG (n:=0) m.o (by decide) (cD l.o (ac _) _ _ _ _)
 ·have m:Hid (dW 2 s 1=⟨YZ (ls (s.extract 1 3)),⟨#[]⟩,⟨#[]⟩,3,0⟩):=aa (by
   have e:bp s 1 0 (2:Nat)=(s.extract 1 (1+2),1+2,0):=sd b;show(⟨YZ (ls (bp s 1 0 2).1),⟨#[]⟩,⟨#[]⟩,(bp s 1 0 2).2.1,(bp s 1 0 2).2.2⟩:VRead)=_;rw[show(2:Int)=((2:Nat):Int)from rfl,e])
  have w0:IntKind.i64.wrap ((s.size:Int) - 1)=(s.size:Int) - 1:=by rw[aQ];omega
  have I:decide ((s.size:Int) - 1<2)=false:=ah (by omega);have i3:(3:Int)<=(s.size:Int):=by omega
  have B:Hid ((s.extract 1 3).size<=8):=aa (by rw[aj];omega);have z:Hid (YZ (ls (s.extract 1 3))<4294967296):=aa (by
   have Q:=ka (ls (s.extract 1 3));rw[aN,aj,show min 3 s.size- 1=2 by omega]at Q;omega)
  clear b;go_enter func247,ntmps247;go_wp2_with fail;refine(Gz (b0.toNat:Int) _).mono ?_;rintro e w1 ⟨A,c,rfl,-,a⟩;unfold Hp;rw[r.o];have R1:=aa (Yh k.o a);have g:=aa (Yh f.o a);have d:=aa (Yf j.o a);clear a
  obtain⟨⟨V,W,X,Y⟩,Z,s1,s2,s3⟩:=R1.o.four;obtain⟨⟨D,E,F,H⟩,N,f1,O,P⟩:=g.o.four;have i:=aa (R1.o.alloc (.cells #[.int .i64 0,.int .i64 1,.int .i64 2,.int .i64 4] 3));have o:=aa (g.o.alloc (.cells #[.int .i64 0,.int .i64 1,.int .i64 2,.int .i64 4] 3));have l:=aa (d.o.alloc d.o.size (.cells #[.int .i64 0,.int .i64 1,.int .i64 2,.int .i64 4] 3));obtain⟨⟨J,K,L,M⟩,R,S,T,U⟩:=o.o.four;obtain⟨⟨t0,t1,t2,t3⟩,u0,u1,u2,u3⟩:=i.o.four;go_wp2_with fail;refine(QS _ _ B.o).mono ?_;rintro e w2 ⟨rfl,rfl⟩;generalize YZ (ls (s.extract 1 3))=G at*;have ap:IntKind.u32.wrap (G:Int)=(G:Int):=by rw[oy];have:=z.o;omega
  have C:=aa (i.o.other (p:=⟨w.heap.size+1,1,none⟩) (by simp) (.int .u32 (G:Int)));have y:=aa (l.o.setCell (show w.heap.size<=(⟨w.heap.size+1,1,none⟩:Addr).block by simp) (.int .u32 (G:Int)));go_wp2;refine abZ (QA rfl _ rfl C.o.put_four) rfl ?_;exact QO m.o (cD y.o (ac _) _ _ _ _)
theorem Uc(s:abO)(b0:UInt8)(h:0<s.size)(hb0:s[0]=b0)(hsh:gH (b0.toNat:Int)=3)(w:abP)(hs:s.size<=4611686018427387904):
  Calls prog 247 #[.string s] w (QT s 3 (b0.toNat:Int) w):=by
 have h0:(0:Int)<(s.size:Int):=by omega
 obtain⟨x,u,le,v,q⟩:∃sh u le v,cr (b0.toNat:Int)=⟨sh,u,le,v⟩:=⟨_,_,_,_,rfl⟩;have t:x=3:=by
  have:(cr (b0.toNat:Int)).shape=3:=hsh;rw[q]at this;exact this
 subst t;have r:=aa q;clear hsh q;have ao:IntKind.i64.wrap (b0.toNat:Int)=(b0.toNat:Int):=by rw[aQ];have:=b0.toNat_lt;omega
 have k:=aa ((Bk.fresh w PrT #[.int .i64 0,.int .u32 0,.string ⟨#[]⟩,.string ⟨#[]⟩]).alloc (.cells #[.int .i64 (b0.toNat:Int),.int .u32 0,.string ⟨#[]⟩,.string ⟨#[]⟩] PrT));have f:=aa (Bk.fresh (w.alloc (.cells #[.int .i64 0,.int .u32 0,.string ⟨#[]⟩,.string ⟨#[]⟩] PrT)) PrT #[.int .i64 (b0.toNat:Int),.int .u32 0,.string ⟨#[]⟩,.string ⟨#[]⟩]);rw[Ze]at f;have j:=aa (((aq w.heap.size w).alloc (ac _) (.cells #[.int .i64 0,.int .u32 0,.string ⟨#[]⟩,.string ⟨#[]⟩] PrT)).alloc (by simp) (.cells #[.int .i64 (b0.toNat:Int),.int .u32 0,.string ⟨#[]⟩,.string ⟨#[]⟩] PrT));by_cases b:1+4<=s.size;rotate_left
 ·have m:Hid ((dW 3 s 1).err=5):=aa (by
   have e:bp s 1 0 (4:Nat)=(⟨#[]⟩,1,5):=Rp b;show(bp s 1 0 4).2.2=5;rw[show(4:Int)=((4:Nat):Int)from rfl,e])
  have w0:IntKind.i64.wrap ((s.size:Int) - 1)=(s.size:Int) - 1:=by rw[aQ];omega
  have I:decide ((s.size:Int) - 1<4)=true:=au (by omega);clear b;go_enter func247,ntmps247;go_wp2_with fail;refine(Gz (b0.toNat:Int) _).mono ?_;rintro e w1 ⟨A,c,rfl,-,a⟩;unfold Hp;rw[r.o];have R1:=aa (Yh k.o a);have g:=aa (Yh f.o a);have d:=aa (Yf j.o a);clear a
  obtain⟨⟨V,W,X,Y⟩,Z,s1,s2,s3⟩:=R1.o.four;obtain⟨⟨D,E,F,H⟩,N,f1,O,P⟩:=g.o.four;have i:=aa (R1.o.alloc (.cells #[.int .i64 0,.int .i64 1,.int .i64 2,.int .i64 4] 3));have l:=aa (d.o.alloc d.o.size (.cells #[.int .i64 0,.int .i64 1,.int .i64 2,.int .i64 4] 3));have o:=aa (g.o.alloc (.cells #[.int .i64 0,.int .i64 1,.int .i64 2,.int .i64 4] 3));obtain⟨⟨J,K,L,M⟩,R,S,T,U⟩:=o.o.four;obtain⟨⟨t0,t1,t2,t3⟩,u0,u1,u2,u3⟩:=i.o.four;go_wp2;refine abZ (QA rfl _ rfl i.o.put_four) rfl ?_;exact QG (n:=0) m.o (by decide) (cD l.o (ac _) _ _ _ _)
 ·have m:Hid (dW 3 s 1=⟨YZ (ls (s.extract 1 5)),⟨#[]⟩,⟨#[]⟩,5,0⟩):=aa (by
   have e:bp s 1 0 (4:Nat)=(s.extract 1 (1+4),1+4,0):=sd b;show(⟨YZ (ls (bp s 1 0 4).1),⟨#[]⟩,⟨#[]⟩,(bp s 1 0 4).2.1,(bp s 1 0 4).2.2⟩:VRead)=_;rw[show(4:Int)=((4:Nat):Int)from rfl,e])
  have w0:IntKind.i64.wrap ((s.size:Int) - 1)=(s.size:Int) - 1:=by rw[aQ];omega
  have I:decide ((s.size:Int) - 1<4)=false:=ah (by omega);have i3:(5:Int)<=(s.size:Int):=by omega
  have B:Hid ((s.extract 1 5).size<=8):=aa (by rw[aj];omega);have z:Hid (YZ (ls (s.extract 1 5))<4294967296):=aa (by
   have Q:=ka (ls (s.extract 1 5));rw[aN,aj,show min 5 s.size- 1=4 by omega]at Q;omega)
  clear b;go_enter func247,ntmps247;go_wp2_with fail;refine(Gz (b0.toNat:Int) _).mono ?_;rintro e w1 ⟨A,c,rfl,-,a⟩;unfold Hp;rw[r.o];have R1:=aa (Yh k.o a);have g:=aa (Yh f.o a);have d:=aa (Yf j.o a);clear a
  obtain⟨⟨V,W,X,Y⟩,Z,s1,s2,s3⟩:=R1.o.four;obtain⟨⟨D,E,F,H⟩,N,f1,O,P⟩:=g.o.four;have i:=aa (R1.o.alloc (.cells #[.int .i64 0,.int .i64 1,.int .i64 2,.int .i64 4] 3));have o:=aa (g.o.alloc (.cells #[.int .i64 0,.int .i64 1,.int .i64 2,.int .i64 4] 3));have l:=aa (d.o.alloc d.o.size (.cells #[.int .i64 0,.int .i64 1,.int .i64 2,.int .i64 4] 3));obtain⟨⟨J,K,L,M⟩,R,S,T,U⟩:=o.o.four;obtain⟨⟨t0,t1,t2,t3⟩,u0,u1,u2,u3⟩:=i.o.four;go_wp2_with fail;refine(QS _ _ B.o).mono ?_;rintro e w2 ⟨rfl,rfl⟩;generalize YZ (ls (s.extract 1 5))=G at*;have ap:IntKind.u32.wrap (G:Int)=(G:Int):=by rw[oy];have:=z.o;omega
  have C:=aa (i.o.other (p:=⟨w.heap.size+1,1,none⟩) (by simp) (.int .u32 (G:Int)));have y:=aa (l.o.setCell (show w.heap.size<=(⟨w.heap.size+1,1,none⟩:Addr).block by simp) (.int .u32 (G:Int)));go_wp2;refine abZ (QA rfl _ rfl C.o.put_four) rfl ?_;exact QO m.o (cD y.o (ac _) _ _ _ _)
theorem Ub(s:abO)(b0:UInt8)(h:0<s.size)(hb0:s[0]=b0)(hsh:gH (b0.toNat:Int)=4)(w:abP)(hs:s.size<=4611686018427387904):
  Calls prog 247 #[.string s] w (QT s 4 (b0.toNat:Int) w):=by
 have h0:(0:Int)<(s.size:Int):=by omega
 obtain⟨D,B,le,C,u⟩:∃sh B le C,cr (b0.toNat:Int)=⟨sh,B,le,C⟩:=⟨_,_,_,_,rfl⟩;have z:D=4:=by
  have:(cr (b0.toNat:Int)).shape=4:=hsh;rw[u]at this;exact this
 subst z;have v:=aa u;clear hsh u;have ai:IntKind.i64.wrap (b0.toNat:Int)=(b0.toNat:Int):=by rw[aQ];have:=b0.toNat_lt;omega
 have j:=aa ((Bk.fresh w PrT #[.int .i64 0,.int .u32 0,.string ⟨#[]⟩,.string ⟨#[]⟩]).alloc (.cells #[.int .i64 (b0.toNat:Int),.int .u32 0,.string ⟨#[]⟩,.string ⟨#[]⟩] PrT));have d:=aa (Bk.fresh (w.alloc (.cells #[.int .i64 0,.int .u32 0,.string ⟨#[]⟩,.string ⟨#[]⟩] PrT)) PrT #[.int .i64 (b0.toNat:Int),.int .u32 0,.string ⟨#[]⟩,.string ⟨#[]⟩]);rw[Ze]at d;have i:=aa (((aq w.heap.size w).alloc (ac _) (.cells #[.int .i64 0,.int .u32 0,.string ⟨#[]⟩,.string ⟨#[]⟩] PrT)).alloc (by simp) (.cells #[.int .i64 (b0.toNat:Int),.int .u32 0,.string ⟨#[]⟩,.string ⟨#[]⟩] PrT));have i2:(1:Int)<=(s.size:Int):=by omega
 have H:Hid (ls (s.extract 1 s.size)=(ls s).drop 1):=aa (ju s 1);have x:Hid ((s.extract 1 s.size).size<=4611686018427387904):=aa (by rw[aj];omega);have ah:Hid ((s.extract 1 s.size).size+1=s.size):=aa (by rw[aj];omega);have o:Hid (dW 4 s 1=⟨(mz s 1).1,⟨#[]⟩,⟨#[]⟩,(mz s 1).2.1,(mz s 1).2.2⟩):=aa rfl;have b:Hid (mz s 1=if(YT (ls (s.extract 1 s.size))).2.2=0 then((YT (ls (s.extract 1 s.size))).1,1+(YT (ls (s.extract 1 s.size))).2.1,0)else((YT (ls (s.extract 1 s.size))).1,1,5)):=aa (by rw[H.o];rfl);have l:Hid (∀n k,YT (ls (s.extract 1 s.size))=(n,k,0)->n<=268435455/\k<=4):=aa (λn k U=>by
  obtain⟨-,S,T⟩:=mE U;refine⟨T,?_⟩;rw[S,LG];split;omega;split;omega;split;omega;omega)
 obtain⟨N,K,F,f⟩:∃N K F,YT (ls (s.extract 1 s.size))=(N,K,F):=⟨_,_,_,rfl⟩;rw[f]at b l;have m:=aa f;clear f;by_cases hF:F=0;rotate_left
 ·have r:Hid ((dW 4 s 1).err=5):=aa (by rw[o.o,b.o,Fl hF]);have e0:(F !=0)=true:=aA.2 hF;clear hF;go_enter func247,ntmps247;go_wp2_with fail;refine(Gz (b0.toNat:Int) _).mono ?_;rintro e w1 ⟨A,c,rfl,-,a⟩;unfold Hp;rw[v.o];have R1:=aa (Yh j.o a);have t:=aa (Yh d.o a);have q:=aa (Yf i.o a);clear a
  obtain⟨⟨V,W,X,Y⟩,Z,s1,s2,s3⟩:=R1.o.four;obtain⟨⟨J,L,M,O⟩,P,f1,Q,R⟩:=t.o.four;go_wp2_with fail;refine(QM _ _ x.o).mono ?_;rintro e w2 ⟨rfl,rfl⟩;rw[m.o];simp only;go_wp2;refine abZ (QA rfl _ rfl R1.o.put_four) rfl ?_;exact QG (n:=0) r.o (by decide) (cD q.o (ac _) _ _ _ _)
 ·subst hF;have r:Hid (dW 4 s 1=⟨N,⟨#[]⟩,⟨#[]⟩,1+K,0⟩):=aa (by rw[o.o,b.o,if_pos rfl]);have y:=l.o N K rfl;have ak:IntKind.u32.wrap (N:Int)=(N:Int):=by rw[oy];omega
  have am:IntKind.i64.wrap (1+(K:Int))=1+(K:Int):=by rw[aQ];omega
  have G:Hid (((1+K:Nat):Int)=1+(K:Int)):=aa (by omega);clear y;go_enter func247,ntmps247;go_wp2_with fail;refine(Gz (b0.toNat:Int) _).mono ?_;rintro e w1 ⟨A,c,rfl,-,a⟩;unfold Hp;rw[v.o];have R1:=aa (Yh j.o a);have t:=aa (Yh d.o a);have q:=aa (Yf i.o a);clear a
  obtain⟨⟨V,W,X,Y⟩,Z,s1,s2,s3⟩:=R1.o.four;obtain⟨⟨J,L,M,O⟩,P,f1,Q,R⟩:=t.o.four;go_wp2_with fail;refine(QM _ _ x.o).mono ?_;rintro e w2 ⟨rfl,rfl⟩;rw[m.o];simp only;have I:=aa (R1.o.other (p:=⟨w.heap.size+1,1,none⟩) (by simp) (.int .u32 (N:Int)));have E:=aa (q.o.setCell (show w.heap.size<=(⟨w.heap.size+1,1,none⟩:Addr).block by simp) (.int .u32 (N:Int)));go_wp2;refine abZ (QA rfl _ rfl I.o.put_four) rfl ?_;have g:=QO (id:=(b0.toNat:Int)) r.o (cD E.o (ac _) (.int .i64 (b0.toNat:Int)) (.int .u32 (N:Int)) (.string ⟨#[]⟩) (.string ⟨#[]⟩));rw[G.o]at g;exact g
theorem Ua(s:abO)(b0:UInt8)(h:0<s.size)(hb0:s[0]=b0)(hsh:gH (b0.toNat:Int)=5)(w:abP)(hs:s.size<=4611686018427387904):
  Calls prog 247 #[.string s] w (QT s 5 (b0.toNat:Int) w):=by
 have y:(0:Int)<(s.size:Int):=by omega
 obtain⟨E,C,le,D,t⟩:∃sh C le D,cr (b0.toNat:Int)=⟨sh,C,le,D⟩:=⟨_,_,_,_,rfl⟩;have B:E=5:=by
  have:(cr (b0.toNat:Int)).shape=5:=hsh;rw[t]at this;exact this
 subst B;have x:=aa t;clear hsh t;have ab:IntKind.i64.wrap (b0.toNat:Int)=(b0.toNat:Int):=by rw[aQ];have:=b0.toNat_lt;omega
 have j:=aa ((Bk.fresh w PrT #[.int .i64 0,.int .u32 0,.string ⟨#[]⟩,.string ⟨#[]⟩]).alloc (.cells #[.int .i64 (b0.toNat:Int),.int .u32 0,.string ⟨#[]⟩,.string ⟨#[]⟩] PrT));have f:=aa (Bk.fresh (w.alloc (.cells #[.int .i64 0,.int .u32 0,.string ⟨#[]⟩,.string ⟨#[]⟩] PrT)) PrT #[.int .i64 (b0.toNat:Int),.int .u32 0,.string ⟨#[]⟩,.string ⟨#[]⟩]);rw[Ze]at f;have i:=aa (((aq w.heap.size w).alloc (ac _) (.cells #[.int .i64 0,.int .u32 0,.string ⟨#[]⟩,.string ⟨#[]⟩] PrT)).alloc (by simp) (.cells #[.int .i64 (b0.toNat:Int),.int .u32 0,.string ⟨#[]⟩,.string ⟨#[]⟩] PrT));have u:Hid (1<=s.size):=aa h;have v:Hid ((txS s 1 5).2.2=0->(txS s 1 5).2.1<=s.size):=aa (Tn (sh:=5) h);have d:Hid ((dW 5 s 1).err=(txS s 1 5).2.2/\((txS s 1 5).2.2=0->dW 5 s 1=⟨0,(txS s 1 5).1,⟨#[]⟩,(txS s 1 5).2.1,0⟩)):=aa (by
  have z:=Tm (s:=s) (a:=1) (sh:=5) (by decide);refine⟨z.1,λy=>?_⟩;show(⟨0,(dd s 1 0).1,⟨#[]⟩,(dd s 1 0).2.1,(dd s 1 0).2.2⟩:VRead)=_;rw[z.2 y])
 obtain⟨T,N,F,g⟩:∃T N F,txS s 1 5=(T,N,F):=⟨_,_,_,rfl⟩;rw[g]at d v;have k:=aa g;clear g
 by_cases hF:F=0;rotate_left
 ·have o:Hid ((dW 5 s 1).err=F):=aa d.o.1;have e0:(F==0)=false:=ar.2 hF;have G:=aa hF;clear hF;go_enter func247,ntmps247;go_wp2_with fail;refine(Gz (b0.toNat:Int) _).mono ?_;rintro e Y ⟨A,c,rfl,-,b⟩;unfold Hp;rw[x.o];have R1:=aa (Yh j.o b);have q:=aa (Yh f.o b);have l:=aa (Yf i.o b);clear b
  obtain⟨⟨P,Q,R,S⟩,U,V,W,X⟩:=R1.o.four;obtain⟨⟨H,I,J,K⟩,L,f1,M,O⟩:=q.o.four;go_wp2_with fail;refine(QQ s 1 1 rfl 5 _ u.o hs).mono ?_;rintro e Z ⟨rfl,rfl⟩;rw[k.o];simp only;have r:=aa (R1.o.other (p:=⟨w.heap.size+1,2,none⟩) (by simp) (.string T));have m:=aa (l.o.setCell (show w.heap.size<=(⟨w.heap.size+1,2,none⟩:Addr).block by simp) (.string T));go_wp2;refine abZ (QA rfl _ rfl r.o.put_four) rfl ?_;exact QG (n:=0) o.o G.o (cD m.o (ac _) _ _ _ _)
 ·subst hF;have o:Hid (dW 5 s 1=⟨0,T,⟨#[]⟩,N,0⟩):=aa (d.o.2 rfl);go_enter func247,ntmps247;go_wp2_with fail;refine(Gz (b0.toNat:Int) _).mono ?_;rintro e Y ⟨A,c,rfl,-,b⟩;unfold Hp;rw[x.o];have R1:=aa (Yh j.o b);have q:=aa (Yh f.o b);have l:=aa (Yf i.o b);clear b
  obtain⟨⟨P,Q,R,S⟩,U,V,W,X⟩:=R1.o.four;obtain⟨⟨H,I,J,K⟩,L,f1,M,O⟩:=q.o.four;go_wp2_with fail;refine(QQ s 1 1 rfl 5 _ u.o hs).mono ?_;rintro e Z ⟨rfl,rfl⟩;rw[k.o];simp only;have r:=aa (R1.o.other (p:=⟨w.heap.size+1,2,none⟩) (by simp) (.string T));have m:=aa (l.o.setCell (show w.heap.size<=(⟨w.heap.size+1,2,none⟩:Addr).block by simp) (.string T));go_wp2;refine abZ (QA rfl _ rfl r.o.put_four) rfl ?_;exact QO o.o (cD m.o (ac _) _ _ _ _)
theorem TZ(s:abO)(b0:UInt8)(h:0<s.size)(hb0:s[0]=b0)(hsh:gH (b0.toNat:Int)=6)(w:abP)(hs:s.size<=4611686018427387904):
  Calls prog 247 #[.string s] w (QT s 6 (b0.toNat:Int) w):=by
 have y:(0:Int)<(s.size:Int):=by omega
 obtain⟨E,C,le,D,t⟩:∃sh C le D,cr (b0.toNat:Int)=⟨sh,C,le,D⟩:=⟨_,_,_,_,rfl⟩;have B:E=6:=by
  have:(cr (b0.toNat:Int)).shape=6:=hsh;rw[t]at this;exact this
 subst B;have x:=aa t;clear hsh t;have ab:IntKind.i64.wrap (b0.toNat:Int)=(b0.toNat:Int):=by rw[aQ];have:=b0.toNat_lt;omega
 have j:=aa ((Bk.fresh w PrT #[.int .i64 0,.int .u32 0,.string ⟨#[]⟩,.string ⟨#[]⟩]).alloc (.cells #[.int .i64 (b0.toNat:Int),.int .u32 0,.string ⟨#[]⟩,.string ⟨#[]⟩] PrT));have f:=aa (Bk.fresh (w.alloc (.cells #[.int .i64 0,.int .u32 0,.string ⟨#[]⟩,.string ⟨#[]⟩] PrT)) PrT #[.int .i64 (b0.toNat:Int),.int .u32 0,.string ⟨#[]⟩,.string ⟨#[]⟩]);rw[Ze]at f;have i:=aa (((aq w.heap.size w).alloc (ac _) (.cells #[.int .i64 0,.int .u32 0,.string ⟨#[]⟩,.string ⟨#[]⟩] PrT)).alloc (by simp) (.cells #[.int .i64 (b0.toNat:Int),.int .u32 0,.string ⟨#[]⟩,.string ⟨#[]⟩] PrT));have u:Hid (1<=s.size):=aa h;have v:Hid ((txS s 1 6).2.2=0->(txS s 1 6).2.1<=s.size):=aa (Tn (sh:=6) h);have d:Hid ((dW 6 s 1).err=(txS s 1 6).2.2/\((txS s 1 6).2.2=0->dW 6 s 1=⟨0,(txS s 1 6).1,⟨#[]⟩,(txS s 1 6).2.1,0⟩)):=aa (by
  have z:=Um (s:=s) (a:=1);refine⟨z.1,λy=>?_⟩;show(⟨0,(dH s 1 0).1,⟨#[]⟩,(dH s 1 0).2.1,(dH s 1 0).2.2⟩:VRead)=_;rw[z.2 y])
 obtain⟨T,N,F,g⟩:∃T N F,txS s 1 6=(T,N,F):=⟨_,_,_,rfl⟩;rw[g]at d v;have k:=aa g;clear g
 by_cases hF:F=0;rotate_left
 ·have o:Hid ((dW 6 s 1).err=F):=aa d.o.1;have e0:(F==0)=false:=ar.2 hF;have G:=aa hF;clear hF;go_enter func247,ntmps247;go_wp2_with fail;refine(Gz (b0.toNat:Int) _).mono ?_;rintro e Y ⟨A,c,rfl,-,b⟩;unfold Hp;rw[x.o];have R1:=aa (Yh j.o b);have q:=aa (Yh f.o b);have l:=aa (Yf i.o b);clear b
  obtain⟨⟨P,Q,R,S⟩,U,V,W,X⟩:=R1.o.four;obtain⟨⟨H,I,J,K⟩,L,f1,M,O⟩:=q.o.four;go_wp2_with fail;refine(QQ s 1 1 rfl 6 _ u.o hs).mono ?_;rintro e Z ⟨rfl,rfl⟩;rw[k.o];simp only;have r:=aa (R1.o.other (p:=⟨w.heap.size+1,2,none⟩) (by simp) (.string T));have m:=aa (l.o.setCell (show w.heap.size<=(⟨w.heap.size+1,2,none⟩:Addr).block by simp) (.string T));go_wp2;refine abZ (QA rfl _ rfl r.o.put_four) rfl ?_;exact QG (n:=0) o.o G.o (cD m.o (ac _) _ _ _ _)
 ·subst hF;have o:Hid (dW 6 s 1=⟨0,T,⟨#[]⟩,N,0⟩):=aa (d.o.2 rfl);go_enter func247,ntmps247;go_wp2_with fail;refine(Gz (b0.toNat:Int) _).mono ?_;rintro e Y ⟨A,c,rfl,-,b⟩;unfold Hp;rw[x.o];have R1:=aa (Yh j.o b);have q:=aa (Yh f.o b);have l:=aa (Yf i.o b);clear b
  obtain⟨⟨P,Q,R,S⟩,U,V,W,X⟩:=R1.o.four;obtain⟨⟨H,I,J,K⟩,L,f1,M,O⟩:=q.o.four;go_wp2_with fail;refine(QQ s 1 1 rfl 6 _ u.o hs).mono ?_;rintro e Z ⟨rfl,rfl⟩;rw[k.o];simp only;have r:=aa (R1.o.other (p:=⟨w.heap.size+1,2,none⟩) (by simp) (.string T));have m:=aa (l.o.setCell (show w.heap.size<=(⟨w.heap.size+1,2,none⟩:Addr).block by simp) (.string T));go_wp2;refine abZ (QA rfl _ rfl r.o.put_four) rfl ?_;exact QO o.o (cD m.o (ac _) _ _ _ _)
theorem TY(s:abO)(b0:UInt8)(h:0<s.size)(hb0:s[0]=b0)(hsh:gH (b0.toNat:Int)=7)(w:abP)(hs:s.size<=4611686018427387904):
  Calls prog 247 #[.string s] w (QT s 7 (b0.toNat:Int) w):=by
 have f:(0:Int)<(s.size:Int):=by omega
 obtain⟨R,P,le,Q,B⟩:∃sh P le Q,cr (b0.toNat:Int)=⟨sh,P,le,Q⟩:=⟨_,_,_,_,rfl⟩;have O:R=7:=by
  have:(cr (b0.toNat:Int)).shape=7:=hsh;rw[B]at this;exact this
 subst O;have I:=aa B;clear hsh B;have aw:IntKind.i64.wrap (b0.toNat:Int)=(b0.toNat:Int):=by rw[aQ];have:=b0.toNat_lt;omega
 have q:=aa ((Bk.fresh w PrT #[.int .i64 0,.int .u32 0,.string ⟨#[]⟩,.string ⟨#[]⟩]).alloc (.cells #[.int .i64 (b0.toNat:Int),.int .u32 0,.string ⟨#[]⟩,.string ⟨#[]⟩] PrT));have k:=aa (Bk.fresh (w.alloc (.cells #[.int .i64 0,.int .u32 0,.string ⟨#[]⟩,.string ⟨#[]⟩] PrT)) PrT #[.int .i64 (b0.toNat:Int),.int .u32 0,.string ⟨#[]⟩,.string ⟨#[]⟩]);rw[Ze]at k;have m:=aa (((aq w.heap.size w).alloc (ac _) (.cells #[.int .i64 0,.int .u32 0,.string ⟨#[]⟩,.string ⟨#[]⟩] PrT)).alloc (by simp) (.cells #[.int .i64 (b0.toNat:Int),.int .u32 0,.string ⟨#[]⟩,.string ⟨#[]⟩] PrT));have E:Hid (1<=s.size):=aa h;have i:Hid ((txS s 1 7).2.2=0->(txS s 1 7).2.1<=s.size):=aa (Tn (sh:=7) h);have b:Hid ((dW 7 s 1).err=(if(txS s 1 7).2.2=0 then(txS s (txS s 1 7).2.1 7).2.2 else(txS s 1 7).2.2)/\((txS s 1 7).2.2=0->(txS s (txS s 1 7).2.1 7).2.2=0->dW 7 s 1=⟨0,(txS s 1 7).1,(txS s (txS s 1 7).2.1 7).1,(txS s (txS s 1 7).2.1 7).2.1,0⟩)):=aa (by
  have t:=Tm (s:=s) (a:=1) (sh:=7) (by decide);have M:=Tm (s:=s) (a:=(txS s 1 7).2.1) (sh:=7) (by decide);refine⟨?_,λf h1=>?_⟩
  ·show(dd s (dd s 1 0).2.1 (dd s 1 0).2.2).2.2=_;by_cases f:(txS s 1 7).2.2=0
   ·rw[if_pos f,t.2 f];exact M.1
   ·rw[Fl f,yT (by rw[t.1];exact f),t.1]
  ·show(⟨0,(dd s 1 0).1,(dd s (dd s 1 0).2.1 (dd s 1 0).2.2).1,(dd s (dd s 1 0).2.1 (dd s 1 0).2.2).2.1,(dd s (dd s 1 0).2.1 (dd s 1 0).2.2).2.2⟩:VRead)=_;rw[t.2 f];simp only;rw[M.2 h1])
 obtain⟨T,N,F,l⟩:∃T N F,txS s 1 7=(T,N,F):=⟨_,_,_,rfl⟩;rw[l]at b i;simp only at b i;have u:=aa l;clear l
 by_cases hF:F=0;rotate_left
 ·have W:Hid ((dW 7 s 1).err=F):=aa (by rw[b.o.1,Fl hF]);have e0:(F==0)=false:=ar.2 hF;have V:=aa hF;clear hF;go_enter func247,ntmps247;go_wp2_with fail;refine(Gz (b0.toNat:Int) _).mono ?_;rintro e w1 ⟨A,c,rfl,-,d⟩;unfold Hp;rw[I.o];have R1:=aa (Yh q.o d);have z:=aa (Yh k.o d);have v:=aa (Yf m.o d);clear d
  obtain⟨⟨r0,r1,r2,r3⟩,s0,s1,s2,s3⟩:=R1.o.four;obtain⟨⟨Y,Z,c2,c3⟩,f0,f1,f2,f3⟩:=z.o.four;go_wp2_with fail;refine(QQ s 1 1 rfl 7 _ E.o hs).mono ?_;rintro e S ⟨rfl,rfl⟩;rw[u.o];simp only;have r:=aa (R1.o.other (p:=⟨w.heap.size+1,2,none⟩) (by simp) (.string T));have o:=aa (v.o.setCell (show w.heap.size<=(⟨w.heap.size+1,2,none⟩:Addr).block by simp) (.string T));go_wp2;refine abZ (QA rfl _ rfl r.o.put_four) rfl ?_;exact QG (n:=0) W.o V.o (cD o.o (ac _) _ _ _ _)
 subst hF;have H:Hid (N<=s.size):=aa (i.o rfl);have j:=aa (And.intro (b.o.1.trans (if_pos rfl)) (b.o.2 rfl));obtain⟨L,N2,U,g⟩:∃T N' F,txS s N 7=(T,N',F):=⟨_,_,_,rfl⟩;rw[g]at j;simp only at j;have y:=aa g;clear g b i
 have K:=aa j.o.1;have r:∀x,Bk x w.heap.size PrT #[.int .i64 0,.int .u32 0,.string ⟨#[]⟩,.string ⟨#[]⟩]->Bk ((x.setCell ⟨w.heap.size+1,2,none⟩ (.string T)).setCell ⟨w.heap.size+1,3,none⟩ (.string L)) w.heap.size PrT #[.int .i64 0,.int .u32 0,.string ⟨#[]⟩,.string ⟨#[]⟩]:=λx C=>(C.other (p:=⟨w.heap.size+1,2,none⟩) (by simp) _).other (p:=⟨w.heap.size+1,3,none⟩) (by simp) _;have o:∀x,abQ w x->abQ w ((x.setCell ⟨w.heap.size+1,2,none⟩ (.string T)).setCell ⟨w.heap.size+1,3,none⟩ (.string L)):=λx C=>(C.setCell (show w.heap.size<=(⟨w.heap.size+1,2,none⟩:Addr).block by simp) _).setCell (show w.heap.size<=(⟨w.heap.size+1,3,none⟩:Addr).block by simp) _;have J:=aa r;have G:=aa o
 clear r o;go_enter func247,ntmps247;go_wp2_with fail;refine(Gz (b0.toNat:Int) _).mono ?_;rintro e w1 ⟨A,c,rfl,-,d⟩;unfold Hp;rw[I.o];have R1:=aa (Yh q.o d);have z:=aa (Yh k.o d);have v:=aa (Yf m.o d);clear d
 obtain⟨⟨r0,r1,r2,r3⟩,s0,s1,s2,s3⟩:=R1.o.four;obtain⟨⟨Y,Z,c2,c3⟩,f0,f1,f2,f3⟩:=z.o.four;go_wp2_with fail;refine(QQ s 1 1 rfl 7 _ E.o hs).mono ?_;rintro e S ⟨rfl,rfl⟩;rw[u.o];simp only;go_wp2_with fail;refine(QQ s N N rfl 7 _ H.o hs).mono ?_;rintro e S ⟨rfl,rfl⟩;rw[y.o];simp only;have X:=aa (J.o _ R1.o);have D:=aa (G.o _ v.o);go_wp2;refine abZ (QA rfl _ rfl X.o.put_four) rfl ?_;by_cases hF:U=0
 ·subst hF;exact QO (j.o.2 rfl) (cD D.o (ac _) _ _ _ _)
 ·exact QG (n:=0) K.o hF (cD D.o (ac _) _ _ _ _)
theorem Sz(s:abO)(b0:UInt8)(h:0<s.size)(hb0:s[0]=b0)(sh:Nat)(hsh:gH (b0.toNat:Int)=sh)(h1:1<=sh)(h7:sh<=7)(w:abP)(hs:s.size<=4611686018427387904):
  Calls prog 247 #[.string s] w (QT s sh (b0.toNat:Int) w):=by
 obtain rfl| rfl| rfl| rfl| rfl| rfl| rfl:sh=1\/sh=2\/sh=3\/sh=4\/sh=5\/sh=6\/sh=7:=by omega
 ·exact Ue s b0 h hb0 hsh w hs
 ·exact Ud s b0 h hb0 hsh w hs
 ·exact Uc s b0 h hb0 hsh w hs
 ·exact Ub s b0 h hb0 hsh w hs
 ·exact Ua s b0 h hb0 hsh w hs
 ·exact TZ s b0 h hb0 hsh w hs
 ·exact TY s b0 h hb0 hsh w hs
end
section
theorem Iu(ha:a<=T.size)(b:Nat)(e n:Int):bp T (a+b) e n=((bp (T.extract a T.size) b e n).1,a+(bp (T.extract a T.size) b e n).2.1,(bp (T.extract a T.size) b e n).2.2):=by
 have g:((T.extract a T.size).size:Int)=(T.size:Int) - a:=by rw[aj];omega
 have f:jQ T (a+b) n=jQ (T.extract a T.size) b n:=by
  unfold jQ;rw[g]
  congr 1
  exact qf.2 (by omega)
 unfold bp;rw[f];by_cases d:e=0
 ·rw[if_pos d,if_pos d];by_cases c:jQ (T.extract a T.size) b n=true
  ·have h:0<=n/\n<=((T.extract a T.size).size:Int) - b:=by simpa [jQ]using c
   rw[if_pos c,if_pos c,Qp (by omega)];simp only[bG,Hj];exact⟨by rw[Nat.add_assoc],by omega⟩
  ·rw[Fl c,Fl c]
 ·rw[Fl d,Fl d]
theorem Ku(ha:a<=T.size)(b:Nat)(e:Int):dH T (a+b) e=((dH (T.extract a T.size) b e).1,a+(dH (T.extract a T.size) b e).2.1,(dH (T.extract a T.size) b e).2.2):=by
 unfold dH;rw[Iu ha b e 2];simp only;rw[Iu ha]
theorem Jq(ha:a<=T.size)(b:Nat)(e:Int):dd T (a+b) e=((dd (T.extract a T.size) b e).1,a+(dd (T.extract a T.size) b e).2.1,(dd (T.extract a T.size) b e).2.2):=by
 unfold dd;rw[Ku ha]
theorem Mq(ha:a<=T.size)(b:Nat)(e:Int):jJ T (a+b) e=((jJ (T.extract a T.size) b e).1,a+(jJ (T.extract a T.size) b e).2.1,(jJ (T.extract a T.size) b e).2.2):=by
 unfold jJ;rw[Jq ha b e];simp only;rw[Jq ha]
theorem MW(b:Nat):mz T (a+b)=((mz (T.extract a T.size) b).1,a+(mz (T.extract a T.size) b).2.1,(mz (T.extract a T.size) b).2.2):=by
 unfold mz;rw[ju,ab2];split
 ·simp only[Nat.add_assoc]
 ·rfl
theorem MX(ha:a<=T.size)(sh b:Nat):dW sh T (a+b)= {dW sh (T.extract a T.size) b with at_:=a+(dW sh (T.extract a T.size) b).at_}:=by
 unfold dW;rw[Iu ha b 0 1,Iu ha b 0 2,Iu ha b 0 4,MW,Jq ha,Ku ha,Mq ha]
 repeat' split
 all_goals rfl
structure LAt (kind:Int) (T:abO) (m a:Nat) (out:List Pr):Prop where
 le:a<=T.size
 lt:T.size<a+m
 ck:ckL kind out
 len:out.length<=1000
 eq:fq kind T=iy kind T m a (Zq out) out
theorem LAt.start(kind:Int)(T:abO):LAt kind T (T.size+1) 0 []:=⟨by omega,by omega,by simp[ckL],ag _,rfl⟩
section
variable {kind:Int} {T:abO} {m a sh:Nat} {out:List Pr} {b0:UInt8}
theorem LAt.done(v:LAt kind T m a out)(h:¬a<T.size):fq kind T=if Kn out=true then([],9)else(out,0):=by
 obtain⟨k,rfl⟩:∃k,m=k+1:=⟨m- 1,by have:=v.lt;have:=v.le;omega⟩;have b:T.size<=a:=by omega
 rw[v.eq,iy,if_pos b,LV]
theorem TJ(h:a<T.size)(hx:0<(T.extract a T.size).size)(hb:(T.extract a T.size)[0]=b0):Y4 T a=b0.toNat:=by
 refine(xd (rest:=(ls T).drop (a+1)) ?_).1;have b:a<(ls T).length:=by rw[aN];exact h
 rw[bQ b]
 congr 1
 rw[<-hb];rw[<-uY (T.extract a T.size) 0 hx];simp only[ju];simp
structure Rnd (kind:Int) (T:abO) (m a:Nat) (out:List Pr) (b0:UInt8) (sh:Nat):Prop where
 at_:LAt kind T m a out
 lt:a<T.size
 id:Y4 T a=b0.toNat
 shape:gH (b0.toNat:Int)=sh
def rdQ(sh:Nat)(b0:UInt8)(X:abO):Pr:=⟨b0.toNat,(dW sh X 1).n,(dW sh X 1).text,(dW sh X 1).value⟩
theorem Rnd.go(r:Rnd kind T m a out b0 sh):∃k,m=k+1/\fq kind T=(if ng (cr (b0.toNat:Int)) kind=false then([],9)
  else if(dW sh (T.extract a T.size) 1).err≠0 then([],(dW sh (T.extract a T.size) 1).err)
  else if de (cr (rdQ sh b0 (T.extract a T.size)).id) kind (rdQ sh b0 (T.extract a T.size))≠0 then([],de (cr (rdQ sh b0 (T.extract a T.size)).id) kind (rdQ sh b0 (T.extract a T.size)))
  else if iC (Zq out) kind b0.toNat=true then([],9)else if out.length=1000 then([],4)
  else iy kind T k (a+(dW sh (T.extract a T.size) 1).at_) (upd (Zq out) b0.toNat (Zq out b0.toNat+1)) (out++[rdQ sh b0 (T.extract a T.size)])):=by
 obtain⟨k,rfl⟩:∃k,m=k+1:=⟨m- 1,by have:=r.at_.lt;have:=r.lt;omega⟩;refine⟨k,rfl,?_⟩;rw[r.at_.eq,iy,Fl (by have:=r.lt;omega)];have b:(cr ((Y4 T a:Nat):Int)).shape=sh:=by rw[r.id];exact r.shape
 have c:=MX (T:=T) (a:=a) r.at_.le sh 1;rw[b,c,r.id];rfl
theorem Rnd.no(r:Rnd kind T m a out b0 sh)(h:Jv kind (b0.toNat:Int)=false):fq kind T=([],9):=by
 obtain⟨k,-,b⟩:=r.go;rw[b,if_pos (show ng (cr (b0.toNat:Int)) kind=false from h)]
theorem Rnd.err(r:Rnd kind T m a out b0 sh)(h:Jv kind (b0.toNat:Int)=true)(h1:(dW sh (T.extract a T.size) 1).err≠0):fq kind T=([],(dW sh (T.extract a T.size) 1).err):=by
 obtain⟨k,-,b⟩:=r.go;rw[b,Fl (λx=>by rw[show ng _ kind=true from h]at x;cases x),if_pos h1]
theorem Rnd.bad(r:Rnd kind T m a out b0 sh)(h:Jv kind (b0.toNat:Int)=true)(h1:(dW sh (T.extract a T.size) 1).err=0)(hq:rdQ sh b0 (T.extract a T.size)=q)(h2:de (cr q.id) kind q≠0):fq kind T=([],de (cr q.id) kind q):=by
 obtain⟨k,-,b⟩:=r.go;subst hq;rw[b,Fl (λx=>by rw[show ng _ kind=true from h]at x;cases x),Fl (by simpa using h1),if_pos h2]
theorem Rnd.twice(r:Rnd kind T m a out b0 sh)(h:Jv kind (b0.toNat:Int)=true)(h1:(dW sh (T.extract a T.size) 1).err=0)(hq:rdQ sh b0 (T.extract a T.size)=q)(h2:de (cr q.id) kind q=0)(h3:twB kind out q.id=true):fq kind T=([],9):=by
 obtain⟨k,-,b⟩:=r.go;rw[Jy r.at_.ck h2]at h3;subst hq;rw[b,Fl (λx=>by rw[show ng _ kind=true from h]at x;cases x),Fl (by simpa using h1),Fl (by simpa using h2)];rw[show iC (Zq out) kind b0.toNat=true from h3];rfl
theorem Rnd.rest(r:Rnd kind T m a out b0 sh)(h:Jv kind (b0.toNat:Int)=true)(h1:(dW sh (T.extract a T.size) 1).err=0)(hq:rdQ sh b0 (T.extract a T.size)=q)(h2:de (cr q.id) kind q=0)(h3:twB kind out q.id=false):
  (out.length=1000->fq kind T=([],4))/\(out.length≠1000->∃k,LAt kind T k (a+(dW sh (T.extract a T.size) 1).at_) (out++[q])):=by
 obtain⟨k,d,b⟩:=r.go;rw[Jy r.at_.ck h2]at h3;subst hq;rw[Fl (λx=>by rw[show ng _ kind=true from h]at x;cases x),Fl (by simpa using h1),Fl (by simpa using h2)]at b;rw[show iC (Zq out) kind b0.toNat=false from h3]at b;rw[Fl (by simp)]at b;refine⟨λc=>by rw[b,if_pos c],λc=>⟨k,?_,?_,?_,?_,?_⟩⟩
 ·have:=(xO (t:=T.extract a T.size) (a:=1) (by rw[aj];have:=r.lt;omega) sh).2;rw[aj]at this;have:=r.lt;omega
 ·have:=(xO (t:=T.extract a T.size) (a:=1) (by rw[aj];have:=r.lt;omega) sh).1;have:=r.at_.lt;omega
 ·refine ZL.2 ⟨r.at_.ck,?_⟩;intro q hq;rw[gA.1 hq];exact h2
 ·rw[List.length_append];have:=r.at_.len;simp only[qU];omega
 ·rw[b,Fl c];rw[<-Lh out (rdQ sh b0 (T.extract a T.size))];rfl
end
end
def Uj:Value->Nat
 | .string s=>s.size
 | _=>0
theorem SW{N K:Nat}(hr:YT (ls s)=(N,K,0))(hl:K+N<=s.size)(hT:s.extract K (K+N)=T){r:List Pr×Int}(h:fq kind T=r):aZ kind s=if r.2≠0 then([],0,r.2)else(r.1,K+N,0):=by
 subst hT h;unfold aZ;rw[hr];rw[Fl (by simp),Fl (by simp only;omega)]
theorem Tu{base:Nat}{v:Value}(h:w.ownsRow base 71 4 v n (prs l)):∃A c,v= .slice A n c/\n<=c/\Rd w w.heap.size 4 A n (prs l):=jK h
theorem Sk(kind:Int)(s:abO)(w:abP)(hs:s.size<=140737488351232):
  Calls prog 182 #[.int .i64 kind,.string s] w (yQ (aZ kind s) w):=by
 obtain⟨N,K,F,Q⟩:∃N K F,YT (ls s)=(N,K,F):=⟨_,_,_,rfl⟩;have HR:=aa Q;by_cases hF:F=0;rotate_left
 ·have d:Hid (aZ kind s=([],0,F)):=aa (by unfold aZ;rw[Q,if_pos hF]);have e0:(F !=0)=true:=aA.2 hF;clear Q hF;go_enter func182,ntmps182;go_wp2_with fail;refine(QM s _ (by omega)).mono ?_;rintro e w1 ⟨rfl,rfl⟩;rw[HR.o];simp only;go_wp2;go_ret3;exact ll d.o (aq _ _)
 subst hF;have aO:N<=268435455/\K<=4:=by
  obtain⟨-,h2,h3⟩:=mE Q;refine⟨h3,?_⟩;rw[h2,LG];split;omega;split;omega;split;omega;omega
 by_cases hl:K+N<=s.size;rotate_left
 ·have d:Hid (aZ kind s=([],0,3)):=aa (by unfold aZ;rw[Q,Fl (by simp),if_pos (by simp only;omega)]);have w0:IntKind.i64.wrap ((s.size:Int) - (K:Int))=(s.size:Int) - (K:Int):=by rw[aQ];omega
  have d0:decide ((s.size:Int) - (K:Int)<(N:Int))=true:=au (by omega);clear Q hl aO;go_enter func182,ntmps182;go_wp2_with fail;refine(QM s _ (by omega)).mono ?_;rintro e w1 ⟨rfl,rfl⟩;rw[HR.o];simp only;go_wp2;go_ret3;exact ll d.o (aq _ _)
 obtain⟨T,hT⟩:∃T,s.extract K (K+N)=T:=⟨_,rfl⟩;have aP:T.size<=140737488351232:=by rw[<-hT,aj];omega
 have HW:=aa (λr=>SW (kind:=kind) (r:=r) Q hl hT);have br:=aa aP;have bK:Hid (((K+N:Nat):Int)=(K:Int)+(N:Int)):=aa (by omega);have w0:IntKind.i64.wrap ((s.size:Int) - (K:Int))=(s.size:Int) - (K:Int):=by rw[aQ];omega
 have w2:IntKind.i64.wrap ((K:Int)+(N:Int))=(K:Int)+(N:Int):=by rw[aQ];omega
 have d0:decide ((s.size:Int) - (K:Int)<(N:Int))=false:=ah (by omega);have i1:(0:Int)<=(K:Int):=by omega
 have i2:(K:Int)<=(K:Int)+(N:Int):=by omega
 have i3:(K:Int)+(N:Int)<=(s.size:Int):=by omega
 have hcut:s.extract K (K+N)=T:=hT;have i4:((K:Int)+(N:Int)).toNat=K+N:=by omega
 have bq:Hid (T.extract 0 T.size=T):=aa (by simp);clear Q hl aO hT aP;go_enter func182,ntmps182;go_wp2_with fail;refine(QM s _ (by omega)).mono ?_;rintro e w1 ⟨rfl,rfl⟩;rw[HR.o];simp only;go_wp2
 go_loopw [10,11] (λbu W wr=>∃(m a:Nat) (o:List Pr),LAt kind T m a o/\W= .string (T.extract a T.size)/\wr.ownsRow w.heap.size 71 4 bu o.length (prs o)/\abQ w wr) (λ_ W _=>Uj W)
 case atStart=>exact⟨T.size+1,0,[],LAt.start kind T,by rw[bq.o],dD _ _ _ _,aq _ _⟩
 case round=>
  obtain⟨m,a,o,aR,rfl,aC,ax⟩:=hrel;have HA:=aa aR;have HO:=aa aC;have M:=aa ax
  clear aR aC ax;by_cases R:a<T.size;rotate_left
  ·obtain⟨A,c,rfl,hc,S⟩:=Tu HO.o;have D:=aa S;have HC:=aa hc
   have d:=aa (HW.o _ (HA.o.done R));have he:(T.extract a T.size).toList.isEmpty=true:=by rw[kR];exact au (by rw[aj];omega)
   have HL:=aa HA.o.len;clear S hc R hcut;generalize T.extract a T.size=X at*;cases G:Kn o
   ·rw[G]at d;have af:=aa G;clear G
    go_wp2_with fail;refine Yg (JN o o.length rfl A c _ D.o (by have:=HL.o;omega)) λw3 b=>?_;rw[af.o];have q:=aa (Yf M.o b);have aY:=aa ((D.o.below b).wider b.size);clear b
    go_wp2;go_ret3;exact⟨A,c,by rw[d.o];(try dsimp only);rfl,by rw[d.o];exact HC.o,by rw[d.o];exact aY.o,q.o⟩
   ·rw[G]at d;have af:=aa G;clear G
    go_wp2_with fail;refine Yg (JN o o.length rfl A c _ D.o (by have:=HL.o;omega)) λw3 b=>?_;rw[af.o];have q:=aa (Yf M.o b);clear b
    go_wp2;go_ret3;exact ll d.o q.o
  obtain⟨X,V⟩:∃X,T.extract a T.size=X:=⟨_,rfl⟩;have aW:X.size=T.size- a:=by rw[<-V,aj];omega
  have aE:0<X.size:=by omega
  have aI:Hid (∀k,X.extract k X.size=T.extract (a+k) T.size):=aa (λk=>by
   rw[aW,<-V,Qp (by omega),show a+(T.size- a)=T.size by omega])
  obtain⟨b0,aS⟩:∃b0,X[0]=b0:=⟨_,rfl⟩;have bd:=aa (show X[0]=b0 from aS);have bg:Hid (Y4 T a=b0.toNat):=aa (TJ R (by rw[V];exact aE) (by subst V;exact aS));obtain⟨v,aD⟩:∃v,gH (b0.toNat:Int)=v:=⟨_,rfl⟩;have RN:=aa (show Rnd kind T m a o b0 v from⟨HA.o,R,bg.o,aD⟩);have ao:=aa aD;have bL:X.toList.isEmpty=false:=by rw[kR];exact ah (by omega)
  have bE:(0:Int)<(X.size:Int):=by omega
  have aN:Hid (X.size<=140737488351232):=aa (by have:=br.o;omega);have bM:IntKind.i64.wrap (b0.toNat:Int)=(b0.toNat:Int):=by rw[aQ];have:=b0.toNat_lt;omega
  have Z:=aa (xO (t:=X) (a:=1) aE v);have av:=aa (xN (t:=X) (a:=1) aN.o v);have y:=aa V;have aM:=aa aE;rw[V];clear aD R aW V hcut;cases z:Jv kind (b0.toNat:Int)
  ·have d:=aa (HW.o _ (RN.o.no z));have O:=aa z;clear z
   go_wp2_with fail;refine Yg (Bc kind (b0.toNat:Int) _) λw3 b=>?_;rw[O.o];have q:=aa (Yf M.o b);clear b
   go_wp2;go_ret3;exact ll d.o q.o
  have O:=aa z;clear z
  have an:=aa (sI (id:=(b0.toNat:Int)) rfl (show ng _ kind=true from O.o));go_wp2_with fail;refine Yg (Bc kind (b0.toNat:Int) _) λw3 b=>?_;rw[O.o];have q:=aa (Yf M.o b);have bk:=aa (dV HO.o b);clear b
  go_wp2_with fail;refine(Sz X b0 aM.o bd.o v ao.o (by rw[<-ao.o];exact an.o.1) (by rw[<-ao.o];exact an.o.2) _ (by have:=aN.o;omega)).mono ?_;rintro e w4 ⟨P,k,rfl,aU,b⟩;have Y:=aa (Yf q.o b);have bl:=aa (dV bk.o b)
  have ai:=aa aU;clear b aU;by_cases f:(dW v X 1).err=0;rotate_left
  ·have p:=HW.o _ (RN.o.err O.o (by rw[y.o];exact f));rw[y.o,if_pos f]at p;have d:=aa p;obtain⟨E,hE⟩:∃E,(dW v X 1).err=E:=⟨_,rfl⟩;rw[hE]at f d⊢;have e0:(E==0)=false:=ar.2 f;have e1:(E !=0)=true:=aA.2 f;have B:=aa (Y.o.alloc Y.o.size (.cells #[.int .i64 P.id,.int .u32 P.n,.string P.text,.string P.value] 71));clear f p hE ai;unfold Pr.val;go_wp2;go_ret3;exact ll d.o B.o
  obtain⟨rfl,rfl⟩:=ai.o f;obtain⟨i,j,l,L,hV⟩:∃i j l L,dW v X 1=⟨i,j,l,L,0⟩:=⟨_,_,_,_,by rw[<-f]⟩;have RQ:Hid (rdQ v b0 (T.extract a T.size)=⟨b0.toNat,i,j,l⟩):=aa (by rw[y.o];unfold rdQ;rw[hV]);have U:Hid ((dW v (T.extract a T.size) 1).err=0):=aa (by rw[y.o];exact f);have bc:Hid ((dW v (T.extract a T.size) 1).at_=L):=aa (by rw[y.o,hV]);rw[hV]at Z av⊢;clear hV f ai;simp only at Z av⊢;have am:Hid (Pr.Ok ⟨b0.toNat,i,j,l⟩):=aa (rU av.o);have aL:=aa (Bk.fresh w4 71 #[.int .i64 (b0.toNat:Int),.int .u32 i,.string j,.string l]);have B:=aa (Y.o.alloc Y.o.size (.cells #[.int .i64 (b0.toNat:Int),.int .u32 i,.string j,.string l] 71));have bm:=aa (bl.o.alloc (.cells #[.int .i64 (b0.toNat:Int),.int .u32 i,.string j,.string l] 71));unfold Pr.val;by_cases u:de (cr (b0.toNat:Int)) kind ⟨b0.toNat,i,j,l⟩=0;rotate_left
  ·have p:=HW.o _ (RN.o.bad O.o U.o RQ.o u);simp only at p;rw[if_pos u]at p;have d:=aa p;obtain⟨E,hE⟩:∃E,de (cr (b0.toNat:Int)) kind ⟨b0.toNat,i,j,l⟩=E:=⟨_,rfl⟩;rw[hE]at u d;have HE:=aa hE;have e0:(E==0)=false:=ar.2 u;have e1:(E !=0)=true:=aA.2 u;clear u p hE;go_wp2_with fail;refine Yg (Jp kind ⟨b0.toNat,i,j,l⟩ am.o _) λw5 b=>?_;rw[HE.o];have C:=aa (Yf B.o b);clear b
   go_wp2;go_ret3;exact ll d.o C.o
  have ae:=aa u;clear u
  go_wp2_with fail;refine Yg (Jp kind ⟨b0.toNat,i,j,l⟩ am.o _) λw5 b=>?_;rw[ae.o];have C:=aa (Yf B.o b);have aK:=aa (dV bm.o b);have ak:=aa (Yh aL.o b);clear b
  obtain⟨⟨c0,c1,c2,c3⟩,f0,f1,f2,f3⟩:=ak.o.four;obtain⟨A,c,rfl,hc,S⟩:=Tu aK.o;have D:=aa S;have HC:=aa hc;have I:=aa HA.o.len
  clear S hc;cases H:twB kind o (b0.toNat:Int);rotate_left
  ·have p:=HW.o _ (RN.o.twice O.o U.o RQ.o ae.o H);have d:=aa p;have ap:=aa H;clear p H;go_wp2_with fail;refine Yg (Lo kind (b0.toNat:Int) o o.length rfl A c _ D.o (by have:=I.o;omega)) λw6 b=>?_;rw[ap.o];have h:=aa (Yf C.o b);clear b
   go_wp2;go_ret3;exact ll d.o h.o
  have J:=aa (RN.o.rest O.o U.o RQ.o ae.o H);have ap:=aa H;clear H;go_wp2_with fail;refine Yg (Lo kind (b0.toNat:Int) o o.length rfl A c _ D.o (by have:=I.o;omega)) λw6 b=>?_;rw[ap.o];have h:=aa (Yf C.o b);have ag:=aa (dV aK.o b);have bo:=aa (Yh ak.o b);clear b c0 c1 c2 c3 f0 f1 f2 f3
  obtain⟨⟨c0,c1,c2,c3⟩,f0,f1,f2,f3⟩:=bo.o.four;by_cases x:o.length=1000
  ·have p:=HW.o _ (J.o.1 x);have d:=aa p;have dF:decide ((1000:Int)<=(o.length:Int))=true:=au (by omega);clear p x;go_wp2;go_ret3;exact ll d.o h.o
  obtain⟨m',aB⟩:=J.o.2 x;rw[bc.o]at aB;have bi:=aa aB;have dF:decide ((1000:Int)<=(o.length:Int))=false:=ah (by have:=I.o;omega);have aJ:Hid (o.length<1000):=aa (by have:=I.o;omega);have v1:(0:Int)<=(L:Int):=by omega
  have v2:(L:Int)<=(X.size:Int):=by have:=Z.o.2;omega
  have HQ:Hid (∀g,(Value.slice A o.length c).ownBlock=some g->w.heap.size<=g):=aa (λg hg=>(cX ag.o g hg).1);clear aB x J;go_wp2_with fail
  go_region_law ((refine mS (by rfl) _ _ _ (by rfl) w.heap.size 71 _ 4 48 underlying24 zZ rfl (by decide) (.slice A o.length c) _ _ (by rfl) (by first| exact lV (ag.o.alloc _) 1| exact(lV ag.o 1).alloc _) _ _ 1 1 (prs [⟨b0.toNat,i,j,l⟩]) (by rfl) (by first| exact(aby w6 ⟨b0.toNat,i,j,l⟩).drewN 1| exact aby _ ⟨b0.toNat,i,j,l⟩) (Eb _) (by have:=aJ.o;unfold maxLen;omega) (by have:=aJ.o;omega) (by have:=h.o.size;simp;omega) ?_;intro v' w7 ab az a8))
  have aT:abQ w w7:=by
   first
    | exact kz (aV (h.o.alloc h.o.size _) 1) az (aV (h.o.alloc h.o.size _) 1).size HQ.o
    | exact kz ((aV h.o 1).alloc (aV h.o 1).size _) az ((aV h.o 1).alloc (aV h.o 1).size _).size HQ.o
  have be:=aa aT;have bn:=aa ab;have bs:Hid (Uj (.string (T.extract (a+L) T.size))<X.size):=aa (by
   have h1:=Z.o.1;have h2:=aM.o;show(T.extract (a+L) T.size).size<X.size;rw[<-y.o,aj,aj];rw[<-y.o,aj]at h2;omega)
  clear aT ab az a8 c0 c1 c2 c3 f0 f1 f2 f3;go_wp2;go_roundw
  case rel=>
   have hrel:∃(m a:Nat) (o:List Pr),LAt kind T m a o/\(Value.string (X.extract L X.size))= .string (T.extract a T.size)/\w7.ownsRow w.heap.size 71 4 v' o.length (prs o)/\abQ w w7:=
    ⟨m',a+L,o++[⟨b0.toNat,i,j,l⟩],bi.o,by rw[aI.o],by rw[wK,List.length_append];exact bn.o,be.o⟩
   (repeat apply Exists.intro)
   exact⟨hrel,rfl⟩
  case measure=>
   rw[aI.o];exact bs.o
