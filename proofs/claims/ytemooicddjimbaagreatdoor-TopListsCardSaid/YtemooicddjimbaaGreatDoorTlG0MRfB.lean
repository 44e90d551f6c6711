/- Parts: MRfB, RfM, MRfC. -/
import Derived.Test.YtemooicddjimbaaGreatDoorTlG0MRfA
import Derived.Deep.RegionLaw
import Derived.Test.YtemooicddjimbaaGreatDoorTlG0FilC
set_option maxRecDepth 10000
set_option maxHeartbeats 8000000
namespace Go.Proofs.YtemooicddjimbaaGreatDoor
open Go.RowKit Go.Proofs.Tryz
theorem Lg{P:Program}(src dst e:TypeId)(hs:P.underlying src=some (.slice e))(he:P.underlying e=some (.int .u8))(hd:P.underlying dst=some .string)(W:World)(a:UInt8):
  (convert src dst (.slice (some ⟨W.heap.size,0,none⟩) 1 1)).run P (W.alloc (.cells #[.int .u8 (a.toNat:Int)] e))= .ok (.string ⟨#[a]⟩) (W.alloc (.cells #[.int .u8 (a.toNat:Int)] e)):=by
 have h:=Rd.lit W #[.int .u8 (a.toNat:Int)] e (xs:=bys [a]) rfl (ed _) rfl;exact ni src dst e hs he hd 1 h
theorem NG{P:Program}(src dst e:TypeId)(hs:P.underlying src=some (.slice e))(he:P.underlying e=some (.int .u8))(hd:P.underlying dst=some .string)(W:World)(a:UInt8):
  (convert src dst (.slice (some ⟨W.heap.size,0,none⟩) 1 1)).run P (W.alloc (.cells #[.int .u8 (a.toNat:Int)] e)).drew= .ok (.string ⟨#[a]⟩) (W.alloc (.cells #[.int .u8 (a.toNat:Int)] e)).drew:=by
 have h:=(Rd.lit W #[.int .u8 (a.toNat:Int)] e (xs:=bys [a]) rfl (ed _) rfl).drewN 1;exact ni src dst e hs he hd 1 h
theorem OJ{P:Program}(src dst e:TypeId)(hs:P.underlying src=some (.slice e))(he:P.underlying e=some (.int .u8))(hd:P.underlying dst=some .string){W z:World}{a:UInt8}
  (hb:Below (W.alloc (.cells #[.int .u8 (a.toNat:Int)] e)).drew.heap.size (W.alloc (.cells #[.int .u8 (a.toNat:Int)] e)).drew z):
  (convert src dst (.slice (some ⟨W.heap.size,0,none⟩) 1 1)).run P z= .ok (.string ⟨#[a]⟩) z:=by
 have h:=((Rd.lit W #[.int .u8 (a.toNat:Int)] e (xs:=bys [a]) rfl (ed _) rfl).drewN 1).below (hb.mono (by simp[World.drew]));exact ni src dst e hs he hd 1 h
theorem PB.b0{w x z:World}(h:Below w.heap.size w x)(hb:Below x.drew.heap.size x.drew z):Below w.heap.size w z:=(aV h 1).trans (hb.mono (aV h 1).size)
theorem PB.b1{w x z:World}{ob:Obj}(h:Below w.heap.size w x)(hb:Below (x.alloc ob).drew.heap.size (x.alloc ob).drew z):Below w.heap.size w z:=PB.b0 (h.alloc h.size ob) hb
theorem PB.b2{w x z:World}{ob:Obj}(h:Below w.heap.size w x)(hb:Below (x.drew.alloc ob).heap.size (x.drew.alloc ob) z):Below w.heap.size w z:=((aV h 1).alloc (aV h 1).size ob).trans (hb.mono ((aV h 1).alloc (aV h 1).size ob).size)
theorem PO{id:Int}(h:0<=id/\id<64):id=((UInt8.ofNat id.toNat).toNat:Int):=by
 rw[UInt8.toNat_ofNat'];omega
abbrev PB(w:World)(b o:Nat)(p:Pr)(x:World):Prop:=Below w.heap.size w x/\x.cell? ⟨b,o,none⟩=some (.int .i64 p.id)/\x.cell? ⟨b,o+1,none⟩=some (.int .u32 p.n)/\x.cell? ⟨b,o+2,none⟩=some (.string p.text)/\x.cell? ⟨b,o+3,none⟩=some (.string p.value)
theorem PB.of{w x:World}{b o n k:Nat}{l:List Pr}{p:Pr}(h:Rd w w.heap.size 4 (some ⟨b,o,none⟩) n (prs l))(hn:l.length=n)(hp:l[k]? =some p)(hx:Below w.heap.size w x):PB w b (o+k*4) p x:=by
 subst hn;obtain⟨g,rfl⟩:=YI.1 hp;obtain⟨i,j,f,-,a,c,d,e⟩:=(h.below hx).atP g;cases f;exact⟨hx,a,c,d,e⟩
theorem PB.then{w x y:World}{b o:Nat}{p:Pr}(h:PB w b o p x)(hb:Below x.heap.size x y):Below w.heap.size w y:=Yf h.1 hb
theorem PB.more{w x:World}{b o:Nat}{p:Pr}{ob:Obj}(h:PB w b o p x):Below w.heap.size w (x.alloc ob):=h.1.alloc h.1.size _
theorem JP(kind:Int)(l:List Pr)(n:Nat)(hn:l.length=n)(hck:ckL kind l)(hg:∀p∈l,ea p)(hm:n<=1000)(A:Option Addr)(c:Nat)(w:World)(h:Rd w w.heap.size 4 A n (prs l)):
  Calls prog 250 #[.slice A n c] w fun e w'=>e= .returned (.string ⟨(l.flatMap jI).toArray⟩)/\Below w.heap.size w w':=by
 have H:=aa h;have r:=aa hn;have R:=aa hck;have HG:=aa hg
 clear h hn hck hg;have N:=Lg (P:=prog) 77 9 5 underlying77 underlying5 underlying9;have G:=NG (P:=prog) 77 9 5 underlying77 underlying5 underlying9;go_enter func250,ntmps250;go_wp2
 go_loopw [3,4] (fun s i wr=>∃k:Nat,k<=n/\i= .int .i64 k/\s= .string ⟨((l.take k).flatMap jI).toArray⟩/\Below w.heap.size w wr) (fun _ i _=>n- (intOf i).toNat)
 case atStart=>exact⟨0,by omega,rfl,rfl,aq _ _⟩
 case round=>
  obtain⟨k,Z,rfl,rfl,F⟩:=hrel;have q:=aa F;clear F
  by_cases I:k<n
  ·have d:k<l.length:=by rw[r.o];exact I
   have ab:=r.o;obtain⟨b,o,hA,-,-,-,-,-⟩:=Rd.atP (A:=A) (show Rd w w.heap.size 4 A l.length (prs l) by rw[r.o];exact H.o) d;subst hA;have u:Hid (l[k]? =some l[k]):=aa (List.getElem?_eq_getElem d);have f:l[k]∈l:=iY d;have j:=nr (R.o _ f);have J:=HG.o _ f;have z:=zC (R.o _ f);have Q:(l.take (k+1)).flatMap jI=(l.take k).flatMap jI++jI l[k]:=by
    rw[fE d,fR];simp
   have ad:((l.take k).flatMap jI).length<=k*131075:=by
    have:=Jw (l:=l.take k) (fun p hp=>R.o p (IU hp));exact aC this (iH _ (List.length_take_le _ _))
   clear f ab;have D:=aa Q;clear Q
   generalize l[k]=p at*;obtain⟨id,m,t,v⟩:=p;simp only at j J z u D;obtain⟨a,rfl⟩:∃a:UInt8,id=(a.toNat:Int):=⟨UInt8.ofNat id.toNat,PO j.1⟩;obtain⟨L,B⟩:∃L,gH (a.toNat:Int)=L:=⟨_,rfl⟩;rw[B]at j;obtain⟨C,E⟩:∃C,YX L ⟨(a.toNat:Int),m,t,v⟩=C:=⟨_,rfl⟩;have O:jI ⟨(a.toNat:Int),m,t,v⟩=a :: ls C:=by
    unfold jI;simp only;rw[B,E,dN];simp
   rw[O]at z D;have V:=aa B;have X:=aa E;have g:=aa j;have T:=aa J
   clear B E j J O;have ae:C.size<=131074:=by rw[bM,aN]at z;omega
   clear z;obtain⟨S,K⟩:∃S:ByteArray,⟨((l.take k).flatMap jI).toArray⟩=S:=⟨_,rfl⟩;have Y:S.size<=131075000:=by rw[<-K,GW];omega
   have U:Hid ((⟨((l.take (k+1)).flatMap jI).toArray⟩:ByteArray)=S++⟨#[a]⟩++C):=aa (by
    rw[D.o,<-K];refine eX ?_;rw[jo,fe,fe,jo];simp[ls])
   rw[K];clear K ad;have aH:IntKind.u8.wrap (a.toNat:Int)=(a.toNat:Int):=by rw[GM];have:=a.toNat_lt;omega
   have b1:(0:Int)<=(k:Int):=by omega
   have b2:(k:Int)<(n:Int):=by omega
   have aF:¬(9223372036854775807<S.size+1):=by omega
   have aG:¬(9223372036854775807<S.size+1+C.size):=by omega
   obtain⟨-,c0,c1,c2,c3⟩:=PB.of H.o r.o u.o q.o;simp only at c0 c1 c2 c3;obtain⟨-,g0,g1,g2,g3⟩:=PB.of H.o r.o u.o (q.o.alloc q.o.size (.cells #[.int .u8 (a.toNat:Int)] 5));simp only at g0 g1 g2 g3;have az:=fun W=>N W a;have aA:=fun W=>G W a;have M:=aa I;have HK:=aa Z
   clear N G d ae Y Z I
   go_wp2_with fail
   go_region_law ((go_simp;go_at_call 287;refine Yg (Ln L ⟨(a.toNat:Int),m,t,v⟩ V.o g.o.2.1 g.o.2.2.1 T.o.1 g.o.2.2.2.1 g.o.2.2.2.2.1 g.o.2.2.2.2.2 _) fun w4 y=>?_;rw[X.o];have x:Below w.heap.size w w4:=(by first| exact PB.b0 q.o y| exact PB.b1 q.o y| exact PB.b2 q.o y);obtain⟨-,e0,e1,e2,e3⟩:=PB.of H.o r.o u.o x;simp only at e0 e1 e2 e3;try (have aE:=OJ 77 9 5 underlying77 underlying5 underlying9 y)))
   all_goals
    go_wp2
    go_roundw
    case rel=>exact⟨k+1,M.o,by go_num,by rw[U.o],by first| exact x| exact x.alloc x.size _⟩
    case measure=>have:=M.o;simp[intOf];omega
  ·obtain rfl:k=n:=by omega
   have HT:Hid (l.take k=l):=aa (bt (by rw[r.o];exact ac _));rw[HT.o];go_wp2;go_ret;exact⟨rfl,q.o⟩
theorem Ox(kind:Int):∀(l:List Pr) (f:Nat->Nat) (o o':List UInt8),(eO kind l f o).2=(eO kind l f o').2
 | [],f,o,o'=>by rw[eO,eO];split<;>rfl
 | p :: l,f,o,o'=>by
   rw[eO,eO];split
   ·rfl
   ·split
    ·rfl
    ·exact Ox kind l _ _ _
def Zq(l:List Pr):Nat->Nat:=fun j=>cnt j l
theorem Lh(l:List Pr)(p:Pr):upd (Zq l) p.id.toNat (Zq l p.id.toNat+1)=Zq (l++[p]):=by
 funext j
 unfold upd Zq;rw[ME,lJ]
 by_cases h:j=p.id.toNat
 ·subst h;simp[cnt]
 ·rw[Fl h,Fl (fun x=>h x.symm)];simp[cnt]
theorem OA{kind:Int}{l:List Pr}{p:Pr}(hl:ckL kind l)(hp:0<=p.id):(nh l p.id).isSome=decide (1<=cnt p.id.toNat l):=by
 rw[eG,Fx];unfold nh;rw[List.find?_isSome]
 constructor
 ·rintro ⟨q,a,b⟩;exact EX.2 ⟨q,a,by rw[show q.id=p.id by simpa using b]⟩
 ·intro h;obtain⟨q,a,b⟩:=EX.1 h;have:=(nr (hl q a)).1.1;exact⟨q,a,by simp;omega⟩
theorem Jy{kind:Int}{l:List Pr}{p:Pr}(hl:ckL kind l)(hp:de (cr p.id) kind p=0):twB kind l p.id=iC (Zq l) kind p.id.toNat:=by
 unfold twB;rw[OA hl (nr hp).1.1,KN hp];unfold iC Zq
 congr 1
 exact eb.2 (by omega)
theorem LV(l:List Pr):Kn l=jp (Zq l):=by
 have h:∀k:Nat,0<k->(nh l (k:Int)).isSome=decide (0<cnt k l):=by
  intro k d;rw[eG,Fx];unfold nh;rw[List.find?_isSome]
  constructor
  ·rintro ⟨q,a,c⟩;have:q.id=(k:Int):=by simpa using c
   exact EX.2 ⟨q,a,by omega⟩
  ·intro h;obtain⟨q,a,c⟩:=EX.1 h;exact⟨q,a,by simp;omega⟩
 unfold Kn jp Zq;rw[show(22:Int)=((22:Nat):Int)from rfl,show(21:Int)=((21:Nat):Int)from rfl,h 22 (by omega),h 21 (by omega)]
 congr 1
 by_cases b:cnt 21 l=0
 ·simp[b]
 ·have:0<cnt 21 l:=by omega
  simp[this,b]
structure VAt (kind:Int) (l:List Pr) (k:Nat):Prop where
 ck:ckL kind (l.take k)
 eq:(aM kind l).2=(eO kind (l.drop k) (Zq (l.take k)) []).2
theorem VAt.start{kind:Int}{l:List Pr}(hl:l.length<=1000):VAt kind l 0:=by
 refine⟨by simp[ckL],?_⟩;unfold aM;rw[Fl (by omega)];rfl
theorem VAt.bad{kind:Int}{l:List Pr}{k:Nat}{p:Pr}(v:VAt kind l k)(hp:l[k]? =some p)(hc:de (cr p.id) kind p≠0):(aM kind l).2=de (cr p.id) kind p:=by
 obtain⟨a,rfl⟩:=YI.1 hp;rw[v.eq,bQ a,eO,if_pos hc]
theorem VAt.twice{kind:Int}{l:List Pr}{k:Nat}{p:Pr}(v:VAt kind l k)(hp:l[k]? =some p)(hc:de (cr p.id) kind p=0)(ht:twB kind (l.take k) p.id=true):(aM kind l).2=9:=by
 rw[Jy v.ck hc]at ht;obtain⟨a,rfl⟩:=YI.1 hp;rw[v.eq,bQ a,eO,Fl (by simpa using hc),if_pos ht]
theorem VAt.next{kind:Int}{l:List Pr}{k:Nat}{p:Pr}(v:VAt kind l k)(hp:l[k]? =some p)(hc:de (cr p.id) kind p=0)(ht:twB kind (l.take k) p.id=false):VAt kind l (k+1):=by
 rw[Jy v.ck hc]at ht;obtain⟨b,rfl⟩:=YI.1 hp;have a:l.take (k+1)=l.take k++[l[k]]:=fE b;refine⟨?_,?_⟩
 ·rw[a];refine ZL.2 ⟨v.ck,?_⟩;intro q c;rw[gA.1 c];exact hc
 ·rw[v.eq,bQ b,eO,Fl (by simpa using hc),Fl (by rw[ht];simp),Lh,<-a];exact Ox kind _ _ _ _
theorem VAt.done{kind:Int}{l:List Pr}(v:VAt kind l l.length):ckL kind l/\(aM kind l).2=if Kn l=true then 9 else 0:=by
 have a:=v.ck;have b:=v.eq;rw[GK]at a b;refine⟨a,?_⟩;rw[b,ox,eO,LV];split<;>rfl
theorem Hv(kind:Int)(l:List Pr)(n:Nat)(hn:l.length=n)(hg:∀p∈l,ea p)(A:Option Addr)(c:Nat)(w:World)(h:Rd w w.heap.size 4 A n (prs l))(hl:n<=4611686018427387904)(hc:n<=c):
  Calls prog 186 #[.int .i64 kind,.slice A n c] w fun e w'=>e= .returned (.int .i64 (aM kind l).2)/\Below w.heap.size w w':=by
 by_cases S:1000<n
 ·have q:Hid ((aM kind l).2=4):=aa (by unfold aM;rw[if_pos (by omega)]);have d1:decide ((1000:Int)<(n:Int))=true:=au (by omega);clear S;go_enter func186,ntmps186;go_wp2;go_ret;exact⟨by rw[q.o];rfl,aq _ _⟩
 have d1:decide ((1000:Int)<(n:Int))=false:=ah (by omega);have ar:n<=1000:=by omega
 have H:=aa h;have y:=aa hn;have HG:=aa hg;have HC:=aa hc
 have V0:=aa (VAt.start (kind:=kind) (show l.length<=1000 by omega));clear h hn hg hc S hl;go_enter func186,ntmps186;go_wp2
 go_loopw [5] (fun i wr=>∃k:Nat,k<=n/\i= .int .i64 k/\VAt kind l k/\Below w.heap.size w wr) (fun i _=>n- (intOf i).toNat)
 case atStart=>exact⟨0,by omega,rfl,V0.o,aq _ _⟩
 case round=>
  obtain⟨k,hk,rfl,hv,R⟩:=hrel;have g:=aa R;have U:=aa hv;clear R hv
  by_cases ab:k<n
  ·have z:k<l.length:=by rw[y.o];exact ab
   obtain⟨b,o,hA,-,-,-,-,-⟩:=Rd.atP (A:=A) (show Rd w w.heap.size 4 A l.length (prs l) by rw[y.o];exact H.o) z;subst hA;have C:Hid (l[k]? =some l[k]):=aa (List.getElem?_eq_getElem z);have V:=aa (HG.o _ (iY z));generalize l[k]=p at*;obtain⟨j,m,t,v⟩:=p;obtain⟨-,D,K,L,M⟩:=PB.of H.o y.o C.o g.o;simp only at D K L M;have b1:(0:Int)<=(k:Int):=by omega
   have b2:(k:Int)<(n:Int):=by omega
   have B:=aa ab;clear z hk
   by_cases F:de (cr j) kind ⟨j,m,t,v⟩=0
   rotate_left
   ·have q:=aa (U.o.bad C.o F);generalize hE:de (cr j) kind ⟨j,m,t,v⟩=E at*;have HE:=aa hE;have e0:(E !=0)=true:=aA.2 F;clear F hE
    go_wp2_with fail
    refine Yg (Jp kind ⟨j,m,t,v⟩ (rU V.o) _) fun I f=>?_;rw[HE.o];have a:=aa (Yf g.o f);clear f
    go_wp2;go_ret;exact⟨by rw[q.o];(try dsimp only);rfl,a.o⟩
   have N:=aa F;clear F
   go_wp2_with fail
   refine Yg (Jp kind ⟨j,m,t,v⟩ (rU V.o) _) fun I f=>?_;rw[N.o];have a:=aa (Yf g.o f);clear f D K L M
   obtain⟨-,D,K,L,M⟩:=PB.of H.o y.o C.o a.o;simp only at D K L M;have S1:=fun W=>Bi (P:=prog) underlying44 M9 (some ⟨b,o,none⟩) n c k (by have:=HC.o;omega) W;have Y:=fun n'=>(show(I.drewN n').cell? ⟨b,o+k*4,none⟩=some (.int .i64 j)from D);have r:∀d os,Calls prog 248 #[.int .i64 kind,.slice (some ⟨b,o,none⟩) k c,.int .i64 j] (Sort.grow (redrawn I d) os) fun e ay=>e= .returned (.bool (twB kind (l.take k) j))/\∃p:Regrown,ay=Sort.grow (redrawn I p.d) p.os:=
    jw (fun x hx=>Lo kind j (l.take k) k (by rw[cY,y.o];have:=B.o;omega) (some ⟨b,o,none⟩) c x
     (by
       have h1:=((H.o.below a.o).wider a.o.size).below hx;have h2:=(h1.wider hx.size).cut_to (k:=k) (by have:=B.o;omega);rw[Oh]at h2;exact h2) (by have:=B.o;omega))
   have k0:=cell_regrown D;have J:=aa (fun d os=>a.o.trans ((below_regrown I d os).mono a.o.size));cases u:twB kind (l.take k) j
   ·have am:=aa (U.o.next C.o N.o u);rw[u]at r;clear u D K L M Y
    go_wp2_with fail
    refine wp_region_quiet_below (by kernel_rfl) (by kernel_rfl) ?_
    repeat (go_big_quiet_step (first| with_reducible exact r _ _))
    refine kE ?_;intro _ T;obtain⟨⟨Q,osq⟩,G⟩:=T;subst G;have KF:=aa (J.o Q osq);clear r k0 J S1;generalize Sort.grow (redrawn _ Q) osq=wq at*;go_wp2
    go_roundw
    case rel=>exact⟨k+1,B.o,by go_num,am.o,KF.o⟩
    case measure=>have:=B.o;simp[intOf];omega
   ·have q:=aa (U.o.twice C.o N.o u);rw[u]at r;clear u D K L M Y
    go_wp2_with fail
    refine wp_region_quiet_below (by kernel_rfl) (by kernel_rfl) ?_
    repeat (go_big_quiet_step (first| with_reducible exact r _ _))
    refine kE ?_;intro _ T;obtain⟨⟨Q,osq⟩,G⟩:=T;subst G;have KF:=aa (J.o Q osq);clear r k0 J S1;generalize Sort.grow (redrawn _ Q) osq=wq at*;go_wp2;go_ret;exact⟨by rw[q.o];rfl,KF.o⟩
  ·obtain rfl:k=n:=by omega
   have hd:=(show VAt kind l l.length by rw[y.o];exact U.o).done;have ai:=aa hd.1;have X:=aa hd.2;have HR:=aa ((H.o.below g.o).wider g.o.size);clear hd;cases s:Kn l
   ·have q:Hid ((aM kind l).2=0):=aa (by rw[X.o,s];rfl);have O:=aa s;clear s
    have hz:((⟨(l.flatMap jI).toArray⟩:ByteArray).size:Int)<=268435455:=by rw[GW];have:=(G6 kind l q.o).1;omega
    have dz:decide ((268435455:Int)<((⟨(l.flatMap jI).toArray⟩:ByteArray).size:Int))=false:=ah (by omega)
    go_wp2_with fail
    refine Yg (JN l k y.o A c _ HR.o (by omega)) fun I f=>?_;rw[O.o];have a:=aa (Yf g.o f);have ak:=aa ((HR.o.below f).wider f.size);clear f
    go_wp2_with fail
    refine Yg (JP kind l k y.o ai.o HG.o ar A c _ ak.o) fun w2 f=>?_;have ag:=aa (Yf a.o f);clear f
    generalize (⟨(l.flatMap jI).toArray⟩:ByteArray)=Z at*;go_wp2;go_ret;exact⟨by rw[q.o];rfl,ag.o⟩
   ·have q:Hid ((aM kind l).2=9):=aa (by rw[X.o,s];rfl);have O:=aa s;clear s
    go_wp2_with fail
    refine Yg (JN l k y.o A c _ HR.o (by omega)) fun I f=>?_;rw[O.o];have a:=aa (Yf g.o f);clear f
    go_wp2;go_ret;exact⟨by rw[q.o];rfl,a.o⟩
theorem KI(kind:Int)(l:List Pr)(n:Nat)(hn:l.length=n)(hg:∀p∈l,ea p)(A:Option Addr)(c:Nat)(w:World)(h:Rd w w.heap.size 4 A n (prs l))(hl:n<=4611686018427387904)(hc:n<=c):
  Calls prog 195 #[.int .i64 kind,.slice A n c] w fun e w'=>e= .returned (.tuple #[.string ⟨(aM kind l).1.toArray⟩,.int .i64 (aM kind l).2])/\Below w.heap.size w w':=by
 have H:=aa h;have k:=aa hn;have r:=aa hg;have t:=aa hc
 clear h hn hg hc
 by_cases b:(aM kind l).2=0
 rotate_left
 ·have a:=Ix kind l b;have d:Hid (aM kind l=([],(aM kind l).2)):=aa (by rw[<-a]);generalize (aM kind l).2=E at*;have q:=aa b;have K:(E !=0)=true:=aA.2 b;clear b a;go_enter func195,ntmps195
  go_wp2_with fail
  refine Yg (Hv kind l n k.o r.o A c _ H.o hl t.o) fun G a=>?_;rw[d.o];have j:=aa a;clear a
  simp only;go_wp2;go_ret2;exact⟨by rw[d.o];rfl,j.o⟩
 have q:=aa b;have a:=tE kind l b;have B:=(G6 kind l b).1;have g:=(sx kind l).1 b;have u:=aa g.2.1;have v:Hid (n<=1000):=aa (by rw[<-k.o];exact g.1);have I:=aa a;have x:Hid ((eP (l.flatMap jI).length).length<=4):=aa (by rw[LG];split;omega;split;omega;split;omega;omega);obtain⟨Z,f⟩:∃Z:ByteArray,⟨(l.flatMap jI).toArray⟩=Z:=⟨_,rfl⟩;have J:Z.size<=131075000:=by rw[<-f,GW];exact B
 have i:(l.flatMap jI).length=Z.size:=by rw[<-f,GW]
 have D:=aa f;have d:Hid ((⟨(aM kind l).1.toArray⟩:ByteArray)=⟨(eP Z.size).toArray⟩++Z):=aa (by rw[a,<-i,<-f];exact P7 _ _);rw[i]at x;clear b a B g f i;obtain⟨V,m⟩:∃V:ByteArray,⟨(eP Z.size).toArray⟩=V:=⟨_,rfl⟩;have y:Hid (V.size<=4):=aa (by rw[<-m,GW];exact x.o);have z:=aa m;rw[m]at d;have F:¬(9223372036854775807<V.size+Z.size):=by have:=y.o;omega
 clear m;go_enter func195,ntmps195
 go_wp2_with fail
 refine Yg (Hv kind l n k.o r.o A c _ H.o hl t.o) fun G a=>?_;rw[q.o];have j:=aa a;have C:=aa ((H.o.below a).wider a.size);clear a
 go_wp2_with fail
 refine Yg (JP kind l n k.o u.o r.o v.o A c _ C.o) fun L a=>?_;rw[D.o];have o:=aa (Yf j.o a);clear a
 go_wp2_with fail
 refine Yg (IB Z.size _ (by omega)) fun M a=>?_;rw[z.o];have s:=aa (Yf o.o a);clear a
 go_wp2;go_ret2;exact⟨by rw[d.o,q.o];rfl,s.o⟩
section
attribute [local go_sem] Mj Mi
theorem Qp{t:ByteArray}{a i j:Nat}(hj:a+j<=t.size):(t.extract a t.size).extract i j=t.extract (a+i) (a+j):=by
 refine eX ?_;have b:∀(s:ByteArray) (i j:Nat),ls (s.extract i j)=(ls s).extract i j:=fun s i j=>by
  unfold ls;simp[ByteArray.data_extract]
 rw[b,b,b];simp only[List.extract_eq_take_drop,List.drop_take,et,List.take_take]
 congr 1
 rw[Nat.min_def];split<;>omega
end
section
theorem Iu{T:ByteArray}{a:Nat}(ha:a<=T.size)(b:Nat)(e n:Int):bp T (a+b) e n=((bp (T.extract a T.size) b e n).1,a+(bp (T.extract a T.size) b e n).2.1,(bp (T.extract a T.size) b e n).2.2):=by
 have g:((T.extract a T.size).size:Int)=(T.size:Int) - a:=by rw[aj];omega
 have f:jQ T (a+b) n=jQ (T.extract a T.size) b n:=by
  unfold jQ;rw[g]
  congr 1
  exact eb.2 (by omega)
 unfold bp;rw[f]
 by_cases d:e=0
 ·rw[if_pos d,if_pos d]
  by_cases c:jQ (T.extract a T.size) b n=true
  ·have h:0<=n/\n<=((T.extract a T.size).size:Int) - b:=by simpa [jQ]using c
   rw[if_pos c,if_pos c,Qp (by omega)];simp only[bG,Hj];exact⟨by rw[Nat.add_assoc],by omega⟩
  ·rw[Fl c,Fl c]
 ·rw[Fl d,Fl d]
theorem Ku{T:ByteArray}{a:Nat}(ha:a<=T.size)(b:Nat)(e:Int):dH T (a+b) e=((dH (T.extract a T.size) b e).1,a+(dH (T.extract a T.size) b e).2.1,(dH (T.extract a T.size) b e).2.2):=by
 unfold dH;rw[Iu ha b e 2];simp only;rw[Iu ha]
theorem Jq{T:ByteArray}{a:Nat}(ha:a<=T.size)(b:Nat)(e:Int):dd T (a+b) e=((dd (T.extract a T.size) b e).1,a+(dd (T.extract a T.size) b e).2.1,(dd (T.extract a T.size) b e).2.2):=by
 unfold dd;rw[Ku ha]
theorem Mq{T:ByteArray}{a:Nat}(ha:a<=T.size)(b:Nat)(e:Int):jJ T (a+b) e=((jJ (T.extract a T.size) b e).1,a+(jJ (T.extract a T.size) b e).2.1,(jJ (T.extract a T.size) b e).2.2):=by
 unfold jJ;rw[Jq ha b e];simp only;rw[Jq ha]
theorem MW{T:ByteArray}{a:Nat}(b:Nat):mz T (a+b)=((mz (T.extract a T.size) b).1,a+(mz (T.extract a T.size) b).2.1,(mz (T.extract a T.size) b).2.2):=by
 unfold mz;rw[ju,et];split
 ·simp only[Nat.add_assoc]
 ·rfl
theorem MX{T:ByteArray}{a:Nat}(ha:a<=T.size)(sh b:Nat):dW sh T (a+b)= {dW sh (T.extract a T.size) b with at_:=a+(dW sh (T.extract a T.size) b).at_}:=by
 unfold dW;rw[Iu ha b 0 1,Iu ha b 0 2,Iu ha b 0 4,MW,Jq ha,Ku ha,Mq ha]
 repeat' split
 all_goals rfl
structure LAt (kind:Int) (T:ByteArray) (m a:Nat) (out:List Pr):Prop where
 le:a<=T.size
 lt:T.size<a+m
 ck:ckL kind out
 len:out.length<=1000
 eq:fq kind T=iy kind T m a (Zq out) out
theorem LAt.start(kind:Int)(T:ByteArray):LAt kind T (T.size+1) 0 []:=⟨by omega,by omega,by simp[ckL],ag _,rfl⟩
section
variable {kind:Int} {T:ByteArray} {m a sh:Nat} {out:List Pr} {b0:UInt8}
theorem LAt.done(v:LAt kind T m a out)(h:¬a<T.size):fq kind T=if Kn out=true then([],9)else(out,0):=by
 obtain⟨k,rfl⟩:∃k,m=k+1:=⟨m- 1,by have:=v.lt;have:=v.le;omega⟩;have b:T.size<=a:=by omega
 rw[v.eq,iy,if_pos b,LV]
structure Rnd (kind:Int) (T:ByteArray) (m a:Nat) (out:List Pr) (b0:UInt8) (sh:Nat):Prop where
 at_:LAt kind T m a out
 lt:a<T.size
 id:Y4 T a=b0.toNat
 shape:gH (b0.toNat:Int)=sh
def rdQ(sh:Nat)(b0:UInt8)(X:ByteArray):Pr:=⟨b0.toNat,(dW sh X 1).n,(dW sh X 1).text,(dW sh X 1).value⟩
theorem Rnd.go(r:Rnd kind T m a out b0 sh):∃k,m=k+1/\fq kind T=(if ng (cr (b0.toNat:Int)) kind=false then([],9)
  else if(dW sh (T.extract a T.size) 1).err≠0 then([],(dW sh (T.extract a T.size) 1).err)
  else if de (cr (rdQ sh b0 (T.extract a T.size)).id) kind (rdQ sh b0 (T.extract a T.size))≠0 then([],de (cr (rdQ sh b0 (T.extract a T.size)).id) kind (rdQ sh b0 (T.extract a T.size)))
  else if iC (Zq out) kind b0.toNat=true then([],9)else if out.length=1000 then([],4)
  else iy kind T k (a+(dW sh (T.extract a T.size) 1).at_) (upd (Zq out) b0.toNat (Zq out b0.toNat+1)) (out++[rdQ sh b0 (T.extract a T.size)])):=by
 obtain⟨k,rfl⟩:∃k,m=k+1:=⟨m- 1,by have:=r.at_.lt;have:=r.lt;omega⟩;refine⟨k,rfl,?_⟩;rw[r.at_.eq,iy,Fl (by have:=r.lt;omega)];have b:(cr ((Y4 T a:Nat):Int)).shape=sh:=by rw[r.id];exact r.shape
 have c:=MX (T:=T) (a:=a) r.at_.le sh 1;rw[b,c,r.id];rfl
theorem Rnd.err(r:Rnd kind T m a out b0 sh)(h:Jv kind (b0.toNat:Int)=true)(h1:(dW sh (T.extract a T.size) 1).err≠0):fq kind T=([],(dW sh (T.extract a T.size) 1).err):=by
 obtain⟨k,-,b⟩:=r.go;rw[b,Fl (fun x=>by rw[show ng _ kind=true from h]at x;cases x),if_pos h1]
theorem Rnd.bad(r:Rnd kind T m a out b0 sh)(h:Jv kind (b0.toNat:Int)=true)(h1:(dW sh (T.extract a T.size) 1).err=0){q:Pr}(hq:rdQ sh b0 (T.extract a T.size)=q)(h2:de (cr q.id) kind q≠0):fq kind T=([],de (cr q.id) kind q):=by
 obtain⟨k,-,b⟩:=r.go;subst hq;rw[b,Fl (fun x=>by rw[show ng _ kind=true from h]at x;cases x),Fl (by simpa using h1),if_pos h2]
theorem Rnd.twice(r:Rnd kind T m a out b0 sh)(h:Jv kind (b0.toNat:Int)=true)(h1:(dW sh (T.extract a T.size) 1).err=0){q:Pr}(hq:rdQ sh b0 (T.extract a T.size)=q)(h2:de (cr q.id) kind q=0)(h3:twB kind out q.id=true):fq kind T=([],9):=by
 obtain⟨k,-,b⟩:=r.go;rw[Jy r.at_.ck h2]at h3;subst hq;rw[b,Fl (fun x=>by rw[show ng _ kind=true from h]at x;cases x),Fl (by simpa using h1),Fl (by simpa using h2)];rw[show iC (Zq out) kind b0.toNat=true from h3];rfl
theorem Rnd.rest(r:Rnd kind T m a out b0 sh)(h:Jv kind (b0.toNat:Int)=true)(h1:(dW sh (T.extract a T.size) 1).err=0){q:Pr}(hq:rdQ sh b0 (T.extract a T.size)=q)(h2:de (cr q.id) kind q=0)(h3:twB kind out q.id=false):
  (out.length=1000->fq kind T=([],4))/\(out.length≠1000->∃k,LAt kind T k (a+(dW sh (T.extract a T.size) 1).at_) (out++[q])):=by
 obtain⟨k,d,b⟩:=r.go;rw[Jy r.at_.ck h2]at h3;subst hq;rw[Fl (fun x=>by rw[show ng _ kind=true from h]at x;cases x),Fl (by simpa using h1),Fl (by simpa using h2)]at b;rw[show iC (Zq out) kind b0.toNat=false from h3]at b;rw[Fl (by simp)]at b;refine⟨fun c=>by rw[b,if_pos c],fun c=>⟨k,?_,?_,?_,?_,?_⟩⟩
 ·have:=(xO (t:=T.extract a T.size) (a:=1) (by rw[aj];have:=r.lt;omega) sh).2;rw[aj]at this;have:=r.lt;omega
 ·have:=(xO (t:=T.extract a T.size) (a:=1) (by rw[aj];have:=r.lt;omega) sh).1;have:=r.at_.lt;omega
 ·refine ZL.2 ⟨r.at_.ck,?_⟩;intro q hq;rw[gA.1 hq];exact h2
 ·rw[List.length_append];have:=r.at_.len;simp only[qU];omega
 ·rw[b,Fl c];rw[<-Lh out (rdQ sh b0 (T.extract a T.size))];rfl
end
end
theorem JE(A A':Option Addr)(n m c c':Nat)(l l':List Pr)(w:World)(e1:l.length=n)(e2:l'.length=m)(hl:Rd w w.heap.size 4 A n (prs l))(hm:Rd w w.heap.size 4 A' m (prs l'))(hn:n<=4611686018427387904)(hn':m<=4611686018427387904):
  Calls prog 187 #[.slice A n c,.slice A' m c'] w fun e w'=>e= .returned (.bool (decide (l=l')))/\Below w.heap.size w w':=by
 have G:=qz
 by_cases g:n=m
 ·subst g;have d:=aa e1;have f:=aa e2;clear e1 e2
  have B:=aa hl;have C:=aa hm;clear hl hm
  go_enter func187,ntmps187;go_wp2
  go_loopw [5] (fun i wr=>∃k:Nat,k<=n/\i= .int .i64 k/\(∀j,j<k->l[j]? =l'[j]?)/\Below w.heap.size w wr) (fun i _=>n- (intOf i).toNat)
  case atStart=>exact⟨0,by omega,rfl,fun j t=>by omega,aq _ _⟩
  case round=>
   obtain⟨k,T,rfl,o,a⟩:=hrel;have x:=aa o;clear o
   by_cases b:k<n
   ·obtain⟨I,U,rfl,S,J,K,L,M⟩:=(show Rd w w.heap.size 4 A l.length (prs l) by rw[d.o];exact B.o).below a |>.atP (show k<l.length by rw[d.o];exact b);obtain⟨E,H,rfl,F,N,O,P,Q⟩:=(show Rd w w.heap.size 4 A' l'.length (prs l') by rw[f.o];exact C.o).below a |>.atP (show k<l'.length by rw[f.o];exact b);have y:Hid (l[k]? =some (l[k]'(by rw[d.o];exact b))):=aa (List.getElem?_eq_getElem _);have u:Hid (l'[k]? =some (l'[k]'(by rw[f.o];exact b))):=aa (List.getElem?_eq_getElem _);generalize l[k]'(by rw[d.o];exact b)=p at*;generalize l'[k]'(by rw[f.o];exact b)=q at*;have b1:(0:Int)<=(k:Int):=by omega
    have b2:(k:Int)<(n:Int):=by omega
    have v:=fun W=>Cb p q W
    by_cases s:p=q
    ·subst s;have r:decide (p=p)=true:=by simp
     rw[r]at v;clear r;go_wp2
     go_quiet (fail)
     go_wp2
     go_roundw
     case rel=>
      refine⟨k+1,by omega,by go_num,fun j t=>?_,aV a _⟩;rcases dx.1 t with h| rfl
      ·exact x.o j h
      ·rw[y.o,u.o]
     case measure=>simp[intOf];omega
    ·have r:decide (p=q)=false:=ah s;rw[r]at v;have z:=aa s;clear s r
     go_wp2
     go_quiet (fail)
     go_wp2;go_ret;refine⟨?_,aV a _⟩;have:l≠l':=by
      rintro rfl;have:=y.o.symm.trans u.o;exact z.o (by simpa using this)
     simp[this]
   ·go_wp2;go_ret;refine⟨?_,a⟩;have:l=l':=by
     apply dM;intro j
     by_cases t:j<k
     ·exact x.o j t
     ·rw[aG (by have:=d.o;omega),aG (by have:=f.o;omega)]
    simp[this]
 ·have R:((n:Int) != (m:Int))=true:=by simpa using (by omega:¬(n:Int)=(m:Int))
  have D:=aa g;have d:=aa e1;have f:=aa e2;clear g e1 e2 hl hm
  go_enter func187,ntmps187;go_wp2;go_ret;refine⟨?_,aq _ _⟩;have:l≠l':=by
   rintro rfl;exact D.o (d.o.symm.trans f.o)
  simp[this]
theorem Rd.grow{w:World}{k n:Nat}{A:Option Addr}{xs:List Value}(h:Rd w w.heap.size k A n xs)(o:Obj):Rd (w.alloc o) (w.alloc o).heap.size k A n xs:=(h.alloc (ac _) o).wider (by simp)
theorem LM(A A':Option Addr)(n m c c':Nat)(l l':List Int)(w:World)(hl:Rd w w.heap.size 1 A n (iv l))(hm:Rd w w.heap.size 1 A' m (iv l'))(hn:n<=9223372036854775807)(hn':m<=9223372036854775807):
  Calls prog 188 #[.slice A n c,.slice A' m c'] w fun e w'=>e= .returned (.bool (decide (l=l')))/\Below w.heap.size w w':=by
 have v:l.length=n:=by have:=hl.len;simp[iv]at this;omega
 have x:l'.length=m:=by have:=hm.len;simp[iv]at this;omega
 have r:=aa v;have s:=aa x;clear v x
 by_cases b:n=m
 ·subst b;go_enter func188,ntmps188;go_wp2
  go_loopw [5] (fun i wr=>∃k:Nat,k<=n/\i= .int .i64 k/\(∀j,j<k->l[j]? =l'[j]?)/\Below w.heap.size w wr) (fun i _=>n- (intOf i).toNat)
  case atStart=>exact⟨0,by omega,rfl,fun j g=>by omega,aq _ _⟩
  case round=>
   obtain⟨k,M,rfl,d,a⟩:=hrel;have t:=aa d;clear d
   by_cases p:k<n
   ·obtain⟨J,N,z,rfl,K,y,L⟩:=(hl.below a).atI p;obtain⟨F,I,B,rfl,G,q,H⟩:=(hm.below a).atI p;have u:=aa y;have o:=aa q;clear y q hl hm
    have b1:(0:Int)<=(k:Int):=by omega
    have b2:(k:Int)<(n:Int):=by omega
    by_cases f:z=B
    ·subst f;go_wp2
     go_quiet (fail)
     go_wp2
     go_roundw
     case rel=>
      refine⟨k+1,by omega,by go_num,fun j g=>?_,aV a _⟩;rcases dx.1 g with h| rfl
      ·exact t.o j h
      ·rw[u.o,o.o]
     case measure=>simp[intOf];omega
    ·have E:(z !=B)=true:=by simpa using f
     have C:=aa f;clear f
     go_wp2
     go_quiet (fail)
     go_wp2;go_ret;refine⟨?_,aV a _⟩;have:l≠l':=by
      rintro rfl;have:=u.o.symm.trans o.o;exact C.o (by simpa using this)
     simp[this]
   ·go_wp2;go_ret;refine⟨?_,a⟩;have:l=l':=by
     apply dM;intro j
     by_cases g:j<k
     ·exact t.o j g
     ·rw[aG (by have:=r.o;omega),aG (by have:=s.o;omega)]
    simp[this]
 ·have E:((n:Int) != (m:Int))=true:=by simpa using (by omega:¬(n:Int)=(m:Int))
  have D:=aa b;clear b
  go_enter func188,ntmps188;go_wp2;go_ret;refine⟨?_,aq _ _⟩;have:l≠l':=by
   rintro rfl;exact D.o (r.o.symm.trans s.o)
  simp[this]
theorem JY(A A':Option Addr)(n m c c':Nat)(l l':List Fi)(w:World)(e1:l.length=n)(e2:l'.length=m)(hl:Rd w w.heap.size 5 A n (fis l))(hm:Rd w w.heap.size 5 A' m (fis l'))(hn:n<=4611686018427387904)(hn':m<=4611686018427387904):
  Calls prog 189 #[.slice A n c,.slice A' m c'] w fun e w'=>e= .returned (.bool (decide (l=l')))/\Below w.heap.size w w':=by
 have G:=kP
 by_cases g:n=m
 ·subst g;have d:=aa e1;have f:=aa e2;clear e1 e2
  have B:=aa hl;have C:=aa hm;clear hl hm
  go_enter func189,ntmps189;go_wp2
  go_loopw [5] (fun i wr=>∃k:Nat,k<=n/\i= .int .i64 k/\(∀j,j<k->l[j]? =l'[j]?)/\Below w.heap.size w wr) (fun i _=>n- (intOf i).toNat)
  case atStart=>exact⟨0,by omega,rfl,fun j t=>by omega,aq _ _⟩
  case round=>
   obtain⟨k,V,rfl,o,a⟩:=hrel;have x:=aa o;clear o
   by_cases b:k<n
   ·obtain⟨I,X,rfl,U,J,K,L,M,N⟩:=(show Rd w w.heap.size 5 A l.length (fis l) by rw[d.o];exact B.o).below a |>.atF (show k<l.length by rw[d.o];exact b);obtain⟨E,H,rfl,F,O,P,Q,R,S⟩:=(show Rd w w.heap.size 5 A' l'.length (fis l') by rw[f.o];exact C.o).below a |>.atF (show k<l'.length by rw[f.o];exact b);have y:Hid (l[k]? =some (l[k]'(by rw[d.o];exact b))):=aa (List.getElem?_eq_getElem _);have u:Hid (l'[k]? =some (l'[k]'(by rw[f.o];exact b))):=aa (List.getElem?_eq_getElem _);generalize l[k]'(by rw[d.o];exact b)=p at*;generalize l'[k]'(by rw[f.o];exact b)=q at*;have b1:(0:Int)<=(k:Int):=by omega
    have b2:(k:Int)<(n:Int):=by omega
    have v:=fun W=>wQ p q W
    by_cases s:p=q
    ·subst s;have r:decide (p=p)=true:=by simp
     rw[r]at v;clear r;go_wp2
     go_quiet (fail)
     go_wp2
     go_roundw
     case rel=>
      refine⟨k+1,by omega,by go_num,fun j t=>?_,aV a _⟩;rcases dx.1 t with h| rfl
      ·exact x.o j h
      ·rw[y.o,u.o]
     case measure=>simp[intOf];omega
    ·have r:decide (p=q)=false:=ah s;rw[r]at v;have z:=aa s;clear s r
     go_wp2
     go_quiet (fail)
     go_wp2;go_ret;refine⟨?_,aV a _⟩;have:l≠l':=by
      rintro rfl;have:=y.o.symm.trans u.o;exact z.o (by simpa using this)
     simp[this]
   ·go_wp2;go_ret;refine⟨?_,a⟩;have:l=l':=by
     apply dM;intro j
     by_cases t:j<k
     ·exact x.o j t
     ·rw[aG (by have:=d.o;omega),aG (by have:=f.o;omega)]
    simp[this]
 ·have T:((n:Int) != (m:Int))=true:=by simpa using (by omega:¬(n:Int)=(m:Int))
  have D:=aa g;have d:=aa e1;have f:=aa e2;clear g e1 e2 hl hm
  go_enter func189,ntmps189;go_wp2;go_ret;refine⟨?_,aq _ _⟩;have:l≠l':=by
   rintro rfl;exact D.o (d.o.symm.trans f.o)
  simp[this]
theorem JO(v k:Int)(w:World):Calls prog 90 #[.int .i64 v,.int .i64 k] w fun e w'=>e= .returned (.bool (dS v k))/\w=w':=by
 have f:Hid (dS v k=decide (1<=k/\(k<=14\/(k=15/\v=5)))):=aa rfl
 by_cases d:1<=k
 rotate_left
 ·have b:Hid (dS v k=false):=aa (by rw[f.o];exact ah (by omega));have h:decide ((1:Int)<=k)=false:=ah d;clear d;go_enter func90,ntmps90;go_wp2;go_ret;exact⟨by rw[b.o];rfl,rfl⟩
 have h:decide ((1:Int)<=k)=true:=au d
 by_cases a:k<15
 ·have b:Hid (dS v k=true):=aa (by rw[f.o];exact au (by omega));have i:decide (k<(15:Int))=true:=au a;clear d a;go_enter func90,ntmps90;go_wp2;go_ret;exact⟨by rw[b.o];rfl,rfl⟩
 have i:decide (k<(15:Int))=false:=ah a
 by_cases c:k=15
 rotate_left
 ·have b:Hid (dS v k=false):=aa (by rw[f.o];exact ah (by omega));have j:(k==15)=false:=ar.2 c;clear d a c;go_enter func90,ntmps90;go_wp2;go_ret;exact⟨by rw[b.o];rfl,rfl⟩
 have j:(k==15)=true:=aK.2 c
 by_cases g:v=5
 ·have b:Hid (dS v k=true):=aa (by rw[f.o];exact au (by omega));have l:(v==5)=true:=aK.2 g;clear d a c g;go_enter func90,ntmps90;go_wp2;go_ret;exact⟨by rw[b.o];rfl,rfl⟩
 ·have b:Hid (dS v k=false):=aa (by rw[f.o];exact ah (by omega));have l:(v==5)=false:=ar.2 g;clear d a c g;go_enter func90,ntmps90;go_wp2;go_ret;exact⟨by rw[b.o];rfl,rfl⟩
def Hq(v kind:Int)(l:List Pr):ByteArray:=if v=4 then⟨#[]⟩else⟨(aM kind l).1.toArray⟩
theorem G5(v kind:Int)(l:List Pr)(n:Nat)(hn:l.length=n)(hg:∀p∈l,ea p)(A:Option Addr)(c:Nat)(w:World)(h:Rd w w.heap.size 4 A n (prs l))(hl:n<=4611686018427387904)(hc:n<=c):
  Calls prog 124 #[.int .i64 v,.int .i64 kind,.slice A n c] w fun e w'=>e= .returned (.string (Hq v kind l))/\Below w.heap.size w w':=by
 have H:=aa h;clear h
 by_cases a:v=4
 ·have b:Hid (Hq v kind l=⟨#[]⟩):=aa (if_pos a);have j:(v==4)=true:=aK.2 a;clear a;go_enter func124,ntmps124;go_wp2;go_ret;exact⟨by rw[b.o];rfl,aq _ _⟩
 ·have b:Hid (Hq v kind l=⟨(aM kind l).1.toArray⟩):=aa (Fl a);have j:(v==4)=false:=ar.2 a;have i:=aa hn;have g:=aa hg
  clear a hn hg;go_enter func124,ntmps124
  go_wp2_with fail
  refine Yg (KI kind l n i.o g.o A c _ H.o hl hc) fun k d=>?_;have f:=aa d;clear d
  go_wp2;go_ret;exact⟨by rw[b.o];rfl,f.o⟩
def GI(v kind:Int)(l:List Pr):Int:=if v=4 then(if 0<l.length then 2 else 0)else(aM kind l).2
theorem Gx(v kind:Int)(l:List Pr)(n:Nat)(hn:l.length=n)(hg:∀p∈l,ea p)(A:Option Addr)(c:Nat)(w:World)(h:Rd w w.heap.size 4 A n (prs l))(hl:n<=4611686018427387904)(hc:n<=c):
  Calls prog 111 #[.int .i64 v,.int .i64 kind,.slice A n c] w fun e w'=>e= .returned (.int .i64 (GI v kind l))/\Below w.heap.size w w':=by
 have H:=aa h;clear h
 have j:=aa hn;have i:=aa hg
 by_cases a:v=4
 ·have o:(v==4)=true:=aK.2 a
  by_cases d:0<n
  ·have b:Hid (GI v kind l=2):=aa (by unfold GI;rw[if_pos a,if_pos (by omega)]);have k:decide ((0:Int)<(n:Int))=true:=au (by omega);have m:decide (0<n)=true:=au d;clear a d hn hg;go_enter func111,ntmps111;go_wp2;go_ret;exact⟨by rw[b.o];rfl,aq _ _⟩
  ·have b:Hid (GI v kind l=0):=aa (by unfold GI;rw[if_pos a,Fl (by omega)]);have k:decide ((0:Int)<(n:Int))=false:=ah (by omega);have m:decide (0<n)=false:=ah d;clear a d hn hg;go_enter func111,ntmps111;go_wp2;go_ret;exact⟨by rw[b.o];rfl,aq _ _⟩
 ·have b:Hid (GI v kind l=(aM kind l).2):=aa (Fl a);have o:(v==4)=false:=ar.2 a;clear a hn hg;go_enter func111,ntmps111
  go_wp2_with fail
  refine Yg (Hv kind l n j.o i.o A c _ H.o hl hc) fun q f=>?_;have g:=aa f;clear f
  go_wp2;go_ret;exact⟨by rw[b.o];rfl,g.o⟩
theorem Io(t:ByteArray)(a:Nat)(e:Int):∀(i:Nat) (n:Int),(Am t a e)[i]? ≠some (Value.int IntKind.u32 n):=Yo t a e
section
attribute [local go_sem ↓] bD bF bH bI bu
attribute [local go_sem] bc aD bh bg bK bJ bd aY be aO ax cI dC dB dt dj di dA dr dp dn bW co YK bZ YM cz cy cw cu YL YP YB bS bP bR
theorem Im(W:World)(t:TypeId)(a b:Array Value):Bk ((W.alloc (.cells a t)).alloc (.cells b t)).drew W.heap.size t a/\Bk ((W.alloc (.cells a t)).alloc (.cells b t)).drew (W.heap.size+1) t b/\Below W.heap.size W ((W.alloc (.cells a t)).alloc (.cells b t)).drew:=by
 refine⟨((Bk.fresh W t a).alloc _).drewN 1,?_,aV (((aq _ _).alloc (ac _) _).alloc (by simp) _) 1⟩;have h:=(Bk.fresh (W.alloc (.cells a t)) t b).drewN 1;rw[Ze]at h;exact h
theorem Ha{w:World}{g:Nat}{x:Wl}{h:Hd}(b:Bk w g WlT (wlC x h)):w.cell? ⟨g,0,none⟩=some (.string x.topic)/\w.cell? ⟨g,1,none⟩=some (.string x.payload)/\w.cell? ⟨g,2,none⟩=some (.int .i64 x.qos)/\w.cell? ⟨g,3,none⟩=some (.bool x.retain)/\w.cell? ⟨g,4,none⟩=some (.slice h.a x.props.length h.c):=
 ⟨b.cell 0,b.cell 1,b.cell 2,b.cell 3,b.cell 4⟩
theorem GP(p q:Pk)(h k:Hs)(w:World)(ip:PkIn w w.heap.size p h)(iq:PkIn w w.heap.size q k)(lp:gz p)(lq:gz q):
  Calls prog 113 #[pkV p h,pkV q k] w fun e w'=>e= .returned (.bool (decide (p=q)))/\Below w.heap.size w w':=by
 have Z:=ic w (.cells (pkC p h) PkT) (.cells (pkC q k) PkT);have B1:Bk ((w.alloc (.cells (pkC p h) PkT)).alloc (.cells (pkC q k) PkT)) w.heap.size PkT (pkC p h):=(Bk.fresh w PkT (pkC p h)).alloc _;have B2:Bk ((w.alloc (.cells (pkC p h) PkT)).alloc (.cells (pkC q k) PkT)) (w.heap.size+1) PkT (pkC q k):=by
  simpa using Bk.fresh (w.alloc (.cells (pkC p h) PkT)) PkT (pkC q k)
 have l:=aa (And.intro ip (And.intro iq (And.intro lp lq)));have V:=aa Z;have H1:=aa B1;have H2:=aa B2
 have X:=aa (nQ p q);clear ip iq lp lq Z;have m:=fun i=>B1.cell i;have n:=fun i=>B2.cell i;clear B1 B2;go_enter func113,ntmps113
 go_wp2_with fail
 obtain⟨W,hW⟩:∃W,((w.alloc (.cells (pkC p h) PkT)).alloc (.cells (pkC q k) PkT))=W:=⟨_,rfl⟩;have Y:W.heap.size=w.heap.size+2:=by rw[<-hW];simp
 rw[hW]at m n V H1 H2⊢;have aQ:=aa Y;have l1:w.heap.size<W.heap.size:=by omega
 have l2:w.heap.size+1<W.heap.size:=by omega
 clear hW Y
 go_cut [5,6] (fun v5 v6 x=>∃g5 g6,v5= .pointer (some ⟨g5,0,none⟩)/\v6= .pointer (some ⟨g6,0,none⟩)/\Bk x g5 WlT (wlC p.will h.wp)/\Bk x g6 WlT (wlC q.will k.wp)/\Below W.heap.size W x)
 case first=>
  have j1:=m 15;have j2:=m 16;have j3:=m 17;have j4:=m 18;have j5:=m 19
  have m1:=n 15;have m2:=n 16;have m3:=n 17;have m4:=n 18;have m5:=n 19
  rw[cz]at j1 m1;rw[cy]at j2 m2;rw[cw]at j3 m3;rw[cu]at j4 m4;rw[YL]at j5 m5;clear m n
  go_region_law (fail)
  all_goals
   go_wp2
   go_meet
   case rel=>first| exact⟨_,_,rfl,rfl,(Im W _ _ _).1,(Im W _ _ _).2.1,(Im W _ _ _).2.2⟩ | exact⟨_,_,rfl,rfl,(Im W _ _ _).2.1,(Im W _ _ _).1,(Im W _ _ _).2.2⟩
 case rest=>
  obtain⟨g5,g6,rfl,rfl,b5,b6,A⟩:=hcut;have HX:=aa A;have P:=aa (H1.o.below A l1);have S:=aa (H2.o.below A l2)
  have o:=aa (Yf V.o A);clear m n A l1 l2;have m:=fun i=>P.o.cell i;have n:=fun i=>S.o.cell i;have C0:=aa (JE h.wp.a k.wp.a p.will.props.length q.will.props.length h.wp.c k.wp.c p.will.props q.will.props _ rfl rfl (l.o.1.next o.o).wp (l.o.2.1.next o.o).wp l.o.2.2.1.1 l.o.2.2.2.1);have F:=aa b5;have G:=aa b6
  clear b5 b6
  by_cases d:p.will.topic=q.will.topic
  rotate_left
  ·have u:Hid (decide (p=q)=false):=aa (ah (fun x=>d (by rw[x])));have U:¬(p.will.topic.toList=q.will.topic.toList):=fun x=>d ((toList_inj _ _).1 x);have x2:(p.will.topic.toList==q.will.topic.toList)=false:=ar.2 U;have x3:(p.will.topic.toList !=q.will.topic.toList)=true:=aA.2 U;obtain⟨H,I,J,K,L⟩:=Ha F.o;obtain⟨s,t,v,B,M⟩:=Ha G.o;clear d;go_wp2;go_ret;exact⟨by rw[u.o];rfl,o.o⟩
  by_cases b:p.will.payload=q.will.payload
  rotate_left
  ·have u:Hid (decide (p=q)=false):=aa (ah (fun x=>b (by rw[x])));have U:¬(p.will.payload.toList=q.will.payload.toList):=fun x=>b ((toList_inj _ _).1 x);have x2:(p.will.payload.toList==q.will.payload.toList)=false:=ar.2 U;have x3:(p.will.payload.toList !=q.will.payload.toList)=true:=aA.2 U;obtain⟨H,I,J,K,L⟩:=Ha F.o;obtain⟨s,t,v,B,M⟩:=Ha G.o;rw[<-d]at s;clear b d;go_wp2;go_ret;exact⟨by rw[u.o];rfl,o.o⟩
  by_cases g:p.will.qos=q.will.qos
  rotate_left
  ·have u:Hid (decide (p=q)=false):=aa (ah (fun x=>g (by rw[x])));have x2:(p.will.qos==q.will.qos)=false:=ar.2 g;have x3:(p.will.qos !=q.will.qos)=true:=aA.2 g;obtain⟨H,I,J,K,L⟩:=Ha F.o;obtain⟨s,t,v,B,M⟩:=Ha G.o;rw[<-d]at s;rw[<-b]at t;clear g d b;go_wp2;go_ret;exact⟨by rw[u.o];rfl,o.o⟩
  by_cases f:p.will.retain=q.will.retain
  rotate_left
  ·have u:Hid (decide (p=q)=false):=aa (ah (fun x=>f (by rw[x])));have x2:(p.will.retain==q.will.retain)=false:=ar.2 f;have x3:(p.will.retain !=q.will.retain)=true:=aA.2 f;obtain⟨H,I,J,K,L⟩:=Ha F.o;obtain⟨s,t,v,B,M⟩:=Ha G.o;rw[<-d]at s;rw[<-b]at t;rw[<-g]at v;clear f d b g;go_wp2;go_ret;exact⟨by rw[u.o];rfl,o.o⟩
  by_cases j:p.will.props=q.will.props
  rotate_left
  ·have u:Hid (decide (p=q)=false):=aa (ah (fun x=>j (by rw[x])));have DP:=aa (ah j);obtain⟨H,I,J,K,L⟩:=Ha F.o;obtain⟨s,t,v,B,M⟩:=Ha G.o;rw[<-d]at s;rw[<-b]at t;rw[<-g]at v;rw[<-f]at B;clear j d b g f
   go_wp2_with fail
   refine C0.o.mono ?_;rintro e w3 ⟨rfl,C⟩;rw[DP.o];have r:=aa (Yf o.o C);clear C
   go_wp2;go_ret;exact⟨by rw[u.o];rfl,r.o⟩
  have DP:=aa (au j);have DW:Hid (p.will=q.will):=aa (nC _ _ |>.2 ⟨d,b,g,f,j⟩);obtain⟨H,I,J,K,L⟩:=Ha F.o;obtain⟨s,t,v,B,M⟩:=Ha G.o;rw[<-d]at s;rw[<-b]at t;rw[<-g]at v;rw[<-f]at B;clear j d b g f
  go_wp2_with fail
  refine C0.o.mono ?_;rintro e w3 ⟨rfl,C⟩;rw[DP.o];have r:=aa (Yf o.o C);have N:=aa (Yh P.o C);have Q:=aa (Yh S.o C)
  clear C m n H I J K L s t v B M;have m:=fun i=>N.o.cell i;have n:=fun i=>Q.o.cell i
  go_wp2_with (first
   | (go_at_call 188;refine Yg (LM h.codes.a k.codes.a p.codes.length q.codes.length h.codes.c k.codes.c p.codes q.codes _ (l.o.1.next r.o).codes (l.o.2.1.next r.o).codes (aC l.o.2.2.1.2.1 (by decide)) (aC l.o.2.2.2.2.1 (by decide))) fun w4 D=>?_;have y:=aa (Yf r.o D);have O:=aa (Yh N.o D);have R:=aa (Yh Q.o D);clear D m n;have m:=fun i=>O.o.cell i;have n:=fun i=>R.o.cell i)
   | (go_at_call 189;refine Yg (JY h.filters.a k.filters.a p.filters.length q.filters.length h.filters.c k.filters.c p.filters q.filters _ rfl rfl (l.o.1.next y.o).filters (l.o.2.1.next y.o).filters l.o.2.2.1.2.2.1 l.o.2.2.2.2.2.1) fun w5 E=>?_;have z:=aa (Yf y.o E);have ap:=aa (Yh O.o E);have av:=aa (Yh R.o E);clear E m n;have m:=fun i=>ap.o.cell i;have n:=fun i=>av.o.cell i)
   | (go_at_call 187;refine Yg (JE h.props.a k.props.a p.props.length q.props.length h.props.c k.props.c p.props q.props _ rfl rfl (l.o.1.next z.o).props (l.o.2.1.next z.o).props l.o.2.2.1.2.2.2 l.o.2.2.2.2.2.2) fun w6 ab=>?_;have aw:=aa (Yf z.o ab);clear ab))
  all_goals
   go_ret;refine⟨eT ?_,by first| exact aw.o| exact z.o| exact y.o| exact r.o⟩;have DW:=DW.o;have X:=X.o
   clear V r m n
   by_cases T:p=q
   ·subst T
    simp_all
   ·rw[ah T]
    first| done| (rw[X]at T;clear X;simp_all[toList_inj])
end
end Go.Proofs.YtemooicddjimbaaGreatDoor
