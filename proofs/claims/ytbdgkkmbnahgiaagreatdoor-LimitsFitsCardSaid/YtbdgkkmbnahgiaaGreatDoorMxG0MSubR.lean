/- A part of what the laws stand on: MSubR, RhB. -/
import Derived.Test.YtbdgkkmbnahgiaaGreatDoorMxG0MFilE
import Derived.Test.YtbdgkkmbnahgiaaGreatDoorMxG0MCns
import Derived.Test.YtbdgkkmbnahgiaaGreatDoorMxG0MqB
set_option maxRecDepth 10000
set_option maxHeartbeats 8000000
namespace Go.Proofs.YtbdgkkmbnahgiaaGreatDoor
open Go.RowKit Go.Proofs.Tryz
section
attribute [local go_sem ↓] bD bF bH bI bu
attribute [local go_sem] bc aD bh bg bK bJ bd aY be aO ax cI dC dB dt dj di dA dr dp dn bW co bO bZ bX cz cy cw cu ct cC cn bS bP bR
attribute [local go_sem ↓high] bu sD sE
attribute [local go_sem ↓] wh
attribute [local go_sem] Cv BD mX uw pU sO ta yp s9 yo sZ yn sV ym sU yl sT yk sS yj sR yi sQ yh sP yg pC uI pB uH pA uG py uF pu uE pr uC pq uB pp uA po uz pm uy pj ux sY pX sX pW sW pV
theorem No(k:Int)(w:World):Calls prog 212 #[.int .i64 k] w fun e w'=>e= .returned (.bool (jm k))/\w=w':=by
 go_enter func212,ntmps212;go_wp2
 all_goals
  go_ret;refine⟨eT ?_,rfl⟩;unfold jm
  by_cases h4:k=8<;>by_cases h5:k=10<;>simp_all
def It(k:Int):Bool:=decide (8<=k)&&decide (k<=11)
theorem Mn(k:Int)(w:World):Calls prog 211 #[.int .i64 k] w fun e w'=>e= .returned (.bool (It k))/\w=w':=by
 go_enter func211,ntmps211;go_wp2
 all_goals
  go_ret;refine⟨eT ?_,rfl⟩;unfold It
  by_cases h4:8<=k<;>by_cases h5:k<=11<;>simp_all<;>omega
theorem Nm(v k c:Int)(w:World):Calls prog 249 #[.int .i64 v,.int .i64 k,.int .i64 c] w fun e w'=>e= .returned (.bool (xF v k c))/\Below w.heap.size w w':=by
 by_cases h4:v=4
 ·have e4:(v==4)=true:=aK.2 h4;have HX:Hid (xF v k c=tq c):=aa (if_pos h4);clear h4;go_enter func249,ntmps249
  go_wp2_with fail
  refine(Lq c _).mono ?_;rintro e w1 ⟨rfl,hw1⟩;subst hw1;go_wp2;go_ret;exact⟨by rw[HX.o];rfl,aq _ _⟩
 ·have e4:(v==4)=false:=ar.2 h4;have HX:Hid (xF v k c=may k c):=aa (ae h4);clear h4;go_enter func249,ntmps249
  go_wp2_with fail
  refine(Ht k c _).mono ?_;rintro e w1 ⟨rfl,hb⟩;have HB:=aa hb;clear hb
  go_wp2;go_ret;exact⟨by rw[HX.o];rfl,HB.o⟩
theorem Mx(n:Int):(n.tmod 4+4) % 4=n% 4:=by
 have h:=@Int.tmod_eq_emod n 4;split at h
 ·rw[h];omega
 ·rw[h];have:(((4:Int).natAbs:Nat):Int)=4:=rfl;omega
theorem KZ(n:Int)(w:World):Calls prog 325 #[.int .i64 n] w fun e w'=>e= .returned (.int .i64 (n% 4))/\w=w':=by
 have HP:=aa (Mx n);have h1:=Int.lt_tmod_of_pos n (show(0:Int)<4 by decide);have h2:=Int.tmod_lt_of_pos n (show(0:Int)<4 by decide);go_enter func325,ntmps325;go_wp2;go_ret;exact⟨by rw[<-HP.o];rfl,rfl⟩
theorem My{f:Fi}{q h:Int}{a b:Bool}:f=⟨f.topic,q,a,b,h⟩↔f.qos=q/\f.noLocal=a/\f.asPub=b/\f.handling=h:=by
 obtain⟨t,q',a',b',h'⟩:=f;simp
theorem O0(v k:Int)(f:Fi):nT v k f=if k=10 then decide (f=⟨f.topic,0,false,false,0⟩)else if(jZ f.qos&&jZ f.handling)=false then false
  else if v=4 then(!f.noLocal&&(!f.asPub&&decide (f.handling=0)))else(!f.noLocal || !fy f.topic):=by
 unfold nT l9
 by_cases hk:k=10
 ·rw[if_pos hk,if_pos hk,<-Ij];refine eb.2 ?_;rw[My,My];exact⟨fun x=>⟨x.2,x.1.2⟩,fun x=>⟨⟨rfl,x.2⟩,x.1⟩⟩
 rw[ae hk,ae hk]
 by_cases hv:v=4
 ·rw[if_pos hv,if_pos hv];have hp:decide (f=⟨f.topic,f.qos,false,false,0⟩)=(!f.noLocal&&(!f.asPub&&decide (f.handling=0))):=by
   have:(!f.noLocal&&(!f.asPub&&decide (f.handling=0)))=decide (f.noLocal=false/\f.asPub=false/\f.handling=0):=by
    cases f.noLocal<;>cases f.asPub<;>simp
   rw[this];refine eb.2 ?_;rw[My];exact⟨fun x=>x.2,fun x=>⟨rfl,x⟩⟩
  rw[hp]
  by_cases h0:f.handling=0
  ·have hl:jZ f.handling=true:=by rw[h0];rfl
   rw[hl,IK];cases jZ f.qos
   ·rw[ru,if_pos rfl]
   ·rw[IK,ae (by decide)]
  ·rw[ah h0];simp
 ·rw[ae hv,ae hv];cases jZ f.qos<;>cases jZ f.handling<;>cases fy f.topic<;>cases f.noLocal<;>rfl
theorem Lw(v k:Int)(f:Fi)(w:World)(hs:f.topic.size<=4611686018427387904):
  Calls prog 248 #[.int .i64 v,.int .i64 k,.agg #[.string f.topic,.int .i64 f.qos,.bool f.noLocal,.bool f.asPub,.int .i64 f.handling]] w fun e w'=>e= .returned (.bool (nT v k f))/\Below w.heap.size w w':=by
 have HS:=aa hs;have HB0:=aa ((aq w.heap.size w).alloc (ac _) (.cells #[.string f.topic,.int .i64 f.qos,.bool f.noLocal,.bool f.asPub,.int .i64 f.handling] 32));have HK0:=aa (Bk.fresh w 32 #[.string f.topic,.int .i64 f.qos,.bool f.noLocal,.bool f.asPub,.int .i64 f.handling]);have HE:=aa (O0 v k f);have hgt:=kP;have hne:=fun W=>mJ f ⟨f.topic,0,false,false,0⟩ W;obtain⟨pl,hpl⟩:∃pl,decide (f=⟨f.topic,0,false,false,0⟩)=pl:=⟨_,rfl⟩;rw[hpl]at hne;have HP:=aa hpl;clear hpl hs;go_enter func248,ntmps248
 by_cases hk:k=10
 ·have ek:(k==10)=true:=aK.2 hk;have HX:Hid (nT v k f=pl):=aa (by rw[HE.o,if_pos hk,HP.o]);clear hk;go_wp2;go_ret;exact⟨by rw[HX.o];rfl,HB0.o⟩
 have ek:(k==10)=false:=ar.2 hk;have HE1:Hid (nT v k f=if(jZ f.qos&&jZ f.handling)=false then false
  else if v=4 then(!f.noLocal&&(!f.asPub&&decide (f.handling=0)))else(!f.noLocal || !fy f.topic)):=aa (by rw[HE.o,ae hk])
 clear hk HE
 by_cases a1:f.qos<0
 ·have HX:Hid (nT v k f=false):=aa (by rw[HE1.o,if_pos (by unfold jZ;rw[ah (show ¬0<=f.qos by omega)];rfl)]);go_wp2;go_ret;exact⟨by rw[HX.o];rfl,HB0.o⟩
 by_cases a2:2<f.qos
 ·have HX:Hid (nT v k f=false):=aa (by rw[HE1.o,if_pos (by unfold jZ;rw[ah (show ¬f.qos<3 by omega),ru];rfl)]);go_wp2;go_ret;exact⟨by rw[HX.o];rfl,HB0.o⟩
 have hq:jZ f.qos=true:=by unfold jZ;rw[au (show 0<=f.qos by omega),au (show f.qos<3 by omega)];rfl
 by_cases b1:f.handling<0
 ·have HX:Hid (nT v k f=false):=aa (by rw[HE1.o,if_pos (by rw[hq];unfold jZ;rw[ah (show ¬0<=f.handling by omega)];rfl)]);clear hq;go_wp2;go_ret;exact⟨by rw[HX.o];rfl,HB0.o⟩
 by_cases b2:2<f.handling
 ·have HX:Hid (nT v k f=false):=aa (by rw[HE1.o,if_pos (by rw[hq];unfold jZ;rw[ah (show ¬f.handling<3 by omega),ru];rfl)]);clear hq;go_wp2;go_ret;exact⟨by rw[HX.o];rfl,HB0.o⟩
 have HE2:Hid (nT v k f=if v=4 then(!f.noLocal&&(!f.asPub&&decide (f.handling=0)))else(!f.noLocal || !fy f.topic)):=aa (by
  rw[HE1.o,ae (by rw[hq,show jZ f.handling=true by unfold jZ;rw[au (show 0<=f.handling by omega),au (show f.handling<3 by omega)];rfl];decide)])
 clear hq HE1
 by_cases h4:v=4
 ·have e4:(v==4)=true:=aK.2 h4;have HE3:Hid (nT v k f=(!f.noLocal&&(!f.asPub&&decide (f.handling=0)))):=aa (by rw[HE2.o,if_pos h4]);clear h4;obtain⟨nl,hnl⟩:∃nl,f.noLocal=nl:=⟨_,rfl⟩;obtain⟨ap,hap⟩:∃ap,f.asPub=ap:=⟨_,rfl⟩;rw[hnl,hap]at HE3 HK0 hne HB0⊢;clear hnl hap;cases nl
  ·cases ap
   ·go_wp2;go_ret;exact⟨by rw[HE3.o];rfl,HB0.o⟩
   ·go_wp2;go_ret;exact⟨by rw[HE3.o];rfl,HB0.o⟩
  ·go_wp2;go_ret;exact⟨by rw[HE3.o];rfl,HB0.o⟩
 have e4:(v==4)=false:=ar.2 h4;have HE3:Hid (nT v k f=(!f.noLocal || !fy f.topic)):=aa (by rw[HE2.o,ae h4]);clear h4 HE2
 go_wp2_with fail
 refine(KB f.topic _ HS.o).mono ?_;rintro e w1 ⟨⟨a,b,rfl⟩,hb⟩;have HB1:=aa (HB0.o.trans (hb.mono HB0.o.size));have HK1:=aa (HK0.o.below hb HK0.o.lt);clear hb;have c2:=HK1.o.cell 2;simp only[ay,aE,aB]at c2;obtain⟨nl,hnl⟩:∃nl,f.noLocal=nl:=⟨_,rfl⟩;rw[hnl]at HE3 c2⊢;clear hnl;generalize fy f.topic=sh at*;cases nl
 ·go_wp2;go_ret;exact⟨by rw[HE3.o];rfl,HB1.o⟩
 ·go_wp2;go_ret;exact⟨by rw[HE3.o];rfl,HB1.o⟩
theorem Nl(f:Fi)(w:World):
  Calls prog 257 #[.agg #[.string f.topic,.int .i64 f.qos,.bool f.noLocal,.bool f.asPub,.int .i64 f.handling]] w fun e w'=>e= .returned (.int .i64 (BS f))/\Below w.heap.size w w':=by
 have HB0:=aa ((aq w.heap.size w).alloc (ac _) (.cells #[.string f.topic,.int .i64 f.qos,.bool f.noLocal,.bool f.asPub,.int .i64 f.handling] 32));have HK0:=aa (Bk.fresh w 32 #[.string f.topic,.int .i64 f.qos,.bool f.noLocal,.bool f.asPub,.int .i64 f.handling]);obtain⟨A,hA⟩:∃A,f.qos% 4=A:=⟨_,rfl⟩;obtain⟨B,hB⟩:∃B,f.handling% 4=B:=⟨_,rfl⟩;obtain⟨nl,hnl⟩:∃nl,f.noLocal=nl:=⟨_,rfl⟩;obtain⟨ap,hap⟩:∃ap,f.asPub=ap:=⟨_,rfl⟩;have HO:Hid (BS f=A+16*B+pc nl 4+pc ap 8):=aa (by unfold BS;rw[hA,hB,hnl,hap];omega);have hA0:0<=A:=by omega
 have hA1:A<=3:=by omega
 have hB0:0<=B:=by omega
 have hB1:B<=3:=by omega
 have HA:=aa hA;have HBB:=aa hB
 clear hA hB;rw[hnl,hap]at HK0 HB0⊢;clear hnl hap;go_enter func257,ntmps257
 go_wp2_with fail
 obtain⟨W,hW⟩:∃W,w.alloc (.cells #[.string f.topic,.int .i64 f.qos,.bool nl,.bool ap,.int .i64 f.handling] 32)=W:=⟨_,rfl⟩;rw[hW]at HK0 HB0⊢;clear hW;have q0:=jw (W:=W) (fun x _=>(KZ f.qos x).mono (fun e w' h=>⟨h.1,h.2▸aq _ _⟩));have q1:=jw (W:=W) (fun x _=>(KZ f.handling x).mono (fun e w' h=>⟨h.1,h.2▸aq _ _⟩));rw[HA.o]at q0;rw[HBB.o]at q1;have m1:=cell_regrown (show W.cell? ⟨w.heap.size,1,none⟩=some (.int .i64 f.qos)from HK0.o.cell 1);have m4:=cell_regrown (show W.cell? ⟨w.heap.size,4,none⟩=some (.int .i64 f.handling)from HK0.o.cell 4);have HBQ:=aa (fun d os=>HB0.o.trans ((below_regrown W d os).mono HB0.o.size));have HKQ:=aa (fun d os=>HK0.o.below (below_regrown W d os) HK0.o.lt);refine wp_region_quiet_below (by as_aux_lemma=>kernel_rfl) (by as_aux_lemma=>kernel_rfl) ?_
 repeat (go_big_quiet_step (first| with_reducible exact q0 _ _| with_reducible exact q1 _ _))
 refine kE ?_;intro _ hw';obtain⟨⟨dq,osq⟩,hw''⟩:=hw';subst hw'';have KF:=aa (HBQ.o dq osq);have KC:=aa (HKQ.o dq osq);clear q0 q1 m1 m4 HBQ HKQ;generalize Sort.grow (redrawn _ dq) osq=wq at*;have c2:=KC.o.cell 2;have c3:=KC.o.cell 3;simp only[ay,aE,aB]at c2 c3;cases nl
 ·cases ap
  ·go_wp2;go_ret;exact⟨by rw[HO.o];simp[pc],KF.o⟩
  ·go_wp2;go_ret;exact⟨by rw[HO.o];simp[pc],KF.o⟩
 ·cases ap
  ·go_wp2;go_ret;exact⟨by rw[HO.o];simp[pc],KF.o⟩
  ·go_wp2;go_ret;exact⟨by rw[HO.o];simp[pc],KF.o⟩
def rsQ(v:Int)(p:Pk):Pk:=
 if jm p.kind=true then {pk0 with kind:=p.kind,id:=p.id,props:=p.props,filters:=p.filters}
 else if p.kind=9\/v=5 then {pk0 with kind:=p.kind,id:=p.id,props:=p.props,codes:=p.codes}
 else {pk0 with kind:=p.kind,id:=p.id,props:=p.props}
def rsH(v:Int)(p:Pk)(h:Hs):Hs:=
 if jm p.kind=true then {hs0 with props:=h.props,filters:=h.filters}
 else if p.kind=9\/v=5 then {hs0 with props:=h.props,codes:=h.codes}
 else {hs0 with props:=h.props}
theorem PT{v:Int}{p:Pk}(hv:v=4\/v=5)(hk:It p.kind=true)(h:Hs):rsQ v p=sbQ v p/\rsH v p h=sbH v p h:=by
 unfold It at hk;simp only[eh,Fx]at hk;unfold rsQ sbQ rsH sbH
 by_cases ha:jm p.kind=true
 ·rw[if_pos ha,if_pos ha,if_pos ha,if_pos ha];exact⟨rfl,rfl⟩
 ·rw[ae ha,ae ha,ae ha,ae ha];have hn:¬(p.kind=8\/p.kind=10):=fun x=>ha (au x)
  by_cases h9:p.kind=9\/v=5
  ·have hs:pP v p.kind=false:=ah (fun x=>by omega);rw[if_pos h9,if_pos h9,hs,ae (by decide),ae (by decide)];exact⟨rfl,rfl⟩
  ·have hs:pP v p.kind=true:=au ⟨by omega,by omega⟩;rw[ae h9,ae h9,if_pos hs,if_pos hs];exact⟨rfl,rfl⟩
theorem M6(W:World){n:Nat}(hz:W.heap.size=n):∀q k,(zc (.pointer (some ⟨n,0,none⟩)) (pkV q k)).run prog (W.alloc (.cells (pkC pk0 hs0) PkT))= .ok () (pw (W.alloc (.cells (pkC pk0 hs0) PkT)) n (pkC q k)):=fun q k=>by
 have h1:=ax W pk0 q hs0 k;have h2:pw (W.alloc (.cells (pkC pk0 hs0) PkT)) n (pkC q k)=W.alloc (.cells (pkC q k) PkT):=by
  have hx:(pw (W.alloc (.cells (pkC pk0 hs0) PkT)) W.heap.size (pkC q k))=W.alloc (.cells (pkC q k) PkT):=by
   have hh:(W.heap.push (.cells (pkC pk0 hs0) PkT (0,0))).setIfInBounds W.heap.size (.cells (pkC q k) PkT (0,0))=W.heap.push (.cells (pkC q k) PkT (0,0)):=by
    apply Il;intro i;rw[Array.getElem?_push]
    by_cases hi:W.heap.size=i
    ·subst hi;simp
    ·rw[eK hi,Array.getElem?_push,ae (fun e=>hi e.symm),ae (fun e=>hi e.symm)]
   exact congrArg (fun x=>{W with heap:=x}) hh
  rw[hz]at hx;exact hx
 rw[hz]at h1;rw[h2];exact h1
theorem Nk(v:Int)(p:Pk)(h:Hs)(w:World):
  Calls prog 246 #[.int .i64 v,pkV p h] w fun e w'=>e= .returned (pkV (rsQ v p) (rsH v p h))/\Below w.heap.size w w':=by
 have hb2:=ic w (.cells (pkC p h) PkT) (.cells (pkC pk0 hs0) PkT);have B1:Bk ((w.alloc (.cells (pkC p h) PkT)).alloc (.cells (pkC pk0 hs0) PkT)) w.heap.size PkT (pkC p h):=(Bk.fresh w PkT (pkC p h)).alloc _;have B2:Bk ((w.alloc (.cells (pkC p h) PkT)).alloc (.cells (pkC pk0 hs0) PkT)) (w.heap.size+1) PkT (pkC pk0 hs0):=by
  have:=Bk.fresh (w.alloc (.cells (pkC p h) PkT)) PkT (pkC pk0 hs0);rwa[show(w.alloc (.cells (pkC p h) PkT)).heap.size=w.heap.size+1 by simp]at this
 have hz:((w.alloc (.cells (pkC p h) PkT)).alloc (.cells (pkC pk0 hs0) PkT)).heap.size=w.heap.size+2:=by simp
 generalize hW:(w.alloc (.cells (pkC p h) PkT)).alloc (.cells (pkC pk0 hs0) PkT)=W at hb2 B1 B2 hz;have HB:=aa hb2;have H1:=aa B1;have H2:=aa B2;have HZ:=aa hz
 clear hb2 B1 B2;have k1:=fun i=>H1.o.cell i;have ub:=wu p.kind p.id p.props h.props.a h.props.c;have B3:=Bk.fresh W PkT (pkC pk0 hs0);rw[hz]at B3;have hlt:w.heap.size+2<(W.alloc (.cells (pkC pk0 hs0) PkT)).heap.size:=B3.lt;have b1':Bk (W.alloc (.cells (pkC pk0 hs0) PkT)) w.heap.size PkT (pkC p h):=H1.o.alloc _;have b2':Bk (W.alloc (.cells (pkC pk0 hs0) PkT)) (w.heap.size+1) PkT (pkC pk0 hs0):=H2.o.alloc _;have bb:Below w.heap.size w (W.alloc (.cells (pkC pk0 hs0) PkT)):=HB.o.alloc HB.o.size _;have hs0':=M6 W hz;generalize hV:W.alloc (.cells (pkC pk0 hs0) PkT)=V at hlt b1' b2' bb hs0';have N1:=aa b1';have N2:=aa b2';have NB:=aa bb;have NL:=aa hlt
 clear b1' b2' bb B3;have f1:∀cs,Bk (pw V (w.heap.size+2) cs) w.heap.size PkT (pkC p h):=fun cs=>(uv V (w.heap.size+2) cs (by omega)).trans N1.o;have j1:=fun cs=>(f1 cs).cell;clear f1;have jb:Hid (∀cs,Bk (pw V (w.heap.size+2) cs) (w.heap.size+1) PkT (pkC pk0 hs0)):=aa (fun cs=>(uv V (w.heap.size+2) cs (by omega)).trans N2.o);have js:=fun cs q k=>aW (jb.out cs) q k;have JB:Hid (∀cs,Below w.heap.size w (pw V (w.heap.size+2) cs)):=aa (fun cs=>BC V (w.heap.size+2) cs NB.o (by omega));go_enter func246,ntmps246
 go_wp2_with fail
 refine(No p.kind _).mono ?_;rintro e w1 ⟨rfl,hw1⟩;subst hw1;cases ha:jm p.kind
 ·by_cases h9:p.kind=9
  ·have e9:(p.kind==9)=true:=aK.2 h9;have E1:Hid (rsQ v p= {pk0 with kind:=p.kind,id:=p.id,props:=p.props,codes:=p.codes}):=aa (by unfold rsQ;rw[ae (by rw[ha];decide),if_pos (.inl h9)]);have E2:Hid (rsH v p h= {hs0 with props:=h.props,codes:=h.codes}):=aa (by unfold rsH;rw[ae (by rw[ha];decide),if_pos (.inl h9)]);clear ha h9;go_wp2;refine av (fz rfl _ rfl (cO (jb.out _) _ _)) rfl ?_;rw[E1.o,E2.o];exact⟨rfl,bT (JB.o _) (JB.o _).size (IT _) _ _⟩
  ·have e9:(p.kind==9)=false:=ar.2 h9
   by_cases h5:v=5
   ·have e5:(v==5)=true:=aK.2 h5;have E1:Hid (rsQ v p= {pk0 with kind:=p.kind,id:=p.id,props:=p.props,codes:=p.codes}):=aa (by unfold rsQ;rw[ae (by rw[ha];decide),if_pos (.inr h5)]);have E2:Hid (rsH v p h= {hs0 with props:=h.props,codes:=h.codes}):=aa (by unfold rsH;rw[ae (by rw[ha];decide),if_pos (.inr h5)]);clear ha h9 h5;go_wp2;refine av (fz rfl _ rfl (cO (jb.out _) _ _)) rfl ?_;rw[E1.o,E2.o];exact⟨rfl,bT (JB.o _) (JB.o _).size (IT _) _ _⟩
   ·have e5:(v==5)=false:=ar.2 h5;have E1:Hid (rsQ v p= {pk0 with kind:=p.kind,id:=p.id,props:=p.props}):=aa (by unfold rsQ;rw[ae (by rw[ha];decide),ae (fun y=>y.elim h9 h5)]);have E2:Hid (rsH v p h= {hs0 with props:=h.props}):=aa (by unfold rsH;rw[ae (by rw[ha];decide),ae (fun y=>y.elim h9 h5)]);clear ha h9 h5;go_wp2;refine av (fz rfl _ rfl (cO (jb.out _) _ _)) rfl ?_;rw[E1.o,E2.o];exact⟨rfl,bT (JB.o _) (JB.o _).size (IT _) _ _⟩
 ·have E1:Hid (rsQ v p= {pk0 with kind:=p.kind,id:=p.id,props:=p.props,filters:=p.filters}):=aa (by unfold rsQ;rw[if_pos ha]);have E2:Hid (rsH v p h= {hs0 with props:=h.props,filters:=h.filters}):=aa (by unfold rsH;rw[if_pos ha]);clear ha;go_wp2;refine av (fz rfl _ rfl (cO (jb.out _) _ _)) rfl ?_;rw[E1.o,E2.o];exact⟨rfl,bT (JB.o _) (JB.o _).size (IT _) _ _⟩
end
section
attribute [local go_sem ↓] bD bF bH bI bu
attribute [local go_sem] bc aD bh bg bK bJ bd aY be aO ax cI dC dB dt dj di dA dr dp dn bW co bO bZ bX cz cy cw cu ct cC cn bS bP bR
def gB(v:Int)(p:Pk):Bool:=ba v&&(It p.kind&&(decide (p=rsQ v p)&&(!decide (p.id<1)&&(!decide (65535<p.id)&& !(decide (v=4)&&decide (0<p.props.length))))))
theorem Qi(v:Int)(p:Pk):xY v p=(gB v p&&lj v p):=by
 unfold xY eH gB;have hk:ir v p.kind=(ba v&&It p.kind):=by
  unfold ir ba It;rw[<-Ij,<-Ij]
 rw[hk];cases h1:ba v
 ·rfl
 cases h2:It p.kind
 ·rfl
 rw[(PT (aR h1) h2 hs0).1];cases decide (p.id<1)<;>cases decide (65535<p.id)<;>cases decide (v=4)<;>cases decide (0<p.props.length)<;>cases lj v p<;>cases decide (p=sbQ v p)<;>rfl
theorem PI{v:Int}{p:Pk}(g:gB v p=true):lj v p= !(decide (p.filters.length+p.codes.length=0)&& !(decide (p.kind=11)&&decide (v=4))):=by
 unfold gB at g;simp only[eh]at g;obtain⟨h1,h2,h3,-⟩:=g;have h3:=aR h3;rw[(PT (aR h1) h2 hs0).1]at h3;unfold It at h2;simp only[eh,Fx]at h2;unfold lj;cases ha:jm p.kind
 ·have hf:=Ib h3 ha;rw[ae (by decide),hf];have hn:¬(p.kind=8\/p.kind=10):=Gy ha;cases hsil:pP v p.kind
  ·rw[ae (by decide)];have hs:¬(p.kind=11/\v=4):=Gy hsil;have:(decide (p.kind=11)&&decide (v=4))=false:=by rw[<-Ij];exact ah hs
   rw[this,Bool.not_false,IK,<-decide_not];exact eb.2 (by simp only[eC];omega)
  ·rw[if_pos rfl];have hs:p.kind=11/\v=4:=aR hsil;rw[au hs.1,au hs.2];simp
 ·have hc:=Iz h3 ha;rw[if_pos rfl,hc];have hn:p.kind=8\/p.kind=10:=aR ha;rw[ah (show ¬p.kind=11 by omega),bj,Bool.not_false,IK,<-decide_not];exact eb.2 (by simp only[eC];omega)
theorem OX(v:Int){p:Pk}(x:gz p):gz (rsQ v p):=by
 unfold rsQ;split
 ·exact⟨ag _,ag _,x.2.2.1,x.2.2.2⟩
 ·split
  ·exact⟨ag _,x.2.1,ag _,x.2.2.2⟩
  ·exact⟨ag _,ag _,ag _,x.2.2.2⟩
theorem PZ(v:Int){w:World}{B:Nat}{p:Pk}{h:Hs}(x:PkIn w B p h):PkIn w B (rsQ v p) (rsH v p h):=by
 unfold rsQ rsH;split
 ·exact⟨Rd.nil _ _ _ _,Rd.nil _ _ _ _,x.filters,x.props,ag _,ag _,x.caps.2.2.1,x.caps.2.2.2⟩
 ·split
  ·exact⟨Rd.nil _ _ _ _,x.codes,Rd.nil _ _ _ _,x.props,ag _,x.caps.2.1,ag _,x.caps.2.2.2⟩
  ·exact⟨Rd.nil _ _ _ _,Rd.nil _ _ _ _,Rd.nil _ _ _ _,x.props,ag _,ag _,ag _,x.caps.2.2.2⟩
theorem Kh(v:Int)(p:Pk)(h:Hs)(w:World)(ip:PkIn w w.heap.size p h)(ok:PkOk p):
  Calls prog 184 #[.int .i64 v,pkV p h] w fun e w'=>e= .returned (.int .i64 (sbE v p))/\Below w.heap.size w w':=by
 have OK:=aa ok;have S0:=aa ((St.start w).push ip);have HE:Hid (sbE v p=if xY v p=false then 2 else if(aM p.kind p.props).2≠0 then(aM p.kind p.props).2
  else if fiE v p.kind p.filters≠0 then fiE v p.kind p.filters else cdE v p.kind p.codes):=aa rfl
 have HG:Hid (gB v p=(ba v&&(It p.kind&&(decide (p=rsQ v p)&&(!decide (p.id<1)&&(!decide (65535<p.id)&& !(decide (v=4)&&decide (0<p.props.length)))))))):=aa rfl;obtain⟨W,hW⟩:∃W,w.alloc (.cells (pkC p h) PkT)=W:=⟨_,rfl⟩;rw[hW]at S0;clear ip ok;go_enter func184,ntmps184
 go_upto_region 1 with fail
 clear hW
 go_cut [44] (fun a wx=>a= .bool (!gB v p)/\St w [(w.heap.size,p,h)] wx)
 case first=>
  have q0:=jw (W:=W) (fun x _=>(pS v x).mono (by rintro e w' ⟨rfl,rfl⟩;exact⟨rfl,aq _ _⟩));have q1:=jw (W:=W) (fun x _=>(Mn p.kind x).mono (by rintro e w' ⟨rfl,rfl⟩;exact⟨rfl,aq _ _⟩));have q2:=jw (W:=W) (fun x _=>Nk v p h x);have q3:=jw (W:=W) (fun x hx=>GP p (rsQ v p) h (rsH v p h) x ((S0.o.below hx).into 0 rfl) (PZ v ((S0.o.below hx).into 0 rfl)) OK.o.len (OX v OK.o.len));have k0:=cell_regrown (show W.cell? ⟨w.heap.size,0,none⟩=some (.int .i64 p.kind)from S0.o.cell 0 rfl 0);have k4:=cell_regrown (show W.cell? ⟨w.heap.size,4,none⟩=some (.int .i64 p.id)from S0.o.cell 0 rfl 4);have k24:=cell_regrown (show W.cell? ⟨w.heap.size,24,none⟩=some (.slice h.props.a p.props.length h.props.c)from S0.o.cell 0 rfl 24);have l0:=qp (S0.o.bk 0 rfl);have HBW:Hid (∀d os,Below W.heap.size W (Sort.grow (redrawn W d) os)):=aa (fun d os=>below_regrown W d os);generalize rsQ v p=Q at*;generalize rsH v p h=QH at*;cases hk:ba v
  ·rw[hk]at q0;have HX:Hid (gB v p=false):=aa (by rw[HG.o,hk];rfl);clear hk
   go_wp2_with fail
   refine wp_region_quiet_below (by kernel_rfl) (by kernel_rfl) ?_
   repeat (go_big_quiet_step (first| with_reducible exact q0 _ _| with_reducible exact q1 _ _| with_reducible exact q2 _ _| with_reducible exact q3 _ _))
   refine kE ?_;intro _ hw';obtain⟨⟨dq,osq⟩,hw''⟩:=hw';subst hw'';have S2:=aa (S0.o.below (HBW.o dq osq));clear q0 q1 q2 q3 l0 k0 k4 k24 HBW;generalize Sort.grow (redrawn _ dq) osq=wq at*;go_wp2
   go_meet
   case rel=>exact⟨by rw[HX.o];rfl,S2.o⟩
  rw[hk]at q0;cases hr:It p.kind
  ·rw[hr]at q1;have HX:Hid (gB v p=false):=aa (by rw[HG.o,hk,hr];rfl);clear hk hr
   go_wp2_with fail
   refine wp_region_quiet_below (by kernel_rfl) (by kernel_rfl) ?_
   repeat (go_big_quiet_step (first| with_reducible exact q0 _ _| with_reducible exact q1 _ _| with_reducible exact q2 _ _| with_reducible exact q3 _ _))
   refine kE ?_;intro _ hw';obtain⟨⟨dq,osq⟩,hw''⟩:=hw';subst hw'';have S2:=aa (S0.o.below (HBW.o dq osq));clear q0 q1 q2 q3 l0 k0 k4 k24 HBW;generalize Sort.grow (redrawn _ dq) osq=wq at*;go_wp2
   go_meet
   case rel=>exact⟨by rw[HX.o];rfl,S2.o⟩
  rw[hr]at q1;cases hq:decide (p=Q)
  ·rw[hq]at q3;have HX:Hid (gB v p=false):=aa (by rw[HG.o,hk,hr,hq];rfl);clear hk hr hq
   go_wp2_with fail
   refine wp_region_quiet_below (by kernel_rfl) (by kernel_rfl) ?_
   repeat (go_big_quiet_step (first| with_reducible exact q0 _ _| with_reducible exact q1 _ _| with_reducible exact q2 _ _| with_reducible exact q3 _ _))
   refine kE ?_;intro _ hw';obtain⟨⟨dq,osq⟩,hw''⟩:=hw';subst hw'';have S2:=aa (S0.o.below (HBW.o dq osq));clear q0 q1 q2 q3 l0 k0 k4 k24 HBW;generalize Sort.grow (redrawn _ dq) osq=wq at*;go_wp2
   go_meet
   case rel=>exact⟨by rw[HX.o];rfl,S2.o⟩
  rw[hq]at q3;have HG1:Hid (gB v p=(!decide (p.id<1)&&(!decide (65535<p.id)&& !(decide (v=4)&&decide (0<p.props.length))))):=aa (by rw[HG.o,hk,hr,hq];rfl);clear hk hr hq HG
  by_cases a1:p.id<1
  ·have x1:decide (p.id<(1:Int))=true:=au a1;have HX:Hid (gB v p=false):=aa (by rw[HG1.o,au a1];rfl)
   go_wp2_with fail
   refine wp_region_quiet_below (by kernel_rfl) (by kernel_rfl) ?_
   repeat (go_big_quiet_step (first| with_reducible exact q0 _ _| with_reducible exact q1 _ _| with_reducible exact q2 _ _| with_reducible exact q3 _ _))
   refine kE ?_;intro _ hw';obtain⟨⟨dq,osq⟩,hw''⟩:=hw';subst hw'';have S2:=aa (S0.o.below (HBW.o dq osq));clear q0 q1 q2 q3 l0 k0 k4 k24 HBW;generalize Sort.grow (redrawn _ dq) osq=wq at*;go_wp2
   go_meet
   case rel=>exact⟨by rw[HX.o];rfl,S2.o⟩
  have x1:decide (p.id<(1:Int))=false:=ah a1
  by_cases a2:65535<p.id
  ·have x2:decide ((65535:Int)<p.id)=true:=au a2;have HX:Hid (gB v p=false):=aa (by rw[HG1.o,au a2,Ra,bj,ru])
   go_wp2_with fail
   refine wp_region_quiet_below (by kernel_rfl) (by kernel_rfl) ?_
   repeat (go_big_quiet_step (first| with_reducible exact q0 _ _| with_reducible exact q1 _ _| with_reducible exact q2 _ _| with_reducible exact q3 _ _))
   refine kE ?_;intro _ hw';obtain⟨⟨dq,osq⟩,hw''⟩:=hw';subst hw'';have S2:=aa (S0.o.below (HBW.o dq osq));clear q0 q1 q2 q3 l0 k0 k4 k24 HBW;generalize Sort.grow (redrawn _ dq) osq=wq at*;go_wp2
   go_meet
   case rel=>exact⟨by rw[HX.o];rfl,S2.o⟩
  have x2:decide ((65535:Int)<p.id)=false:=ah a2;have HG2:Hid (gB v p= !(decide (v=4)&&decide (0<p.props.length))):=aa (by rw[HG1.o,ah a1,ah a2];rfl)
  by_cases a4:v=4
  ·have e4:(v==4)=true:=aK.2 a4
   by_cases ap:0<p.props.length
   ·have d4:decide ((0:Int)<(p.props.length:Int))=true:=au (by omega);have HX:Hid (gB v p=false):=aa (by rw[HG2.o,au a4,au ap];rfl);clear a4
    go_wp2_with fail
    refine wp_region_quiet_below (by kernel_rfl) (by kernel_rfl) ?_
    repeat (go_big_quiet_step (first| with_reducible exact q0 _ _| with_reducible exact q1 _ _| with_reducible exact q2 _ _| with_reducible exact q3 _ _))
    refine kE ?_;intro _ hw';obtain⟨⟨dq,osq⟩,hw''⟩:=hw';subst hw'';have S2:=aa (S0.o.below (HBW.o dq osq));clear q0 q1 q2 q3 l0 k0 k4 k24 HBW;generalize Sort.grow (redrawn _ dq) osq=wq at*;go_wp2
    go_meet
    case rel=>exact⟨by rw[HX.o];first| rfl| (rw[au ap];rfl),S2.o⟩
   ·have d4:decide ((0:Int)<(p.props.length:Int))=false:=ah (by omega);have HX:Hid (gB v p=true):=aa (by rw[HG2.o,ah ap,ru];rfl);clear a4
    go_wp2_with fail
    refine wp_region_quiet_below (by kernel_rfl) (by kernel_rfl) ?_
    repeat (go_big_quiet_step (first| with_reducible exact q0 _ _| with_reducible exact q1 _ _| with_reducible exact q2 _ _| with_reducible exact q3 _ _))
    refine kE ?_;intro _ hw';obtain⟨⟨dq,osq⟩,hw''⟩:=hw';subst hw'';have S2:=aa (S0.o.below (HBW.o dq osq));clear q0 q1 q2 q3 l0 k0 k4 k24 HBW;generalize Sort.grow (redrawn _ dq) osq=wq at*;go_wp2
    go_meet
    case rel=>exact⟨by rw[HX.o];first| rfl| (rw[ah ap];rfl),S2.o⟩
  ·have e4:(v==4)=false:=ar.2 a4;have HX:Hid (gB v p=true):=aa (by rw[HG2.o,ah a4,bj];rfl);clear a4
   go_wp2_with fail
   refine wp_region_quiet_below (by kernel_rfl) (by kernel_rfl) ?_
   repeat (go_big_quiet_step (first| with_reducible exact q0 _ _| with_reducible exact q1 _ _| with_reducible exact q2 _ _| with_reducible exact q3 _ _))
   refine kE ?_;intro _ hw';obtain⟨⟨dq,osq⟩,hw''⟩:=hw';subst hw'';have S2:=aa (S0.o.below (HBW.o dq osq));clear q0 q1 q2 q3 l0 k0 k4 k24 HBW;generalize Sort.grow (redrawn _ dq) osq=wq at*;go_wp2
   go_meet
   case rel=>exact⟨by rw[HX.o];rfl,S2.o⟩
 obtain⟨rfl,hst⟩:=hcut;have S1:=aa hst;have HAG:Hid (xY v p=(gB v p&&lj v p)):=aa (Qi v p);clear hst S0;cases hg:gB v p
 ·have HX:Hid (sbE v p=2):=aa (by rw[HE.o,if_pos (by rw[HAG.o,hg];rfl)]);clear hg;go_wp2;go_ret;exact⟨by rw[HX.o];rfl,S1.o.kept⟩
 have HH:Hid (lj v p= !(decide (p.filters.length+p.codes.length=0)&& !(decide (p.kind=11)&&decide (v=4)))):=aa (PI hg);have HP:Hid (v=4->p.props.length=0):=aa (fun h4=>by
  unfold gB at hg;simp only[eh]at hg;have h5:=hg.2.2.2.2.2;rw[au h4]at h5
  by_cases h0:0<p.props.length
  ·rw[au h0]at h5;cases h5
  ·omega)
 have HAH:Hid (xY v p=lj v p):=aa (by rw[HAG.o,hg,aL]);obtain⟨n,hn⟩:∃n,p.filters.length=n:=⟨_,rfl⟩;obtain⟨m,hm⟩:∃m,p.codes.length=m:=⟨_,rfl⟩;have k0:=S1.o.cell 0 rfl;have k23:=k0 23;have k22:=k0 22
 rw[bP,hn]at k23;rw[bS,hm]at k22;have kk:=(k0 0).trans (cI _ _);rw[hn,hm]at HH;have HN:=aa hn;have HM:=aa hm
 have hn2:n<=140737488351232:=by have:=OK.o.lens.2.2.1;omega
 have hm2:m<=140737488351232:=by have:=OK.o.lens.2.1;omega
 clear hn hm k0 hg HAG
 go_upto_region 3 with fail
 go_cut [62] (fun a wx=>a= .bool (!lj v p)/\St w [(w.heap.size,p,h)] wx)
 case first=>
  by_cases z:n+m=0
  rotate_left
  ·have e0:((n:Int)+(m:Int)==0)=false:=ar.2 (by omega);have HX:Hid (lj v p=true):=aa (by rw[HH.o,ah z];rfl);clear z;go_wp2
   go_meet
   case rel=>exact⟨by rw[HX.o];rfl,S1.o⟩
  have e0:((n:Int)+(m:Int)==0)=true:=aK.2 (by omega)
  by_cases z1:p.kind=11
  rotate_left
  ·have e1:(p.kind==11)=false:=ar.2 z1;have HX:Hid (lj v p=false):=aa (by rw[HH.o,au z,ah z1];rfl);clear z z1;go_wp2
   go_meet
   case rel=>exact⟨by rw[HX.o];rfl,S1.o⟩
  have e1:(p.kind==11)=true:=aK.2 z1
  by_cases z2:v=4
  ·have e2:(v==4)=true:=aK.2 z2;have HX:Hid (lj v p=true):=aa (by rw[HH.o,au z,au z1,au z2];rfl);clear z z1 z2;go_wp2
   go_meet
   case rel=>exact⟨by rw[HX.o];rfl,S1.o⟩
  ·have e2:(v==4)=false:=ar.2 z2;have HX:Hid (lj v p=false):=aa (by rw[HH.o,au z,au z1,ah z2];rfl);clear z z1 z2;go_wp2
   go_meet
   case rel=>exact⟨by rw[HX.o];rfl,S1.o⟩
 obtain⟨rfl,hst⟩:=hcut;clear k22 k23 kk S1;have S1:=aa hst;clear hst HH;cases hh:lj v p
 ·have HX:Hid (sbE v p=2):=aa (by rw[HE.o,if_pos (by rw[HAH.o,hh])]);clear hh;go_wp2;go_ret;exact⟨by rw[HX.o];rfl,S1.o.kept⟩
 have HE1:Hid (sbE v p=if(aM p.kind p.props).2≠0 then(aM p.kind p.props).2 else if fiE v p.kind p.filters≠0 then fiE v p.kind p.filters else cdE v p.kind p.codes):=aa (by rw[HE.o,ae (by rw[HAH.o,hh];decide)]);clear hh HE HAH;have kk:=(S1.o.cell 0 rfl 0).trans (cI _ _);have k24:=(S1.o.cell 0 rfl 24).trans (bR _ _)
 go_wp2_with fail
 refine(Gx v p.kind p.props _ rfl OK.o.props h.props.a h.props.c _ (S1.o.into 0 rfl).props OK.o.len.2.2.2 (S1.o.into 0 rfl).caps.2.2.2).mono ?_;rintro e w2 ⟨rfl,hb⟩;rw[Ir HP.o];have S2:=aa (S1.o.below hb);clear hb kk k24
 obtain⟨x,hx⟩:∃x,(aM p.kind p.props).2=x:=⟨_,rfl⟩;rw[hx]at HE1⊢;clear hx
 by_cases hx:x=0
 rotate_left
 ·have HX:Hid (sbE v p=x):=aa (by rw[HE1.o,if_pos hx]);have e0:(x !=0)=true:=aA.2 hx;clear hx;go_wp2;go_ret;exact⟨by rw[HX.o];rfl,S2.o.kept⟩
 have HE2:Hid (sbE v p=if fiE v p.kind p.filters≠0 then fiE v p.kind p.filters else cdE v p.kind p.codes):=aa (by rw[HE1.o,ae (fun y=>y hx)]);have e0:(x !=0)=false:=by rw[hx];rfl
 clear hx HE1;have k23:=S2.o.cell 0 rfl 23;have k22:=S2.o.cell 0 rfl 22;rw[bP,HN.o]at k23;rw[bS,HM.o]at k22;have kk:=(S2.o.cell 0 rfl 0).trans (cI _ _);go_wp2
 go_loopw [6] (fun i wr=>∃k:Nat,k<=n/\i= .int .i64 k/\fiE v p.kind p.filters=fiE v p.kind (p.filters.drop k)/\Below w2.heap.size w2 wr) (fun i _=>n- (intOf i).toNat)
 case atStart=>exact⟨0,by omega,rfl,by rw[cS],aq _ _⟩
 case round=>
  obtain⟨k,hk,rfl,hfi,hbel⟩:=hrel;have S3:=aa (S2.o.below hbel);have HF:=aa hfi;have HBL:=aa hbel
  clear hfi kk k22 k23;have kk:=(S3.o.cell 0 rfl 0).trans (cI _ _);have k22:=S3.o.cell 0 rfl 22;rw[bS,HM.o]at k22;have k23:=S3.o.cell 0 rfl 23;rw[bP,HN.o]at k23
  by_cases hlt:k<n
  ·have hp:k<p.filters.length:=by rw[HN.o];exact hlt
   obtain⟨b,o,hA,hb,c0,c1,c2,c3,c4⟩:=((S3.o.into 0 rfl).filters).atF hp;have hts:=OK.o.topics p.filters[k] (iY hp);have HAT:=aa (HF.o.trans (FL (v:=v) (k:=p.kind) hp));generalize p.filters[k]=f at*;have HTS:=aa hts;have b1:(0:Int)<=(k:Int):=by omega
   have b2:(k:Int)<(n:Int):=by omega
   clear hp hts;have S4:=S3;have HB4:=HBL;have hbl:=hb
   go_wp2_with fail
   refine(Jo f.topic _ (by have:=HTS.o;omega)).mono ?_;rintro e w4 ⟨rfl,hb4⟩;have S5:=aa (S4.o.below hb4);have HB5:=aa (HB4.o.trans (hb4.mono HB4.o.size));have c0:=(hb4.cell (p:=⟨b,o+k*5,none⟩) hbl).trans c0;have c1:=(hb4.cell (p:=⟨b,o+k*5+1,none⟩) hbl).trans c1;have c2:=(hb4.cell (p:=⟨b,o+k*5+2,none⟩) hbl).trans c2;have c3:=(hb4.cell (p:=⟨b,o+k*5+3,none⟩) hbl).trans c3;have c4:=(hb4.cell (p:=⟨b,o+k*5+4,none⟩) hbl).trans c4;clear hb4 kk k22 k23;have k23:=S5.o.cell 0 rfl 23;rw[bP,HN.o,hA]at k23;have kk:=(S5.o.cell 0 rfl 0).trans (cI _ _);cases hfl:gj f.topic
   ·have HX:Hid (sbE v p=10):=aa (by
     have e:fiE v p.kind p.filters=10:=by rw[HAT.o,if_pos hfl]
     rw[HE2.o,e,if_pos (by decide)])
    clear hfl;go_wp2;go_ret;exact⟨by rw[HX.o];rfl,S5.o.kept⟩
   have HAT2:Hid (fiE v p.kind p.filters=if nT v p.kind f=false then 2 else fiE v p.kind (p.filters.drop (k+1))):=aa (by rw[HAT.o,ae (by rw[hfl];decide)]);clear hfl
   go_wp2_with fail
   have q0:=jw (W:=w4) (fun x _=>Lw v p.kind f x (by have:=HTS.o;omega));have r0:=cell_regrown c0;have r1:=cell_regrown c1;have r2:=cell_regrown c2;have r3:=cell_regrown c3;have r4:=cell_regrown c4
   have rk:=cell_regrown kk;have r23:=cell_regrown k23
   have HBW:Hid (∀d os,Below w4.heap.size w4 (Sort.grow (redrawn w4 d) os)):=aa (fun d os=>below_regrown w4 d os);clear c0 c1 c2 c3 c4 kk k23;refine wp_region_quiet_below (by kernel_rfl) (by kernel_rfl) ?_
   repeat (go_big_quiet_step (first| with_reducible exact q0 _ _))
   refine kE ?_;intro _ hw';obtain⟨⟨dq,osq⟩,hw''⟩:=hw';subst hw'';have S6:=aa (S5.o.below (HBW.o dq osq));have HB6:=aa (HB5.o.trans ((HBW.o dq osq).mono HB5.o.size));clear q0 r0 r1 r2 r3 r4 rk r23 HBW;generalize Sort.grow (redrawn _ dq) osq=w5 at*;cases hop:nT v p.kind f
   ·have HX:Hid (sbE v p=2):=aa (by
     have e:fiE v p.kind p.filters=2:=by rw[HAT2.o,if_pos hop]
     rw[HE2.o,e,if_pos (by decide)])
    clear hop;go_wp2;go_ret;exact⟨by rw[HX.o];rfl,S6.o.kept⟩
   have HX:Hid (fiE v p.kind p.filters=fiE v p.kind (p.filters.drop (k+1))):=aa (by rw[HAT2.o,ae (by rw[hop];decide)]);clear hop;go_wp2
   go_roundw
   case rel=>exact⟨k+1,by omega,by go_num,HX.o,HB6.o⟩
   case measure=>simp[intOf];omega
  ·obtain rfl:k=n:=by omega
   have HX:Hid (sbE v p=cdE v p.kind p.codes):=aa (by
    have e:fiE v p.kind p.filters=0:=by rw[HF.o,<-HN.o,ox];rfl
    rw[HE2.o,e,ae (fun y=>y rfl)])
   clear HE2 HF;go_wp2
   go_loopw [7] (fun i wq=>∃k:Nat,k<=m/\i= .int .i64 k/\cdE v p.kind p.codes=cdE v p.kind (p.codes.drop k)/\Below wr.heap.size wr wq) (fun i _=>m- (intOf i).toNat)
   case atStart=>exact⟨0,by omega,rfl,by rw[cS],aq _ _⟩
   case round=>
    obtain⟨j,hj,rfl,hcd,hbq⟩:=hrel;have S4:=aa (S3.o.below hbq);have HC:=aa hcd;have HBQ:=aa hbq
    clear hcd kk k22 k23;have kk:=(S4.o.cell 0 rfl 0).trans (cI _ _);have k22:=S4.o.cell 0 rfl 22;rw[bS,HM.o]at k22
    by_cases hlt2:j<m
    ·have hp:j<p.codes.length:=by rw[HM.o];exact hlt2
     obtain⟨b,o,z,hA,hb,hz,hc⟩:=((S4.o.into 0 rfl).codes).atI hp;have HZ:Hid (cdE v p.kind p.codes=if xF v p.kind z=false then 2 else cdE v p.kind (p.codes.drop (j+1))):=aa (by
      rw[HC.o,F8 hp];rw[List.getElem?_eq_getElem hp]at hz;rw[Option.some.inj hz])
     have b1:(0:Int)<=(j:Int):=by omega
     have b2:(j:Int)<(m:Int):=by omega
     clear hp hz
     go_wp2_with fail
     have q0:=jw (W:=wr) (fun x _=>Nm v p.kind z x);have r0:=cell_regrown hc;have rk:=cell_regrown kk;have r22:=cell_regrown k22
     have HBW:Hid (∀d os,Below wr.heap.size wr (Sort.grow (redrawn wr d) os)):=aa (fun d os=>below_regrown wr d os);clear hc kk k22;refine wp_region_quiet_below (by kernel_rfl) (by kernel_rfl) ?_
     repeat (go_big_quiet_step (first| with_reducible exact q0 _ _))
     refine kE ?_;intro _ hw';obtain⟨⟨dq,osq⟩,hw''⟩:=hw';subst hw'';have S5:=aa (S4.o.below (HBW.o dq osq));have HB5:=aa (HBQ.o.trans ((HBW.o dq osq).mono HBQ.o.size));clear q0 r0 rk r22 HBW;generalize Sort.grow (redrawn _ dq) osq=w5 at*;cases hop:xF v p.kind z
     ·have HX2:Hid (sbE v p=2):=aa (by rw[HX.o,HZ.o,if_pos hop]);clear hop;go_wp2;go_ret;exact⟨by rw[HX2.o];rfl,S5.o.kept⟩
     have HX2:Hid (cdE v p.kind p.codes=cdE v p.kind (p.codes.drop (j+1))):=aa (by rw[HZ.o,ae (by rw[hop];decide)]);clear hop;go_wp2
     go_roundw
     case rel=>exact⟨j+1,by omega,by go_num,HX2.o,HB5.o⟩
     case measure=>simp[intOf];omega
    ·obtain rfl:j=m:=by omega
     have HX2:Hid (sbE v p=0):=aa (by rw[HX.o,HC.o,<-HM.o,ox];rfl);go_wp2;go_ret;exact⟨by rw[HX2.o];rfl,S4.o.kept⟩
theorem LR(y:UInt8):(⟨#[y]⟩:ByteArray).size=1:=rfl
theorem L7(y:UInt8)(W:World):(convert 80 9 (.slice (some ⟨W.heap.size,0,none⟩) 1 1)).run prog (W.alloc (.cells #[.int .u8 (y.toNat:Int)] 5))= .ok (.string ⟨#[y]⟩) (W.alloc (.cells #[.int .u8 (y.toNat:Int)] 5)):=
 ni 80 9 5 underlying80 underlying5 underlying9 1 (Rd.lit W #[.int .u8 (y.toNat:Int)] 5 (xs:=bys [y]) rfl (ed _) rfl)
theorem LJ(v k:Int)(l:List Pr):ls (Hq v k l)=gP v k l:=pL v k l
theorem Nn(v:Int)(p:Pk)(h:Hs)(w:World)(ip:PkIn w w.heap.size p h)(ok:PkOk p)(hz:(sbS v p).length<=140737488351232):
  Calls prog 189 #[.int .i64 v,pkV p h] w fun e w'=>e= .returned (.tuple #[.string (sbB v p).1,.int .i64 (sbB v p).2])/\Below w.heap.size w w':=by
 have OK:=aa ok;have HZ:=aa hz;have S0:=aa ((St.start w).push ip);have HE:Hid (sbB v p=if sbE v p=0 then(⟨(sbS v p).toArray⟩,0)else(⟨#[]⟩,sbE v p)):=aa rfl;clear ip ok hz;go_enter func189,ntmps189;have hl:=S0.o.ld 0 rfl
 go_wp2_with fail
 refine(Kh v p h _ (S0.o.into 0 rfl) OK.o).mono ?_;rintro e w1 ⟨rfl,hb⟩;have S1:=aa (S0.o.below hb);clear hb hl
 by_cases he:sbE v p=0
 rotate_left
 ·have e0:(sbE v p !=0)=true:=aA.2 he;have HX:Hid (sbB v p=(⟨#[]⟩,sbE v p)):=aa (by rw[HE.o,ae he]);clear he;go_wp2;go_ret2;exact⟨by rw[HX.o];rfl,S1.o.kept⟩
 have HX:Hid (sbB v p=(⟨(sbS v p).toArray⟩,0)):=aa (by rw[HE.o,if_pos he]);have G:=aa (NU he);rw[he];clear he;obtain⟨m,hm,hw1⟩:∃m:Nat,Hid (p.id.toNat=m)/\IntKind.u64.wrap p.id=(m:Int):=⟨_,aa rfl,by rw[iZ];have:=G.o.id1;have:=G.o.id2;omega⟩;have HM:Hid (m<65536):=aa (by have:=hm.out;have:=G.o.id2;omega);obtain⟨X,hX⟩:∃X:ByteArray,(⟨(da m 2).toArray⟩:ByteArray)=X:=⟨_,rfl⟩;have hXS:X.size=2:=by rw[<-hX,GW,fM]
 obtain⟨Z,hZ⟩:∃Z:ByteArray,Hq v p.kind p.props=Z:=⟨_,rfl⟩;have hZS:Z.size<=131075004:=by rw[<-hZ,<-aN,LJ];exact JM v p.kind p.props
 have HXZ:Hid (ls (X++Z)=Bg v p):=aa (by rw[fe,<-hX,jo,<-hZ,LJ];unfold Bg;rw[hm.out]);have q0:=jw (W:=w1) (fun x hx=>GV m 2 x (by have:=HM.o;omega) (by omega) (by omega));rw[show((2:Nat):Int)=2 from rfl]at q0;rw[hX]at q0;have q1:=jw (W:=w1) (fun x hx=>G5 v p.kind p.props _ rfl OK.o.props h.props.a h.props.c x ((S1.o.below hx).into 0 rfl).props OK.o.len.2.2.2 (S1.o.into 0 rfl).caps.2.2.2);rw[hZ]at q1;have k0:=cell_regrown (show w1.cell? ⟨w.heap.size,0,none⟩=some (.int .i64 p.kind)from S1.o.cell 0 rfl 0);have k4:=cell_regrown (show w1.cell? ⟨w.heap.size,4,none⟩=some (.int .i64 p.id)from S1.o.cell 0 rfl 4);have k24:=cell_regrown (show w1.cell? ⟨w.heap.size,24,none⟩=some (.slice h.props.a p.props.length h.props.c)from S1.o.cell 0 rfl 24);have hs1:¬(9223372036854775807<X.size+Z.size):=by omega
 have HBQ:=aa (fun d os=>S1.o.below (below_regrown w1 d os));clear hX hZ hXS hZS
 go_wp2_with fail
 refine wp_region_quiet_below (by kernel_rfl) (by kernel_rfl) ?_
 repeat (go_big_quiet_step (first| with_reducible exact q0 _ _| with_reducible exact q1 _ _))
 refine kE ?_;intro _ hw';obtain⟨⟨dq,osq⟩,hw''⟩:=hw';subst hw'';have S2:=aa (HBQ.o dq osq);clear q0 q1 k0 k4 k24 HBQ hs1;generalize Sort.grow (redrawn _ dq) osq=w2 at*;obtain⟨O1,hO1⟩:∃O1,X++Z=O1:=⟨_,rfl⟩;rw[hO1]at HXZ⊢;clear hO1 hw1;obtain⟨N,hn⟩:∃n,p.filters.length=n:=⟨_,rfl⟩;obtain⟨M,hm2⟩:∃m,p.codes.length=m:=⟨_,rfl⟩;have HN:=aa hn;have HMM:=aa hm2
 have hn2:N<=140737488351232:=by rw[<-hn];exact OK.o.lens.2.2.1
 have hm3:M<=140737488351232:=by rw[<-hm2];exact OK.o.lens.2.1
 clear hn hm2 hm;go_wp2
 go_loopw [7,8] (fun o i wr=>∃(k:Nat) (O:ByteArray),k<=N/\i= .int .i64 k/\o= .string O/\ls O=Bg v p++(p.filters.take k).flatMap (fiL p.kind)/\Below w2.heap.size w2 wr) (fun _ i _=>N- (intOf i).toNat)
 case atStart=>exact⟨0,O1,by omega,rfl,rfl,by rw[GZ,HXZ.o];exact(cW _).symm,aq _ _⟩
 case round=>
  obtain⟨k,O,hk,rfl,rfl,hO,hbel⟩:=hrel;have S3:=aa (S2.o.below hbel);have HO:=aa hO;have B3:=aa hbel
  clear hO hbel;have kk:=(S3.o.cell 0 rfl 0).trans (cI _ _);have k23:=S3.o.cell 0 rfl 23;rw[bP,HN.o]at k23
  by_cases hlt:k<N
  ·have hp:k<p.filters.length:=by rw[HN.o];exact hlt
   obtain⟨b,o,hA,hb,c0,c1,c2,c3,c4⟩:=((S3.o.into 0 rfl).filters).atF hp;have hts:=OK.o.topics p.filters[k] (iY hp);have hok:=G.o.filters p.filters[k] (iY hp);have HNX:=aa (PK (k:=p.kind) (List.getElem?_eq_getElem hp));have HPT:=aa (NT (v:=v) (p:=p) (k+1));generalize p.filters[k]=f at*;have HTS:=aa hts;have HV:=aa (JI hok.1);have HTX:Hid (IM f.topic=(cQ f.topic,0)):=aa (by unfold IM;rw[if_pos HV.o]);rw[HNX.o,<-List.append_assoc,<-HO.o]at HPT;have HL5:Hid (O.size+(fiL p.kind f).length<=140737488351232):=aa (by
    have:=HPT.o;have:=HZ.o;rw[List.length_append,aN]at*;omega)
   have b1:(0:Int)<=(k:Int):=by omega
   have b2:(k:Int)<(N:Int):=by omega
   clear hp hts hok HPT
   go_wp2_with fail
   refine(JC f.topic _ (by have:=HTS.o;omega)).mono ?_;rintro e w4 ⟨rfl,hb4⟩;have S4:=aa (S3.o.below hb4);have B4:=aa (B3.o.trans (hb4.mono B3.o.size));have c0:=(hb4.cell (p:=⟨b,o+k*5,none⟩) hb).trans c0;have c1:=(hb4.cell (p:=⟨b,o+k*5+1,none⟩) hb).trans c1;have c2:=(hb4.cell (p:=⟨b,o+k*5+2,none⟩) hb).trans c2;have c3:=(hb4.cell (p:=⟨b,o+k*5+3,none⟩) hb).trans c3;have c4:=(hb4.cell (p:=⟨b,o+k*5+4,none⟩) hb).trans c4;clear hb4 kk k23;have kk:=(S4.o.cell 0 rfl 0).trans (cI _ _);have k23:=S4.o.cell 0 rfl 23;rw[bP,HN.o,hA]at k23;rw[HTX.o];simp only;have HFZ:Hid (O.size+(cQ f.topic).size<=140737488351232):=aa (by
    have:=HL5.o;unfold fiL at this;rw[List.length_append,aN]at this;omega)
   obtain⟨T,hT⟩:∃T,cQ f.topic=T:=⟨_,rfl⟩;have HT:=aa hT;rw[hT]at HFZ⊢;clear hT HTX;have hs1:¬(9223372036854775807<O.size+T.size):=by have:=HFZ.o;omega
   by_cases h8:p.kind=8
   ·have e8:(p.kind==8)=true:=aK.2 h8;obtain⟨y,hy,hyn⟩:=MR (c:=BS f) (by have:=Ly f;omega);have HFI:Hid (fiL p.kind f=ls T++[y]):=aa (by unfold fiL;rw[if_pos h8,hy,HT.o]);have hwb:IntKind.u8.wrap (y.toNat:Int)=(y.toNat:Int):=by have:=y.toNat_lt;rw[GM];omega
    have HYN:=aa hyn;clear h8 hy hyn
    go_wp2_with fail
    refine(Nl f _).mono ?_;rintro e w5 ⟨rfl,hb5⟩;have S5:=aa (S4.o.below hb5);have B5:=aa (B4.o.trans (hb5.mono B4.o.size));clear hb5 kk k23 c0 c1 c2 c3 c4;rw[HYN.o];have hs2:¬(9223372036854775807<O.size+T.size+(⟨#[y]⟩:ByteArray).size):=by have:=HFZ.o;rw[LR];omega
    have hcv:=L7 y w5;have HNW:Hid (ls (O++T++⟨#[y]⟩)=Bg v p++(p.filters.take (k+1)).flatMap (fiL p.kind)):=aa (by
     rw[HNX.o,<-List.append_assoc,HFI.o,fe,fe,HO.o,List.append_assoc,List.append_assoc];show _=_;rw[List.append_assoc];rfl)
    have B6:=aa (B5.o.alloc B5.o.size (.cells #[.int .u8 (y.toNat:Int)] 5));go_wp2
    go_roundw
    case rel=>exact⟨k+1,_,by omega,by go_num,rfl,HNW.o,B6.o⟩
    case measure=>simp[intOf];omega
   ·have e8:(p.kind==8)=false:=ar.2 h8;have HNW:Hid (ls (O++T)=Bg v p++(p.filters.take (k+1)).flatMap (fiL p.kind)):=aa (by
     rw[HNX.o,<-List.append_assoc,fe,HO.o];unfold fiL;rw[ae h8,cW,HT.o])
    clear h8 c0 c1 c2 c3 c4;go_wp2
    go_roundw
    case rel=>exact⟨k+1,_,by omega,by go_num,rfl,HNW.o,B4.o⟩
    case measure=>simp[intOf];omega
  ·obtain rfl:k=N:=by omega
   have HO2:Hid (ls O=Bg v p++p.filters.flatMap (fiL p.kind)):=aa (by rw[HO.o,<-HN.o,GK]);clear hlt;go_wp2
   go_loopw [7,11] (fun o i wq=>∃(j:Nat) (U:ByteArray),j<=M/\i= .int .i64 j/\o= .string U/\ls U=Bg v p++p.filters.flatMap (fiL p.kind)++cdL (p.codes.take j)/\Below w2.heap.size w2 wq) (fun _ i _=>M- (intOf i).toNat)
   case atStart=>exact⟨0,O,by omega,rfl,rfl,by rw[GZ,HO2.o];exact(cW _).symm,B3.o⟩
   case round=>
    obtain⟨j,U,hj,rfl,rfl,hU,hbq⟩:=hrel;have S4:=aa (S2.o.below hbq);have HU:=aa hU;have B4:=aa hbq
    clear hU hbq kk k23;have k22:=S4.o.cell 0 rfl 22;rw[bS,HMM.o]at k22
    by_cases hlt2:j<M
    ·have hp:j<p.codes.length:=by rw[HMM.o];exact hlt2
     obtain⟨b,o,z,hA,hb,hzz,hc⟩:=((S4.o.into 0 rfl).codes).atI hp;have hans:=Lm (G.o.codes z (iL hzz));have HNX:=aa (PN hzz);have HPT:=aa (Nd (v:=v) (p:=p) (j+1));obtain⟨y,hy,hyn⟩:=MR hans;rw[hy]at HNX;have HYN:=aa hyn;rw[HNX.o,<-List.append_assoc,<-HU.o]at HPT;have HL5:Hid (U.size+1<=140737488351232):=aa (by
      have:=HPT.o;have:=HZ.o;rw[List.length_append,aN]at*;simp at*;omega)
     have hwb:IntKind.u8.wrap (y.toNat:Int)=(y.toNat:Int):=by have:=y.toNat_lt;rw[GM];omega
     rw[hyn]at hc;have b1:(0:Int)<=(j:Int):=by omega
     have b2:(j:Int)<(M:Int):=by omega
     have hs2:¬(9223372036854775807<U.size+(⟨#[y]⟩:ByteArray).size):=by have:=HL5.o;rw[LR];omega
     have hcv:=L7 y wr;have HNW:Hid (ls (U++⟨#[y]⟩)=Bg v p++p.filters.flatMap (fiL p.kind)++cdL (p.codes.take (j+1))):=aa (by
      rw[HNX.o,fe,HU.o,List.append_assoc,List.append_assoc,List.append_assoc];rfl)
     have B5:=aa (B4.o.alloc B4.o.size (.cells #[.int .u8 (y.toNat:Int)] 5));clear hp hzz hans hy hyn HPT;go_wp2
     go_roundw
     case rel=>exact⟨j+1,_,by omega,by go_num,rfl,HNW.o,B5.o⟩
     case measure=>simp[intOf];omega
    ·obtain rfl:j=M:=by omega
     have HUE:Hid (U=⟨(sbS v p).toArray⟩):=aa (eX (by
      rw[HU.o,<-HMM.o,GK,jo];rfl))
     clear hlt2;go_wp2;go_ret2;refine⟨?_,S4.o.kept⟩;have hx1:=congrArg Prod.fst HX.o;have hx2:=congrArg Prod.snd HX.o;simp only at hx1 hx2;rw[hx1,hx2,HUE.o];rfl
theorem Kf(v:Int)(p:Pk)(h:Hs)(w:World)(ip:PkIn w w.heap.size p h)(ok:PkOk p)(hk:1<=p.kind):
  Calls prog 130 #[.int .i64 v,pkV p h] w fun e w'=>e= .returned (.int .i64 (chE v p))/\Below w.heap.size w w':=by
 have OK:=aa ok;have HKD:=aa hk
 have S0:=aa ((St.start w).push ip);have c0:=S0.o.cell 0 rfl 0;have hl:=S0.o.ld 0 rfl;simp only[cI]at c0;clear ip ok hk
 by_cases q0:p.kind<=2
 ·have HX:Hid (chE v p=eR v p):=aa (by unfold chE;rw[if_pos (by omega)]);have t0:p.kind<=2:=by omega
  clear q0;go_enter func130,ntmps130
  go_wp2_with fail
  refine(Ic v p h _ (S0.o.into 0 rfl) OK.o).mono ?_;rintro e w1 ⟨rfl,hb⟩;have S1:=aa (S0.o.below hb);clear hb hl c0
  go_wp2;go_ret;exact⟨by rw[HX.o];rfl,S1.o.kept⟩
 by_cases q1:p.kind=3
 ·have HX:Hid (chE v p=ii v p):=aa (by unfold chE;rw[ae (by omega),if_pos (by omega)]);have f0:2<p.kind:=by omega
  have t1:(p.kind==3)=true:=aK.2 (by omega);clear q0 q1;go_enter func130,ntmps130
  go_wp2_with fail
  refine(IW v p h _ (S0.o.into 0 rfl) OK.o).mono ?_;rintro e w1 ⟨rfl,hb⟩;have S1:=aa (S0.o.below hb);clear hb hl c0
  go_wp2;go_ret;exact⟨by rw[HX.o];rfl,S1.o.kept⟩
 by_cases q2:p.kind<=7
 ·have HX:Hid (chE v p=eS v p):=aa (by unfold chE;rw[ae (by omega),ae (by omega),if_pos (by omega)]);have f0:2<p.kind:=by omega
  have f1:(p.kind==3)=false:=ar.2 (by omega);have t2:p.kind<=7:=by omega
  clear q0 q1 q2;go_enter func130,ntmps130
  go_wp2_with fail
  refine(IZ v p h _ (S0.o.into 0 rfl) OK.o).mono ?_;rintro e w1 ⟨rfl,hb⟩;have S1:=aa (S0.o.below hb);clear hb hl c0
  go_wp2;go_ret;exact⟨by rw[HX.o];rfl,S1.o.kept⟩
 by_cases q3:p.kind<=11
 ·have HX:Hid (chE v p=sbE v p):=aa (by unfold chE;rw[ae (by omega),ae (by omega),ae (by omega),if_pos (by omega)]);have f0:2<p.kind:=by omega
  have f1:(p.kind==3)=false:=ar.2 (by omega);have f2:7<p.kind:=by omega
  have t3:p.kind<=11:=by omega
  clear q0 q1 q2 q3;go_enter func130,ntmps130
  go_wp2_with fail
  refine(Kh v p h _ (S0.o.into 0 rfl) OK.o).mono ?_;rintro e w1 ⟨rfl,hb⟩;have S1:=aa (S0.o.below hb);clear hb hl c0
  go_wp2;go_ret;exact⟨by rw[HX.o];rfl,S1.o.kept⟩
 have HX:Hid (chE v p=fH v p):=aa (by unfold chE;rw[ae (by omega),ae (by omega),ae (by omega),ae (by omega)]);have f0:2<p.kind:=by omega
 have f1:(p.kind==3)=false:=ar.2 (by omega);have f2:7<p.kind:=by omega
 have f3:11<p.kind:=by omega
 clear q0 q1 q2 q3;go_enter func130,ntmps130
 go_wp2_with fail
 refine(IY v p h _ (S0.o.into 0 rfl) OK.o).mono ?_;rintro e w1 ⟨rfl,hb⟩;have S1:=aa (S0.o.below hb);clear hb hl c0
 go_wp2;go_ret;exact⟨by rw[HX.o];rfl,S1.o.kept⟩
theorem KM(v:Int)(p:Pk)(h:Hs)(w:World)(ip:PkIn w w.heap.size p h)(ok:PkOk p)(hz:MV v p)(hk:1<=p.kind):
  Calls prog 131 #[.int .i64 v,pkV p h] w fun e w'=>e= .returned (.string (chB v p).1)/\Below w.heap.size w w':=by
 have OK:=aa ok;have HKD:=aa hk
 have S0:=aa ((St.start w).push ip);have HZ:=aa hz;have c0:=S0.o.cell 0 rfl 0;have hl:=S0.o.ld 0 rfl;simp only[cI]at c0;clear ip ok hk hz
 by_cases q0:p.kind<=2
 ·have HX:Hid ((chB v p).1=(Dm v p).1):=aa (by unfold chB;rw[if_pos (by omega)]);have t0:p.kind<=2:=by omega
  clear q0;go_enter func131,ntmps131
  go_wp2_with fail
  refine(Ls v p h _ (S0.o.into 0 rfl) OK.o).mono ?_;rintro e w1 ⟨rfl,hb⟩;have S1:=aa (S0.o.below hb);clear hb hl c0
  go_wp2;go_ret;exact⟨by rw[HX.o];rfl,S1.o.kept⟩
 by_cases q1:p.kind=3
 ·have HX:Hid ((chB v p).1=(Gf v p).1):=aa (by unfold chB;rw[ae (by omega),if_pos (by omega)]);have f0:2<p.kind:=by omega
  have t1:(p.kind==3)=true:=aK.2 (by omega);clear q0 q1;go_enter func131,ntmps131
  go_wp2_with fail
  refine(JV v p h _ (S0.o.into 0 rfl) OK.o).mono ?_;rintro e w1 ⟨rfl,hb⟩;have S1:=aa (S0.o.below hb);clear hb hl c0
  go_wp2;go_ret;exact⟨by rw[HX.o];rfl,S1.o.kept⟩
 by_cases q2:p.kind<=7
 ·have HX:Hid ((chB v p).1=⟨(Ga v p).1.toArray⟩):=aa (by unfold chB;rw[ae (by omega),ae (by omega),if_pos (by omega)]);have f0:2<p.kind:=by omega
  have f1:(p.kind==3)=false:=ar.2 (by omega);have t2:p.kind<=7:=by omega
  clear q0 q1 q2;go_enter func131,ntmps131
  go_wp2_with fail
  refine(KdB v p h _ (S0.o.into 0 rfl) OK.o).mono ?_;rintro e w1 ⟨rfl,hb⟩;have S1:=aa (S0.o.below hb);clear hb hl c0
  go_wp2;go_ret;exact⟨by rw[HX.o];rfl,S1.o.kept⟩
 by_cases q3:p.kind<=11
 ·have HX:Hid ((chB v p).1=(sbB v p).1):=aa (by unfold chB;rw[ae (by omega),ae (by omega),ae (by omega),if_pos (by omega)]);have f0:2<p.kind:=by omega
  have f1:(p.kind==3)=false:=ar.2 (by omega);have f2:7<p.kind:=by omega
  have t3:p.kind<=11:=by omega
  have HZ2:=HZ.o (by omega);clear q0 q1 q2 q3;go_enter func131,ntmps131
  go_wp2_with fail
  refine(Nn v p h _ (S0.o.into 0 rfl) OK.o HZ2).mono ?_;rintro e w1 ⟨rfl,hb⟩;have S1:=aa (S0.o.below hb);clear hb hl c0
  go_wp2;go_ret;exact⟨by rw[HX.o];rfl,S1.o.kept⟩
 have HX:Hid ((chB v p).1=⟨(FY v p).1.toArray⟩):=aa (by unfold chB;rw[ae (by omega),ae (by omega),ae (by omega),ae (by omega)]);have f0:2<p.kind:=by omega
 have f1:(p.kind==3)=false:=ar.2 (by omega);have f2:7<p.kind:=by omega
 have f3:11<p.kind:=by omega
 clear q0 q1 q2 q3;go_enter func131,ntmps131
 go_wp2_with fail
 refine(Kc v p h _ (S0.o.into 0 rfl) OK.o).mono ?_;rintro e w1 ⟨rfl,hb⟩;have S1:=aa (S0.o.below hb);clear hb hl c0
 go_wp2;go_ret;exact⟨by rw[HX.o];rfl,S1.o.kept⟩
def whS(v:Int)(p:Pk):ByteArray×Int:=if mqE v p=0 then((chB v p).1,0)else(⟨#[]⟩,mqE v p)
theorem Ke(v:Int)(p:Pk)(h:Hs)(w:World)(ip:PkIn w w.heap.size p h)(ok:PkOk p)(hz:MV v p):
  Calls prog 85 #[.int .i64 v,pkV p h] w fun e w'=>e= .returned (.tuple #[.string (whS v p).1,.int .i64 (whS v p).2])/\Below w.heap.size w w':=by
 have OK:=aa ok;have HZ:=aa hz
 have S0:=aa ((St.start w).push ip);have HBAD:Hid (∀x,mqE v p=x->x≠0->whS v p=(⟨#[]⟩,x)):=aa (fun x h1 h2=>by unfold whS;rw[ae (by rw[h1];exact h2),h1]);have HE:Hid (mqE v p=if ba v=false then 2 else if dS v p.kind=false then 8 else if chE v p≠0 then chE v p else if 268435455<(chB v p).1.size then 4 else 0):=aa rfl;clear ip ok hz;go_enter func85,ntmps85
 go_wp2_with fail
 refine(pS v _).mono ?_;rintro e w1 ⟨rfl,rfl⟩;cases hv:ba v
 ·have HX:Hid (whS v p=(⟨#[]⟩,2)):=aa (HBAD.o 2 (by rw[HE.o,if_pos hv]) (by decide));clear hv;go_wp2;go_ret2;exact⟨by rw[HX.o];rfl,S0.o.kept⟩
 have HE1:Hid (mqE v p=if dS v p.kind=false then 8 else if chE v p≠0 then chE v p else if 268435455<(chB v p).1.size then 4 else 0):=aa (by rw[HE.o,ae (by rw[hv];decide)]);have HV:Hid (v=4\/v=5):=aa (aR (show decide (v=4\/v=5)=true from hv));have HKI:Hid (dS v p.kind=decide (1<=p.kind/\(p.kind<=14\/(p.kind=15/\v=5)))):=aa rfl;clear hv HE;have c0:=S0.o.cell 0 rfl 0;simp only[cI]at c0;cases hk:dS v p.kind
 ·have HX:Hid (whS v p=(⟨#[]⟩,8)):=aa (HBAD.o 8 (by rw[HE1.o,if_pos hk]) (by decide));have hk2:¬(1<=p.kind/\(p.kind<=14\/(p.kind=15/\v=5))):=Gy (HKI.o.symm.trans hk);have hv:=HV.o;have h3:p.kind<1\/(1<=p.kind/\15<p.kind)\/(p.kind=15/\v=4):=by omega
  clear hk hk2 hv;rcases h3 with h3| ⟨h3,h4⟩ | ⟨h3,h4⟩
  ·go_wp2;go_ret2;exact⟨by rw[HX.o];rfl,S0.o.kept⟩
  ·go_wp2;go_ret2;exact⟨by rw[HX.o];rfl,S0.o.kept⟩
  ·rw[h3]at c0;have h5:(v==4)=true:=aK.2 h4;clear h3 h4;go_wp2;go_ret2;exact⟨by rw[HX.o];rfl,S0.o.kept⟩
 have HE2:Hid (mqE v p=if chE v p≠0 then chE v p else if 268435455<(chB v p).1.size then 4 else 0):=aa (by rw[HE1.o,ae (by rw[hk];decide)]);have hk2:1<=p.kind/\(p.kind<=14\/(p.kind=15/\v=5)):=aR (HKI.o.symm.trans hk);have HK1:Hid (1<=p.kind):=aa hk2.1;have k1:1<=p.kind:=by omega
 have k2:p.kind<=15:=by omega
 have k3:(p.kind==15&&v==4)=false:=by
  rw[Kz]
  by_cases e:p.kind=15
  ·exact .inr (ar.2 (by omega))
  ·exact .inl (ar.2 e)
 have hl:=S0.o.ld 0 rfl;clear hk hk2 HE1 HKI;have hq:(p.kind==15)=false\/((p.kind==15)=true/\(v==4)=false):=by
  cases e:(p.kind==15)
  ·exact .inl rfl
  ·refine .inr ⟨rfl,?_⟩;rw[e]at k3
   simpa using k3
 clear k3;have HREST:∀(X:Unit),True:=fun _=>trivial;rcases hq with hq| ⟨hq,hq2⟩
 all_goals
  go_wp2_with fail
  refine(Kf v p h _ (S0.o.into 0 rfl) OK.o HK1.o).mono ?_;rintro e w2 ⟨rfl,hb⟩;have S1:=aa (S0.o.below hb);clear hb hl c0
  by_cases hE:chE v p=0
  rotate_left
  ·have HX:Hid (whS v p=(⟨#[]⟩,chE v p)):=aa (HBAD.o _ (by rw[HE2.o,if_pos hE]) hE);generalize chE v p=E at*;have e0:(E !=0)=true:=aA.2 hE;clear hE HE2;go_wp2;go_ret2;exact⟨by rw[HX.o];rfl,S1.o.kept⟩
  have HE3:Hid (mqE v p=if 268435455<(chB v p).1.size then 4 else 0):=aa (by rw[HE2.o,ae (fun x=>x hE)]);rw[hE];clear hE HE2;have hl:=S1.o.ld 0 rfl
  go_wp2_with fail
  refine(KM v p h _ (S1.o.into 0 rfl) OK.o HZ.o HK1.o).mono ?_;rintro e w3 ⟨rfl,hb⟩;have S2:=aa (S1.o.below hb);clear hb hl
  by_cases hs:268435455<(chB v p).1.size
  ·have HX:Hid (whS v p=(⟨#[]⟩,4)):=aa (HBAD.o 4 (by rw[HE3.o,if_pos hs]) (by decide));have d1:(268435455:Int)<((chB v p).1.size:Int):=by omega
   clear hs HE3;go_wp2;go_ret2;exact⟨by rw[HX.o];rfl,S2.o.kept⟩
  ·have HX:Hid (whS v p=((chB v p).1,0)):=aa (by unfold whS;rw[if_pos (by rw[HE3.o,ae hs])]);have d1:((chB v p).1.size:Int)<=268435455:=by omega
   clear hs HE3;go_wp2;go_ret2;exact⟨by rw[HX.o];rfl,S2.o.kept⟩
theorem Qm(v:Int)(p:Pk):(whS v p).2=mqE v p:=by
 unfold whS;split
 ·rename_i h;exact h.symm
 ·rfl
theorem Kg(v:Int)(p:Pk)(h:Hs)(w:World)(ip:PkIn w w.heap.size p h)(ok:PkOk p)(hz:MV v p):
  Calls prog 22 #[.int .i64 v,pkV p h] w fun e w'=>e= .returned (.tuple #[.string (mqB v p).1,.int .i64 (mqB v p).2])/\Below w.heap.size w w':=by
 have OK:=aa ok;have HZ:=aa hz
 have S0:=aa ((St.start w).push ip);clear ip ok hz;have hl:=S0.o.ld 0 rfl;go_enter func22,ntmps22
 go_wp2_with fail
 refine(Ke v p h _ (S0.o.into 0 rfl) OK.o HZ.o).mono ?_;rintro e w1 ⟨rfl,hb⟩;have S1:=aa (S0.o.below hb);clear hb hl S0
 rw[Qm]
 by_cases hE:mqE v p=0
 rotate_left
 ·have HX:Hid (mqB v p=(⟨#[]⟩,mqE v p)):=aa (by unfold mqB;rw[ae hE]);generalize mqE v p=E at*;have e0:(E !=0)=true:=aA.2 hE;clear hE;go_wp2;go_ret2;exact⟨by rw[HX.o];rfl,S1.o.kept⟩
 obtain⟨h1,h2,h3,h4⟩:=Ol hE;obtain⟨f1,f2⟩:=Ma h1 h2 h3;have HX:Hid (mqB v p=(mqS v p,0)):=aa (by unfold mqB;rw[if_pos hE]);have HW:(whS v p).1=(chB v p).1:=by unfold whS;rw[if_pos hE]
 have HS:Hid (mqS v p=⟨(hdS p.kind (mqF p) (chB v p).1.size).toArray⟩++(chB v p).1):=aa rfl;have HF:=aa (fun W=>JF v p h W);rw[f1]at HF;have HHB:=aa (fun W=>JW v p.kind (mqF p) (chB v p).1.size W h4);rw[show hdB v p.kind (mqF p) (chB v p).1.size=(hdS p.kind (mqF p) (chB v p).1.size,0)from if_pos f2]at HHB;have HT:Hid ((hdS p.kind (mqF p) (chB v p).1.size).length<=5):=aa (by
  unfold hdS;rw[List.length_append,fM];have:(eP (chB v p).1.size).length<=4:=mO 3 _;omega)
 rw[hE,HW];simp only[Cx]at HHB;have H4:=aa h4;clear hE h1 h2 h3 h4 f1 f2 HW;generalize hdS p.kind (mqF p) (chB v p).1.size=T at*;generalize (chB v p).1=X at*;generalize mqF p=f at*;have hl:=S1.o.ld 0 rfl
 go_wp2_with fail
 refine(HF.o _).mono ?_;rintro e w2 ⟨rfl,hb⟩;have S2:=aa (S1.o.below hb);clear hb hl S1 HF
 have c0:=S2.o.cell 0 rfl 0;simp only[cI]at c0
 go_wp2_with fail
 refine(HHB.o _).mono ?_;rintro e w3 ⟨rfl,hb⟩;have S3:=aa (S2.o.below hb);clear hb S2 HHB
 have hsm:¬(9223372036854775807<T.length+X.size):=by have:=HT.o;have:=H4.o;omega
 go_wp2;go_ret2;exact⟨by rw[HX.o,HS.o];rfl,S3.o.kept⟩
end
end Go.Proofs.YtbdgkkmbnahgiaaGreatDoor
