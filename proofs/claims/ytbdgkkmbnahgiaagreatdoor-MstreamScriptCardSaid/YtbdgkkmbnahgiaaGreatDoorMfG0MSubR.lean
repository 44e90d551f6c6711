/- A part of what the laws stand on: MSubR. -/
import Derived.Test.YtbdgkkmbnahgiaaGreatDoorMfG0RfZ
import Derived.Test.YtbdgkkmbnahgiaaGreatDoorMfG0MCns
set_option maxRecDepth 10000
set_option maxHeartbeats 8000000
namespace Go.Proofs.YtbdgkkmbnahgiaaGreatDoor
open Go.RowKit Go.Proofs.Tryz
section
attribute [local go_sem ↓] bD bF bH bI bu
attribute [local go_sem] bc aD bh bg bK bJ bd aY be aO ax cI dC dB dt dj di dA dr dp dn bW co bO bZ bX cz cy cw cu ct cC cn bS bP bR
attribute [local go_sem ↓high] bu sD sE
attribute [local go_sem ↓] wh
attribute [local go_sem] Cv BD mX uw pU sO ta yp s9 yo sZ yn sV ym sU yl sT yk sS yj sR yi sQ yh sP yg pC uI pB uH pA uG py uF pu uE pr uC pq uB pp uA po uz pm uy pj ux sY pX sX pW sW pV
theorem No(k:Int)(w:World):Calls prog 212 #[.int .i64 k] w fun e w'=>e= .returned (.bool (jm k))/\w=w':=by
 go_enter func212,ntmps212;go_wp2
 all_goals
  go_ret;refine⟨eT ?_,rfl⟩;unfold jm
  by_cases h4:k=8<;>by_cases h5:k=10<;>simp_all
def It(k:Int):Bool:=decide (8<=k)&&decide (k<=11)
theorem Mn(k:Int)(w:World):Calls prog 211 #[.int .i64 k] w fun e w'=>e= .returned (.bool (It k))/\w=w':=by
 go_enter func211,ntmps211;go_wp2
 all_goals
  go_ret;refine⟨eT ?_,rfl⟩;unfold It
  by_cases h4:8<=k<;>by_cases h5:k<=11<;>simp_all<;>omega
theorem Nm(v k c:Int)(w:World):Calls prog 249 #[.int .i64 v,.int .i64 k,.int .i64 c] w fun e w'=>e= .returned (.bool (xF v k c))/\Below w.heap.size w w':=by
 by_cases h4:v=4
 ·have e4:(v==4)=true:=aK.2 h4;have HX:Hid (xF v k c=tq c):=aa (if_pos h4);clear h4;go_enter func249,ntmps249
  go_wp2_with fail
  refine(Lq c _).mono ?_;rintro e w1 ⟨rfl,hw1⟩;subst hw1;go_wp2;go_ret;exact⟨by rw[HX.o];rfl,aq _ _⟩
 ·have e4:(v==4)=false:=ar.2 h4;have HX:Hid (xF v k c=may k c):=aa (ae h4);clear h4;go_enter func249,ntmps249
  go_wp2_with fail
  refine(Ht k c _).mono ?_;rintro e w1 ⟨rfl,hb⟩;have HB:=aa hb;clear hb
  go_wp2;go_ret;exact⟨by rw[HX.o];rfl,HB.o⟩
theorem My{f:Fi}{q h:Int}{a b:Bool}:f=⟨f.topic,q,a,b,h⟩↔f.qos=q/\f.noLocal=a/\f.asPub=b/\f.handling=h:=by
 obtain⟨t,q',a',b',h'⟩:=f;simp
theorem O0(v k:Int)(f:Fi):nT v k f=if k=10 then decide (f=⟨f.topic,0,false,false,0⟩)else if(jZ f.qos&&jZ f.handling)=false then false
  else if v=4 then(!f.noLocal&&(!f.asPub&&decide (f.handling=0)))else(!f.noLocal || !fy f.topic):=by
 unfold nT l9
 by_cases hk:k=10
 ·rw[if_pos hk,if_pos hk,<-Ij];refine eb.2 ?_;rw[My,My];exact⟨fun x=>⟨x.2,x.1.2⟩,fun x=>⟨⟨rfl,x.2⟩,x.1⟩⟩
 rw[ae hk,ae hk]
 by_cases hv:v=4
 ·rw[if_pos hv,if_pos hv];have hp:decide (f=⟨f.topic,f.qos,false,false,0⟩)=(!f.noLocal&&(!f.asPub&&decide (f.handling=0))):=by
   have:(!f.noLocal&&(!f.asPub&&decide (f.handling=0)))=decide (f.noLocal=false/\f.asPub=false/\f.handling=0):=by
    cases f.noLocal<;>cases f.asPub<;>simp
   rw[this];refine eb.2 ?_;rw[My];exact⟨fun x=>x.2,fun x=>⟨rfl,x⟩⟩
  rw[hp]
  by_cases h0:f.handling=0
  ·have hl:jZ f.handling=true:=by rw[h0];rfl
   rw[hl,IK];cases jZ f.qos
   ·rw[ru,if_pos rfl]
   ·rw[IK,ae (by decide)]
  ·rw[ah h0];simp
 ·rw[ae hv,ae hv];cases jZ f.qos<;>cases jZ f.handling<;>cases fy f.topic<;>cases f.noLocal<;>rfl
theorem Lw(v k:Int)(f:Fi)(w:World)(hs:f.topic.size<=4611686018427387904):
  Calls prog 248 #[.int .i64 v,.int .i64 k,.agg #[.string f.topic,.int .i64 f.qos,.bool f.noLocal,.bool f.asPub,.int .i64 f.handling]] w fun e w'=>e= .returned (.bool (nT v k f))/\Below w.heap.size w w':=by
 have HS:=aa hs;have HB0:=aa ((aq w.heap.size w).alloc (ac _) (.cells #[.string f.topic,.int .i64 f.qos,.bool f.noLocal,.bool f.asPub,.int .i64 f.handling] 32));have HK0:=aa (Bk.fresh w 32 #[.string f.topic,.int .i64 f.qos,.bool f.noLocal,.bool f.asPub,.int .i64 f.handling]);have HE:=aa (O0 v k f);have hgt:=kP;have hne:=fun W=>mJ f ⟨f.topic,0,false,false,0⟩ W;obtain⟨pl,hpl⟩:∃pl,decide (f=⟨f.topic,0,false,false,0⟩)=pl:=⟨_,rfl⟩;rw[hpl]at hne;have HP:=aa hpl;clear hpl hs;go_enter func248,ntmps248
 by_cases hk:k=10
 ·have ek:(k==10)=true:=aK.2 hk;have HX:Hid (nT v k f=pl):=aa (by rw[HE.o,if_pos hk,HP.o]);clear hk;go_wp2;go_ret;exact⟨by rw[HX.o];rfl,HB0.o⟩
 have ek:(k==10)=false:=ar.2 hk;have HE1:Hid (nT v k f=if(jZ f.qos&&jZ f.handling)=false then false
  else if v=4 then(!f.noLocal&&(!f.asPub&&decide (f.handling=0)))else(!f.noLocal || !fy f.topic)):=aa (by rw[HE.o,ae hk])
 clear hk HE
 by_cases a1:f.qos<0
 ·have HX:Hid (nT v k f=false):=aa (by rw[HE1.o,if_pos (by unfold jZ;rw[ah (show ¬0<=f.qos by omega)];rfl)]);go_wp2;go_ret;exact⟨by rw[HX.o];rfl,HB0.o⟩
 by_cases a2:2<f.qos
 ·have HX:Hid (nT v k f=false):=aa (by rw[HE1.o,if_pos (by unfold jZ;rw[ah (show ¬f.qos<3 by omega),ru];rfl)]);go_wp2;go_ret;exact⟨by rw[HX.o];rfl,HB0.o⟩
 have hq:jZ f.qos=true:=by unfold jZ;rw[au (show 0<=f.qos by omega),au (show f.qos<3 by omega)];rfl
 by_cases b1:f.handling<0
 ·have HX:Hid (nT v k f=false):=aa (by rw[HE1.o,if_pos (by rw[hq];unfold jZ;rw[ah (show ¬0<=f.handling by omega)];rfl)]);clear hq;go_wp2;go_ret;exact⟨by rw[HX.o];rfl,HB0.o⟩
 by_cases b2:2<f.handling
 ·have HX:Hid (nT v k f=false):=aa (by rw[HE1.o,if_pos (by rw[hq];unfold jZ;rw[ah (show ¬f.handling<3 by omega),ru];rfl)]);clear hq;go_wp2;go_ret;exact⟨by rw[HX.o];rfl,HB0.o⟩
 have HE2:Hid (nT v k f=if v=4 then(!f.noLocal&&(!f.asPub&&decide (f.handling=0)))else(!f.noLocal || !fy f.topic)):=aa (by
  rw[HE1.o,ae (by rw[hq,show jZ f.handling=true by unfold jZ;rw[au (show 0<=f.handling by omega),au (show f.handling<3 by omega)];rfl];decide)])
 clear hq HE1
 by_cases h4:v=4
 ·have e4:(v==4)=true:=aK.2 h4;have HE3:Hid (nT v k f=(!f.noLocal&&(!f.asPub&&decide (f.handling=0)))):=aa (by rw[HE2.o,if_pos h4]);clear h4;obtain⟨nl,hnl⟩:∃nl,f.noLocal=nl:=⟨_,rfl⟩;obtain⟨ap,hap⟩:∃ap,f.asPub=ap:=⟨_,rfl⟩;rw[hnl,hap]at HE3 HK0 hne HB0⊢;clear hnl hap;cases nl
  ·cases ap
   ·go_wp2;go_ret;exact⟨by rw[HE3.o];rfl,HB0.o⟩
   ·go_wp2;go_ret;exact⟨by rw[HE3.o];rfl,HB0.o⟩
  ·go_wp2;go_ret;exact⟨by rw[HE3.o];rfl,HB0.o⟩
 have e4:(v==4)=false:=ar.2 h4;have HE3:Hid (nT v k f=(!f.noLocal || !fy f.topic)):=aa (by rw[HE2.o,ae h4]);clear h4 HE2
 go_wp2_with fail
 refine(KB f.topic _ HS.o).mono ?_;rintro e w1 ⟨⟨a,b,rfl⟩,hb⟩;have HB1:=aa (HB0.o.trans (hb.mono HB0.o.size));have HK1:=aa (HK0.o.below hb HK0.o.lt);clear hb;have c2:=HK1.o.cell 2;simp only[ay,aE,aB]at c2;obtain⟨nl,hnl⟩:∃nl,f.noLocal=nl:=⟨_,rfl⟩;rw[hnl]at HE3 c2⊢;clear hnl;generalize fy f.topic=sh at*;cases nl
 ·go_wp2;go_ret;exact⟨by rw[HE3.o];rfl,HB1.o⟩
 ·go_wp2;go_ret;exact⟨by rw[HE3.o];rfl,HB1.o⟩
def rsQ(v:Int)(p:Pk):Pk:=
 if jm p.kind=true then {pk0 with kind:=p.kind,id:=p.id,props:=p.props,filters:=p.filters}
 else if p.kind=9\/v=5 then {pk0 with kind:=p.kind,id:=p.id,props:=p.props,codes:=p.codes}
 else {pk0 with kind:=p.kind,id:=p.id,props:=p.props}
def rsH(v:Int)(p:Pk)(h:Hs):Hs:=
 if jm p.kind=true then {hs0 with props:=h.props,filters:=h.filters}
 else if p.kind=9\/v=5 then {hs0 with props:=h.props,codes:=h.codes}
 else {hs0 with props:=h.props}
theorem PT{v:Int}{p:Pk}(hv:v=4\/v=5)(hk:It p.kind=true)(h:Hs):rsQ v p=sbQ v p/\rsH v p h=sbH v p h:=by
 unfold It at hk;simp only[eh,Fx]at hk;unfold rsQ sbQ rsH sbH
 by_cases ha:jm p.kind=true
 ·rw[if_pos ha,if_pos ha,if_pos ha,if_pos ha];exact⟨rfl,rfl⟩
 ·rw[ae ha,ae ha,ae ha,ae ha];have hn:¬(p.kind=8\/p.kind=10):=fun x=>ha (au x)
  by_cases h9:p.kind=9\/v=5
  ·have hs:pP v p.kind=false:=ah (fun x=>by omega);rw[if_pos h9,if_pos h9,hs,ae (by decide),ae (by decide)];exact⟨rfl,rfl⟩
  ·have hs:pP v p.kind=true:=au ⟨by omega,by omega⟩;rw[ae h9,ae h9,if_pos hs,if_pos hs];exact⟨rfl,rfl⟩
theorem M6(W:World){n:Nat}(hz:W.heap.size=n):∀q k,(zc (.pointer (some ⟨n,0,none⟩)) (pkV q k)).run prog (W.alloc (.cells (pkC pk0 hs0) PkT))= .ok () (pw (W.alloc (.cells (pkC pk0 hs0) PkT)) n (pkC q k)):=fun q k=>by
 have h1:=ax W pk0 q hs0 k;have h2:pw (W.alloc (.cells (pkC pk0 hs0) PkT)) n (pkC q k)=W.alloc (.cells (pkC q k) PkT):=by
  have hx:(pw (W.alloc (.cells (pkC pk0 hs0) PkT)) W.heap.size (pkC q k))=W.alloc (.cells (pkC q k) PkT):=by
   have hh:(W.heap.push (.cells (pkC pk0 hs0) PkT (0,0))).setIfInBounds W.heap.size (.cells (pkC q k) PkT (0,0))=W.heap.push (.cells (pkC q k) PkT (0,0)):=by
    apply Il;intro i;rw[Array.getElem?_push]
    by_cases hi:W.heap.size=i
    ·subst hi;simp
    ·rw[eK hi,Array.getElem?_push,ae (fun e=>hi e.symm),ae (fun e=>hi e.symm)]
   exact congrArg (fun x=>{W with heap:=x}) hh
  rw[hz]at hx;exact hx
 rw[hz]at h1;rw[h2];exact h1
theorem Nk(v:Int)(p:Pk)(h:Hs)(w:World):
  Calls prog 246 #[.int .i64 v,pkV p h] w fun e w'=>e= .returned (pkV (rsQ v p) (rsH v p h))/\Below w.heap.size w w':=by
 have hb2:=ic w (.cells (pkC p h) PkT) (.cells (pkC pk0 hs0) PkT);have B1:Bk ((w.alloc (.cells (pkC p h) PkT)).alloc (.cells (pkC pk0 hs0) PkT)) w.heap.size PkT (pkC p h):=(Bk.fresh w PkT (pkC p h)).alloc _;have B2:Bk ((w.alloc (.cells (pkC p h) PkT)).alloc (.cells (pkC pk0 hs0) PkT)) (w.heap.size+1) PkT (pkC pk0 hs0):=by
  have:=Bk.fresh (w.alloc (.cells (pkC p h) PkT)) PkT (pkC pk0 hs0);rwa[show(w.alloc (.cells (pkC p h) PkT)).heap.size=w.heap.size+1 by simp]at this
 have hz:((w.alloc (.cells (pkC p h) PkT)).alloc (.cells (pkC pk0 hs0) PkT)).heap.size=w.heap.size+2:=by simp
 generalize hW:(w.alloc (.cells (pkC p h) PkT)).alloc (.cells (pkC pk0 hs0) PkT)=W at hb2 B1 B2 hz;have HB:=aa hb2;have H1:=aa B1;have H2:=aa B2;have HZ:=aa hz
 clear hb2 B1 B2;have k1:=fun i=>H1.o.cell i;have ub:=wu p.kind p.id p.props h.props.a h.props.c;have B3:=Bk.fresh W PkT (pkC pk0 hs0);rw[hz]at B3;have hlt:w.heap.size+2<(W.alloc (.cells (pkC pk0 hs0) PkT)).heap.size:=B3.lt;have b1':Bk (W.alloc (.cells (pkC pk0 hs0) PkT)) w.heap.size PkT (pkC p h):=H1.o.alloc _;have b2':Bk (W.alloc (.cells (pkC pk0 hs0) PkT)) (w.heap.size+1) PkT (pkC pk0 hs0):=H2.o.alloc _;have bb:Below w.heap.size w (W.alloc (.cells (pkC pk0 hs0) PkT)):=HB.o.alloc HB.o.size _;have hs0':=M6 W hz;generalize hV:W.alloc (.cells (pkC pk0 hs0) PkT)=V at hlt b1' b2' bb hs0';have N1:=aa b1';have N2:=aa b2';have NB:=aa bb;have NL:=aa hlt
 clear b1' b2' bb B3;have f1:∀cs,Bk (pw V (w.heap.size+2) cs) w.heap.size PkT (pkC p h):=fun cs=>(uv V (w.heap.size+2) cs (by omega)).trans N1.o;have j1:=fun cs=>(f1 cs).cell;clear f1;have jb:Hid (∀cs,Bk (pw V (w.heap.size+2) cs) (w.heap.size+1) PkT (pkC pk0 hs0)):=aa (fun cs=>(uv V (w.heap.size+2) cs (by omega)).trans N2.o);have js:=fun cs q k=>aW (jb.out cs) q k;have JB:Hid (∀cs,Below w.heap.size w (pw V (w.heap.size+2) cs)):=aa (fun cs=>BC V (w.heap.size+2) cs NB.o (by omega));go_enter func246,ntmps246
 go_wp2_with fail
 refine(No p.kind _).mono ?_;rintro e w1 ⟨rfl,hw1⟩;subst hw1;cases ha:jm p.kind
 ·by_cases h9:p.kind=9
  ·have e9:(p.kind==9)=true:=aK.2 h9;have E1:Hid (rsQ v p= {pk0 with kind:=p.kind,id:=p.id,props:=p.props,codes:=p.codes}):=aa (by unfold rsQ;rw[ae (by rw[ha];decide),if_pos (.inl h9)]);have E2:Hid (rsH v p h= {hs0 with props:=h.props,codes:=h.codes}):=aa (by unfold rsH;rw[ae (by rw[ha];decide),if_pos (.inl h9)]);clear ha h9;go_wp2;refine av (fz rfl _ rfl (cO (jb.out _) _ _)) rfl ?_;rw[E1.o,E2.o];exact⟨rfl,bT (JB.o _) (JB.o _).size (IT _) _ _⟩
  ·have e9:(p.kind==9)=false:=ar.2 h9
   by_cases h5:v=5
   ·have e5:(v==5)=true:=aK.2 h5;have E1:Hid (rsQ v p= {pk0 with kind:=p.kind,id:=p.id,props:=p.props,codes:=p.codes}):=aa (by unfold rsQ;rw[ae (by rw[ha];decide),if_pos (.inr h5)]);have E2:Hid (rsH v p h= {hs0 with props:=h.props,codes:=h.codes}):=aa (by unfold rsH;rw[ae (by rw[ha];decide),if_pos (.inr h5)]);clear ha h9 h5;go_wp2;refine av (fz rfl _ rfl (cO (jb.out _) _ _)) rfl ?_;rw[E1.o,E2.o];exact⟨rfl,bT (JB.o _) (JB.o _).size (IT _) _ _⟩
   ·have e5:(v==5)=false:=ar.2 h5;have E1:Hid (rsQ v p= {pk0 with kind:=p.kind,id:=p.id,props:=p.props}):=aa (by unfold rsQ;rw[ae (by rw[ha];decide),ae (fun y=>y.elim h9 h5)]);have E2:Hid (rsH v p h= {hs0 with props:=h.props}):=aa (by unfold rsH;rw[ae (by rw[ha];decide),ae (fun y=>y.elim h9 h5)]);clear ha h9 h5;go_wp2;refine av (fz rfl _ rfl (cO (jb.out _) _ _)) rfl ?_;rw[E1.o,E2.o];exact⟨rfl,bT (JB.o _) (JB.o _).size (IT _) _ _⟩
 ·have E1:Hid (rsQ v p= {pk0 with kind:=p.kind,id:=p.id,props:=p.props,filters:=p.filters}):=aa (by unfold rsQ;rw[if_pos ha]);have E2:Hid (rsH v p h= {hs0 with props:=h.props,filters:=h.filters}):=aa (by unfold rsH;rw[if_pos ha]);clear ha;go_wp2;refine av (fz rfl _ rfl (cO (jb.out _) _ _)) rfl ?_;rw[E1.o,E2.o];exact⟨rfl,bT (JB.o _) (JB.o _).size (IT _) _ _⟩
end
section
attribute [local go_sem ↓] bD bF bH bI bu
attribute [local go_sem] bc aD bh bg bK bJ bd aY be aO ax cI dC dB dt dj di dA dr dp dn bW co bO bZ bX cz cy cw cu ct cC cn bS bP bR
def gB(v:Int)(p:Pk):Bool:=ba v&&(It p.kind&&(decide (p=rsQ v p)&&(!decide (p.id<1)&&(!decide (65535<p.id)&& !(decide (v=4)&&decide (0<p.props.length))))))
theorem Qi(v:Int)(p:Pk):xY v p=(gB v p&&lj v p):=by
 unfold xY eH gB;have hk:ir v p.kind=(ba v&&It p.kind):=by
  unfold ir ba It;rw[<-Ij,<-Ij]
 rw[hk];cases h1:ba v
 ·rfl
 cases h2:It p.kind
 ·rfl
 rw[(PT (aR h1) h2 hs0).1];cases decide (p.id<1)<;>cases decide (65535<p.id)<;>cases decide (v=4)<;>cases decide (0<p.props.length)<;>cases lj v p<;>cases decide (p=sbQ v p)<;>rfl
theorem PI{v:Int}{p:Pk}(g:gB v p=true):lj v p= !(decide (p.filters.length+p.codes.length=0)&& !(decide (p.kind=11)&&decide (v=4))):=by
 unfold gB at g;simp only[eh]at g;obtain⟨h1,h2,h3,-⟩:=g;have h3:=aR h3;rw[(PT (aR h1) h2 hs0).1]at h3;unfold It at h2;simp only[eh,Fx]at h2;unfold lj;cases ha:jm p.kind
 ·have hf:=Ib h3 ha;rw[ae (by decide),hf];have hn:¬(p.kind=8\/p.kind=10):=Gy ha;cases hsil:pP v p.kind
  ·rw[ae (by decide)];have hs:¬(p.kind=11/\v=4):=Gy hsil;have:(decide (p.kind=11)&&decide (v=4))=false:=by rw[<-Ij];exact ah hs
   rw[this,Bool.not_false,IK,<-decide_not];exact eb.2 (by simp only[eC];omega)
  ·rw[if_pos rfl];have hs:p.kind=11/\v=4:=aR hsil;rw[au hs.1,au hs.2];simp
 ·have hc:=Iz h3 ha;rw[if_pos rfl,hc];have hn:p.kind=8\/p.kind=10:=aR ha;rw[ah (show ¬p.kind=11 by omega),bj,Bool.not_false,IK,<-decide_not];exact eb.2 (by simp only[eC];omega)
theorem OX(v:Int){p:Pk}(x:gz p):gz (rsQ v p):=by
 unfold rsQ;split
 ·exact⟨ag _,ag _,x.2.2.1,x.2.2.2⟩
 ·split
  ·exact⟨ag _,x.2.1,ag _,x.2.2.2⟩
  ·exact⟨ag _,ag _,ag _,x.2.2.2⟩
theorem PZ(v:Int){w:World}{B:Nat}{p:Pk}{h:Hs}(x:PkIn w B p h):PkIn w B (rsQ v p) (rsH v p h):=by
 unfold rsQ rsH;split
 ·exact⟨Rd.nil _ _ _ _,Rd.nil _ _ _ _,x.filters,x.props,ag _,ag _,x.caps.2.2.1,x.caps.2.2.2⟩
 ·split
  ·exact⟨Rd.nil _ _ _ _,x.codes,Rd.nil _ _ _ _,x.props,ag _,x.caps.2.1,ag _,x.caps.2.2.2⟩
  ·exact⟨Rd.nil _ _ _ _,Rd.nil _ _ _ _,Rd.nil _ _ _ _,x.props,ag _,ag _,ag _,x.caps.2.2.2⟩
theorem Kh(v:Int)(p:Pk)(h:Hs)(w:World)(ip:PkIn w w.heap.size p h)(ok:PkOk p):
  Calls prog 184 #[.int .i64 v,pkV p h] w fun e w'=>e= .returned (.int .i64 (sbE v p))/\Below w.heap.size w w':=by
 have OK:=aa ok;have S0:=aa ((St.start w).push ip);have HE:Hid (sbE v p=if xY v p=false then 2 else if(aM p.kind p.props).2≠0 then(aM p.kind p.props).2
  else if fiE v p.kind p.filters≠0 then fiE v p.kind p.filters else cdE v p.kind p.codes):=aa rfl
 have HG:Hid (gB v p=(ba v&&(It p.kind&&(decide (p=rsQ v p)&&(!decide (p.id<1)&&(!decide (65535<p.id)&& !(decide (v=4)&&decide (0<p.props.length)))))))):=aa rfl;obtain⟨W,hW⟩:∃W,w.alloc (.cells (pkC p h) PkT)=W:=⟨_,rfl⟩;rw[hW]at S0;clear ip ok;go_enter func184,ntmps184
 go_upto_region 1 with fail
 clear hW
 go_cut [44] (fun a wx=>a= .bool (!gB v p)/\St w [(w.heap.size,p,h)] wx)
 case first=>
  have q0:=jw (W:=W) (fun x _=>(pS v x).mono (by rintro e w' ⟨rfl,rfl⟩;exact⟨rfl,aq _ _⟩));have q1:=jw (W:=W) (fun x _=>(Mn p.kind x).mono (by rintro e w' ⟨rfl,rfl⟩;exact⟨rfl,aq _ _⟩));have q2:=jw (W:=W) (fun x _=>Nk v p h x);have q3:=jw (W:=W) (fun x hx=>GP p (rsQ v p) h (rsH v p h) x ((S0.o.below hx).into 0 rfl) (PZ v ((S0.o.below hx).into 0 rfl)) OK.o.len (OX v OK.o.len));have k0:=cell_regrown (show W.cell? ⟨w.heap.size,0,none⟩=some (.int .i64 p.kind)from S0.o.cell 0 rfl 0);have k4:=cell_regrown (show W.cell? ⟨w.heap.size,4,none⟩=some (.int .i64 p.id)from S0.o.cell 0 rfl 4);have k24:=cell_regrown (show W.cell? ⟨w.heap.size,24,none⟩=some (.slice h.props.a p.props.length h.props.c)from S0.o.cell 0 rfl 24);have l0:=qp (S0.o.bk 0 rfl);have HBW:Hid (∀d os,Below W.heap.size W (Sort.grow (redrawn W d) os)):=aa (fun d os=>below_regrown W d os);generalize rsQ v p=Q at*;generalize rsH v p h=QH at*;cases hk:ba v
  ·rw[hk]at q0;have HX:Hid (gB v p=false):=aa (by rw[HG.o,hk];rfl);clear hk
   go_wp2_with fail
   refine wp_region_quiet_below (by kernel_rfl) (by kernel_rfl) ?_
   repeat (go_big_quiet_step (first| with_reducible exact q0 _ _| with_reducible exact q1 _ _| with_reducible exact q2 _ _| with_reducible exact q3 _ _))
   refine kE ?_;intro _ hw';obtain⟨⟨dq,osq⟩,hw''⟩:=hw';subst hw'';have S2:=aa (S0.o.below (HBW.o dq osq));clear q0 q1 q2 q3 l0 k0 k4 k24 HBW;generalize Sort.grow (redrawn _ dq) osq=wq at*;go_wp2
   go_meet
   case rel=>exact⟨by rw[HX.o];rfl,S2.o⟩
  rw[hk]at q0;cases hr:It p.kind
  ·rw[hr]at q1;have HX:Hid (gB v p=false):=aa (by rw[HG.o,hk,hr];rfl);clear hk hr
   go_wp2_with fail
   refine wp_region_quiet_below (by kernel_rfl) (by kernel_rfl) ?_
   repeat (go_big_quiet_step (first| with_reducible exact q0 _ _| with_reducible exact q1 _ _| with_reducible exact q2 _ _| with_reducible exact q3 _ _))
   refine kE ?_;intro _ hw';obtain⟨⟨dq,osq⟩,hw''⟩:=hw';subst hw'';have S2:=aa (S0.o.below (HBW.o dq osq));clear q0 q1 q2 q3 l0 k0 k4 k24 HBW;generalize Sort.grow (redrawn _ dq) osq=wq at*;go_wp2
   go_meet
   case rel=>exact⟨by rw[HX.o];rfl,S2.o⟩
  rw[hr]at q1;cases hq:decide (p=Q)
  ·rw[hq]at q3;have HX:Hid (gB v p=false):=aa (by rw[HG.o,hk,hr,hq];rfl);clear hk hr hq
   go_wp2_with fail
   refine wp_region_quiet_below (by kernel_rfl) (by kernel_rfl) ?_
   repeat (go_big_quiet_step (first| with_reducible exact q0 _ _| with_reducible exact q1 _ _| with_reducible exact q2 _ _| with_reducible exact q3 _ _))
   refine kE ?_;intro _ hw';obtain⟨⟨dq,osq⟩,hw''⟩:=hw';subst hw'';have S2:=aa (S0.o.below (HBW.o dq osq));clear q0 q1 q2 q3 l0 k0 k4 k24 HBW;generalize Sort.grow (redrawn _ dq) osq=wq at*;go_wp2
   go_meet
   case rel=>exact⟨by rw[HX.o];rfl,S2.o⟩
  rw[hq]at q3;have HG1:Hid (gB v p=(!decide (p.id<1)&&(!decide (65535<p.id)&& !(decide (v=4)&&decide (0<p.props.length))))):=aa (by rw[HG.o,hk,hr,hq];rfl);clear hk hr hq HG
  by_cases a1:p.id<1
  ·have x1:decide (p.id<(1:Int))=true:=au a1;have HX:Hid (gB v p=false):=aa (by rw[HG1.o,au a1];rfl)
   go_wp2_with fail
   refine wp_region_quiet_below (by kernel_rfl) (by kernel_rfl) ?_
   repeat (go_big_quiet_step (first| with_reducible exact q0 _ _| with_reducible exact q1 _ _| with_reducible exact q2 _ _| with_reducible exact q3 _ _))
   refine kE ?_;intro _ hw';obtain⟨⟨dq,osq⟩,hw''⟩:=hw';subst hw'';have S2:=aa (S0.o.below (HBW.o dq osq));clear q0 q1 q2 q3 l0 k0 k4 k24 HBW;generalize Sort.grow (redrawn _ dq) osq=wq at*;go_wp2
   go_meet
   case rel=>exact⟨by rw[HX.o];rfl,S2.o⟩
  have x1:decide (p.id<(1:Int))=false:=ah a1
  by_cases a2:65535<p.id
  ·have x2:decide ((65535:Int)<p.id)=true:=au a2;have HX:Hid (gB v p=false):=aa (by rw[HG1.o,au a2,Ra,bj,ru])
   go_wp2_with fail
   refine wp_region_quiet_below (by kernel_rfl) (by kernel_rfl) ?_
   repeat (go_big_quiet_step (first| with_reducible exact q0 _ _| with_reducible exact q1 _ _| with_reducible exact q2 _ _| with_reducible exact q3 _ _))
   refine kE ?_;intro _ hw';obtain⟨⟨dq,osq⟩,hw''⟩:=hw';subst hw'';have S2:=aa (S0.o.below (HBW.o dq osq));clear q0 q1 q2 q3 l0 k0 k4 k24 HBW;generalize Sort.grow (redrawn _ dq) osq=wq at*;go_wp2
   go_meet
   case rel=>exact⟨by rw[HX.o];rfl,S2.o⟩
  have x2:decide ((65535:Int)<p.id)=false:=ah a2;have HG2:Hid (gB v p= !(decide (v=4)&&decide (0<p.props.length))):=aa (by rw[HG1.o,ah a1,ah a2];rfl)
  by_cases a4:v=4
  ·have e4:(v==4)=true:=aK.2 a4
   by_cases ap:0<p.props.length
   ·have d4:decide ((0:Int)<(p.props.length:Int))=true:=au (by omega);have HX:Hid (gB v p=false):=aa (by rw[HG2.o,au a4,au ap];rfl);clear a4
    go_wp2_with fail
    refine wp_region_quiet_below (by kernel_rfl) (by kernel_rfl) ?_
    repeat (go_big_quiet_step (first| with_reducible exact q0 _ _| with_reducible exact q1 _ _| with_reducible exact q2 _ _| with_reducible exact q3 _ _))
    refine kE ?_;intro _ hw';obtain⟨⟨dq,osq⟩,hw''⟩:=hw';subst hw'';have S2:=aa (S0.o.below (HBW.o dq osq));clear q0 q1 q2 q3 l0 k0 k4 k24 HBW;generalize Sort.grow (redrawn _ dq) osq=wq at*;go_wp2
    go_meet
    case rel=>exact⟨by rw[HX.o];first| rfl| (rw[au ap];rfl),S2.o⟩
   ·have d4:decide ((0:Int)<(p.props.length:Int))=false:=ah (by omega);have HX:Hid (gB v p=true):=aa (by rw[HG2.o,ah ap,ru];rfl);clear a4
    go_wp2_with fail
    refine wp_region_quiet_below (by kernel_rfl) (by kernel_rfl) ?_
    repeat (go_big_quiet_step (first| with_reducible exact q0 _ _| with_reducible exact q1 _ _| with_reducible exact q2 _ _| with_reducible exact q3 _ _))
    refine kE ?_;intro _ hw';obtain⟨⟨dq,osq⟩,hw''⟩:=hw';subst hw'';have S2:=aa (S0.o.below (HBW.o dq osq));clear q0 q1 q2 q3 l0 k0 k4 k24 HBW;generalize Sort.grow (redrawn _ dq) osq=wq at*;go_wp2
    go_meet
    case rel=>exact⟨by rw[HX.o];first| rfl| (rw[ah ap];rfl),S2.o⟩
  ·have e4:(v==4)=false:=ar.2 a4;have HX:Hid (gB v p=true):=aa (by rw[HG2.o,ah a4,bj];rfl);clear a4
   go_wp2_with fail
   refine wp_region_quiet_below (by kernel_rfl) (by kernel_rfl) ?_
   repeat (go_big_quiet_step (first| with_reducible exact q0 _ _| with_reducible exact q1 _ _| with_reducible exact q2 _ _| with_reducible exact q3 _ _))
   refine kE ?_;intro _ hw';obtain⟨⟨dq,osq⟩,hw''⟩:=hw';subst hw'';have S2:=aa (S0.o.below (HBW.o dq osq));clear q0 q1 q2 q3 l0 k0 k4 k24 HBW;generalize Sort.grow (redrawn _ dq) osq=wq at*;go_wp2
   go_meet
   case rel=>exact⟨by rw[HX.o];rfl,S2.o⟩
 obtain⟨rfl,hst⟩:=hcut;have S1:=aa hst;have HAG:Hid (xY v p=(gB v p&&lj v p)):=aa (Qi v p);clear hst S0;cases hg:gB v p
 ·have HX:Hid (sbE v p=2):=aa (by rw[HE.o,if_pos (by rw[HAG.o,hg];rfl)]);clear hg;go_wp2;go_ret;exact⟨by rw[HX.o];rfl,S1.o.kept⟩
 have HH:Hid (lj v p= !(decide (p.filters.length+p.codes.length=0)&& !(decide (p.kind=11)&&decide (v=4)))):=aa (PI hg);have HP:Hid (v=4->p.props.length=0):=aa (fun h4=>by
  unfold gB at hg;simp only[eh]at hg;have h5:=hg.2.2.2.2.2;rw[au h4]at h5
  by_cases h0:0<p.props.length
  ·rw[au h0]at h5;cases h5
  ·omega)
 have HAH:Hid (xY v p=lj v p):=aa (by rw[HAG.o,hg,aL]);obtain⟨n,hn⟩:∃n,p.filters.length=n:=⟨_,rfl⟩;obtain⟨m,hm⟩:∃m,p.codes.length=m:=⟨_,rfl⟩;have k0:=S1.o.cell 0 rfl;have k23:=k0 23;have k22:=k0 22
 rw[bP,hn]at k23;rw[bS,hm]at k22;have kk:=(k0 0).trans (cI _ _);rw[hn,hm]at HH;have HN:=aa hn;have HM:=aa hm
 have hn2:n<=140737488351232:=by have:=OK.o.lens.2.2.1;omega
 have hm2:m<=140737488351232:=by have:=OK.o.lens.2.1;omega
 clear hn hm k0 hg HAG
 go_upto_region 3 with fail
 go_cut [62] (fun a wx=>a= .bool (!lj v p)/\St w [(w.heap.size,p,h)] wx)
 case first=>
  by_cases z:n+m=0
  rotate_left
  ·have e0:((n:Int)+(m:Int)==0)=false:=ar.2 (by omega);have HX:Hid (lj v p=true):=aa (by rw[HH.o,ah z];rfl);clear z;go_wp2
   go_meet
   case rel=>exact⟨by rw[HX.o];rfl,S1.o⟩
  have e0:((n:Int)+(m:Int)==0)=true:=aK.2 (by omega)
  by_cases z1:p.kind=11
  rotate_left
  ·have e1:(p.kind==11)=false:=ar.2 z1;have HX:Hid (lj v p=false):=aa (by rw[HH.o,au z,ah z1];rfl);clear z z1;go_wp2
   go_meet
   case rel=>exact⟨by rw[HX.o];rfl,S1.o⟩
  have e1:(p.kind==11)=true:=aK.2 z1
  by_cases z2:v=4
  ·have e2:(v==4)=true:=aK.2 z2;have HX:Hid (lj v p=true):=aa (by rw[HH.o,au z,au z1,au z2];rfl);clear z z1 z2;go_wp2
   go_meet
   case rel=>exact⟨by rw[HX.o];rfl,S1.o⟩
  ·have e2:(v==4)=false:=ar.2 z2;have HX:Hid (lj v p=false):=aa (by rw[HH.o,au z,au z1,ah z2];rfl);clear z z1 z2;go_wp2
   go_meet
   case rel=>exact⟨by rw[HX.o];rfl,S1.o⟩
 obtain⟨rfl,hst⟩:=hcut;clear k22 k23 kk S1;have S1:=aa hst;clear hst HH;cases hh:lj v p
 ·have HX:Hid (sbE v p=2):=aa (by rw[HE.o,if_pos (by rw[HAH.o,hh])]);clear hh;go_wp2;go_ret;exact⟨by rw[HX.o];rfl,S1.o.kept⟩
 have HE1:Hid (sbE v p=if(aM p.kind p.props).2≠0 then(aM p.kind p.props).2 else if fiE v p.kind p.filters≠0 then fiE v p.kind p.filters else cdE v p.kind p.codes):=aa (by rw[HE.o,ae (by rw[HAH.o,hh];decide)]);clear hh HE HAH;have kk:=(S1.o.cell 0 rfl 0).trans (cI _ _);have k24:=(S1.o.cell 0 rfl 24).trans (bR _ _)
 go_wp2_with fail
 refine(Gx v p.kind p.props _ rfl OK.o.props h.props.a h.props.c _ (S1.o.into 0 rfl).props OK.o.len.2.2.2 (S1.o.into 0 rfl).caps.2.2.2).mono ?_;rintro e w2 ⟨rfl,hb⟩;rw[Ir HP.o];have S2:=aa (S1.o.below hb);clear hb kk k24
 obtain⟨x,hx⟩:∃x,(aM p.kind p.props).2=x:=⟨_,rfl⟩;rw[hx]at HE1⊢;clear hx
 by_cases hx:x=0
 rotate_left
 ·have HX:Hid (sbE v p=x):=aa (by rw[HE1.o,if_pos hx]);have e0:(x !=0)=true:=aA.2 hx;clear hx;go_wp2;go_ret;exact⟨by rw[HX.o];rfl,S2.o.kept⟩
 have HE2:Hid (sbE v p=if fiE v p.kind p.filters≠0 then fiE v p.kind p.filters else cdE v p.kind p.codes):=aa (by rw[HE1.o,ae (fun y=>y hx)]);have e0:(x !=0)=false:=by rw[hx];rfl
 clear hx HE1;have k23:=S2.o.cell 0 rfl 23;have k22:=S2.o.cell 0 rfl 22;rw[bP,HN.o]at k23;rw[bS,HM.o]at k22;have kk:=(S2.o.cell 0 rfl 0).trans (cI _ _);go_wp2
 go_loopw [6] (fun i wr=>∃k:Nat,k<=n/\i= .int .i64 k/\fiE v p.kind p.filters=fiE v p.kind (p.filters.drop k)/\Below w2.heap.size w2 wr) (fun i _=>n- (intOf i).toNat)
 case atStart=>exact⟨0,by omega,rfl,by rw[cS],aq _ _⟩
 case round=>
  obtain⟨k,hk,rfl,hfi,hbel⟩:=hrel;have S3:=aa (S2.o.below hbel);have HF:=aa hfi;have HBL:=aa hbel
  clear hfi kk k22 k23;have kk:=(S3.o.cell 0 rfl 0).trans (cI _ _);have k22:=S3.o.cell 0 rfl 22;rw[bS,HM.o]at k22;have k23:=S3.o.cell 0 rfl 23;rw[bP,HN.o]at k23
  by_cases hlt:k<n
  ·have hp:k<p.filters.length:=by rw[HN.o];exact hlt
   obtain⟨b,o,hA,hb,c0,c1,c2,c3,c4⟩:=((S3.o.into 0 rfl).filters).atF hp;have hts:=OK.o.topics p.filters[k] (iY hp);have HAT:=aa (HF.o.trans (FL (v:=v) (k:=p.kind) hp));generalize p.filters[k]=f at*;have HTS:=aa hts;have b1:(0:Int)<=(k:Int):=by omega
   have b2:(k:Int)<(n:Int):=by omega
   clear hp hts;have S4:=S3;have HB4:=HBL;have hbl:=hb
   go_wp2_with fail
   refine(Jo f.topic _ (by have:=HTS.o;omega)).mono ?_;rintro e w4 ⟨rfl,hb4⟩;have S5:=aa (S4.o.below hb4);have HB5:=aa (HB4.o.trans (hb4.mono HB4.o.size));have c0:=(hb4.cell (p:=⟨b,o+k*5,none⟩) hbl).trans c0;have c1:=(hb4.cell (p:=⟨b,o+k*5+1,none⟩) hbl).trans c1;have c2:=(hb4.cell (p:=⟨b,o+k*5+2,none⟩) hbl).trans c2;have c3:=(hb4.cell (p:=⟨b,o+k*5+3,none⟩) hbl).trans c3;have c4:=(hb4.cell (p:=⟨b,o+k*5+4,none⟩) hbl).trans c4;clear hb4 kk k22 k23;have k23:=S5.o.cell 0 rfl 23;rw[bP,HN.o,hA]at k23;have kk:=(S5.o.cell 0 rfl 0).trans (cI _ _);cases hfl:gj f.topic
   ·have HX:Hid (sbE v p=10):=aa (by
     have e:fiE v p.kind p.filters=10:=by rw[HAT.o,if_pos hfl]
     rw[HE2.o,e,if_pos (by decide)])
    clear hfl;go_wp2;go_ret;exact⟨by rw[HX.o];rfl,S5.o.kept⟩
   have HAT2:Hid (fiE v p.kind p.filters=if nT v p.kind f=false then 2 else fiE v p.kind (p.filters.drop (k+1))):=aa (by rw[HAT.o,ae (by rw[hfl];decide)]);clear hfl
   go_wp2_with fail
   have q0:=jw (W:=w4) (fun x _=>Lw v p.kind f x (by have:=HTS.o;omega));have r0:=cell_regrown c0;have r1:=cell_regrown c1;have r2:=cell_regrown c2;have r3:=cell_regrown c3;have r4:=cell_regrown c4
   have rk:=cell_regrown kk;have r23:=cell_regrown k23
   have HBW:Hid (∀d os,Below w4.heap.size w4 (Sort.grow (redrawn w4 d) os)):=aa (fun d os=>below_regrown w4 d os);clear c0 c1 c2 c3 c4 kk k23;refine wp_region_quiet_below (by kernel_rfl) (by kernel_rfl) ?_
   repeat (go_big_quiet_step (first| with_reducible exact q0 _ _))
   refine kE ?_;intro _ hw';obtain⟨⟨dq,osq⟩,hw''⟩:=hw';subst hw'';have S6:=aa (S5.o.below (HBW.o dq osq));have HB6:=aa (HB5.o.trans ((HBW.o dq osq).mono HB5.o.size));clear q0 r0 r1 r2 r3 r4 rk r23 HBW;generalize Sort.grow (redrawn _ dq) osq=w5 at*;cases hop:nT v p.kind f
   ·have HX:Hid (sbE v p=2):=aa (by
     have e:fiE v p.kind p.filters=2:=by rw[HAT2.o,if_pos hop]
     rw[HE2.o,e,if_pos (by decide)])
    clear hop;go_wp2;go_ret;exact⟨by rw[HX.o];rfl,S6.o.kept⟩
   have HX:Hid (fiE v p.kind p.filters=fiE v p.kind (p.filters.drop (k+1))):=aa (by rw[HAT2.o,ae (by rw[hop];decide)]);clear hop;go_wp2
   go_roundw
   case rel=>exact⟨k+1,by omega,by go_num,HX.o,HB6.o⟩
   case measure=>simp[intOf];omega
  ·obtain rfl:k=n:=by omega
   have HX:Hid (sbE v p=cdE v p.kind p.codes):=aa (by
    have e:fiE v p.kind p.filters=0:=by rw[HF.o,<-HN.o,ox];rfl
    rw[HE2.o,e,ae (fun y=>y rfl)])
   clear HE2 HF;go_wp2
   go_loopw [7] (fun i wq=>∃k:Nat,k<=m/\i= .int .i64 k/\cdE v p.kind p.codes=cdE v p.kind (p.codes.drop k)/\Below wr.heap.size wr wq) (fun i _=>m- (intOf i).toNat)
   case atStart=>exact⟨0,by omega,rfl,by rw[cS],aq _ _⟩
   case round=>
    obtain⟨j,hj,rfl,hcd,hbq⟩:=hrel;have S4:=aa (S3.o.below hbq);have HC:=aa hcd;have HBQ:=aa hbq
    clear hcd kk k22 k23;have kk:=(S4.o.cell 0 rfl 0).trans (cI _ _);have k22:=S4.o.cell 0 rfl 22;rw[bS,HM.o]at k22
    by_cases hlt2:j<m
    ·have hp:j<p.codes.length:=by rw[HM.o];exact hlt2
     obtain⟨b,o,z,hA,hb,hz,hc⟩:=((S4.o.into 0 rfl).codes).atI hp;have HZ:Hid (cdE v p.kind p.codes=if xF v p.kind z=false then 2 else cdE v p.kind (p.codes.drop (j+1))):=aa (by
      rw[HC.o,F8 hp];rw[List.getElem?_eq_getElem hp]at hz;rw[Option.some.inj hz])
     have b1:(0:Int)<=(j:Int):=by omega
     have b2:(j:Int)<(m:Int):=by omega
     clear hp hz
     go_wp2_with fail
     have q0:=jw (W:=wr) (fun x _=>Nm v p.kind z x);have r0:=cell_regrown hc;have rk:=cell_regrown kk;have r22:=cell_regrown k22
     have HBW:Hid (∀d os,Below wr.heap.size wr (Sort.grow (redrawn wr d) os)):=aa (fun d os=>below_regrown wr d os);clear hc kk k22;refine wp_region_quiet_below (by kernel_rfl) (by kernel_rfl) ?_
     repeat (go_big_quiet_step (first| with_reducible exact q0 _ _))
     refine kE ?_;intro _ hw';obtain⟨⟨dq,osq⟩,hw''⟩:=hw';subst hw'';have S5:=aa (S4.o.below (HBW.o dq osq));have HB5:=aa (HBQ.o.trans ((HBW.o dq osq).mono HBQ.o.size));clear q0 r0 rk r22 HBW;generalize Sort.grow (redrawn _ dq) osq=w5 at*;cases hop:xF v p.kind z
     ·have HX2:Hid (sbE v p=2):=aa (by rw[HX.o,HZ.o,if_pos hop]);clear hop;go_wp2;go_ret;exact⟨by rw[HX2.o];rfl,S5.o.kept⟩
     have HX2:Hid (cdE v p.kind p.codes=cdE v p.kind (p.codes.drop (j+1))):=aa (by rw[HZ.o,ae (by rw[hop];decide)]);clear hop;go_wp2
     go_roundw
     case rel=>exact⟨j+1,by omega,by go_num,HX2.o,HB5.o⟩
     case measure=>simp[intOf];omega
    ·obtain rfl:j=m:=by omega
     have HX2:Hid (sbE v p=0):=aa (by rw[HX.o,HC.o,<-HM.o,ox];rfl);go_wp2;go_ret;exact⟨by rw[HX2.o];rfl,S4.o.kept⟩
def fiV(f:Fi):Value:=.agg #[.string f.topic,.int .i64 f.qos,.bool f.noLocal,.bool f.asPub,.int .i64 f.handling]
theorem Tw{x:Int}{y:Nat}(h:x=1↔y=1):(x==1)=decide (y=1):=by
 by_cases e:y=1
 ·rw[au e];exact aK.2 (h.2 e)
 ·rw[ah e];exact ar.2 (fun z=>e (h.1 z))
def TX(W:World)(b:Nat)(f:Fi):World:=
 ((((W.setCell ⟨b,0,none⟩ (.string f.topic)).setCell ⟨b,1,none⟩ (.int .i64 f.qos)).setCell ⟨b,2,none⟩ (.bool f.noLocal)).setCell ⟨b,3,none⟩ (.bool f.asPub)).setCell ⟨b,4,none⟩ (.int .i64 f.handling)
theorem Rn{W:World}{b:Nat}{f0:Fi}(h:Bk W b 32 (dI f0))(f:Fi):Bk (TX W b f) b 32 (dI f):=
 ((((h.upd 0 (.string f.topic) (cs':=dI ⟨f.topic,f0.qos,f0.noLocal,f0.asPub,f0.handling⟩) rfl).upd 1 (.int .i64 f.qos) (cs':=dI ⟨f.topic,f.qos,f0.noLocal,f0.asPub,f0.handling⟩) rfl).upd 2 (.bool f.noLocal) (cs':=dI ⟨f.topic,f.qos,f.noLocal,f0.asPub,f0.handling⟩) rfl).upd 3 (.bool f.asPub) (cs':=dI ⟨f.topic,f.qos,f.noLocal,f.asPub,f0.handling⟩) rfl).upd 4 (.int .i64 f.handling) (cs':=dI f) rfl
theorem Re{W:World}{g a b:Nat}{t:ByteArray}{e:Int}(h:IC W g t a e)(hne:b≠g)(f:Fi):IC (TX W b f) g t a e:=
 ⟨((((h.1.other (fun e=>hne e.symm) _).other (fun e=>hne e.symm) _).other (fun e=>hne e.symm) _).other (fun e=>hne e.symm) _).other (fun e=>hne e.symm) _,h.2⟩
theorem Q9{S:Nat->Prop}{w W:World}{b:Nat}(h:Mods S w W)(hb:w.heap.size<=b)(f:Fi):Mods S w (TX W b f):=
 ((((h.set b 0 (.inr hb) _).set b 1 (.inr hb) _).set b 2 (.inr hb) _).set b 3 (.inr hb) _).set b 4 (.inr hb) _
def Rk(W:World)(b n:Nat):World:=
 (((W.setCell ⟨b,1,none⟩ (.int .i64 ((n:Int) % 4))).setCell ⟨b,2,none⟩ (.bool (decide (n/ 4% 2=1)))).setCell ⟨b,3,none⟩ (.bool (decide (n/ 8% 2=1)))).setCell ⟨b,4,none⟩ (.int .i64 ((n:Int) / 16% 4))
theorem Rx{W:World}{b:Nat}{T:ByteArray}(h:Bk W b 32 (dI ⟨T,0,false,false,0⟩))(n:Nat):Bk (Rk W b n) b 32 (dI (vB T n)):=
 (((h.upd 1 (.int .i64 ((n:Int) % 4)) (cs':=dI ⟨T,((n% 4:Nat):Int),false,false,0⟩) rfl).upd 2 (.bool (decide (n/ 4% 2=1))) (cs':=dI ⟨T,((n% 4:Nat):Int),decide (n/ 4% 2=1),false,0⟩) rfl).upd 3 (.bool (decide (n/ 8% 2=1))) (cs':=dI ⟨T,((n% 4:Nat):Int),decide (n/ 4% 2=1),decide (n/ 8% 2=1),0⟩) rfl).upd 4 (.int .i64 ((n:Int) / 16% 4)) (cs':=dI (vB T n)) rfl
theorem QL{W:World}{b b':Nat}{t:TypeId}{cs:Array Value}(h:Bk W b' t cs)(hne:b'≠b)(n:Nat):Bk (Rk W b n) b' t cs:=(((h.other hne _).other hne _).other hne _).other hne _
theorem Rh{S:Nat->Prop}{w W:World}{b:Nat}(h:Mods S w W)(hb:w.heap.size<=b)(n:Nat):Mods S w (Rk W b n):=
 (((h.set b 1 (.inr hb) _).set b 2 (.inr hb) _).set b 3 (.inr hb) _).set b 4 (.inr hb) _
theorem QU{fn:Func}{p:Tmp}(hr:fn.results= #[.cell p 32])(tmps:Array Value){w:World}{g:Nat}{f:Fi}(hp:tmps.getD p undef= .pointer (some ⟨g,0,none⟩))(hb:Bk w g 32 (dI f)):
  (results fn tmps).run prog w= .ok (fiV f) w:=
 results_cell_row hr tmps w g 32 (dI f) (0,0) _ hp hb underlying32 rfl (by kernel_rfl)
theorem SJ(v k:Int)(g a:Nat)(t:ByteArray)(w:World)(h:IC w g t a 0)(hk:k=8\/k=10):
  Calls prog 213 #[.int .i64 v,.int .i64 k,.pointer (some ⟨g,0,none⟩)] w fun e' w'=>
   e'= .returned (fiV (fiR v k t a).1)/\IC w' g t (fiR v k t a).2.1 (fiR v k t a).2.2/\Mods (fun z=>z=g) w w':=by
 have HG:=aa h.lt;have C0:Hid (IC (w.alloc (.cells (dI ⟨⟨#[]⟩,0,false,false,0⟩) 32)) g t a 0):=aa (h.below ((aq _ _).alloc (ac _) _));have M0:Hid (Mods (fun z=>z=g) w (w.alloc (.cells (dI ⟨⟨#[]⟩,0,false,false,0⟩) 32))):=aa ((Mods.refl w).alloc _);have K0:=aa (Bk.fresh w 32 (dI ⟨⟨#[]⟩,0,false,false,0⟩));clear h;go_enter func213,ntmps213
 go_wp2_with fail
 refine(Rg g a t 0 _ C0.o).mono ?_;rintro e1 w1 ⟨rfl,hc,hm⟩;have C1:=aa hc;have M1:=aa (M0.o.trans (Mods.of_grown (S:=fun z=>z=g) hm rfl));have K1:=aa (K0.o.mods (S:=fun z=>z=g) (Mods.of_grown hm rfl) (by have:=HG.o;omega));clear hc hm;obtain⟨U,hU⟩:∃U,rtC t a 0=U:=⟨_,rfl⟩;have HU:=aa hU;rw[hU]at C1⊢;clear hU;obtain⟨T,a1,x1⟩:=U;simp only at C1⊢;have C2:Hid (IC (w1.alloc (.cells (dI ⟨T,0,false,false,0⟩) 32)) g t a1 x1):=aa (C1.o.below ((aq _ _).alloc (ac _) _));have M2:=aa (M1.o.alloc (.cells (dI ⟨T,0,false,false,0⟩) 32));have K2:=aa (K1.o.alloc (.cells (dI ⟨T,0,false,false,0⟩) 32));have L2:=aa (Bk.fresh w1 32 (dI ⟨T,0,false,false,0⟩));have HW1:=aa M1.o.size;have HW2:=aa K1.o.lt;rcases hk with h8| h10
 ·subst h8;have HF:Hid (fiR v 8 t a=(vB T (opR v t a1 x1).1,(opR v t a1 x1).2.1,(opR v t a1 x1).2.2)):=aa (by unfold fiR;rw[if_pos rfl,HU.o])
  go_wp2_with fail
  refine(Qz g a1 t x1 1 _ C2.o (by decide)).mono ?_;rintro e2 w3 ⟨rfl,hc,hm⟩;have C3:=aa hc;have M3:=aa (M2.o.trans (Mods.of_grown (S:=fun z=>z=g) hm rfl));have K3:=aa (K2.o.mods (S:=fun z=>z=g) (Mods.of_grown hm rfl) (by have:=HG.o;omega));have L3:=aa (L2.o.mods (S:=fun z=>z=g) (Mods.of_grown hm rfl) (by have:=HG.o;have:=HW1.o;omega));have HOP:Hid (opR v t a1 x1=(br t a1 x1 1,(aH t a1 x1 1).2.1,if iU v (br t a1 x1 1)=true then fh (aH t a1 x1 1).2.2 7 else(aH t a1 x1 1).2.2)):=aa rfl;have hn:br t a1 x1 1<256:=iV t a1 x1;clear hc hm;generalize br t a1 x1 1=n at*;generalize (aH t a1 x1 1).2.1=a2 at*;generalize (aH t a1 x1 1).2.2=x2 at*;rw[HOP.o]at HF;simp only at HF;clear HOP;have hw:IntKind.i64.wrap (n:Int)=(n:Int):=by rw[aQ];omega
  have q2:((n:Int) / 4% 2==1)=decide (n/ 4% 2=1):=Tw (by omega);have q3:((n:Int) / 8% 2==1)=decide (n/ 8% 2=1):=Tw (by omega);simp only;have hbc:(63<n\/(¬63<n/\v=4/\3<n))\/(¬63<n/\(v≠4\/(v=4/\¬3<n))):=by omega
  rcases hbc with hbad| ⟨hb1,hb2⟩
  ·have HB:Hid (iU v n=true):=aa (by
    unfold iU;rcases hbad with h1| ⟨-,h1,h2⟩
    ·rw[au h1];rfl
    ·rw[au h1,au h2];simp)
   have HF2:Hid (fiR v 8 t a=(vB T n,a2,fh x2 7)):=aa (by rw[HF.o,if_pos HB.o]);rcases hbad with h1| ⟨h0,h1,h2⟩
   ·have x0:decide ((63:Int)<(n:Int))=true:=au (by omega);clear h1
    go_wp2_with fail
    refine(Qv g a2 t x2 7 _ C3.o).mono ?_;rintro e4 w4 ⟨rfl,hc,hm⟩;have C4:=aa hc;have M4:=aa (M3.o.trans (Mods.of_grown (S:=fun z=>z=g) hm rfl));have K4:=aa (K3.o.mods (S:=fun z=>z=g) (Mods.of_grown hm rfl) (by have:=HG.o;omega));have L4:=aa (L3.o.mods (S:=fun z=>z=g) (Mods.of_grown hm rfl) (by have:=HG.o;have:=HW1.o;omega));clear hc hm;have g1:=L4.o.free 1;have g2:=L4.o.free 2;have g3:=L4.o.free 3;have g4:=L4.o.free 4
    have d1:=L4.o.cell 1;have d2:=L4.o.cell 2;have d3:=L4.o.cell 3;have d4:=L4.o.cell 4
    simp only[dI,ay,aE,aB]at d1 d2 d3 d4 g1 g2 g3 g4
    go_upto_region 8 with fail
    show Code.wp _ _ _ _ (Rk w4 w1.heap.size n);obtain⟨W8,hW8⟩:∃W8,Rk w4 w1.heap.size n=W8:=⟨_,rfl⟩;have C8:IC (Rk w4 w1.heap.size n) g t a2 (fh x2 7):=⟨QL C4.o.1 (by have:=HG.o;have:=HW1.o;omega) n,C4.o.2⟩;have M8:=Rh M4.o HW1.o n;have K8:=QL (b:=w1.heap.size) K4.o (Nat.ne_of_lt HW2.o) n;have L8:=Rx L4.o n;rw[hW8]at C8 M8 K8 L8⊢;have HC8:=aa C8;have HM8:=aa M8;have HK8:=aa K8
    have f0:=K8.free 0;have f1:=K8.free 1;have f2:=K8.free 2;have f3:=K8.free 3;have f4:=K8.free 4
    have c0:=K8.cell 0;have c1:=K8.cell 1;have c2:=K8.cell 2;have c3:=K8.cell 3;have c4:=K8.cell 4
    have e0:=L8.cell 0;have e1:=L8.cell 1;have e2:=L8.cell 2;have e3:=L8.cell 3;have e4:=L8.cell 4
    generalize vB T n=F at*;simp only[dI,ay,aE,aB]at c0 c1 c2 c3 c4 f0 f1 f2 f3 f4 e0 e1 e2 e3 e4;clear hW8 C8 M8 K8 L8 g1 g2 g3 g4 d1 d2 d3 d4 q2 q3 hw;go_wp2;refine av (QU rfl _ rfl (Rn HK8.o F)) rfl ?_;rw[HF2.o];exact⟨rfl,Re HC8.o (by have:=HG.o;omega) F,Q9 HM8.o (ac _) F⟩
   ·have x0:decide ((63:Int)<(n:Int))=false:=ah (by omega);have x1':(v==4)=true:=aK.2 h1;have x2':decide ((3:Int)<(n:Int))=true:=au (by omega);clear h0 h1 h2
    go_wp2_with fail
    refine(Qv g a2 t x2 7 _ C3.o).mono ?_;rintro e4 w4 ⟨rfl,hc,hm⟩;have C4:=aa hc;have M4:=aa (M3.o.trans (Mods.of_grown (S:=fun z=>z=g) hm rfl));have K4:=aa (K3.o.mods (S:=fun z=>z=g) (Mods.of_grown hm rfl) (by have:=HG.o;omega));have L4:=aa (L3.o.mods (S:=fun z=>z=g) (Mods.of_grown hm rfl) (by have:=HG.o;have:=HW1.o;omega));clear hc hm;have g1:=L4.o.free 1;have g2:=L4.o.free 2;have g3:=L4.o.free 3;have g4:=L4.o.free 4
    have d1:=L4.o.cell 1;have d2:=L4.o.cell 2;have d3:=L4.o.cell 3;have d4:=L4.o.cell 4
    simp only[dI,ay,aE,aB]at d1 d2 d3 d4 g1 g2 g3 g4
    go_upto_region 8 with fail
    show Code.wp _ _ _ _ (Rk w4 w1.heap.size n);obtain⟨W8,hW8⟩:∃W8,Rk w4 w1.heap.size n=W8:=⟨_,rfl⟩;have C8:IC (Rk w4 w1.heap.size n) g t a2 (fh x2 7):=⟨QL C4.o.1 (by have:=HG.o;have:=HW1.o;omega) n,C4.o.2⟩;have M8:=Rh M4.o HW1.o n;have K8:=QL (b:=w1.heap.size) K4.o (Nat.ne_of_lt HW2.o) n;have L8:=Rx L4.o n;rw[hW8]at C8 M8 K8 L8⊢;have HC8:=aa C8;have HM8:=aa M8;have HK8:=aa K8
    have f0:=K8.free 0;have f1:=K8.free 1;have f2:=K8.free 2;have f3:=K8.free 3;have f4:=K8.free 4
    have c0:=K8.cell 0;have c1:=K8.cell 1;have c2:=K8.cell 2;have c3:=K8.cell 3;have c4:=K8.cell 4
    have e0:=L8.cell 0;have e1:=L8.cell 1;have e2:=L8.cell 2;have e3:=L8.cell 3;have e4:=L8.cell 4
    generalize vB T n=F at*;simp only[dI,ay,aE,aB]at c0 c1 c2 c3 c4 f0 f1 f2 f3 f4 e0 e1 e2 e3 e4;clear hW8 C8 M8 K8 L8 g1 g2 g3 g4 d1 d2 d3 d4 q2 q3 hw;go_wp2;refine av (QU rfl _ rfl (Rn HK8.o F)) rfl ?_;rw[HF2.o];exact⟨rfl,Re HC8.o (by have:=HG.o;omega) F,Q9 HM8.o (ac _) F⟩
  ·have HB:Hid (iU v n=false):=aa (by
    unfold iU;rw[ah hb1];rcases hb2 with h1| ⟨-,h2⟩
    ·rw[ah h1];rfl
    ·rw[ah h2];simp)
   have HF2:Hid (fiR v 8 t a=(vB T n,a2,x2)):=aa (by rw[HF.o,ae (by rw[HB.o];decide)]);have x0:decide ((63:Int)<(n:Int))=false:=ah (by omega);rcases hb2 with h1| ⟨h1,h2⟩
   ·have x1':(v==4)=false:=ar.2 h1;clear hb1 h1;have g1:=L3.o.free 1;have g2:=L3.o.free 2;have g3:=L3.o.free 3;have g4:=L3.o.free 4
    have d1:=L3.o.cell 1;have d2:=L3.o.cell 2;have d3:=L3.o.cell 3;have d4:=L3.o.cell 4
    simp only[dI,ay,aE,aB]at d1 d2 d3 d4 g1 g2 g3 g4
    go_upto_region 8 with fail
    show Code.wp _ _ _ _ (Rk w3 w1.heap.size n);obtain⟨W8,hW8⟩:∃W8,Rk w3 w1.heap.size n=W8:=⟨_,rfl⟩;have C8:IC (Rk w3 w1.heap.size n) g t a2 (x2):=⟨QL C3.o.1 (by have:=HG.o;have:=HW1.o;omega) n,C3.o.2⟩;have M8:=Rh M3.o HW1.o n;have K8:=QL (b:=w1.heap.size) K3.o (Nat.ne_of_lt HW2.o) n;have L8:=Rx L3.o n;rw[hW8]at C8 M8 K8 L8⊢;have HC8:=aa C8;have HM8:=aa M8;have HK8:=aa K8
    have f0:=K8.free 0;have f1:=K8.free 1;have f2:=K8.free 2;have f3:=K8.free 3;have f4:=K8.free 4
    have c0:=K8.cell 0;have c1:=K8.cell 1;have c2:=K8.cell 2;have c3:=K8.cell 3;have c4:=K8.cell 4
    have e0:=L8.cell 0;have e1:=L8.cell 1;have e2:=L8.cell 2;have e3:=L8.cell 3;have e4:=L8.cell 4
    generalize vB T n=F at*;simp only[dI,ay,aE,aB]at c0 c1 c2 c3 c4 f0 f1 f2 f3 f4 e0 e1 e2 e3 e4;clear hW8 C8 M8 K8 L8 g1 g2 g3 g4 d1 d2 d3 d4 q2 q3 hw;go_wp2;refine av (QU rfl _ rfl (Rn HK8.o F)) rfl ?_;rw[HF2.o];exact⟨rfl,Re HC8.o (by have:=HG.o;omega) F,Q9 HM8.o (ac _) F⟩
   ·have x1':(v==4)=true:=aK.2 h1;have x2':decide ((3:Int)<(n:Int))=false:=ah (by omega);clear hb1 h1 h2;have g1:=L3.o.free 1;have g2:=L3.o.free 2;have g3:=L3.o.free 3;have g4:=L3.o.free 4
    have d1:=L3.o.cell 1;have d2:=L3.o.cell 2;have d3:=L3.o.cell 3;have d4:=L3.o.cell 4
    simp only[dI,ay,aE,aB]at d1 d2 d3 d4 g1 g2 g3 g4
    go_upto_region 8 with fail
    show Code.wp _ _ _ _ (Rk w3 w1.heap.size n);obtain⟨W8,hW8⟩:∃W8,Rk w3 w1.heap.size n=W8:=⟨_,rfl⟩;have C8:IC (Rk w3 w1.heap.size n) g t a2 (x2):=⟨QL C3.o.1 (by have:=HG.o;have:=HW1.o;omega) n,C3.o.2⟩;have M8:=Rh M3.o HW1.o n;have K8:=QL (b:=w1.heap.size) K3.o (Nat.ne_of_lt HW2.o) n;have L8:=Rx L3.o n;rw[hW8]at C8 M8 K8 L8⊢;have HC8:=aa C8;have HM8:=aa M8;have HK8:=aa K8
    have f0:=K8.free 0;have f1:=K8.free 1;have f2:=K8.free 2;have f3:=K8.free 3;have f4:=K8.free 4
    have c0:=K8.cell 0;have c1:=K8.cell 1;have c2:=K8.cell 2;have c3:=K8.cell 3;have c4:=K8.cell 4
    have e0:=L8.cell 0;have e1:=L8.cell 1;have e2:=L8.cell 2;have e3:=L8.cell 3;have e4:=L8.cell 4
    generalize vB T n=F at*;simp only[dI,ay,aE,aB]at c0 c1 c2 c3 c4 f0 f1 f2 f3 f4 e0 e1 e2 e3 e4;clear hW8 C8 M8 K8 L8 g1 g2 g3 g4 d1 d2 d3 d4 q2 q3 hw;go_wp2;refine av (QU rfl _ rfl (Rn HK8.o F)) rfl ?_;rw[HF2.o];exact⟨rfl,Re HC8.o (by have:=HG.o;omega) F,Q9 HM8.o (ac _) F⟩
 ·subst h10;have HF:Hid (fiR v 10 t a=(⟨T,0,false,false,0⟩,a1,x1)):=aa (by unfold fiR;rw[ae (by decide),HU.o]);have f0:=K2.o.free 0;have f1:=K2.o.free 1;have f2:=K2.o.free 2;have f3:=K2.o.free 3;have f4:=K2.o.free 4
  have c0:=K2.o.cell 0;have c1:=K2.o.cell 1;have c2:=K2.o.cell 2;have c3:=K2.o.cell 3;have c4:=K2.o.cell 4
  simp only[dI,ay,aE,aB]at c0 c1 c2 c3 c4 f0 f1 f2 f3 f4;go_wp2;refine av (QU rfl _ rfl (Rn K2.o ⟨T,0,false,false,0⟩)) rfl ?_;rw[HF.o];exact⟨rfl,Re C2.o (by have:=HG.o;omega) ⟨T,0,false,false,0⟩,Q9 M2.o (ac _) ⟨T,0,false,false,0⟩⟩
end
end Go.Proofs.YtbdgkkmbnahgiaaGreatDoor
