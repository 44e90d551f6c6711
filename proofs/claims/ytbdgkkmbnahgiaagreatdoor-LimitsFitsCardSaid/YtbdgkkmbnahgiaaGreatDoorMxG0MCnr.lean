/- A part of what the laws stand on: MCnr, RfX. -/
import Derived.Test.YtbdgkkmbnahgiaaGreatDoorMxG0OrdG
set_option maxRecDepth 10000
set_option maxHeartbeats 8000000
namespace Go.Proofs.YtbdgkkmbnahgiaaGreatDoor
open Go.RowKit Go.Proofs.Tryz
section
attribute [local go_sem ↓] bD bF bH bI bu
attribute [local go_sem] bc aD bh bg bK bJ bd aY be aO ax cI dC dB dt dj di dA dr dp dn bW co bO bZ bX cz cy cw cu ct cC cn bS bP bR
theorem MS(b:Bool)(n:Int)(w:World):Calls prog 251 #[.bool b,.int .i64 n] w fun e w'=>e= .returned (.int .i64 (pc b n))/\w=w':=by
 cases b
 ·go_enter func251,ntmps251;go_wp2;go_ret;exact⟨rfl,rfl⟩
 ·go_enter func251,ntmps251;go_wp2;go_ret;exact⟨rfl,rfl⟩
theorem Nz(A B C D E q:Int)(hA:0<=A/\A<=128)(hB:0<=B/\B<=64)(hC:0<=C/\C<=32)(hD:0<=D/\D<=4)(hE:0<=E/\E<=2):
  wrap64 (wrap64 (wrap64 (wrap64 (wrap64 (A+B)+C)+wrap64 ((wrap64 (q.tmod 4+4)).tmod 4*8))+D)+E)=A+B+C+q% 4*8+D+E:=by
 have h1:=Int.tmod_lt_of_pos q (b:=4) (by decide);have h2:=Int.lt_tmod_of_pos q (b:=4) (by decide);have h3:=Int.mul_tdiv_add_tmod q 4;generalize q.tdiv 4=d at*;generalize q.tmod 4=t at*;have e1:wrap64 (t+4)=t+4:=by simp only[wrap64];omega
 rw[e1,QP (by omega)];have e2:(t+4) % 4=q% 4:=by omega
 rw[e2];simp only[wrap64];omega
theorem KE(p:Pk)(h:Hs)(w:World):
  Calls prog 254 #[pkV p h] w fun e w'=>e= .returned (.int .i64 (flQ p))/\Below w.heap.size w w':=by
 have HL:=aa ((aq w.heap.size w).alloc (ac _) (.cells (pkC p h) PkT));have B1:=Bk.fresh w PkT (pkC p h);have k0:=(B1.cell 0).trans (cI _ _);have k7:=(B1.cell 7).trans (dr _ _);have k10:=(B1.cell 10).trans (bW _ _);have k12:=(B1.cell 12).trans (bO _ _);have k14:=(B1.cell 14).trans (bX _ _);have k17:=(B1.cell 17).trans (cw _ _);have k18:=(B1.cell 18).trans (cu _ _)
 have HQ:Hid (flQ p=if p.kind=1 then pc p.hasUser 128+pc p.hasPass 64+pc p.will.retain 32+p.will.qos% 4*8+pc p.hasWill 4+pc p.clean 2 else 0):=aa rfl;clear B1;go_enter func254,ntmps254
 by_cases h1:p.kind=1
 rotate_left
 ·have e1:(p.kind !=1)=true:=aA.2 h1;have HX:Hid (flQ p=0):=aa (by rw[HQ.o,ae h1]);clear h1;go_wp2;go_ret;exact⟨by rw[HX.o];rfl,HL.o⟩
 have e1:(p.kind !=1)=false:=by rw[h1];rfl
 have HX:Hid (flQ p=pc p.hasUser 128+pc p.hasPass 64+pc p.will.retain 32+p.will.qos% 4*8+pc p.hasWill 4+pc p.clean 2):=aa (by rw[HQ.o,if_pos h1]);clear h1 HQ;have hb:∀b n,0<=n->0<=pc b n/\pc b n<=n:=fun b n hn=>by unfold pc;split<;>omega
 have HA:=aa (hb p.hasUser 128 (by decide));have HB:=aa (hb p.hasPass 64 (by decide));have HC:=aa (hb p.will.retain 32 (by decide));have HD:=aa (hb p.hasWill 4 (by decide));have HE:=aa (hb p.clean 2 (by decide))
 clear hb
 go_wp2_with fail
 generalize hW:w.alloc (.cells (pkC p h) PkT)=W at*;clear hW;have q:=fun(b:Bool) (n:Int)=>jw (W:=W) (fun x _=>(MS b n x).mono (fun e w' hh=>⟨hh.1,hh.2▸aq _ _⟩));have q0:=q p.hasUser 128;have q1:=q p.hasPass 64;have q2:=q p.will.retain 32;have q3:=q p.hasWill 4;have q4:=q p.clean 2
 have c7:=cell_regrown k7;have c10:=cell_regrown k10;have c12:=cell_regrown k12;have c14:=cell_regrown k14;have c17:=cell_regrown k17;have c18:=cell_regrown k18
 have HBQ:=aa (fun d os=>HL.o.trans ((below_regrown W d os).mono HL.o.size));clear q k0 k7 k10 k12 k14 k17 k18;refine wp_region_quiet_below (by as_aux_lemma=>kernel_rfl) (by as_aux_lemma=>kernel_rfl) ?_
 repeat (go_big_quiet_step (first| with_reducible exact q0 _ _| with_reducible exact q1 _ _| with_reducible exact q2 _ _| with_reducible exact q3 _ _| with_reducible exact q4 _ _))
 refine kE ?_;intro _ hw';obtain⟨⟨dq,osq⟩,hw''⟩:=hw';subst hw'';have KF:=aa (HBQ.o dq osq);clear q0 q1 q2 q3 q4 c7 c10 c12 c14 c17 c18 HBQ;generalize Sort.grow (redrawn _ dq) osq=wq at*;have HV:=aa (Nz _ _ _ _ _ p.will.qos HA.o HB.o HC.o HD.o HE.o);go_wp2;go_ret;exact⟨by rw[HX.o,<-HV.o];rfl,KF.o⟩
theorem He(s:ByteArray)(w:World)(hs:s.size<=65535):
  Calls prog 253 #[.string s] w fun e w'=>e= .returned (.string (qE s))/\Below w.heap.size w w':=by
 have HD:Hid (qE s=cQ s):=aa (if_pos hs);go_enter func253,ntmps253
 go_wp2_with fail
 refine(Hw s _ hs).mono ?_;rintro e w1 ⟨rfl,hb⟩;go_wp2;go_ret;exact⟨by rw[HD.o];rfl,hb⟩
end
section
attribute [local go_sem ↓] bD bF bH bI bu
attribute [local go_sem] bc aD bh bg bK bJ bd aY be aO ax cI dC dB dt dj di dA dr dp dn bW co bO bZ bX cz cy cw cu ct cC cn bS bP bR
attribute [local go_sem ↓high] bu sD sE
attribute [local go_sem ↓] wh
attribute [local go_sem] Cv BD mX pU pB py
theorem NX(k:Int)(b:Bool)(c:Int)(l:List Pr)(A:Option Addr)(n:Nat)(w:World):(qP #[(0,.int .i64 k),(16,.bool b),(17,.int .i64 c),(20,.slice A l.length n)]).run prog w= .ok (pkV {pk0 with kind:=k,props:=l,session:=b,code:=c} {hs0 with props:=⟨A,n⟩}) w:=by kernel_rfl
theorem NW(k:Int)(c:Bool)(a:Int)(s:ByteArray)(u p o:Bool)(l:List Pr)(A:Option Addr)(n:Nat)(w:World):(qP #[(0,.int .i64 k),(7,.bool c),(8,.int .i64 a),(9,.string s),(10,.bool u),(12,.bool p),(14,.bool o),(20,.slice A l.length n)]).run prog w= .ok (pkV {pk0 with kind:=k,props:=l,clean:=c,alive:=a,client:=s,hasUser:=u,hasPass:=p,hasWill:=o} {hs0 with props:=⟨A,n⟩}) w:=by kernel_rfl
theorem LK(v:Int)(p:Pk)(h:Hs)(w:World):
  Calls prog 310 #[.int .i64 v,pkV p h] w fun e w'=>e= .returned (pkV (kS p) (qJ p h))/\Below w.heap.size w w':=by
 have hb2:=ic w (.cells (pkC p h) PkT) (.cells (pkC pk0 hs0) PkT);have B1:Bk ((w.alloc (.cells (pkC p h) PkT)).alloc (.cells (pkC pk0 hs0) PkT)) w.heap.size PkT (pkC p h):=(Bk.fresh w PkT (pkC p h)).alloc _;have B2:Bk ((w.alloc (.cells (pkC p h) PkT)).alloc (.cells (pkC pk0 hs0) PkT)) (w.heap.size+1) PkT (pkC pk0 hs0):=by
  have:=Bk.fresh (w.alloc (.cells (pkC p h) PkT)) PkT (pkC pk0 hs0);rwa[show(w.alloc (.cells (pkC p h) PkT)).heap.size=w.heap.size+1 by simp]at this
 have hz:((w.alloc (.cells (pkC p h) PkT)).alloc (.cells (pkC pk0 hs0) PkT)).heap.size=w.heap.size+2:=by simp
 generalize hW:(w.alloc (.cells (pkC p h) PkT)).alloc (.cells (pkC pk0 hs0) PkT)=W at hb2 B1 B2 hz;have HB:=aa hb2;have H1:=aa B1;have H2:=aa B2;have HZ:=aa hz
 clear hb2 B1 B2;have k1:=fun i=>H1.o.cell i;have st:=fun q k=>aW H2.o q k;have ua:=NX p.kind p.session p.code p.props h.props.a h.props.c;have ub:=NW p.kind p.clean p.alive p.client p.hasUser p.hasPass p.hasWill p.props h.props.a h.props.c
 by_cases h2:p.kind=2
 ·have e2:(p.kind==2)=true:=aK.2 h2;have E1:Hid (qJ p h= {hs0 with props:=h.props}):=aa (by unfold qJ;rw[ae (fun y=>y.1 h2)];rfl);have E2:Hid (kS p= {pk0 with kind:=p.kind,props:=p.props,session:=p.session,code:=p.code}):=aa (qI h2);clear h2 ub hz;go_enter func310,ntmps310;go_wp2;refine av (fz rfl _ rfl (cO H2.o _ _)) rfl ?_;rw[E1.o,E2.o];exact⟨rfl,bT HB.o HB.o.size (IT _) _ _⟩
 ·have e2:(p.kind==2)=false:=ar.2 h2;have H2':=aa h2;have HH:Hid (qJ p h= {hs0 with props:=h.props,wp:=(if p.hasWill=true then h.wp else hd0)}):=aa (by
   unfold qJ
   by_cases hw:p.hasWill=true
   ·rw[if_pos ⟨h2,hw⟩,if_pos hw]
   ·rw[ae (fun y=>hw y.2),ae hw])
  have B3:=Bk.fresh W PkT (pkC pk0 hs0);rw[hz]at B3;have hlt:w.heap.size+2<(W.alloc (.cells (pkC pk0 hs0) PkT)).heap.size:=B3.lt;have b1':Bk (W.alloc (.cells (pkC pk0 hs0) PkT)) w.heap.size PkT (pkC p h):=H1.o.alloc _;have b2':Bk (W.alloc (.cells (pkC pk0 hs0) PkT)) (w.heap.size+1) PkT (pkC pk0 hs0):=H2.o.alloc _;have bb:Below w.heap.size w (W.alloc (.cells (pkC pk0 hs0) PkT)):=HB.o.alloc HB.o.size _;have hs0':∀q k,(zc (.pointer (some ⟨w.heap.size+2,0,none⟩)) (pkV q k)).run prog (W.alloc (.cells (pkC pk0 hs0) PkT))= .ok () (pw (W.alloc (.cells (pkC pk0 hs0) PkT)) (w.heap.size+2) (pkC q k)):=fun q k=>by
   have h1:=ax W pk0 q hs0 k;have h2:pw (W.alloc (.cells (pkC pk0 hs0) PkT)) (w.heap.size+2) (pkC q k)=W.alloc (.cells (pkC q k) PkT):=by
    have hx:(pw (W.alloc (.cells (pkC pk0 hs0) PkT)) W.heap.size (pkC q k))=W.alloc (.cells (pkC q k) PkT):=by
     have hh:(W.heap.push (.cells (pkC pk0 hs0) PkT (0,0))).setIfInBounds W.heap.size (.cells (pkC q k) PkT (0,0))=W.heap.push (.cells (pkC q k) PkT (0,0)):=by
      apply Il;intro i;rw[Array.getElem?_push]
      by_cases hi:W.heap.size=i
      ·subst hi;simp
      ·rw[eK hi,Array.getElem?_push,ae (fun e=>hi e.symm),ae (fun e=>hi e.symm)]
     exact congrArg (fun x=>{W with heap:=x}) hh
    rw[hz]at hx;exact hx
   rw[hz]at h1;rw[h2];exact h1
  generalize hV:W.alloc (.cells (pkC pk0 hs0) PkT)=V at hlt b1' b2' bb hs0';have N1:=aa b1';have N2:=aa b2';have NB:=aa bb;have NL:=aa hlt
  clear b1' b2' bb B3 h2 ua;have f1:∀cs,Bk (pw V (w.heap.size+2) cs) w.heap.size PkT (pkC p h):=fun cs=>(uv V (w.heap.size+2) cs (by omega)).trans N1.o;have j1:=fun cs=>(f1 cs).cell;have jl:=fun cs=>Gj (f1 cs);clear f1;have jb:Hid (∀cs,Bk (pw V (w.heap.size+2) cs) (w.heap.size+1) PkT (pkC pk0 hs0)):=aa (fun cs=>(uv V (w.heap.size+2) cs (by omega)).trans N2.o);have js:=fun cs q k=>aW (jb.out cs) q k;have JB:Hid (∀cs,Below w.heap.size w (pw V (w.heap.size+2) cs)):=aa (fun cs=>BC V (w.heap.size+2) cs NB.o (by omega));go_enter func310,ntmps310;cases ha:p.hasWill<;>cases hb:p.hasUser<;>cases hc:p.hasPass
  all_goals
   have HQ:=aa (vJ H2'.o ha hb hc);have HA:=aa ha;rw[ha,hb,hc]at ub;go_wp2;refine av (fz rfl _ rfl (cO (jb.out _) _ _)) rfl ?_;refine⟨?_,bT (JB.o _) (JB.o _).size (IT _) _ _⟩;rw[HQ.o];rw[HH.o,HA.o];rfl
theorem LU{b:Bool}{p:Pk}(hn:b=decide (0<=p.alive/\p.alive<65536/\0<=p.will.qos/\p.will.qos<=2)):
   (¬0<=p.alive/\b=false)\/(0<=p.alive/\¬p.alive<65536/\b=false)\/(0<=p.alive/\p.alive<65536/\¬0<=p.will.qos/\b=false)\/(0<=p.alive/\p.alive<65536/\0<=p.will.qos/\b=decide (p.will.qos<=2)):=by
 rw[hn]
 by_cases a1:0<=p.alive
 ·by_cases a2:p.alive<65536
  ·by_cases a3:0<=p.will.qos
   ·exact .inr (.inr (.inr ⟨a1,a2,a3,eb.2 ⟨fun y=>y.2.2.2,fun y=>⟨a1,a2,a3,y⟩⟩⟩))
   ·exact .inr (.inr (.inl ⟨a1,a2,a3,ah (fun y=>a3 y.2.2.1)⟩))
  ·exact .inr (.inl ⟨a1,a2,ah (fun y=>a2 y.2.1)⟩)
 ·exact .inl ⟨a1,ah (fun y=>a1 y.1)⟩
theorem KH(v:Int)(p:Pk)(h:Hs)(w:World)(ip:PkIn w w.heap.size p h)(ok:PkOk p):
  Calls prog 239 #[.int .i64 v,pkV p h] w fun e w'=>e= .returned (.bool (kT v p))/\Below w.heap.size w w':=by
 have OK:=aa ok;have S0:=aa ((St.start w).push ip);have hz0:(w.alloc (.cells (pkC p h) PkT)).heap.size=w.heap.size+1:=by simp
 generalize hW:w.alloc (.cells (pkC p h) PkT)=W at S0 hz0;have HZ:=aa hz0;clear hz0
 have HE:Hid (kT v p=(ba v&&(gm p.kind&&(decide (p=kS p)&&dU v p)))):=aa rfl;have HR:Hid (dU v p=if v=4/\0<p.props.length+p.will.props.length then false
  else if p.kind=2 then i9 v p&&(decide (p.code=0) || !p.session)
  else if v=4/\((p.client.size=0/\p.clean=false)\/(p.hasPass=true/\p.hasUser=false))then false
  else decide (0<=p.alive/\p.alive<65536/\0<=p.will.qos/\p.will.qos<=2)):=aa rfl
 have hem:=kR p.client;have q0:=jw (W:=W) (fun x hx=>(pS v x).mono (by rintro e w' ⟨rfl,rfl⟩;exact⟨rfl,aq _ _⟩));have q1:=jw (W:=W) (fun x hx=>LK v p h x);have q2:=jw (W:=W) (fun x hx=>GP p (kS p) h (qJ p h) x ((S0.o.below hx).into 0 rfl) (E6 ((S0.o.below hx).into 0 rfl)) OK.o.len (Dl OK.o.len));have k0:=cell_regrown (show W.cell? ⟨w.heap.size,0,none⟩=some (.int .i64 p.kind)from S0.o.cell 0 rfl 0);have l0:=qp (S0.o.bk 0 rfl);have HBW:Hid (∀d os,Below W.heap.size W (Sort.grow (redrawn W d) os)):=aa (fun d os=>below_regrown W d os);clear ip ok;go_enter func239,ntmps239;cases hk:ba v
 ·rw[hk]at q0;have HX:Hid (kT v p=false):=aa (by rw[HE.o,hk,bj]);clear hk
  go_wp2_with fail
  refine wp_region_quiet_below (by kernel_rfl) (by kernel_rfl) ?_
  repeat (go_big_quiet_step (first| with_reducible exact q0 _ _| with_reducible exact q1 _ _| with_reducible exact q2 _ _))
  refine kE ?_;intro _ hw';obtain⟨⟨dq,osq⟩,hw''⟩:=hw';subst hw'';have S2:=aa (S0.o.below (HBW.o dq osq));clear q0 q1 q2 k0 l0 HBW;generalize Sort.grow (redrawn _ dq) osq=wq at*;go_wp2;go_ret;exact⟨by rw[HX.o];rfl,S2.o.kept⟩
 rw[hk]at q0;have HV:Hid (v=4\/v=5):=aa (aR hk);have HE1:Hid (kT v p=(gm p.kind&&(decide (p=kS p)&&dU v p))):=aa (by rw[HE.o,hk,aL]);clear hk HE;cases ho:gm p.kind
 ·have HX:Hid (kT v p=false):=aa (by rw[HE1.o,ho,bj]);have n1:(p.kind !=1)=true:=aA.2 (fun y=>by have:=Gy ho;exact this (.inl y));have n2:(p.kind !=2)=true:=aA.2 (fun y=>by have:=Gy ho;exact this (.inr y));clear ho
  go_wp2_with fail
  refine wp_region_quiet_below (by kernel_rfl) (by kernel_rfl) ?_
  repeat (go_big_quiet_step (first| with_reducible exact q0 _ _| with_reducible exact q1 _ _| with_reducible exact q2 _ _))
  refine kE ?_;intro _ hw';obtain⟨⟨dq,osq⟩,hw''⟩:=hw';subst hw'';have S2:=aa (S0.o.below (HBW.o dq osq));clear q0 q1 q2 k0 l0 HBW;generalize Sort.grow (redrawn _ dq) osq=wq at*;go_wp2;go_ret;exact⟨by rw[HX.o];rfl,S2.o.kept⟩
 have HO:=aa (aR ho);have HE2:Hid (kT v p=(decide (p=kS p)&&dU v p)):=aa (by rw[HE1.o,ho,aL]);clear ho HE1;obtain⟨sm,hsm⟩:∃b:Bool,decide (p=kS p)=b:=⟨_,rfl⟩;rw[hsm]at q2;have HSM:=aa hsm;clear hsm
 by_cases h2:p.kind=2
 ·have n1:(p.kind !=1)=true:=aA.2 (by omega);have n2:(p.kind !=2)=false:=by simp[h2]
  have e2:(p.kind==2)=true:=aK.2 h2;have H2:=aa h2;clear h2;cases sm
  ·have HX:Hid (kT v p=false):=aa (by rw[HE2.o,HSM.o,bj])
   go_wp2_with fail
   refine wp_region_quiet_below (by kernel_rfl) (by kernel_rfl) ?_
   repeat (go_big_quiet_step (first| with_reducible exact q0 _ _| with_reducible exact q1 _ _| with_reducible exact q2 _ _))
   refine kE ?_;intro _ hw';obtain⟨⟨dq,osq⟩,hw''⟩:=hw';subst hw'';have S2:=aa (S0.o.below (HBW.o dq osq));clear q0 q1 q2 k0 l0 HBW;generalize Sort.grow (redrawn _ dq) osq=wq at*;go_wp2;go_ret;exact⟨by rw[HX.o];rfl,S2.o.kept⟩
  have HE3:Hid (kT v p=dU v p):=aa (by rw[HE2.o,HSM.o,aL])
  go_wp2_with fail
  refine wp_region_quiet_below (by kernel_rfl) (by kernel_rfl) ?_
  repeat (go_big_quiet_step (first| with_reducible exact q0 _ _| with_reducible exact q1 _ _| with_reducible exact q2 _ _))
  refine kE ?_;intro _ hw';obtain⟨⟨dq,osq⟩,hw''⟩:=hw';subst hw'';have S2:=aa (S0.o.below (HBW.o dq osq));clear q0 q1 q2 k0 l0 HBW;generalize Sort.grow (redrawn _ dq) osq=wq at*;have k0:=S2.o.cell 0 rfl;rcases HV.o with h4| h4
  ·have e4:(v==4)=true:=aK.2 h4;have e5:(v==5)=false:=ar.2 (by omega)
   by_cases hp:0<p.props.length
   ·have HX:Hid (kT v p=false):=aa (by rw[HE3.o,HR.o,if_pos ⟨h4,by omega⟩]);clear h4;go_wp2;go_ret;exact⟨by rw[HX.o];rfl,S2.o.kept⟩
   by_cases hw:0<p.will.props.length
   ·have HX:Hid (kT v p=false):=aa (by rw[HE3.o,HR.o,if_pos ⟨h4,by omega⟩]);clear h4;go_wp2;go_ret;exact⟨by rw[HX.o];rfl,S2.o.kept⟩
   have N0:¬(v=4/\0<p.props.length+p.will.props.length):=fun y=>by omega
   have HC:Hid (kT v p=(ww p.code&&(decide (p.code=0) || !p.session))):=aa (by rw[HE3.o,HR.o,ae N0,if_pos H2.o];unfold i9;rw[if_pos h4]);clear h4 N0
   go_wp2_with fail
   refine(KD p.code _).mono ?_;rintro e w3 ⟨rfl,hb⟩;subst hb;have S3:=S2;cases hm:ww p.code
   ·have HX:Hid (kT v p=false):=aa (by rw[HC.o,hm];rfl);clear hm;go_wp2;go_ret;exact⟨by rw[HX.o];rfl,S3.o.kept⟩
   by_cases hs:p.session=true
   ·have HX:Hid (kT v p=decide (p.code=0)):=aa (by rw[HC.o,hm,hs];simp);clear hm;have hd:decide (p.code=0)=(p.code==0):=by rfl
    go_wp2;go_ret;exact⟨by rw[HX.o];first| rfl| simp,S3.o.kept⟩
   ·have hs':p.session=false:=by simpa using hs
    have HX:Hid (kT v p=true):=aa (by rw[HC.o,hm,hs'];simp);clear hm hs;go_wp2;go_ret;exact⟨by rw[HX.o];rfl,S3.o.kept⟩
  ·have e4:(v==4)=false:=ar.2 (by omega);have e5:(v==5)=true:=aK.2 h4;have N0:¬(v=4/\0<p.props.length+p.will.props.length):=fun y=>by omega
   have HC:Hid (kT v p=(may 2 p.code&&(decide (p.code=0) || !p.session))):=aa (by rw[HE3.o,HR.o,ae N0,if_pos H2.o];unfold i9;rw[ae (fun y=>by omega),H2.o]);clear h4 N0
   go_wp2_with fail
   refine(Ht 2 p.code _).mono ?_;rintro e w3 ⟨rfl,hb⟩;have S3:=aa (S2.o.below hb);clear hb k0
   have k0:=S3.o.cell 0 rfl;cases hm:may 2 p.code
   ·have HX:Hid (kT v p=false):=aa (by rw[HC.o,hm];rfl);clear hm;go_wp2;go_ret;exact⟨by rw[HX.o];rfl,S3.o.kept⟩
   by_cases hs:p.session=true
   ·have HX:Hid (kT v p=decide (p.code=0)):=aa (by rw[HC.o,hm,hs];simp);clear hm;have hd:decide (p.code=0)=(p.code==0):=by rfl
    go_wp2;go_ret;exact⟨by rw[HX.o];first| rfl| simp,S3.o.kept⟩
   ·have hs':p.session=false:=by simpa using hs
    have HX:Hid (kT v p=true):=aa (by rw[HC.o,hm,hs'];simp);clear hm hs;go_wp2;go_ret;exact⟨by rw[HX.o];rfl,S3.o.kept⟩
 ·have n1:(p.kind !=1)=false:=by have:p.kind=1:=HO.o.resolve_right h2;simp[this]
  have e2:(p.kind==2)=false:=ar.2 h2;have H2:=aa h2;clear h2;cases sm
  ·have HX:Hid (kT v p=false):=aa (by rw[HE2.o,HSM.o,bj])
   go_wp2_with fail
   refine wp_region_quiet_below (by kernel_rfl) (by kernel_rfl) ?_
   repeat (go_big_quiet_step (first| with_reducible exact q0 _ _| with_reducible exact q1 _ _| with_reducible exact q2 _ _))
   refine kE ?_;intro _ hw';obtain⟨⟨dq,osq⟩,hw''⟩:=hw';subst hw'';have S2:=aa (S0.o.below (HBW.o dq osq));clear q0 q1 q2 k0 l0 HBW;generalize Sort.grow (redrawn _ dq) osq=wq at*;go_wp2;go_ret;exact⟨by rw[HX.o];rfl,S2.o.kept⟩
  have HE3:Hid (kT v p=dU v p):=aa (by rw[HE2.o,HSM.o,aL])
  go_wp2_with fail
  refine wp_region_quiet_below (by kernel_rfl) (by kernel_rfl) ?_
  repeat (go_big_quiet_step (first| with_reducible exact q0 _ _| with_reducible exact q1 _ _| with_reducible exact q2 _ _))
  refine kE ?_;intro _ hw';obtain⟨⟨dq,osq⟩,hw''⟩:=hw';subst hw'';have S2:=aa (S0.o.below (HBW.o dq osq));clear q0 q1 q2 k0 l0 HBW;generalize Sort.grow (redrawn _ dq) osq=wq at*;have k0:=S2.o.cell 0 rfl;rcases HV.o with h4| h4
  ·have e4:(v==4)=true:=aK.2 h4;have e5:(v==5)=false:=ar.2 (by omega)
   by_cases hp:0<p.props.length
   ·have HX:Hid (kT v p=false):=aa (by rw[HE3.o,HR.o,if_pos ⟨h4,by omega⟩]);clear h4;go_wp2;go_ret;exact⟨by rw[HX.o];rfl,S2.o.kept⟩
   by_cases hw:0<p.will.props.length
   ·have HX:Hid (kT v p=false):=aa (by rw[HE3.o,HR.o,if_pos ⟨h4,by omega⟩]);clear h4;go_wp2;go_ret;exact⟨by rw[HX.o];rfl,S2.o.kept⟩
   have N0:¬(v=4/\0<p.props.length+p.will.props.length):=fun y=>by omega
   have HC:Hid (kT v p=if v=4/\((p.client.size=0/\p.clean=false)\/(p.hasPass=true/\p.hasUser=false))then false
    else decide (0<=p.alive/\p.alive<65536/\0<=p.will.qos/\p.will.qos<=2)):=aa (by rw[HE3.o,HR.o,ae N0,ae H2.o])
   have H4:=aa h4;clear h4 N0
   by_cases ha:p.client.size=0/\p.clean=false
   ·have HX:Hid (kT v p=false):=aa (HC.o.trans (if_pos ⟨H4.o,.inl ha⟩));obtain⟨ha1,ha2⟩:=ha;rw[au ha1]at hem;go_wp2;go_ret;exact⟨by rw[HX.o];rfl,S2.o.kept⟩
   by_cases hq:p.hasPass=true/\p.hasUser=false
   ·have HX:Hid (kT v p=false):=aa (HC.o.trans (if_pos ⟨H4.o,.inr hq⟩));obtain⟨hq1,hq2⟩:=hq;clear ha;go_wp2
    all_goals
     go_ret;exact⟨by rw[HX.o];rfl,S2.o.kept⟩
   have HN:=aa (LU (HC.o.trans (ae (fun y=>y.2.elim ha hq))));have Z:((p.client.toList.isEmpty=true/\p.clean=true)\/p.client.toList.isEmpty=false)/\((p.hasPass=true/\p.hasUser=true)\/p.hasPass=false):=by
    rw[hem]
    constructor
    ·by_cases c0:p.client.size=0
     ·cases c1:p.clean
      ·exact absurd ⟨c0,c1⟩ ha
      ·exact .inl ⟨au c0,rfl⟩
     ·exact .inr (ah c0)
    ·cases c0:p.hasPass
     ·exact .inr rfl
     ·cases c1:p.hasUser
      ·exact absurd ⟨c0,c1⟩ hq
      ·exact .inl ⟨rfl,rfl⟩
   clear ha hq hem;obtain⟨Z1,Z2⟩:=Z;rcases Z1 with ⟨z1,z2⟩ | z1<;>rcases Z2 with ⟨z3,z4⟩ | z3
   all_goals
    rcases HN.o with ⟨a1,hx⟩ | ⟨a1,a2,hx⟩ | ⟨a1,a2,a3,hx⟩ | ⟨a1,a2,a3,hx⟩
    ·have HX:=aa hx;have a1':p.alive<0:=by omega
     clear hx a1;go_wp2;go_ret;exact⟨by rw[HX.o];rfl,S2.o.kept⟩
    ·have HX:=aa hx;have a2':¬p.alive<=65535:=by omega
     clear hx a2;go_wp2;go_ret;exact⟨by rw[HX.o];rfl,S2.o.kept⟩
    ·have HX:=aa hx;have a2':p.alive<=65535:=by omega
     have a3':p.will.qos<0:=by omega
     clear hx a2 a3;go_wp2;go_ret;exact⟨by rw[HX.o];rfl,S2.o.kept⟩
    ·have HX:=aa hx;have a2':p.alive<=65535:=by omega
     clear hx a2;go_wp2;go_ret;exact⟨by rw[HX.o];rfl,S2.o.kept⟩
  ·have e4:(v==4)=false:=ar.2 (by omega);have e5:(v==5)=true:=aK.2 h4;have N0:¬(v=4/\0<p.props.length+p.will.props.length):=fun y=>by omega
   have HC:Hid (kT v p=if v=4/\((p.client.size=0/\p.clean=false)\/(p.hasPass=true/\p.hasUser=false))then false
    else decide (0<=p.alive/\p.alive<65536/\0<=p.will.qos/\p.will.qos<=2)):=aa (by rw[HE3.o,HR.o,ae N0,ae H2.o])
   have HN:=aa (LU (HC.o.trans (ae (fun y=>by omega))));clear h4 N0;rcases HN.o with ⟨a1,hx⟩ | ⟨a1,a2,hx⟩ | ⟨a1,a2,a3,hx⟩ | ⟨a1,a2,a3,hx⟩
   ·have HX:=aa hx;have a1':p.alive<0:=by omega
    clear hx a1;go_wp2;go_ret;exact⟨by rw[HX.o];rfl,S2.o.kept⟩
   ·have HX:=aa hx;have a2':¬p.alive<=65535:=by omega
    clear hx a2;go_wp2;go_ret;exact⟨by rw[HX.o];rfl,S2.o.kept⟩
   ·have HX:=aa hx;have a2':p.alive<=65535:=by omega
    have a3':p.will.qos<0:=by omega
    clear hx a2 a3;go_wp2;go_ret;exact⟨by rw[HX.o];rfl,S2.o.kept⟩
   ·have HX:=aa hx;have a2':p.alive<=65535:=by omega
    clear hx a2;go_wp2;go_ret;exact⟨by rw[HX.o];rfl,S2.o.kept⟩
end
section
attribute [local go_sem ↓] bD bF bH bI bu
attribute [local go_sem] bc aD bh bg bK bJ bd aY be aO ax cI dC dB dt dj di dA dr dp dn bW co bO bZ bX cz cy cw cu ct cC cn bS bP bR
theorem Ic(v:Int)(p:Pk)(h:Hs)(w:World)(ip:PkIn w w.heap.size p h)(ok:PkOk p):
  Calls prog 181 #[.int .i64 v,pkV p h] w fun e w'=>e= .returned (.int .i64 (eR v p))/\Below w.heap.size w w':=by
 have OK:=aa ok;have S0:=aa ((St.start w).push ip);have HE:Hid (eR v p=if kT v p=false then 2
  else if bN p.client=false\/bN p.user=false then 6
  else if p.hasWill=true/\fp p.will.topic=false then 10
  else if 65535<p.will.payload.size\/65535<p.pass.size then 2
  else if(aM p.kind p.props).2≠0 then(aM p.kind p.props).2
  else(aM 16 p.will.props).2):=aa rfl
 have HA:Hid (kT v p=(ba v&&(gm p.kind&&(decide (p=kS p)&&dU v p)))):=aa rfl;have k0:=S0.o.cell 0 rfl;have l0:=S0.o.ld 0 rfl;clear ip ok;go_enter func181,ntmps181
 go_wp2_with fail
 refine(KH v p h _ (S0.o.into 0 rfl) OK.o).mono ?_;rintro e w1 ⟨rfl,hb⟩;have S2:=aa (S0.o.below hb);clear hb k0 l0
 have k0:=S2.o.cell 0 rfl;cases hr:kT v p
 ·have HX:Hid (eR v p=2):=aa (by rw[HE.o,if_pos hr]);clear hr;go_wp2;go_ret;exact⟨by rw[HX.o];rfl,S2.o.kept⟩
 have HZ:Hid (GI v p.kind p.props=(aM p.kind p.props).2/\GI v 16 p.will.props=(aM 16 p.will.props).2):=aa (by
  have hh:dU v p=true:=by
   have:=HA.o.symm.trans hr;simp only[eh]at this;exact this.2.2.2
  have h4:¬(v=4/\0<p.props.length+p.will.props.length):=fun y=>by
   unfold dU at hh;rw[if_pos y]at hh;cases hh
  exact⟨Ir (fun y=>by omega),Ir (fun y=>by omega)⟩)
 have HE1:Hid (eR v p=if bN p.client=false\/bN p.user=false then 6
  else if p.hasWill=true/\fp p.will.topic=false then 10
  else if 65535<p.will.payload.size\/65535<p.pass.size then 2
  else if(aM p.kind p.props).2≠0 then(aM p.kind p.props).2
  else(aM 16 p.will.props).2):=aa (by rw[HE.o,ae (by rw[hr];decide)])
 clear hr
 go_wp2_with fail
 refine(xj p.client _ (by have:=OK.o.texts;omega)).mono ?_;rintro e w3 ⟨rfl,rfl⟩;have S3:=S2;cases hc:bN p.client
 ·have HX:Hid (eR v p=6):=aa (by rw[HE1.o,if_pos (.inl hc)]);clear hc;go_wp2;go_ret;exact⟨by rw[HX.o];rfl,S3.o.kept⟩
 go_wp2_with fail
 refine(xj p.user _ (by have:=OK.o.texts;omega)).mono ?_;rintro e w4 ⟨rfl,rfl⟩;have S4:=S3;cases hu:bN p.user
 ·have HX:Hid (eR v p=6):=aa (by rw[HE1.o,if_pos (.inr hu)]);clear hc hu;go_wp2;go_ret;exact⟨by rw[HX.o];rfl,S4.o.kept⟩
 have HE2:Hid (eR v p=if p.hasWill=true/\fp p.will.topic=false then 10
  else if 65535<p.will.payload.size\/65535<p.pass.size then 2
  else if(aM p.kind p.props).2≠0 then(aM p.kind p.props).2
  else(aM 16 p.will.props).2):=aa (by rw[HE1.o,ae (fun y=>y.elim (fun z=>by rw[hc]at z;cases z) (fun z=>by rw[hu]at z;cases z))])
 clear hc hu;obtain⟨hw,hhw⟩:∃b,p.hasWill=b:=⟨_,rfl⟩;cases hw
 ·have HE3:Hid (eR v p=if 65535<p.will.payload.size\/65535<p.pass.size then 2
   else if(aM p.kind p.props).2≠0 then(aM p.kind p.props).2
   else(aM 16 p.will.props).2):=aa (by rw[HE2.o,ae (fun y=>by rw[hhw]at y;cases y.1)])
  have S5:=S4
  by_cases hy:65535<p.will.payload.size
  ·have d1:(65535:Int)<(p.will.payload.size:Int):=by omega
   have HX:Hid (eR v p=2):=aa (by rw[HE3.o,if_pos (.inl hy)]);clear hy;go_wp2;go_ret;exact⟨by rw[HX.o];rfl,S5.o.kept⟩
  have d1:(p.will.payload.size:Int)<=65535:=by omega
  by_cases hz:65535<p.pass.size
  ·have d2:(65535:Int)<(p.pass.size:Int):=by omega
   have HX:Hid (eR v p=2):=aa (by rw[HE3.o,if_pos (.inr hz)]);clear hy hz;go_wp2;go_ret;exact⟨by rw[HX.o];rfl,S5.o.kept⟩
  have d2:(p.pass.size:Int)<=65535:=by omega
  have HE4:Hid (eR v p=if(aM p.kind p.props).2≠0 then(aM p.kind p.props).2 else(aM 16 p.will.props).2):=aa (by rw[HE3.o,ae (fun y=>y.elim hy hz)]);clear hy hz
  go_wp2_with fail
  refine(Gx v p.kind p.props _ rfl OK.o.props h.props.a h.props.c _ (S5.o.into 0 rfl).props OK.o.len.2.2.2 (S5.o.into 0 rfl).caps.2.2.2).mono ?_;rintro e w6 ⟨rfl,hb⟩;rw[HZ.o.1];have S6:=aa (S5.o.below hb);clear hb k0
  have k0:=S6.o.cell 0 rfl
  by_cases hp:(aM p.kind p.props).2=0
  rotate_left
  ·have e0:((aM p.kind p.props).2 !=0)=true:=aA.2 hp;have HX:Hid (eR v p=(aM p.kind p.props).2):=aa (by rw[HE4.o,if_pos hp]);clear hp;go_wp2;go_ret;exact⟨by rw[HX.o];rfl,S6.o.kept⟩
  rw[hp];have HX:Hid (eR v p=(aM 16 p.will.props).2):=aa (by rw[HE4.o,ae (fun y=>y hp)]);clear hp
  go_wp2_with fail
  refine(Gx v 16 p.will.props _ rfl OK.o.wp h.wp.a h.wp.c _ (S6.o.into 0 rfl).wp OK.o.len.1 (S6.o.into 0 rfl).caps.1).mono ?_;rintro e w7 ⟨rfl,hb⟩;rw[HZ.o.2];have S7:=aa (S6.o.below hb);clear hb k0
  go_wp2;go_ret;exact⟨by rw[HX.o];rfl,S7.o.kept⟩
 ·go_wp2_with fail
  refine(Hg p.will.topic _ (by have:=OK.o.texts;omega)).mono ?_;rintro e w5 ⟨rfl,rfl⟩;have S5:=S4;cases hn:fp p.will.topic
  ·have HX:Hid (eR v p=10):=aa (by rw[HE2.o,if_pos ⟨hhw,hn⟩]);clear hn;go_wp2;go_ret;exact⟨by rw[HX.o];rfl,S5.o.kept⟩
  have HE3:Hid (eR v p=if 65535<p.will.payload.size\/65535<p.pass.size then 2
   else if(aM p.kind p.props).2≠0 then(aM p.kind p.props).2
   else(aM 16 p.will.props).2):=aa (by rw[HE2.o,ae (fun y=>by rw[hn]at y;cases y.2)])
  clear hn
  by_cases hy:65535<p.will.payload.size
  ·have d1:(65535:Int)<(p.will.payload.size:Int):=by omega
   have HX:Hid (eR v p=2):=aa (by rw[HE3.o,if_pos (.inl hy)]);clear hy;go_wp2;go_ret;exact⟨by rw[HX.o];rfl,S5.o.kept⟩
  have d1:(p.will.payload.size:Int)<=65535:=by omega
  by_cases hz:65535<p.pass.size
  ·have d2:(65535:Int)<(p.pass.size:Int):=by omega
   have HX:Hid (eR v p=2):=aa (by rw[HE3.o,if_pos (.inr hz)]);clear hy hz;go_wp2;go_ret;exact⟨by rw[HX.o];rfl,S5.o.kept⟩
  have d2:(p.pass.size:Int)<=65535:=by omega
  have HE4:Hid (eR v p=if(aM p.kind p.props).2≠0 then(aM p.kind p.props).2 else(aM 16 p.will.props).2):=aa (by rw[HE3.o,ae (fun y=>y.elim hy hz)]);clear hy hz
  go_wp2_with fail
  refine(Gx v p.kind p.props _ rfl OK.o.props h.props.a h.props.c _ (S5.o.into 0 rfl).props OK.o.len.2.2.2 (S5.o.into 0 rfl).caps.2.2.2).mono ?_;rintro e w6 ⟨rfl,hb⟩;rw[HZ.o.1];have S6:=aa (S5.o.below hb);clear hb k0
  have k0:=S6.o.cell 0 rfl
  by_cases hp:(aM p.kind p.props).2=0
  rotate_left
  ·have e0:((aM p.kind p.props).2 !=0)=true:=aA.2 hp;have HX:Hid (eR v p=(aM p.kind p.props).2):=aa (by rw[HE4.o,if_pos hp]);clear hp;go_wp2;go_ret;exact⟨by rw[HX.o];rfl,S6.o.kept⟩
  rw[hp];have HX:Hid (eR v p=(aM 16 p.will.props).2):=aa (by rw[HE4.o,ae (fun y=>y hp)]);clear hp
  go_wp2_with fail
  refine(Gx v 16 p.will.props _ rfl OK.o.wp h.wp.a h.wp.c _ (S6.o.into 0 rfl).wp OK.o.len.1 (S6.o.into 0 rfl).caps.1).mono ?_;rintro e w7 ⟨rfl,hb⟩;rw[HZ.o.2];have S7:=aa (S6.o.below hb);clear hb k0
  go_wp2;go_ret;exact⟨by rw[HX.o];rfl,S7.o.kept⟩
theorem ML(v k:Int)(l:List Pr):Hq v k l=tW v k l:=rfl
theorem Wv{x:World}{g:Nat}(a b:UInt8)(hb:Bk x g 5 #[.int .u8 (a.toNat:Int),.int .u8 (b.toNat:Int)]):(convert 80 9 (.slice (some ⟨g,0,none⟩) 2 2)).run prog x= .ok (.string ⟨#[a,b]⟩) x:=
 ni 80 9 5 underlying80 underlying5 underlying9 2 (B:=x.heap.size) (l:=[a,b]) ⟨rfl,.inr ⟨g,0,rfl,hb.lt,fun j u hu=>by rw[bV,hb.cell,ay];exact hu⟩⟩
theorem KJ(v:Int)(p:Pk)(h:Hs)(w:World)(ip:PkIn w w.heap.size p h)(ok:PkOk p)(h2:p.kind=2):
  Calls prog 186 #[.int .i64 v,pkV p h] w fun e w'=>e= .returned (.tuple #[.string (Fg v p).1,.int .i64 (Fg v p).2])/\Below w.heap.size w w':=by
 have OK:=aa ok;have S0:=aa ((St.start w).push ip);have HE:Hid (Fg v p=if eR v p=0 then(vP v p,0)else(⟨#[]⟩,eR v p)):=aa rfl;have HQ:Hid (vP v p=qK [⟨#[if p.session=true then 1 else 0]⟩,⟨(da p.code.toNat 1).toArray⟩,tW v p.kind p.props]):=aa rfl;have l0:=S0.o.ld 0 rfl;have H2:=aa h2;clear ip ok h2;go_enter func186,ntmps186
 go_wp2_with fail
 refine(Ic v p h _ (S0.o.into 0 rfl) OK.o).mono ?_;rintro e w1 ⟨rfl,hb⟩;have S1:=aa (S0.o.below hb);clear hb l0
 by_cases he:eR v p=0
 rotate_left
 ·have e0:(eR v p !=0)=true:=aA.2 he;have HX:Hid (Fg v p=(⟨#[]⟩,eR v p)):=aa (by rw[HE.o,ae he]);clear he;go_wp2;go_ret2;exact⟨by rw[HX.o];rfl,S1.o.kept⟩
 have HX:Hid (Fg v p=(vP v p,0)):=aa (by rw[HE.o,if_pos he]);have hcr:=Av he H2.o;have HTS:=aa (Jr v p.kind p.props);obtain⟨b0,hb0,hw0⟩:∃b:UInt8,Hid ((⟨#[if p.session=true then 1 else 0]⟩:ByteArray)=⟨#[b]⟩)/\IntKind.u8.wrap (pc p.session 1)=(b.toNat:Int):=by
  cases p.session
  ·exact⟨0,aa rfl,rfl⟩
  ·exact⟨1,aa rfl,rfl⟩
 obtain⟨b1,hb1,hw1⟩:∃b:UInt8,Hid (da p.code.toNat 1=[b])/\IntKind.u8.wrap p.code=(b.toNat:Int):=by
  refine⟨UInt8.ofNat p.code.toNat,aa (by simp[da]),?_⟩;rw[GM];simp[UInt8.toNat_ofNat'];omega
 rw[he];have TT:=aa (fun(x:World) hr hc=>G5 v p.kind p.props _ rfl OK.o.props h.props.a h.props.c x hr OK.o.len.2.2.2 hc);obtain⟨T,hT⟩:∃T,tW v p.kind p.props=T:=⟨_,rfl⟩;rw[hb0.out,hb1.out,hT]at HQ;have HQ2:Hid (vP v p=⟨#[b0,b1]⟩++T):=aa (by
  rw[HQ.o];refine eX ?_;simp[qK,ls])
 simp only[ML]at TT;rw[hT]at TT HTS;have hsz:¬(9223372036854775807<2+T.size):=by have:=HTS.o;omega
 have hs2:(⟨#[b0,b1]⟩:ByteArray).size=2:=rfl;have k0:=(S1.o.cell 0 rfl 0).trans (cI _ _);rw[H2.o]at k0;clear he hcr hT
 go_wp2_with fail
 clear k0
 go_cut [4,5] (fun a b wx=>a= .string (⟨#[b0,b1]⟩++T)/\b= .int .i64 0/\St w [(w.heap.size,p,h)] wx)
 case first=>
  have SX:Hid (∀x,Below w1.heap.size w1 x->St w [(w.heap.size,p,h)] x):=aa (fun x hx=>S1.o.below hx);have HSX:Hid (∀x,Below w1.heap.size w1 x->x.cell? ⟨w.heap.size,20,none⟩=some (.bool p.session)/\x.cell? ⟨w.heap.size,21,none⟩=some (.int .i64 p.code)/\x.cell? ⟨w.heap.size,0,none⟩=some (.int .i64 p.kind)/\x.cell? ⟨w.heap.size,24,none⟩=some (.slice h.props.a p.props.length h.props.c)):=aa (fun x hx=>⟨((SX.o x hx).cell 0 rfl 20).trans (cC _ _),((SX.o x hx).cell 0 rfl 21).trans (cn _ _),((SX.o x hx).cell 0 rfl 0).trans (cI _ _),((SX.o x hx).cell 0 rfl 24).trans (bR _ _)⟩);apply Wq
  ·kernel_rfl
  ·intro vs
   repeat (apply Wk
           focus (refine Or.inl ⟨rfl,fun x hx=>?_⟩;have hS:=HSX.o x hx;go_simp;(try with_reducible rfl);done)
           try simp only[Act.put,af,am,ak])
   apply Wm (fun x hx _=>(MS p.session 1 x).mono fun e y h=>⟨h.1,by rw[<-h.2];exact aq _ _⟩)
   ·rfl
   ·intro x hx;have hS:=HSX.o x hx;go_simp
   repeat (apply Wk
           focus (refine Or.inl ⟨rfl,fun x hx=>?_⟩;have hS:=HSX.o x hx;go_simp;(try with_reducible rfl);done)
           try simp only[Act.put,af,am,ak])
   apply Wy (fun u y=>∃g,u= .slice (some ⟨g,0,none⟩) 2 2/\Bk y g 5 #[.int .u8 (b0.toNat:Int),.int .u8 (b1.toNat:Int)]) (fun u x y h hb=>by obtain⟨g,h1,h2⟩:=h;exact⟨g,h1,h2.below hb h2.lt⟩)
   ·rfl
   ·intro x hx _;refine⟨_,_,?_,⟨x.heap.size,rfl,Bk.fresh x _ _⟩,(aq x.heap.size x).alloc (ac _) (.cells #[.int .u8 (b0.toNat:Int),.int .u8 (b1.toNat:Int)] 5)⟩;go_simp
   apply WD (v:=.string ⟨#[b0,b1]⟩)
   ·rfl
   ·intro x hx hH;obtain⟨g,h1,h2⟩:=(show ∃g,vs 7= .slice (some ⟨g,0,none⟩) 2 2/\Bk x g 5 #[.int .u8 (b0.toNat:Int),.int .u8 (b1.toNat:Int)]from hH 7 (by kernel_rfl));rw[h1];have hcv:=Wv b0 b1 h2;go_simp
   repeat (apply Wk
           focus (refine Or.inl ⟨rfl,fun x hx=>?_⟩;have hS:=HSX.o x hx;go_simp;(try with_reducible rfl);done)
           try simp only[Act.put,af,am,ak])
   apply Wm (fun x hx _=>TT.o x ((SX.o x hx).into 0 rfl).props ((SX.o x hx).into 0 rfl).caps.2.2.2)
   ·rfl
   ·intro x hx;have hS:=HSX.o x hx;go_simp
   repeat (apply Wk
           focus (refine Or.inl ⟨rfl,fun x hx=>?_⟩;have hS:=HSX.o x hx;go_simp;(try with_reducible rfl);done)
           try simp only[Act.put,af,am,ak])
   apply Wz;intro x hx _;go_wp2
   go_meet
   case rel=>exact⟨rfl,rfl,SX.o x hx⟩
  ·kernel_rfl
 obtain⟨rfl,rfl,hst⟩:=hcut;go_wp2;go_ret2;refine⟨?_,hst.kept⟩;rw[HX.o,HQ2.o];rfl
theorem LI(n:Int)(h:0<=n/\n<256):∃b:UInt8,Hid (da n.toNat 1=[b])/\IntKind.u8.wrap n=(b.toNat:Int):=by
 refine⟨UInt8.ofNat n.toNat,aa (by simp[da]),?_⟩;rw[GM];simp[UInt8.toNat_ofNat'];omega
theorem Jl(a b:ByteArray):qK [a,b]=a++b:=by refine eX ?_;simp[qK,ls]
theorem Nt:qE ⟨#[77,81,84,84]⟩=i8:=by decide+kernel
theorem KL(v:Int)(p:Pk)(h:Hs)(w:World)(ip:PkIn w w.heap.size p h)(ok:PkOk p)(h2:p.kind≠2):
  Calls prog 186 #[.int .i64 v,pkV p h] w fun e w'=>e= .returned (.tuple #[.string (if eR v p=0 then(EY v p,(0:Int))else(⟨#[]⟩,eR v p)).1,.int .i64 (if eR v p=0 then(EY v p,(0:Int))else(⟨#[]⟩,eR v p)).2])/\Below w.heap.size w w':=by
 have OK:=aa ok;have S0:=aa ((St.start w).push ip);obtain⟨B,hB⟩:∃B,(if eR v p=0 then(EY v p,(0:Int))else(⟨#[]⟩,eR v p))=B:=⟨_,rfl⟩;rw[hB];have HE:=aa hB.symm;have l0:=S0.o.ld 0 rfl;have H2:=aa h2;clear ip ok h2 hB;go_enter func186,ntmps186
 go_wp2_with fail
 refine(Ic v p h _ (S0.o.into 0 rfl) OK.o).mono ?_;rintro e w1 ⟨rfl,hb⟩;have S1:=aa (S0.o.below hb);clear hb l0
 by_cases he:eR v p=0
 rotate_left
 ·have e0:(eR v p !=0)=true:=aA.2 he;have HX:Hid (B=(⟨#[]⟩,eR v p)):=aa (by rw[HE.o,ae he]);clear he;go_wp2;go_ret2;exact⟨by rw[HX.o];rfl,S1.o.kept⟩
 have HX:Hid (B=(EY v p,0)):=aa (by rw[HE.o,if_pos he]);have HG:=aa (OO he H2.o);have HP:=aa (mM he);rw[he];obtain⟨b0,hb0,hw0⟩:=LI v (by have:=HG.o.2.1;omega);obtain⟨FQ,hFQ⟩:∃FQ,flQ p=FQ:=⟨_,rfl⟩;have HFQ:Hid (flN p=FQ):=aa (by rw[<-hFQ];exact(if_pos HG.o.1).symm);have FF:Hid (∀x:World,Calls prog 254 #[pkV p h] x fun e w'=>e= .returned (.int .i64 FQ)/\Below x.heap.size x w'):=aa (fun x=>by rw[<-hFQ];exact KE p h x);clear hFQ;obtain⟨b1,hb1,hw1⟩:=LI FQ (by rw[<-HFQ.o];exact NA p);obtain⟨an,han,hw3⟩:∃m:Nat,Hid (p.alive.toNat=m)/\IntKind.u64.wrap p.alive=(m:Int):=⟨_,aa rfl,by rw[iZ];have:=HG.o.2.2;omega⟩;have HAN:Hid (an<65536):=aa (by have:=han.out;have:=HG.o.2.2;omega);have HTS:=aa (Jr v p.kind p.props);have HCS:=aa (G9 p.client);have HQ1:Hid (yK v p=qK [i8,⟨(da v.toNat 1).toArray⟩,⟨(da (flN p).toNat 1).toArray⟩,⟨(da p.alive.toNat 2).toArray⟩,tW v p.kind p.props,qE p.client]):=aa rfl;rw[HFQ.o,han.out,hb0.out,hb1.out]at HQ1;have TT:=aa (fun(x:World) hr hc=>G5 v p.kind p.props _ rfl OK.o.props h.props.a h.props.c x hr OK.o.len.2.2.2 hc);simp only[ML]at TT;have N1:=aa (fun x:World=>He ⟨#[77,81,84,84]⟩ x (by decide));rw[Nt]at N1;have P3:=aa (fun x:World=>GV an 2 x (by have:=HAN.o;omega) (by omega) (by omega));have D4:=aa (fun x:World=>He p.client x (gL HP.o.2.1.1));rw[show((2:Nat):Int)=2 from rfl]at P3;obtain⟨T,hT⟩:∃T,tW v p.kind p.props=T:=⟨_,rfl⟩;obtain⟨M,hM⟩:∃X,i8=X:=⟨_,rfl⟩;obtain⟨X3,hX3⟩:∃X:ByteArray,(⟨(da an 2).toArray⟩:ByteArray)=X:=⟨_,rfl⟩;obtain⟨D1,hD1⟩:∃X:ByteArray,qE p.client=X:=⟨_,rfl⟩;rw[hT,hM,hX3,hD1]at HQ1;rw[hT]at TT HTS;rw[hM]at N1;rw[hX3]at P3;rw[hD1]at D4 HCS;have HX3S:X3.size=2:=by rw[<-hX3,GW,fM]
 have HMS:M.size=6:=by rw[<-hM];rfl
 have HL:=aa HMS;have HL3:=aa HX3S
 have HQ2:Hid (yK v p=M++⟨#[b0,b1]⟩++X3++T++D1):=aa (by
  rw[HQ1.o];refine eX ?_;simp[qK,ls])
 have HZ1:Hid ((yK v p).size<=131140700):=aa (by
  rw[HQ2.o];simp only[cK];have:=HTS.o;have:=HCS.o
  show M.size+2+X3.size+T.size+D1.size<=_;omega)
 have hs2:(⟨#[b0,b1]⟩:ByteArray).size=2:=rfl;have hsA:¬(9223372036854775807<10+T.size):=by have:=HTS.o;omega
 have hsB:¬(9223372036854775807<10+T.size+D1.size):=by have:=HTS.o;have:=HCS.o;omega
 have k0:=(S1.o.cell 0 rfl 0).trans (cI _ _);have e2:(p.kind==2)=false:=ar.2 H2.o;have HOK:Hid (p.user.size<=65535/\p.pass.size<=65535/\p.will.payload.size<=65535/\(p.hasWill=true->p.will.topic.size<=65535)):=aa ⟨gL HP.o.2.1.2,HP.o.2.2.2.1.2,HP.o.2.2.2.1.1,fun y=>gL (uV (HP.o.2.2.1 y))⟩;clear he hT hM hX3 hD1 HP
 go_wp2_with fail
 clear k0
 go_cut [7] (fun a wx=>a= .string (M++⟨#[b0,b1]⟩++X3++T++D1)/\St w [(w.heap.size,p,h)] wx)
 case first=>
  have SX:Hid (∀x,Below w1.heap.size w1 x->St w [(w.heap.size,p,h)] x):=aa (fun x hx=>S1.o.below hx);have HSX:Hid (∀x,Below w1.heap.size w1 x->(kZ (.pointer (some ⟨w.heap.size,0,none⟩))).run prog x= .ok (pkV p h) x/\x.cell? ⟨w.heap.size,0,none⟩=some (.int .i64 p.kind)/\x.cell? ⟨w.heap.size,8,none⟩=some (.int .i64 p.alive)/\x.cell? ⟨w.heap.size,9,none⟩=some (.string p.client)/\x.cell? ⟨w.heap.size,24,none⟩=some (.slice h.props.a p.props.length h.props.c)):=aa (fun x hx=>⟨(SX.o x hx).ld 0 rfl,((SX.o x hx).cell 0 rfl 0).trans (cI _ _),((SX.o x hx).cell 0 rfl 8).trans (dp _ _),((SX.o x hx).cell 0 rfl 9).trans (dn _ _),((SX.o x hx).cell 0 rfl 24).trans (bR _ _)⟩);apply Wq
  ·kernel_rfl
  ·intro vs
   repeat (apply Wk
           focus (refine Or.inl ⟨rfl,fun x hx=>?_⟩;have hS:=HSX.o x hx;go_simp;(try with_reducible rfl);done)
           try simp only[Act.put,af,am,ak])
   apply Wm (fun x hx _=>N1.o x)
   ·rfl
   ·intro x hx;have hS:=HSX.o x hx;go_simp
   repeat (apply Wk
           focus (refine Or.inl ⟨rfl,fun x hx=>?_⟩;have hS:=HSX.o x hx;go_simp;(try with_reducible rfl);done)
           try simp only[Act.put,af,am,ak])
   apply Wm (fun x hx _=>FF.o x)
   ·rfl
   ·intro x hx;have hS:=HSX.o x hx;go_simp
   repeat (apply Wk
           focus (refine Or.inl ⟨rfl,fun x hx=>?_⟩;have hS:=HSX.o x hx;go_simp;(try with_reducible rfl);done)
           try simp only[Act.put,af,am,ak])
   apply Wy (fun u y=>∃g,u= .slice (some ⟨g,0,none⟩) 2 2/\Bk y g 5 #[.int .u8 (b0.toNat:Int),.int .u8 (b1.toNat:Int)]) (fun u x y h hb=>by obtain⟨g,h1,h2⟩:=h;exact⟨g,h1,h2.below hb h2.lt⟩)
   ·rfl
   ·intro x hx _;refine⟨_,_,?_,⟨x.heap.size,rfl,Bk.fresh x _ _⟩,(aq x.heap.size x).alloc (ac _) (.cells #[.int .u8 (b0.toNat:Int),.int .u8 (b1.toNat:Int)] 5)⟩;go_simp
   apply WD (v:=.string ⟨#[b0,b1]⟩)
   ·rfl
   ·intro x hx hH;obtain⟨g,h1,h2⟩:=(show ∃g,vs 6= .slice (some ⟨g,0,none⟩) 2 2/\Bk x g 5 #[.int .u8 (b0.toNat:Int),.int .u8 (b1.toNat:Int)]from hH 6 (by kernel_rfl));rw[h1];have hcv:=Wv b0 b1 h2;go_simp
   repeat (apply Wk
           focus (refine Or.inl ⟨rfl,fun x hx=>?_⟩;have hS:=HSX.o x hx;go_simp;(try with_reducible rfl);done)
           try simp only[Act.put,af,am,ak])
   apply Wm (fun x hx _=>P3.o x)
   ·rfl
   ·intro x hx;have hS:=HSX.o x hx;go_simp
   repeat (apply Wk
           focus (refine Or.inl ⟨rfl,fun x hx=>?_⟩;have hS:=HSX.o x hx;go_simp;(try with_reducible rfl);done)
           try simp only[Act.put,af,am,ak])
   apply Wm (fun x hx _=>TT.o x ((SX.o x hx).into 0 rfl).props ((SX.o x hx).into 0 rfl).caps.2.2.2)
   ·rfl
   ·intro x hx;have hS:=HSX.o x hx;go_simp
   repeat (apply Wk
           focus (refine Or.inl ⟨rfl,fun x hx=>?_⟩;have hS:=HSX.o x hx;go_simp;(try with_reducible rfl);done)
           try simp only[Act.put,af,am,ak])
   apply Wm (fun x hx _=>D4.o x)
   ·rfl
   ·intro x hx;have hS:=HSX.o x hx;go_simp
   repeat (apply Wk
           focus (refine Or.inl ⟨rfl,fun x hx=>?_⟩;have hS:=HSX.o x hx;go_simp;(try with_reducible rfl);done)
           try simp only[Act.put,af,am,ak])
   apply Wz;intro x hx _;go_wp2
   go_meet
   case rel=>exact⟨rfl,SX.o x hx⟩
  ·kernel_rfl
 obtain⟨rfl,hst⟩:=hcut;have S7:=aa hst;clear hst FF TT N1 P3 D4 hw0 hw1 hw3 HX3S HMS hs2 hsA hsB e2;rw[<-HQ2.o];have HS2:Hid (yJ v p=if p.hasWill=true then qK [yK v p,tW v 16 p.will.props,qE p.will.topic,qE p.will.payload]else yK v p):=aa rfl;have HS3:Hid (yI v p=if p.hasUser=true then qK [yJ v p,qE p.user]else yJ v p):=aa rfl;have HS4:Hid (EY v p=if p.hasPass=true then qK [yI v p,qE p.pass]else yI v p):=aa rfl;obtain⟨O1,hO1⟩:∃O,yK v p=O:=⟨_,rfl⟩;rw[hO1]at HZ1 HS2⊢;clear hO1 HQ1 HQ2 HTS HCS HL HL3;have k14:=(S7.o.cell 0 rfl 14).trans (bX _ _);obtain⟨wb,hwb⟩:∃b,p.hasWill=b:=⟨_,rfl⟩;rw[hwb]at k14 HS2 HOK;clear hwb;cases wb
 ·rw[ae (by decide)]at HS2;rw[HS2.o]at HS3;have uk:=(S7.o.cell 0 rfl 10).trans (bW _ _);obtain⟨ub,hub⟩:∃b,p.hasUser=b:=⟨_,rfl⟩;rw[hub]at uk HS3;clear hub;cases ub
  ·rw[ae (by decide)]at HS3;rw[HS3.o]at HS4;have qk:=(S7.o.cell 0 rfl 12).trans (bO _ _);obtain⟨qb,hqb⟩:∃b,p.hasPass=b:=⟨_,rfl⟩;rw[hqb]at qk HS4;clear hqb;cases qb
   ·rw[ae (by decide)]at HS4;go_wp2;go_ret2;exact⟨by rw[HX.o,HS4.o];rfl,S7.o.kept⟩
   ·rw[if_pos rfl]at HS4;have qf:=(S7.o.cell 0 rfl 13).trans (bZ _ _)
    go_wp2_with fail
    refine(He p.pass _ HOK.o.2.1).mono ?_;rintro e yq ⟨rfl,hb⟩;have S7p:=aa (S7.o.below hb);clear hb qk qf
    have qD:=aa (G9 p.pass);obtain⟨qX,hqX⟩:∃X,qE p.pass=X:=⟨_,rfl⟩;rw[hqX]at HS4 qD⊢;clear hqX;have qs:¬(9223372036854775807<O1.size+qX.size):=by have:=HZ1.o;have:=qD.out;omega
    have HZp:Hid ((O1++qX).size<=131280700):=aa (by rw[cK];have:=HZ1.o;have:=qD.out;omega);have qc:qK [O1,qX]=O1++qX:=Jl _ _;rw[qc]at HS4;clear qc;obtain⟨Op1,hOp1⟩:∃O,O1++qX=O:=⟨_,rfl⟩;rw[hOp1]at HS4 HZp;go_wp2;go_ret2;exact⟨by rw[HX.o,HS4.o];rfl,S7p.o.kept⟩
  ·rw[if_pos rfl]at HS3;have uf:=(S7.o.cell 0 rfl 11).trans (co _ _)
   go_wp2_with fail
   refine(He p.user _ HOK.o.1).mono ?_;rintro e yu ⟨rfl,hb⟩;have S7u:=aa (S7.o.below hb);clear hb uk uf
   have uD:=aa (G9 p.user);obtain⟨uX,huX⟩:∃X,qE p.user=X:=⟨_,rfl⟩;rw[huX]at HS3 uD⊢;clear huX;have us:¬(9223372036854775807<O1.size+uX.size):=by have:=HZ1.o;have:=uD.out;omega
   have HZu:Hid ((O1++uX).size<=131210700):=aa (by rw[cK];have:=HZ1.o;have:=uD.out;omega);have uc:qK [O1,uX]=O1++uX:=Jl _ _;rw[uc]at HS3;clear uc;obtain⟨Ou1,hOu1⟩:∃O,O1++uX=O:=⟨_,rfl⟩;rw[hOu1]at HS3 HZu;rw[HS3.o]at HS4;have qk:=(S7u.o.cell 0 rfl 12).trans (bO _ _);obtain⟨qb,hqb⟩:∃b,p.hasPass=b:=⟨_,rfl⟩;rw[hqb]at qk HS4;clear hqb;cases qb
   ·rw[ae (by decide)]at HS4;go_wp2;go_ret2;exact⟨by rw[HX.o,HS4.o];rfl,S7u.o.kept⟩
   ·rw[if_pos rfl]at HS4;have qf:=(S7u.o.cell 0 rfl 13).trans (bZ _ _)
    go_wp2_with fail
    refine(He p.pass _ HOK.o.2.1).mono ?_;rintro e yq ⟨rfl,hb⟩;have S7up:=aa (S7u.o.below hb);clear hb qk qf
    have qD:=aa (G9 p.pass);obtain⟨qX,hqX⟩:∃X,qE p.pass=X:=⟨_,rfl⟩;rw[hqX]at HS4 qD⊢;clear hqX;have qs:¬(9223372036854775807<Ou1.size+qX.size):=by have:=HZu.o;have:=qD.out;omega
    have HZp:Hid ((Ou1++qX).size<=131280700):=aa (by rw[cK];have:=HZu.o;have:=qD.out;omega);have qc:qK [Ou1,qX]=Ou1++qX:=Jl _ _;rw[qc]at HS4;clear qc;obtain⟨Opu1,hOpu1⟩:∃O,Ou1++qX=O:=⟨_,rfl⟩;rw[hOpu1]at HS4 HZp;go_wp2;go_ret2;exact⟨by rw[HX.o,HS4.o];rfl,S7up.o.kept⟩
 ·rw[if_pos rfl]at HS2;have HWS:Hid ((tW v 16 p.will.props).size<=131075004/\(qE p.will.topic).size<=65537/\(qE p.will.payload).size<=65537):=aa ⟨Jr _ _ _,G9 _,G9 _⟩;have q0:∀(d:Nat) (os:Array Obj),Calls prog 252 #[.int .i64 v,.int .i64 16,.slice h.wp.a p.will.props.length h.wp.c] (Sort.grow (redrawn wc d) os) fun e w''=>e= .returned (.string (tW v 16 p.will.props))/\∃p:Regrown,w''=Sort.grow (redrawn wc p.d) p.os:=jw (fun x hx=>G5 v 16 p.will.props _ rfl OK.o.wp h.wp.a h.wp.c x ((S7.o.below hx).into 0 rfl).wp OK.o.len.1 ((S7.o.below hx).into 0 rfl).caps.1);have q1:=jw (W:=wc) (fun x hx=>He p.will.topic x (HOK.o.2.2.2 rfl));have q2:=jw (W:=wc) (fun x hx=>He p.will.payload x HOK.o.2.2.1);obtain⟨WT,hWT⟩:∃X,tW v 16 p.will.props=X:=⟨_,rfl⟩;obtain⟨WA,hWA⟩:∃X,qE p.will.topic=X:=⟨_,rfl⟩;obtain⟨WB,hWB⟩:∃X,qE p.will.payload=X:=⟨_,rfl⟩;rw[hWT,hWA,hWB]at HS2 HWS;rw[hWT]at q0;rw[hWA]at q1;rw[hWB]at q2;have k19:=cell_regrown (show wc.cell? ⟨w.heap.size,19,none⟩=some (.slice h.wp.a p.will.props.length h.wp.c)from(S7.o.cell 0 rfl 19).trans (ct _ _));have k15:=cell_regrown (show wc.cell? ⟨w.heap.size,15,none⟩=some (.string p.will.topic)from(S7.o.cell 0 rfl 15).trans (cz _ _));have k16:=cell_regrown (show wc.cell? ⟨w.heap.size,16,none⟩=some (.string p.will.payload)from(S7.o.cell 0 rfl 16).trans (cy _ _));have z1:¬(9223372036854775807<O1.size+WT.size):=by have:=HZ1.o;have:=HWS.o;omega
  have z2:¬(9223372036854775807<O1.size+WT.size+WA.size):=by have:=HZ1.o;have:=HWS.o;omega
  have z3:¬(9223372036854775807<O1.size+WT.size+WA.size+WB.size):=by have:=HZ1.o;have:=HWS.o;omega
  have HBW:Hid (∀d os,Below wc.heap.size wc (Sort.grow (redrawn wc d) os)):=aa (fun d os=>below_regrown wc d os);clear hWT hWA hWB
  go_wp2_with fail
  refine wp_region_quiet_below (by kernel_rfl) (by kernel_rfl) ?_
  repeat (go_big_quiet_step (first| with_reducible exact q0 _ _| with_reducible exact q1 _ _| with_reducible exact q2 _ _))
  refine kE ?_;intro _ hw';obtain⟨⟨dq,osq⟩,hw''⟩:=hw';subst hw'';have S8:=aa (S7.o.below (HBW.o dq osq));clear q0 q1 q2 k19 k15 k16 HBW k14 z1 z2 z3;generalize Sort.grow (redrawn _ dq) osq=wq at*;have HZ2:Hid ((O1++WT++WA++WB).size<=262346900):=aa (by simp only[cK];have:=HZ1.o;have:=HWS.o;omega);have hc4:qK [O1,WT,WA,WB]=O1++WT++WA++WB:=by refine eX ?_;simp[qK,ls]
  rw[hc4]at HS2;clear hc4;obtain⟨O2,hO2⟩:∃O,O1++WT++WA++WB=O:=⟨_,rfl⟩;rw[hO2]at HS2 HZ2⊢;clear hO2;rw[HS2.o]at HS3;have uk:=(S8.o.cell 0 rfl 10).trans (bW _ _);obtain⟨ub,hub⟩:∃b,p.hasUser=b:=⟨_,rfl⟩;rw[hub]at uk HS3;clear hub;cases ub
  ·rw[ae (by decide)]at HS3;rw[HS3.o]at HS4;have qk:=(S8.o.cell 0 rfl 12).trans (bO _ _);obtain⟨qb,hqb⟩:∃b,p.hasPass=b:=⟨_,rfl⟩;rw[hqb]at qk HS4;clear hqb;cases qb
   ·rw[ae (by decide)]at HS4;go_wp2;go_ret2;exact⟨by rw[HX.o,HS4.o];rfl,S8.o.kept⟩
   ·rw[if_pos rfl]at HS4;have qf:=(S8.o.cell 0 rfl 13).trans (bZ _ _)
    go_wp2_with fail
    refine(He p.pass _ HOK.o.2.1).mono ?_;rintro e yq ⟨rfl,hb⟩;have S8p:=aa (S8.o.below hb);clear hb qk qf
    have qD:=aa (G9 p.pass);obtain⟨qX,hqX⟩:∃X,qE p.pass=X:=⟨_,rfl⟩;rw[hqX]at HS4 qD⊢;clear hqX;have qs:¬(9223372036854775807<O2.size+qX.size):=by have:=HZ2.o;have:=qD.out;omega
    have HZp:Hid ((O2++qX).size<=262486900):=aa (by rw[cK];have:=HZ2.o;have:=qD.out;omega);have qc:qK [O2,qX]=O2++qX:=Jl _ _;rw[qc]at HS4;clear qc;obtain⟨Op2,hOp2⟩:∃O,O2++qX=O:=⟨_,rfl⟩;rw[hOp2]at HS4 HZp;go_wp2;go_ret2;exact⟨by rw[HX.o,HS4.o];rfl,S8p.o.kept⟩
  ·rw[if_pos rfl]at HS3;have uf:=(S8.o.cell 0 rfl 11).trans (co _ _)
   go_wp2_with fail
   refine(He p.user _ HOK.o.1).mono ?_;rintro e yu ⟨rfl,hb⟩;have S8u:=aa (S8.o.below hb);clear hb uk uf
   have uD:=aa (G9 p.user);obtain⟨uX,huX⟩:∃X,qE p.user=X:=⟨_,rfl⟩;rw[huX]at HS3 uD⊢;clear huX;have us:¬(9223372036854775807<O2.size+uX.size):=by have:=HZ2.o;have:=uD.out;omega
   have HZu:Hid ((O2++uX).size<=262416900):=aa (by rw[cK];have:=HZ2.o;have:=uD.out;omega);have uc:qK [O2,uX]=O2++uX:=Jl _ _;rw[uc]at HS3;clear uc;obtain⟨Ou2,hOu2⟩:∃O,O2++uX=O:=⟨_,rfl⟩;rw[hOu2]at HS3 HZu;rw[HS3.o]at HS4;have qk:=(S8u.o.cell 0 rfl 12).trans (bO _ _);obtain⟨qb,hqb⟩:∃b,p.hasPass=b:=⟨_,rfl⟩;rw[hqb]at qk HS4;clear hqb;cases qb
   ·rw[ae (by decide)]at HS4;go_wp2;go_ret2;exact⟨by rw[HX.o,HS4.o];rfl,S8u.o.kept⟩
   ·rw[if_pos rfl]at HS4;have qf:=(S8u.o.cell 0 rfl 13).trans (bZ _ _)
    go_wp2_with fail
    refine(He p.pass _ HOK.o.2.1).mono ?_;rintro e yq ⟨rfl,hb⟩;have S8up:=aa (S8u.o.below hb);clear hb qk qf
    have qD:=aa (G9 p.pass);obtain⟨qX,hqX⟩:∃X,qE p.pass=X:=⟨_,rfl⟩;rw[hqX]at HS4 qD⊢;clear hqX;have qs:¬(9223372036854775807<Ou2.size+qX.size):=by have:=HZu.o;have:=qD.out;omega
    have HZp:Hid ((Ou2++qX).size<=262486900):=aa (by rw[cK];have:=HZu.o;have:=qD.out;omega);have qc:qK [Ou2,qX]=Ou2++qX:=Jl _ _;rw[qc]at HS4;clear qc;obtain⟨Opu2,hOpu2⟩:∃O,Ou2++qX=O:=⟨_,rfl⟩;rw[hOpu2]at HS4 HZp;go_wp2;go_ret2;exact⟨by rw[HX.o,HS4.o];rfl,S8up.o.kept⟩
theorem Ls(v:Int)(p:Pk)(h:Hs)(w:World)(ip:PkIn w w.heap.size p h)(ok:PkOk p):
  Calls prog 186 #[.int .i64 v,pkV p h] w fun e w'=>e= .returned (.tuple #[.string (Dm v p).1,.int .i64 (Dm v p).2])/\Below w.heap.size w w':=by
 by_cases h2:p.kind=2
 ·have hB:Dm v p=Fg v p:=if_pos h2;rw[hB];exact KJ v p h w ip ok h2
 ·have hB:Dm v p=if eR v p=0 then(EY v p,0)else(⟨#[]⟩,eR v p):=ae h2;rw[hB];exact KL v p h w ip ok h2
end
section
attribute [local go_sem ↓] bD bF bH bI bu
attribute [local go_sem] bc aD bh bg bK bJ bd aY be aO ax cI dC dB dt dj di dA dr dp dn bW co bO bZ bX cz cy cw cu ct cC cn bS bP bR
structure RK (w:World) (g gp gc:Nat) (k i c:Int) (l:List Pr) (A:Option Addr) (n:Nat) (t:ByteArray) (a:Nat) (e:Int) (x:World):Prop where
 kept:Below w.heap.size w x
 res:Bk x g PkT (pkC pk0 hs0)
 pk:Bk x gp PkT (pkC (aP k i c l) {hs0 with props:=⟨A,n⟩})
 cur:IC x gc t a e
 rd:Rd x x.heap.size 4 A l.length (prs l)
 cap:l.length<=n
 ne:g≠gp/\g≠gc/\gp≠gc
 base:w.heap.size<=g/\w.heap.size<=gp/\w.heap.size<=gc
section
variable {w x y:World} {g gp gc:Nat} {k i c:Int} {l:List Pr} {A:Option Addr} {n:Nat} {t:ByteArray} {a a':Nat} {e e':Int}
theorem RK.below(h:RK w g gp gc k i c l A n t a e x)(hb:Below x.heap.size x y):RK w g gp gc k i c l A n t a e y:=
 ⟨h.kept.trans (hb.mono h.kept.size),h.res.below hb h.res.lt,h.pk.below hb h.pk.lt,h.cur.below hb,(h.rd.below hb).wider hb.size,h.cap,h.ne,h.base⟩
theorem RK.turn(h:RK w g gp gc k i c l A n t a e x)(hc:IC y gc t a' e')(hm:x.grownBy y (some gc)):RK w g gp gc k i c l A n t a' e' y:=
 ⟨dw h.kept hm h.kept.size h.base.2.2,h.res.mods (S:=fun z=>z=gc) (Mods.of_grown hm rfl) h.ne.2.1,h.pk.mods (S:=fun z=>z=gc) (Mods.of_grown hm rfl) h.ne.2.2,hc,
  (h.rd.other h.cur.1 (Io _ _ _) hm (ac _)).wider hm.size,h.cap,h.ne,h.base⟩
theorem P6{w:World}{g:Nat}{k i c:Int}{l:List Pr}{A:Option Addr}{n:Nat}(h:Bk w g PkT (pkC (aP k i 0 []) hs0)):Bk ((w.setCell ⟨g,21,.none⟩ (.int .i64 c)).setCell ⟨g,24,.none⟩ (.slice A l.length n)) g PkT (pkC (aP k i c l) {hs0 with props:=⟨A,n⟩}):=
 (h.upd 21 (.int .i64 c) (td k i 0 c [] hs0)).upd 24 _ (uT k i c [] l A n hs0)
theorem RK.put(h:RK w g gp gc k i 0 [] Option.none 0 t a e x){A':Option Addr}{n':Nat}{l':List Pr}{c':Int}(hr:Rd x x.heap.size 4 A' l'.length (prs l'))(hn:l'.length<=n'):
  RK w g gp gc k i c' l' A' n' t a e ((x.setCell ⟨gp,21,.none⟩ (.int .i64 c')).setCell ⟨gp,24,.none⟩ (.slice A' l'.length n')):=by
 have hm:=(cP x gp 21 (.int .i64 c')).trans (cP _ gp 24 (.slice A' l'.length n'));exact⟨dw h.kept hm h.kept.size h.base.2.1,(h.res.other h.ne.1 _).other h.ne.1 _,P6 h.pk,⟨(h.cur.1.other (Ne.symm h.ne.2.2) _).other (Ne.symm h.ne.2.2) _,h.cur.2⟩,(hr.other h.pk (dY _ _) hm (ac _)).wider hm.size,hn,h.ne,h.base⟩
theorem RK.stay(h:RK w g gp gc k i c l A n t a e x)(hm:Mods (fun z=>z=gc) x y):PkIn y y.heap.size (aP k i c l) {hs0 with props:=⟨A,n⟩}:=
 PkIn.R1 ((h.rd.other h.cur.1 (Io _ _ _) hm.grown (ac _)).wider hm.size) h.cap k i c
theorem RK.drewN(h:RK w g gp gc k i c l A n t a e x)(m:Nat):RK w g gp gc k i c l A n t a e (x.drewN m):=h.below (aV (aq _ _) m)
theorem RK.done{r:Pk×Int}{kk:Hs}(h:RK w g gp gc k i c l A n t a e x)(_hi:PkIn y y.heap.size r.1 kk)(hm:x.grownBy y (some gc))(hst:∀z,y.grownBy z (some g)->PkIn z z.heap.size r.1 kk):
  Below w.heap.size w (dE y g r.1 kk)/\Bk (dE y g r.1 kk) g PkT (pkC r.1 kk)/\PkIn (dE y g r.1 kk) (dE y g r.1 kk).heap.size r.1 kk:=
 ⟨bT (dw h.kept hm h.kept.size h.base.2.2) (aC h.kept.size hm.size) h.base.1 _ _,cO (h.res.mods (S:=fun z=>z=gc) (Mods.of_grown hm rfl) h.ne.2.1) _ _,hst _ (cJ _ _ _ _)⟩
theorem RK.into(h:RK w g gp gc k i c l A n t a e x):PkIn x x.heap.size (aP k i c l) {hs0 with props:=⟨A,n⟩}:=PkIn.R1 h.rd h.cap k i c
theorem RK.none(h:RK w g gp gc k i c l A n t a e x):Below w.heap.size w (dE x g pk0 hs0)/\Bk (dE x g pk0 hs0) g PkT (pkC pk0 hs0):=⟨bT h.kept h.kept.size h.base.1 _ _,cO h.res _ _⟩
theorem RK.some(h:RK w g gp gc k i c l A n t a e x):Below w.heap.size w (dE x g (aP k i c l) {hs0 with props:=⟨A,n⟩})/\Bk (dE x g (aP k i c l) {hs0 with props:=⟨A,n⟩}) g PkT (pkC (aP k i c l) {hs0 with props:=⟨A,n⟩})/\
  PkIn (dE x g (aP k i c l) {hs0 with props:=⟨A,n⟩}) (dE x g (aP k i c l) {hs0 with props:=⟨A,n⟩}).heap.size (aP k i c l) {hs0 with props:=⟨A,n⟩}:=
 ⟨bT h.kept h.kept.size h.base.1 _ _,cO h.res _ _,PkIn.R1 ((h.rd.other h.res (dY _ _) (cJ _ _ _ _) (ac _)).wider (cJ _ _ _ _).size) h.cap k i c⟩
end
end
end Go.Proofs.YtbdgkkmbnahgiaaGreatDoor
