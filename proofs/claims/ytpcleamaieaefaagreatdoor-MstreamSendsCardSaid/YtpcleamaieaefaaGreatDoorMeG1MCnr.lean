/- A part of what the laws stand on: MCnr. -/
import Derived.Test.YtpcleamaieaefaaGreatDoorMeG1MRft
set_option maxRecDepth 10000
set_option maxHeartbeats 8000000
namespace Go.Proofs.YtpcleamaieaefaaGreatDoor
open Go.RowKit
attribute [local go_sem ↓] bD bF bH bI bu
attribute [local go_sem] bc aD bh bg bK bJ bd aY be aO ax cI dC dB dt dj di dA dr dp dn bW co bO bZ bX cz cy cw cu ct cC cn bS bP bR
theorem MS (b:Bool) (n:Int) (w:World):Calls Tryz.prog 232 #[.bool b,.int .i64 n] w fun e w'=>e= .returned (.int .i64 (pc b n))∧w=w':=by
 cases b
 ·go_enter Tryz.func232,Tryz.ntmps232
  go_wp2
  go_ret
  exact⟨rfl,rfl⟩
 ·go_enter Tryz.func232,Tryz.ntmps232
  go_wp2
  go_ret
  exact⟨rfl,rfl⟩
theorem Nz (A B C D E q:Int) (hA:0≤A∧A≤128) (hB:0≤B∧B≤64) (hC:0≤C∧C≤32) (hD:0≤D∧D≤4) (hE:0≤E∧E≤2):
  wrap64 (wrap64 (wrap64 (wrap64 (wrap64 (A+B)+C)+wrap64 ((wrap64 (q.tmod 4+4)).tmod 4*8))+D)+E)=A+B+C+q% 4*8+D+E:=by
 have h1:=Int.tmod_lt_of_pos q (b:=4) (by decide);have h2:=Int.lt_tmod_of_pos q (b:=4) (by decide);have h3:=Int.mul_tdiv_add_tmod q 4;generalize q.tdiv 4=d at*;generalize q.tmod 4=t at*;have e1:wrap64 (t+4)=t+4:=by simp only[wrap64];omega
 rw[e1,Int.tmod_eq_emod_of_nonneg (by omega)];have e2:(t+4) % 4=q% 4:=by omega
 rw[e2];simp only[wrap64];omega
theorem KE (p:Pk) (h:Hs) (w:World):
  Calls Tryz.prog 235 #[pkV p h] w fun e w'=>e= .returned (.int .i64 (flQ p))∧Below w.heap.size w w':=by
 have HL:=aa ((aq w.heap.size w).alloc (ac _) (.cells (pkC p h) PkT));have B1:=Bk.fresh w PkT (pkC p h);have k0:=(B1.cell 0).trans (cI _ _);have k7:=(B1.cell 7).trans (dr _ _);have k10:=(B1.cell 10).trans (bW _ _);have k12:=(B1.cell 12).trans (bO _ _);have k14:=(B1.cell 14).trans (bX _ _);have k17:=(B1.cell 17).trans (cw _ _);have k18:=(B1.cell 18).trans (cu _ _)
 have HQ:Hid (flQ p=if p.kind=1 then pc p.hasUser 128+pc p.hasPass 64+pc p.will.retain 32+p.will.qos% 4*8+pc p.hasWill 4+pc p.clean 2 else 0):=aa rfl;clear B1
 go_enter Tryz.func235,Tryz.ntmps235
 by_cases h1:p.kind=1
 rotate_left
 ·have e1:(p.kind !=1)=true:=aA.2 h1;have HX:Hid (flQ p=0):=aa (by rw[HQ.out,ae h1]);clear h1
  go_wp2
  go_ret
  exact⟨by rw[HX.out];rfl,HL.out⟩
 have e1:(p.kind !=1)=false:=by rw[h1];rfl
 have HX:Hid (flQ p=pc p.hasUser 128+pc p.hasPass 64+pc p.will.retain 32+p.will.qos% 4*8+pc p.hasWill 4+pc p.clean 2):=aa (by rw[HQ.out,if_pos h1]);clear h1 HQ;have hb:∀b n,0≤n→0≤pc b n∧pc b n≤n:=fun b n hn=>by unfold pc;split<;>omega
 have HA:=aa (hb p.hasUser 128 (by decide));have HB:=aa (hb p.hasPass 64 (by decide));have HC:=aa (hb p.will.retain 32 (by decide));have HD:=aa (hb p.hasWill 4 (by decide));have HE:=aa (hb p.clean 2 (by decide))
 clear hb
 go_wp2_with fail
 generalize hW:w.alloc (.cells (pkC p h) PkT)=W at*;clear hW;have q:=fun(b:Bool) (n:Int)=>jw (W:=W) (fun x _=>(MS b n x).mono (fun e w' hh=>⟨hh.1,hh.2▸aq _ _⟩));have q0:=q p.hasUser 128;have q1:=q p.hasPass 64;have q2:=q p.will.retain 32;have q3:=q p.hasWill 4;have q4:=q p.clean 2
 have c7:=cell_regrown k7;have c10:=cell_regrown k10;have c12:=cell_regrown k12;have c14:=cell_regrown k14;have c17:=cell_regrown k17;have c18:=cell_regrown k18
 have HBQ:=aa (fun d os=>HL.out.trans ((below_regrown W d os).mono HL.out.size));clear q k0 k7 k10 k12 k14 k17 k18;refine wp_region_quiet_below (by as_aux_lemma=>kernel_rfl) (by as_aux_lemma=>kernel_rfl) ?_
 repeat (go_big_quiet_step (first| with_reducible exact q0 _ _| with_reducible exact q1 _ _| with_reducible exact q2 _ _| with_reducible exact q3 _ _| with_reducible exact q4 _ _))
 refine kE ?_;intro _ hw';obtain⟨⟨dq,osq⟩,hw''⟩:=hw';subst hw'';have KF:=aa (HBQ.out dq osq);clear q0 q1 q2 q3 q4 c7 c10 c12 c14 c17 c18 HBQ;generalize Sort.grow (redrawn _ dq) osq=wq at*;have HV:=aa (Nz _ _ _ _ _ p.will.qos HA.out HB.out HC.out HD.out HE.out)
 go_wp2
 go_ret
 exact⟨by rw[HX.out,←HV.out];rfl,KF.out⟩
theorem He (s:ByteArray) (w:World) (hs:s.size≤65535):
  Calls Tryz.prog 234 #[.string s] w fun e w'=>e= .returned (.string (qE s))∧Below w.heap.size w w':=by
 have HD:Hid (qE s=cQ s):=aa (if_pos hs)
 go_enter Tryz.func234,Tryz.ntmps234
 go_wp2_with fail
 refine(Hw s _ hs).mono ?_;rintro e w1 ⟨rfl,hb⟩
 go_wp2
 go_ret
 exact⟨by rw[HD.out];rfl,hb⟩
end Go.Proofs.YtpcleamaieaefaaGreatDoor
namespace Go.Proofs.YtpcleamaieaefaaGreatDoor
open Go.RowKit
attribute [local go_sem ↓] bD bF bH bI bu
attribute [local go_sem] bc aD bh bg bK bJ bd aY be aO ax cI dC dB dt dj di dA dr dp dn bW co bO bZ bX cz cy cw cu ct cC cn bS bP bR
attribute [local go_sem ↓high] bu sD sE
attribute [local go_sem ↓] wh
attribute [local go_sem] Cv BD mX pU pB py
theorem NX (k:Int) (b:Bool) (c:Int) (l:List Pr) (A:Option Addr) (n:Nat) (w:World):(qP #[(0,.int .i64 k),(16,.bool b),(17,.int .i64 c),(20,.slice A l.length n)]).run Tryz.prog w= .ok (pkV {pk0 with kind:=k,props:=l,session:=b,code:=c} {hs0 with props:=⟨A,n⟩}) w:=by kernel_rfl
theorem NW (k:Int) (c:Bool) (a:Int) (s:ByteArray) (u p o:Bool) (l:List Pr) (A:Option Addr) (n:Nat) (w:World):(qP #[(0,.int .i64 k),(7,.bool c),(8,.int .i64 a),(9,.string s),(10,.bool u),(12,.bool p),(14,.bool o),(20,.slice A l.length n)]).run Tryz.prog w= .ok (pkV {pk0 with kind:=k,props:=l,clean:=c,alive:=a,client:=s,hasUser:=u,hasPass:=p,hasWill:=o} {hs0 with props:=⟨A,n⟩}) w:=by kernel_rfl
theorem LK (v:Int) (p:Pk) (h:Hs) (w:World):
  Calls Tryz.prog 280 #[.int .i64 v,pkV p h] w fun e w'=>e= .returned (pkV (kS p) (qJ p h))∧Below w.heap.size w w':=by
 have hb2:=ic w (.cells (pkC p h) PkT) (.cells (pkC pk0 hs0) PkT);have B1:Bk ((w.alloc (.cells (pkC p h) PkT)).alloc (.cells (pkC pk0 hs0) PkT)) w.heap.size PkT (pkC p h):=(Bk.fresh w PkT (pkC p h)).alloc _;have B2:Bk ((w.alloc (.cells (pkC p h) PkT)).alloc (.cells (pkC pk0 hs0) PkT)) (w.heap.size+1) PkT (pkC pk0 hs0):=by
  have:=Bk.fresh (w.alloc (.cells (pkC p h) PkT)) PkT (pkC pk0 hs0);rwa[show(w.alloc (.cells (pkC p h) PkT)).heap.size=w.heap.size+1 by simp]at this
 have hz:((w.alloc (.cells (pkC p h) PkT)).alloc (.cells (pkC pk0 hs0) PkT)).heap.size=w.heap.size+2:=by simp
 generalize hW:(w.alloc (.cells (pkC p h) PkT)).alloc (.cells (pkC pk0 hs0) PkT)=W at hb2 B1 B2 hz;have HB:=aa hb2;have H1:=aa B1;have H2:=aa B2;have HZ:=aa hz
 clear hb2 B1 B2;have k1:=fun i=>H1.out.cell i;have st:=fun q k=>aW H2.out q k;have ua:=NX p.kind p.session p.code p.props h.props.a h.props.c;have ub:=NW p.kind p.clean p.alive p.client p.hasUser p.hasPass p.hasWill p.props h.props.a h.props.c
 by_cases h2:p.kind=2
 ·have e2:(p.kind==2)=true:=aK.2 h2;have E1:Hid (qJ p h= {hs0 with props:=h.props}):=aa (by unfold qJ;rw[ae (fun y=>y.1 h2)];rfl);have E2:Hid (kS p= {pk0 with kind:=p.kind,props:=p.props,session:=p.session,code:=p.code}):=aa (qI h2);clear h2 ub hz
  go_enter Tryz.func280,Tryz.ntmps280
  go_wp2
  refine av (fz rfl _ rfl (cO H2.out _ _)) rfl ?_;rw[E1.out,E2.out];exact⟨rfl,bT HB.out HB.out.size (IT _) _ _⟩
 ·have e2:(p.kind==2)=false:=ar.2 h2;have H2':=aa h2;have HH:Hid (qJ p h= {hs0 with props:=h.props,wp:=(if p.hasWill=true then h.wp else hd0)}):=aa (by
   unfold qJ
   by_cases hw:p.hasWill=true
   ·rw[if_pos ⟨h2,hw⟩,if_pos hw]
   ·rw[ae (fun y=>hw y.2),ae hw])
  have B3:=Bk.fresh W PkT (pkC pk0 hs0);rw[hz]at B3;have hlt:w.heap.size+2<(W.alloc (.cells (pkC pk0 hs0) PkT)).heap.size:=B3.lt;have b1':Bk (W.alloc (.cells (pkC pk0 hs0) PkT)) w.heap.size PkT (pkC p h):=H1.out.alloc _;have b2':Bk (W.alloc (.cells (pkC pk0 hs0) PkT)) (w.heap.size+1) PkT (pkC pk0 hs0):=H2.out.alloc _;have bb:Below w.heap.size w (W.alloc (.cells (pkC pk0 hs0) PkT)):=HB.out.alloc HB.out.size _;have hs0':∀q k,(zc (.pointer (some ⟨w.heap.size+2,0,none⟩)) (pkV q k)).run Tryz.prog (W.alloc (.cells (pkC pk0 hs0) PkT))= .ok () (pw (W.alloc (.cells (pkC pk0 hs0) PkT)) (w.heap.size+2) (pkC q k)):=fun q k=>by
   have h1:=ax W pk0 q hs0 k;have h2:pw (W.alloc (.cells (pkC pk0 hs0) PkT)) (w.heap.size+2) (pkC q k)=W.alloc (.cells (pkC q k) PkT):=by
    have hx:(pw (W.alloc (.cells (pkC pk0 hs0) PkT)) W.heap.size (pkC q k))=W.alloc (.cells (pkC q k) PkT):=by
     have hh:(W.heap.push (.cells (pkC pk0 hs0) PkT (0,0))).setIfInBounds W.heap.size (.cells (pkC q k) PkT (0,0))=W.heap.push (.cells (pkC q k) PkT (0,0)):=by
      apply Il;intro i;rw[Array.getElem?_push]
      by_cases hi:W.heap.size=i
      ·subst hi;simp
      ·rw[eK hi,Array.getElem?_push,ae (fun e=>hi e.symm),ae (fun e=>hi e.symm)]
     exact congrArg (fun x=>{W with heap:=x}) hh
    rw[hz]at hx;exact hx
   rw[hz]at h1;rw[h2];exact h1
  generalize hV:W.alloc (.cells (pkC pk0 hs0) PkT)=V at hlt b1' b2' bb hs0';have N1:=aa b1';have N2:=aa b2';have NB:=aa bb;have NL:=aa hlt
  clear b1' b2' bb B3 h2 ua;have f1:∀cs,Bk (pw V (w.heap.size+2) cs) w.heap.size PkT (pkC p h):=fun cs=>(uv V (w.heap.size+2) cs (by omega)).trans N1.out;have j1:=fun cs=>(f1 cs).cell;have jl:=fun cs=>Gj (f1 cs);clear f1;have jb:Hid (∀cs,Bk (pw V (w.heap.size+2) cs) (w.heap.size+1) PkT (pkC pk0 hs0)):=aa (fun cs=>(uv V (w.heap.size+2) cs (by omega)).trans N2.out);have js:=fun cs q k=>aW (jb.out cs) q k;have JB:Hid (∀cs,Below w.heap.size w (pw V (w.heap.size+2) cs)):=aa (fun cs=>BC V (w.heap.size+2) cs NB.out (by omega))
  go_enter Tryz.func280,Tryz.ntmps280
  cases ha:p.hasWill<;>cases hb:p.hasUser<;>cases hc:p.hasPass
  all_goals
   have HQ:=aa (vJ H2'.out ha hb hc);have HA:=aa ha;rw[ha,hb,hc]at ub
   go_wp2
   refine av (fz rfl _ rfl (cO (jb.out _) _ _)) rfl ?_;refine⟨?_,bT (JB.out _) (JB.out _).size (IT _) _ _⟩;rw[HQ.out];rw[HH.out,HA.out];rfl
theorem LU {b:Bool} {p:Pk} (hn:b=decide (0≤p.alive∧p.alive<65536∧0≤p.will.qos∧p.will.qos≤2)):
   (¬0≤p.alive∧b=false)∨(0≤p.alive∧¬p.alive<65536∧b=false)∨(0≤p.alive∧p.alive<65536∧¬0≤p.will.qos∧b=false)∨(0≤p.alive∧p.alive<65536∧0≤p.will.qos∧b=decide (p.will.qos≤2)):=by
 rw[hn]
 by_cases a1:0≤p.alive
 ·by_cases a2:p.alive<65536
  ·by_cases a3:0≤p.will.qos
   ·exact .inr (.inr (.inr ⟨a1,a2,a3,eb.2 ⟨fun y=>y.2.2.2,fun y=>⟨a1,a2,a3,y⟩⟩⟩))
   ·exact .inr (.inr (.inl ⟨a1,a2,a3,ah (fun y=>a3 y.2.2.1)⟩))
  ·exact .inr (.inl ⟨a1,a2,ah (fun y=>a2 y.2.1)⟩)
 ·exact .inl ⟨a1,ah (fun y=>a1 y.1)⟩
theorem KH (v:Int) (p:Pk) (h:Hs) (w:World) (ip:PkIn w w.heap.size p h) (ok:PkOk p):
  Calls Tryz.prog 220 #[.int .i64 v,pkV p h] w fun e w'=>e= .returned (.bool (kT v p))∧Below w.heap.size w w':=by
 have OK:=aa ok;have S0:=aa ((St.start w).push ip);have hz0:(w.alloc (.cells (pkC p h) PkT)).heap.size=w.heap.size+1:=by simp
 generalize hW:w.alloc (.cells (pkC p h) PkT)=W at S0 hz0;have HZ:=aa hz0;clear hz0
 have HE:Hid (kT v p=(ba v&&(gm p.kind&&(decide (p=kS p)&&dU v p)))):=aa rfl;have HR:Hid (dU v p=if v=4∧0<p.props.length+p.will.props.length then false
  else if p.kind=2 then i9 v p&&(decide (p.code=0) || !p.session)
  else if v=4∧((p.client.size=0∧p.clean=false)∨(p.hasPass=true∧p.hasUser=false))then false
  else decide (0≤p.alive∧p.alive<65536∧0≤p.will.qos∧p.will.qos≤2)):=aa rfl
 have hem:=kR p.client;have q0:=jw (W:=W) (fun x hx=>(pS v x).mono (by rintro e w' ⟨rfl,rfl⟩;exact⟨rfl,aq _ _⟩));have q1:=jw (W:=W) (fun x hx=>LK v p h x);have q2:=jw (W:=W) (fun x hx=>GP p (kS p) h (qJ p h) x ((S0.out.below hx).into 0 rfl) (E6 ((S0.out.below hx).into 0 rfl)) OK.out.len (Dl OK.out.len));have k0:=cell_regrown (show W.cell? ⟨w.heap.size,0,none⟩=some (.int .i64 p.kind)from S0.out.cell 0 rfl 0);have l0:=qp (S0.out.bk 0 rfl);have HBW:Hid (∀d os,Below W.heap.size W (Sort.grow (redrawn W d) os)):=aa (fun d os=>below_regrown W d os);clear ip ok
 go_enter Tryz.func220,Tryz.ntmps220
 cases hk:ba v
 ·rw[hk]at q0;have HX:Hid (kT v p=false):=aa (by rw[HE.out,hk,bj]);clear hk
  go_wp2_with fail
  refine wp_region_quiet_below (by kernel_rfl) (by kernel_rfl) ?_
  repeat (go_big_quiet_step (first| with_reducible exact q0 _ _| with_reducible exact q1 _ _| with_reducible exact q2 _ _))
  refine kE ?_;intro _ hw';obtain⟨⟨dq,osq⟩,hw''⟩:=hw';subst hw'';have S2:=aa (S0.out.below (HBW.out dq osq));clear q0 q1 q2 k0 l0 HBW;generalize Sort.grow (redrawn _ dq) osq=wq at*
  go_wp2
  go_ret
  exact⟨by rw[HX.out];rfl,S2.out.kept⟩
 rw[hk]at q0;have HV:Hid (v=4∨v=5):=aa (aR hk);have HE1:Hid (kT v p=(gm p.kind&&(decide (p=kS p)&&dU v p))):=aa (by rw[HE.out,hk,aL]);clear hk HE;cases ho:gm p.kind
 ·have HX:Hid (kT v p=false):=aa (by rw[HE1.out,ho,bj]);have n1:(p.kind !=1)=true:=aA.2 (fun y=>by have:=Gy ho;exact this (.inl y));have n2:(p.kind !=2)=true:=aA.2 (fun y=>by have:=Gy ho;exact this (.inr y));clear ho
  go_wp2_with fail
  refine wp_region_quiet_below (by kernel_rfl) (by kernel_rfl) ?_
  repeat (go_big_quiet_step (first| with_reducible exact q0 _ _| with_reducible exact q1 _ _| with_reducible exact q2 _ _))
  refine kE ?_;intro _ hw';obtain⟨⟨dq,osq⟩,hw''⟩:=hw';subst hw'';have S2:=aa (S0.out.below (HBW.out dq osq));clear q0 q1 q2 k0 l0 HBW;generalize Sort.grow (redrawn _ dq) osq=wq at*
  go_wp2
  go_ret
  exact⟨by rw[HX.out];rfl,S2.out.kept⟩
 have HO:=aa (aR ho);have HE2:Hid (kT v p=(decide (p=kS p)&&dU v p)):=aa (by rw[HE1.out,ho,aL]);clear ho HE1;obtain⟨sm,hsm⟩:∃b:Bool,decide (p=kS p)=b:=⟨_,rfl⟩;rw[hsm]at q2;have HSM:=aa hsm;clear hsm
 by_cases h2:p.kind=2
 ·have n1:(p.kind !=1)=true:=aA.2 (by omega);have n2:(p.kind !=2)=false:=by simp[h2]
  have e2:(p.kind==2)=true:=aK.2 h2;have H2:=aa h2;clear h2;cases sm
  ·have HX:Hid (kT v p=false):=aa (by rw[HE2.out,HSM.out,bj])
   go_wp2_with fail
   refine wp_region_quiet_below (by kernel_rfl) (by kernel_rfl) ?_
   repeat (go_big_quiet_step (first| with_reducible exact q0 _ _| with_reducible exact q1 _ _| with_reducible exact q2 _ _))
   refine kE ?_;intro _ hw';obtain⟨⟨dq,osq⟩,hw''⟩:=hw';subst hw'';have S2:=aa (S0.out.below (HBW.out dq osq));clear q0 q1 q2 k0 l0 HBW;generalize Sort.grow (redrawn _ dq) osq=wq at*
   go_wp2
   go_ret
   exact⟨by rw[HX.out];rfl,S2.out.kept⟩
  have HE3:Hid (kT v p=dU v p):=aa (by rw[HE2.out,HSM.out,aL])
  go_wp2_with fail
  refine wp_region_quiet_below (by kernel_rfl) (by kernel_rfl) ?_
  repeat (go_big_quiet_step (first| with_reducible exact q0 _ _| with_reducible exact q1 _ _| with_reducible exact q2 _ _))
  refine kE ?_;intro _ hw';obtain⟨⟨dq,osq⟩,hw''⟩:=hw';subst hw'';have S2:=aa (S0.out.below (HBW.out dq osq));clear q0 q1 q2 k0 l0 HBW;generalize Sort.grow (redrawn _ dq) osq=wq at*;have k0:=S2.out.cell 0 rfl;rcases HV.out with h4| h4
  ·have e4:(v==4)=true:=aK.2 h4;have e5:(v==5)=false:=ar.2 (by omega)
   by_cases hp:0<p.props.length
   ·have HX:Hid (kT v p=false):=aa (by rw[HE3.out,HR.out,if_pos ⟨h4,by omega⟩]);clear h4
    go_wp2
    go_ret
    exact⟨by rw[HX.out];rfl,S2.out.kept⟩
   by_cases hw:0<p.will.props.length
   ·have HX:Hid (kT v p=false):=aa (by rw[HE3.out,HR.out,if_pos ⟨h4,by omega⟩]);clear h4
    go_wp2
    go_ret
    exact⟨by rw[HX.out];rfl,S2.out.kept⟩
   have N0:¬(v=4∧0<p.props.length+p.will.props.length):=fun y=>by omega
   have HC:Hid (kT v p=(ww p.code&&(decide (p.code=0) || !p.session))):=aa (by rw[HE3.out,HR.out,ae N0,if_pos H2.out];unfold i9;rw[if_pos h4]);clear h4 N0
   go_wp2_with fail
   refine(KD p.code _).mono ?_;rintro e w3 ⟨rfl,hb⟩;subst hb;have S3:=S2;cases hm:ww p.code
   ·have HX:Hid (kT v p=false):=aa (by rw[HC.out,hm];rfl);clear hm
    go_wp2
    go_ret
    exact⟨by rw[HX.out];rfl,S3.out.kept⟩
   by_cases hs:p.session=true
   ·have HX:Hid (kT v p=decide (p.code=0)):=aa (by rw[HC.out,hm,hs];simp);clear hm;have hd:decide (p.code=0)=(p.code==0):=by rfl
    go_wp2
    go_ret
    exact⟨by rw[HX.out];first| rfl| simp,S3.out.kept⟩
   ·have hs':p.session=false:=by simpa using hs
    have HX:Hid (kT v p=true):=aa (by rw[HC.out,hm,hs'];simp);clear hm hs
    go_wp2
    go_ret
    exact⟨by rw[HX.out];rfl,S3.out.kept⟩
  ·have e4:(v==4)=false:=ar.2 (by omega);have e5:(v==5)=true:=aK.2 h4;have N0:¬(v=4∧0<p.props.length+p.will.props.length):=fun y=>by omega
   have HC:Hid (kT v p=(may 2 p.code&&(decide (p.code=0) || !p.session))):=aa (by rw[HE3.out,HR.out,ae N0,if_pos H2.out];unfold i9;rw[ae (fun y=>by omega),H2.out]);clear h4 N0
   go_wp2_with fail
   refine(Ht 2 p.code _).mono ?_;rintro e w3 ⟨rfl,hb⟩;have S3:=aa (S2.out.below hb);clear hb k0
   have k0:=S3.out.cell 0 rfl;cases hm:may 2 p.code
   ·have HX:Hid (kT v p=false):=aa (by rw[HC.out,hm];rfl);clear hm
    go_wp2
    go_ret
    exact⟨by rw[HX.out];rfl,S3.out.kept⟩
   by_cases hs:p.session=true
   ·have HX:Hid (kT v p=decide (p.code=0)):=aa (by rw[HC.out,hm,hs];simp);clear hm;have hd:decide (p.code=0)=(p.code==0):=by rfl
    go_wp2
    go_ret
    exact⟨by rw[HX.out];first| rfl| simp,S3.out.kept⟩
   ·have hs':p.session=false:=by simpa using hs
    have HX:Hid (kT v p=true):=aa (by rw[HC.out,hm,hs'];simp);clear hm hs
    go_wp2
    go_ret
    exact⟨by rw[HX.out];rfl,S3.out.kept⟩
 ·have n1:(p.kind !=1)=false:=by have:p.kind=1:=HO.out.resolve_right h2;simp[this]
  have e2:(p.kind==2)=false:=ar.2 h2;have H2:=aa h2;clear h2;cases sm
  ·have HX:Hid (kT v p=false):=aa (by rw[HE2.out,HSM.out,bj])
   go_wp2_with fail
   refine wp_region_quiet_below (by kernel_rfl) (by kernel_rfl) ?_
   repeat (go_big_quiet_step (first| with_reducible exact q0 _ _| with_reducible exact q1 _ _| with_reducible exact q2 _ _))
   refine kE ?_;intro _ hw';obtain⟨⟨dq,osq⟩,hw''⟩:=hw';subst hw'';have S2:=aa (S0.out.below (HBW.out dq osq));clear q0 q1 q2 k0 l0 HBW;generalize Sort.grow (redrawn _ dq) osq=wq at*
   go_wp2
   go_ret
   exact⟨by rw[HX.out];rfl,S2.out.kept⟩
  have HE3:Hid (kT v p=dU v p):=aa (by rw[HE2.out,HSM.out,aL])
  go_wp2_with fail
  refine wp_region_quiet_below (by kernel_rfl) (by kernel_rfl) ?_
  repeat (go_big_quiet_step (first| with_reducible exact q0 _ _| with_reducible exact q1 _ _| with_reducible exact q2 _ _))
  refine kE ?_;intro _ hw';obtain⟨⟨dq,osq⟩,hw''⟩:=hw';subst hw'';have S2:=aa (S0.out.below (HBW.out dq osq));clear q0 q1 q2 k0 l0 HBW;generalize Sort.grow (redrawn _ dq) osq=wq at*;have k0:=S2.out.cell 0 rfl;rcases HV.out with h4| h4
  ·have e4:(v==4)=true:=aK.2 h4;have e5:(v==5)=false:=ar.2 (by omega)
   by_cases hp:0<p.props.length
   ·have HX:Hid (kT v p=false):=aa (by rw[HE3.out,HR.out,if_pos ⟨h4,by omega⟩]);clear h4
    go_wp2
    go_ret
    exact⟨by rw[HX.out];rfl,S2.out.kept⟩
   by_cases hw:0<p.will.props.length
   ·have HX:Hid (kT v p=false):=aa (by rw[HE3.out,HR.out,if_pos ⟨h4,by omega⟩]);clear h4
    go_wp2
    go_ret
    exact⟨by rw[HX.out];rfl,S2.out.kept⟩
   have N0:¬(v=4∧0<p.props.length+p.will.props.length):=fun y=>by omega
   have HC:Hid (kT v p=if v=4∧((p.client.size=0∧p.clean=false)∨(p.hasPass=true∧p.hasUser=false))then false
    else decide (0≤p.alive∧p.alive<65536∧0≤p.will.qos∧p.will.qos≤2)):=aa (by rw[HE3.out,HR.out,ae N0,ae H2.out])
   have H4:=aa h4;clear h4 N0
   by_cases ha:p.client.size=0∧p.clean=false
   ·have HX:Hid (kT v p=false):=aa (HC.out.trans (if_pos ⟨H4.out,.inl ha⟩));obtain⟨ha1,ha2⟩:=ha;rw[au ha1]at hem
    go_wp2
    go_ret
    exact⟨by rw[HX.out];rfl,S2.out.kept⟩
   by_cases hq:p.hasPass=true∧p.hasUser=false
   ·have HX:Hid (kT v p=false):=aa (HC.out.trans (if_pos ⟨H4.out,.inr hq⟩));obtain⟨hq1,hq2⟩:=hq;clear ha
    go_wp2
    all_goals
     go_ret
     exact⟨by rw[HX.out];rfl,S2.out.kept⟩
   have HN:=aa (LU (HC.out.trans (ae (fun y=>y.2.elim ha hq))));have Z:((p.client.toList.isEmpty=true∧p.clean=true)∨p.client.toList.isEmpty=false)∧((p.hasPass=true∧p.hasUser=true)∨p.hasPass=false):=by
    rw[hem]
    constructor
    ·by_cases c0:p.client.size=0
     ·cases c1:p.clean
      ·exact absurd ⟨c0,c1⟩ ha
      ·exact .inl ⟨au c0,rfl⟩
     ·exact .inr (ah c0)
    ·cases c0:p.hasPass
     ·exact .inr rfl
     ·cases c1:p.hasUser
      ·exact absurd ⟨c0,c1⟩ hq
      ·exact .inl ⟨rfl,rfl⟩
   clear ha hq hem;obtain⟨Z1,Z2⟩:=Z;rcases Z1 with ⟨z1,z2⟩ | z1<;>rcases Z2 with ⟨z3,z4⟩ | z3
   all_goals
    rcases HN.out with ⟨a1,hx⟩ | ⟨a1,a2,hx⟩ | ⟨a1,a2,a3,hx⟩ | ⟨a1,a2,a3,hx⟩
    ·have HX:=aa hx;have a1':p.alive<0:=by omega
     clear hx a1
     go_wp2
     go_ret
     exact⟨by rw[HX.out];rfl,S2.out.kept⟩
    ·have HX:=aa hx;have a2':¬p.alive≤65535:=by omega
     clear hx a2
     go_wp2
     go_ret
     exact⟨by rw[HX.out];rfl,S2.out.kept⟩
    ·have HX:=aa hx;have a2':p.alive≤65535:=by omega
     have a3':p.will.qos<0:=by omega
     clear hx a2 a3
     go_wp2
     go_ret
     exact⟨by rw[HX.out];rfl,S2.out.kept⟩
    ·have HX:=aa hx;have a2':p.alive≤65535:=by omega
     clear hx a2
     go_wp2
     go_ret
     exact⟨by rw[HX.out];rfl,S2.out.kept⟩
  ·have e4:(v==4)=false:=ar.2 (by omega);have e5:(v==5)=true:=aK.2 h4;have N0:¬(v=4∧0<p.props.length+p.will.props.length):=fun y=>by omega
   have HC:Hid (kT v p=if v=4∧((p.client.size=0∧p.clean=false)∨(p.hasPass=true∧p.hasUser=false))then false
    else decide (0≤p.alive∧p.alive<65536∧0≤p.will.qos∧p.will.qos≤2)):=aa (by rw[HE3.out,HR.out,ae N0,ae H2.out])
   have HN:=aa (LU (HC.out.trans (ae (fun y=>by omega))));clear h4 N0;rcases HN.out with ⟨a1,hx⟩ | ⟨a1,a2,hx⟩ | ⟨a1,a2,a3,hx⟩ | ⟨a1,a2,a3,hx⟩
   ·have HX:=aa hx;have a1':p.alive<0:=by omega
    clear hx a1
    go_wp2
    go_ret
    exact⟨by rw[HX.out];rfl,S2.out.kept⟩
   ·have HX:=aa hx;have a2':¬p.alive≤65535:=by omega
    clear hx a2
    go_wp2
    go_ret
    exact⟨by rw[HX.out];rfl,S2.out.kept⟩
   ·have HX:=aa hx;have a2':p.alive≤65535:=by omega
    have a3':p.will.qos<0:=by omega
    clear hx a2 a3
    go_wp2
    go_ret
    exact⟨by rw[HX.out];rfl,S2.out.kept⟩
   ·have HX:=aa hx;have a2':p.alive≤65535:=by omega
    clear hx a2
    go_wp2
    go_ret
    exact⟨by rw[HX.out];rfl,S2.out.kept⟩
end Go.Proofs.YtpcleamaieaefaaGreatDoor
namespace Go.Proofs.YtpcleamaieaefaaGreatDoor
open Go.RowKit
attribute [local go_sem ↓] bD bF bH bI bu
attribute [local go_sem] bc aD bh bg bK bJ bd aY be aO ax cI dC dB dt dj di dA dr dp dn bW co bO bZ bX cz cy cw cu ct cC cn bS bP bR
theorem Ic (v:Int) (p:Pk) (h:Hs) (w:World) (ip:PkIn w w.heap.size p h) (ok:PkOk p):
  Calls Tryz.prog 165 #[.int .i64 v,pkV p h] w fun e w'=>e= .returned (.int .i64 (eR v p))∧Below w.heap.size w w':=by
 have OK:=aa ok;have S0:=aa ((St.start w).push ip);have HE:Hid (eR v p=if kT v p=false then 2
  else if bN p.client=false∨bN p.user=false then 6
  else if p.hasWill=true∧fp p.will.topic=false then 10
  else if 65535<p.will.payload.size∨65535<p.pass.size then 2
  else if(aM p.kind p.props).2≠0 then(aM p.kind p.props).2
  else(aM 16 p.will.props).2):=aa rfl
 have HA:Hid (kT v p=(ba v&&(gm p.kind&&(decide (p=kS p)&&dU v p)))):=aa rfl;have k0:=S0.out.cell 0 rfl;have l0:=S0.out.ld 0 rfl;clear ip ok
 go_enter Tryz.func165,Tryz.ntmps165
 go_wp2_with fail
 refine(KH v p h _ (S0.out.into 0 rfl) OK.out).mono ?_;rintro e w1 ⟨rfl,hb⟩;have S2:=aa (S0.out.below hb);clear hb k0 l0
 have k0:=S2.out.cell 0 rfl;cases hr:kT v p
 ·have HX:Hid (eR v p=2):=aa (by rw[HE.out,if_pos hr]);clear hr
  go_wp2
  go_ret
  exact⟨by rw[HX.out];rfl,S2.out.kept⟩
 have HZ:Hid (GI v p.kind p.props=(aM p.kind p.props).2∧GI v 16 p.will.props=(aM 16 p.will.props).2):=aa (by
  have hh:dU v p=true:=by
   have:=HA.out.symm.trans hr;simp only[eh]at this;exact this.2.2.2
  have h4:¬(v=4∧0<p.props.length+p.will.props.length):=fun y=>by
   unfold dU at hh;rw[if_pos y]at hh;cases hh
  exact⟨Ir (fun y=>by omega),Ir (fun y=>by omega)⟩)
 have HE1:Hid (eR v p=if bN p.client=false∨bN p.user=false then 6
  else if p.hasWill=true∧fp p.will.topic=false then 10
  else if 65535<p.will.payload.size∨65535<p.pass.size then 2
  else if(aM p.kind p.props).2≠0 then(aM p.kind p.props).2
  else(aM 16 p.will.props).2):=aa (by rw[HE.out,ae (by rw[hr];decide)])
 clear hr
 go_wp2_with fail
 refine(xj p.client _ (by have:=OK.out.texts;omega)).mono ?_;rintro e w3 ⟨rfl,rfl⟩;have S3:=S2;cases hc:bN p.client
 ·have HX:Hid (eR v p=6):=aa (by rw[HE1.out,if_pos (.inl hc)]);clear hc
  go_wp2
  go_ret
  exact⟨by rw[HX.out];rfl,S3.out.kept⟩
 go_wp2_with fail
 refine(xj p.user _ (by have:=OK.out.texts;omega)).mono ?_;rintro e w4 ⟨rfl,rfl⟩;have S4:=S3;cases hu:bN p.user
 ·have HX:Hid (eR v p=6):=aa (by rw[HE1.out,if_pos (.inr hu)]);clear hc hu
  go_wp2
  go_ret
  exact⟨by rw[HX.out];rfl,S4.out.kept⟩
 have HE2:Hid (eR v p=if p.hasWill=true∧fp p.will.topic=false then 10
  else if 65535<p.will.payload.size∨65535<p.pass.size then 2
  else if(aM p.kind p.props).2≠0 then(aM p.kind p.props).2
  else(aM 16 p.will.props).2):=aa (by rw[HE1.out,ae (fun y=>y.elim (fun z=>by rw[hc]at z;cases z) (fun z=>by rw[hu]at z;cases z))])
 clear hc hu;obtain⟨hw,hhw⟩:∃b,p.hasWill=b:=⟨_,rfl⟩;cases hw
 ·have HE3:Hid (eR v p=if 65535<p.will.payload.size∨65535<p.pass.size then 2
   else if(aM p.kind p.props).2≠0 then(aM p.kind p.props).2
   else(aM 16 p.will.props).2):=aa (by rw[HE2.out,ae (fun y=>by rw[hhw]at y;cases y.1)])
  have S5:=S4
  by_cases hy:65535<p.will.payload.size
  ·have d1:(65535:Int)<(p.will.payload.size:Int):=by omega
   have HX:Hid (eR v p=2):=aa (by rw[HE3.out,if_pos (.inl hy)]);clear hy
   go_wp2
   go_ret
   exact⟨by rw[HX.out];rfl,S5.out.kept⟩
  have d1:(p.will.payload.size:Int)≤65535:=by omega
  by_cases hz:65535<p.pass.size
  ·have d2:(65535:Int)<(p.pass.size:Int):=by omega
   have HX:Hid (eR v p=2):=aa (by rw[HE3.out,if_pos (.inr hz)]);clear hy hz
   go_wp2
   go_ret
   exact⟨by rw[HX.out];rfl,S5.out.kept⟩
  have d2:(p.pass.size:Int)≤65535:=by omega
  have HE4:Hid (eR v p=if(aM p.kind p.props).2≠0 then(aM p.kind p.props).2 else(aM 16 p.will.props).2):=aa (by rw[HE3.out,ae (fun y=>y.elim hy hz)]);clear hy hz
  go_wp2_with fail
  refine(Gx v p.kind p.props _ rfl OK.out.props h.props.a h.props.c _ (S5.out.into 0 rfl).props OK.out.len.2.2.2 (S5.out.into 0 rfl).caps.2.2.2).mono ?_;rintro e w6 ⟨rfl,hb⟩;rw[HZ.out.1];have S6:=aa (S5.out.below hb);clear hb k0
  have k0:=S6.out.cell 0 rfl
  by_cases hp:(aM p.kind p.props).2=0
  rotate_left
  ·have e0:((aM p.kind p.props).2 !=0)=true:=aA.2 hp;have HX:Hid (eR v p=(aM p.kind p.props).2):=aa (by rw[HE4.out,if_pos hp]);clear hp
   go_wp2
   go_ret
   exact⟨by rw[HX.out];rfl,S6.out.kept⟩
  rw[hp];have HX:Hid (eR v p=(aM 16 p.will.props).2):=aa (by rw[HE4.out,ae (fun y=>y hp)]);clear hp
  go_wp2_with fail
  refine(Gx v 16 p.will.props _ rfl OK.out.wp h.wp.a h.wp.c _ (S6.out.into 0 rfl).wp OK.out.len.1 (S6.out.into 0 rfl).caps.1).mono ?_;rintro e w7 ⟨rfl,hb⟩;rw[HZ.out.2];have S7:=aa (S6.out.below hb);clear hb k0
  go_wp2
  go_ret
  exact⟨by rw[HX.out];rfl,S7.out.kept⟩
 ·go_wp2_with fail
  refine(Hg p.will.topic _ (by have:=OK.out.texts;omega)).mono ?_;rintro e w5 ⟨rfl,rfl⟩;have S5:=S4;cases hn:fp p.will.topic
  ·have HX:Hid (eR v p=10):=aa (by rw[HE2.out,if_pos ⟨hhw,hn⟩]);clear hn
   go_wp2
   go_ret
   exact⟨by rw[HX.out];rfl,S5.out.kept⟩
  have HE3:Hid (eR v p=if 65535<p.will.payload.size∨65535<p.pass.size then 2
   else if(aM p.kind p.props).2≠0 then(aM p.kind p.props).2
   else(aM 16 p.will.props).2):=aa (by rw[HE2.out,ae (fun y=>by rw[hn]at y;cases y.2)])
  clear hn
  by_cases hy:65535<p.will.payload.size
  ·have d1:(65535:Int)<(p.will.payload.size:Int):=by omega
   have HX:Hid (eR v p=2):=aa (by rw[HE3.out,if_pos (.inl hy)]);clear hy
   go_wp2
   go_ret
   exact⟨by rw[HX.out];rfl,S5.out.kept⟩
  have d1:(p.will.payload.size:Int)≤65535:=by omega
  by_cases hz:65535<p.pass.size
  ·have d2:(65535:Int)<(p.pass.size:Int):=by omega
   have HX:Hid (eR v p=2):=aa (by rw[HE3.out,if_pos (.inr hz)]);clear hy hz
   go_wp2
   go_ret
   exact⟨by rw[HX.out];rfl,S5.out.kept⟩
  have d2:(p.pass.size:Int)≤65535:=by omega
  have HE4:Hid (eR v p=if(aM p.kind p.props).2≠0 then(aM p.kind p.props).2 else(aM 16 p.will.props).2):=aa (by rw[HE3.out,ae (fun y=>y.elim hy hz)]);clear hy hz
  go_wp2_with fail
  refine(Gx v p.kind p.props _ rfl OK.out.props h.props.a h.props.c _ (S5.out.into 0 rfl).props OK.out.len.2.2.2 (S5.out.into 0 rfl).caps.2.2.2).mono ?_;rintro e w6 ⟨rfl,hb⟩;rw[HZ.out.1];have S6:=aa (S5.out.below hb);clear hb k0
  have k0:=S6.out.cell 0 rfl
  by_cases hp:(aM p.kind p.props).2=0
  rotate_left
  ·have e0:((aM p.kind p.props).2 !=0)=true:=aA.2 hp;have HX:Hid (eR v p=(aM p.kind p.props).2):=aa (by rw[HE4.out,if_pos hp]);clear hp
   go_wp2
   go_ret
   exact⟨by rw[HX.out];rfl,S6.out.kept⟩
  rw[hp];have HX:Hid (eR v p=(aM 16 p.will.props).2):=aa (by rw[HE4.out,ae (fun y=>y hp)]);clear hp
  go_wp2_with fail
  refine(Gx v 16 p.will.props _ rfl OK.out.wp h.wp.a h.wp.c _ (S6.out.into 0 rfl).wp OK.out.len.1 (S6.out.into 0 rfl).caps.1).mono ?_;rintro e w7 ⟨rfl,hb⟩;rw[HZ.out.2];have S7:=aa (S6.out.below hb);clear hb k0
  go_wp2
  go_ret
  exact⟨by rw[HX.out];rfl,S7.out.kept⟩
theorem Iq {W z:World} (a b:UInt8) (hb:Below (W.alloc (.cells #[.int .u8 (a.toNat:Int),.int .u8 (b.toNat:Int)] 5)).heap.size (W.alloc (.cells #[.int .u8 (a.toNat:Int),.int .u8 (b.toNat:Int)] 5)) z):
  (convert 75 9 (.slice (some ⟨W.heap.size,0,none⟩) 2 2)).run Tryz.prog z= .ok (.string ⟨#[a,b]⟩) z:=
 ni 75 9 5 Tryz.underlying75 Tryz.underlying5 Tryz.underlying9 2 ((Rd.lit W #[.int .u8 (a.toNat:Int),.int .u8 (b.toNat:Int)] 5 (xs:=bys [a,b]) rfl (ed _) rfl).below (hb.mono (by simp)))
theorem ML (v k:Int) (l:List Pr):Hq v k l=tW v k l:=rfl
theorem KJ (v:Int) (p:Pk) (h:Hs) (w:World) (ip:PkIn w w.heap.size p h) (ok:PkOk p) (h2:p.kind=2):
  Calls Tryz.prog 170 #[.int .i64 v,pkV p h] w fun e w'=>e= .returned (.tuple #[.string (Fg v p).1,.int .i64 (Fg v p).2])∧Below w.heap.size w w':=by
 have OK:=aa ok;have S0:=aa ((St.start w).push ip);have HE:Hid (Fg v p=if eR v p=0 then(vP v p,0)else(⟨#[]⟩,eR v p)):=aa rfl;have HQ:Hid (vP v p=qK [⟨#[if p.session=true then 1 else 0]⟩,⟨(da p.code.toNat 1).toArray⟩,tW v p.kind p.props]):=aa rfl;have l0:=S0.out.ld 0 rfl;have H2:=aa h2;clear ip ok h2
 go_enter Tryz.func170,Tryz.ntmps170
 go_wp2_with fail
 refine(Ic v p h _ (S0.out.into 0 rfl) OK.out).mono ?_;rintro e w1 ⟨rfl,hb⟩;have S1:=aa (S0.out.below hb);clear hb l0
 by_cases he:eR v p=0
 rotate_left
 ·have e0:(eR v p !=0)=true:=aA.2 he;have HX:Hid (Fg v p=(⟨#[]⟩,eR v p)):=aa (by rw[HE.out,ae he]);clear he
  go_wp2
  go_ret2
  exact⟨by rw[HX.out];rfl,S1.out.kept⟩
 have HX:Hid (Fg v p=(vP v p,0)):=aa (by rw[HE.out,if_pos he]);have hcr:=Av he H2.out;have HTS:=aa (Jr v p.kind p.props);obtain⟨b0,hb0,hw0⟩:∃b:UInt8,Hid ((⟨#[if p.session=true then 1 else 0]⟩:ByteArray)=⟨#[b]⟩)∧IntKind.u8.wrap (pc p.session 1)=(b.toNat:Int):=by
  cases p.session
  ·exact⟨0,aa rfl,rfl⟩
  ·exact⟨1,aa rfl,rfl⟩
 obtain⟨b1,hb1,hw1⟩:∃b:UInt8,Hid (da p.code.toNat 1=[b])∧IntKind.u8.wrap p.code=(b.toNat:Int):=by
  refine⟨UInt8.ofNat p.code.toNat,aa (by simp[da]),?_⟩;rw[GM];simp[UInt8.toNat_ofNat'];omega
 rw[he];have TT:=aa (fun(x:World) hr hc=>G5 v p.kind p.props _ rfl OK.out.props h.props.a h.props.c x hr OK.out.len.2.2.2 hc);obtain⟨T,hT⟩:∃T,tW v p.kind p.props=T:=⟨_,rfl⟩;rw[hb0.out,hb1.out,hT]at HQ;have HQ2:Hid (vP v p=⟨#[b0,b1]⟩++T):=aa (by
  rw[HQ.out];refine eX ?_;simp[qK,ls])
 simp only[ML]at TT;rw[hT]at TT HTS;have hsz:¬(9223372036854775807<2+T.size):=by have:=HTS.out;omega
 have hs2:(⟨#[b0,b1]⟩:ByteArray).size=2:=rfl;have k0:=(S1.out.cell 0 rfl 0).trans (cI _ _);rw[H2.out]at k0;clear he hcr hT
 go_wp2_with fail
 clear k0
 go_cut [4,5] (fun a b wx=>a= .string (⟨#[b0,b1]⟩++T)∧b= .int .i64 0∧St w [(w.heap.size,p,h)] wx)
 case first=>
  have J0:=aa S1.out.drew;obtain⟨WX,hWX⟩:∃W,w1.drew=W:=⟨_,rfl⟩;have HS:=And.intro ((J0.out.cell 0 rfl 20).trans (cC _ _)) (And.intro ((J0.out.cell 0 rfl 21).trans (cn _ _)) (And.intro ((J0.out.cell 0 rfl 0).trans (cI _ _)) ((J0.out.cell 0 rfl 24).trans (bR _ _))));refine je (fun w'=>w'.cell? ⟨w.heap.size,20,none⟩=some (.bool p.session)∧w'.cell? ⟨w.heap.size,21,none⟩=some (.int .i64 p.code)∧w'.cell? ⟨w.heap.size,0,none⟩=some (.int .i64 p.kind)∧w'.cell? ⟨w.heap.size,24,none⟩=some (.slice h.props.a p.props.length h.props.c)) [] (by kernel_rfl) ?_;rw[hWX]at J0 HS⊢;clear hWX;refine aJ (i:=0) (v:=?va1) [] rfl (by kernel_rfl) (by kernel_rfl) (by kernel_rfl) (by kernel_rfl) (by kernel_rfl) (by kernel_rfl) (fun _ _ _ h=>h) (Or.inl ⟨by rfl,?ha1⟩) HS ?ra1
  case ha1=>intro w' hSw;(try dsimp only at hSw);go_simp;try with_reducible rfl
  (try simp only[Act.put]);(try simp only[af]);(try simp only[am]);(try simp only[ak])
  refine aJ (i:=1) (v:=?va2) [] rfl (by kernel_rfl) (by kernel_rfl) (by kernel_rfl) (by kernel_rfl) (by kernel_rfl) (by kernel_rfl) (fun _ _ _ h=>h) (Or.inl ⟨by rfl,?ha2⟩) HS ?ra2
  case ha2=>intro w' hSw;(try dsimp only at hSw);go_simp;try with_reducible rfl
  (try simp only[Act.put]);(try simp only[af]);(try simp only[am]);(try simp only[ak])
  refine aJ (i:=4) (v:=?va3) [] rfl (by kernel_rfl) (by kernel_rfl) (by kernel_rfl) (by kernel_rfl) (by kernel_rfl) (by kernel_rfl) (fun _ _ _ h=>h) (Or.inl ⟨by rfl,?ha3⟩) HS ?ra3
  case ha3=>intro w' hSw;(try dsimp only at hSw);go_simp;try with_reducible rfl
  (try simp only[Act.put]);(try simp only[af]);(try simp only[am]);(try simp only[ak])
  refine aJ (i:=5) (v:=?va4) [] rfl (by kernel_rfl) (by kernel_rfl) (by kernel_rfl) (by kernel_rfl) (by kernel_rfl) (by kernel_rfl) (fun _ _ _ h=>h) (Or.inl ⟨by rfl,?ha4⟩) HS ?ra4
  case ha4=>intro w' hSw;(try dsimp only at hSw);go_simp;try with_reducible rfl
  (try simp only[Act.put]);(try simp only[af]);(try simp only[am]);(try simp only[ak])
  refine aJ (i:=6) (v:=?va5) [] rfl (by kernel_rfl) (by kernel_rfl) (by kernel_rfl) (by kernel_rfl) (by kernel_rfl) (by kernel_rfl) (fun _ _ _ h=>h) (Or.inl ⟨by rfl,?ha5⟩) HS ?ra5
  case ha5=>intro w' hSw;(try dsimp only at hSw);go_simp;try with_reducible rfl
  (try simp only[Act.put]);(try simp only[af]);(try simp only[am]);(try simp only[ak])
  refine aJ (i:=9) (v:=?va6) [] rfl (by kernel_rfl) (by kernel_rfl) (by kernel_rfl) (by kernel_rfl) (by kernel_rfl) (by kernel_rfl) (fun _ _ _ h=>h) (Or.inl ⟨by rfl,?ha6⟩) HS ?ra6
  case ha6=>intro w' hSw;(try dsimp only at hSw);go_simp;try with_reducible rfl
  (try simp only[Act.put]);(try simp only[af]);(try simp only[am]);(try simp only[ak])
  refine aJ (i:=10) (v:=?va7) [] rfl (by kernel_rfl) (by kernel_rfl) (by kernel_rfl) (by kernel_rfl) (by kernel_rfl) (by kernel_rfl) (fun _ _ _ h=>h) (Or.inl ⟨by rfl,?ha7⟩) HS ?ra7
  case ha7=>intro w' hSw;(try dsimp only at hSw);go_simp;try with_reducible rfl
  (try simp only[Act.put]);(try simp only[af]);(try simp only[am]);(try simp only[ak])
  refine aJ (i:=11) (v:=?va8) [] rfl (by kernel_rfl) (by kernel_rfl) (by kernel_rfl) (by kernel_rfl) (by kernel_rfl) (by kernel_rfl) (fun _ _ _ h=>h) (Or.inl ⟨by rfl,?ha8⟩) HS ?ra8
  case ha8=>intro w' hSw;(try dsimp only at hSw);go_simp;try with_reducible rfl
  (try simp only[Act.put]);(try simp only[af]);(try simp only[am]);(try simp only[ak])
  refine aJ (i:=12) (v:=?va9) [] rfl (by kernel_rfl) (by kernel_rfl) (by kernel_rfl) (by kernel_rfl) (by kernel_rfl) (by kernel_rfl) (fun _ _ _ h=>h) (Or.inl ⟨by rfl,?ha9⟩) HS ?ra9
  case ha9=>intro w' hSw;(try dsimp only at hSw);go_simp;try with_reducible rfl
  (try simp only[Act.put]);(try simp only[af]);(try simp only[am]);(try simp only[ak])
  refine aJ (i:=13) (v:=?va10) [] rfl (by kernel_rfl) (by kernel_rfl) (by kernel_rfl) (by kernel_rfl) (by kernel_rfl) (by kernel_rfl) (fun _ _ _ h=>h) (Or.inl ⟨by rfl,?ha10⟩) HS ?ra10
  case ha10=>intro w' hSw;(try dsimp only at hSw);go_simp;try with_reducible rfl
  (try simp only[Act.put]);(try simp only[af]);(try simp only[am]);(try simp only[ak])
  refine cq (rs:=[2]) (by kernel_rfl) (by simp) (ep.cons rfl (fun K hK=>?_) ep.nil)
  go_simp
  go_at_call 232
  refine(MS p.session 1 _).mono ?_;rintro e' za11 ⟨rfl,hb⟩;subst hb
  go_simp
  refine hK.out _ _ (fun _=>HS) ?_;clear hK K
  (try simp only[Act.put]);(try simp only[af]);(try simp only[am]);(try simp only[ak])
  refine aJ (i:=3) (v:=?va12) [] rfl (by kernel_rfl) (by kernel_rfl) (by kernel_rfl) (by kernel_rfl) (by kernel_rfl) (by kernel_rfl) (fun _ _ _ h=>h) (Or.inl ⟨by rfl,?ha12⟩) HS ?ra12
  case ha12=>intro w' hSw;(try dsimp only at hSw);go_simp;try with_reducible rfl
  (try simp only[Act.put]);(try simp only[af]);(try simp only[am]);(try simp only[ak])
  refine cq (rs:=[7,14]) (by kernel_rfl) (by simp) (ep.cons rfl (fun K hK=>?ma13) (ep.cons rfl (fun K hK=>?ma14) ep.nil))
  case ma13=>
   have Ja15:=aa (J0.out.alloc (.cells #[.int .u8 (b0.toNat:Int),.int .u8 (b1.toNat:Int)] 5));have Ba15:=aa (aq (WX.alloc (.cells #[.int .u8 (b0.toNat:Int),.int .u8 (b1.toNat:Int)] 5)).heap.size (WX.alloc (.cells #[.int .u8 (b0.toNat:Int),.int .u8 (b1.toNat:Int)] 5)));have Ca15:=aa (fun(z:World) hb=>Iq (W:=WX) (z:=z) b0 b1 hb);clear HS
   have HS:=And.intro ((Ja15.out.cell 0 rfl 20).trans (cC _ _)) (And.intro ((Ja15.out.cell 0 rfl 21).trans (cn _ _)) (And.intro ((Ja15.out.cell 0 rfl 0).trans (cI _ _)) ((Ja15.out.cell 0 rfl 24).trans (bR _ _))))
   go_simp
   refine hK.out _ _ (fun _=>HS) ?_;clear hK K
   (try simp only[Act.put]);(try simp only[af]);(try simp only[am]);(try simp only[ak])
   refine cq (rs:=[8,14]) (by kernel_rfl) (by simp) (ep.cons rfl (fun K hK=>?ma16) (ep.cons rfl (fun K hK=>?ma17) ep.nil))
   case ma16=>
    have hcv:=Ca15.out _ Ba15.out
    go_simp
    refine hK.out _ _ (fun _=>HS) ?_;clear hK K hcv
    (try simp only[Act.put]);(try simp only[af]);(try simp only[am]);(try simp only[ak])
    refine cq (rs:=[14]) (by kernel_rfl) (by simp) (ep.cons rfl (fun K hK=>?_) ep.nil)
    go_simp
    go_at_call 233
    refine(TT.out _ (Ja15.out.into 0 rfl).props (Ja15.out.into 0 rfl).caps.2.2.2).mono ?_;rintro e' za18 ⟨rfl,hb⟩;have Ja18:=aa (Ja15.out.below hb);clear hb HS;have HS:=And.intro ((Ja18.out.cell 0 rfl 20).trans (cC _ _)) (And.intro ((Ja18.out.cell 0 rfl 21).trans (cn _ _)) (And.intro ((Ja18.out.cell 0 rfl 0).trans (cI _ _)) ((Ja18.out.cell 0 rfl 24).trans (bR _ _))))
    go_simp
    refine hK.out _ _ (fun _=>HS) ?_;clear hK K
    (try simp only[Act.put]);(try simp only[af]);(try simp only[am]);(try simp only[ak])
    refine aJ (i:=15) (v:=?va19) [] rfl (by kernel_rfl) (by kernel_rfl) (by kernel_rfl) (by kernel_rfl) (by kernel_rfl) (by kernel_rfl) (fun _ _ _ h=>h) (Or.inl ⟨by rfl,?ha19⟩) HS ?ra19
    case ha19=>intro w' hSw;(try dsimp only at hSw);go_simp;try with_reducible rfl
    (try simp only[Act.put]);(try simp only[af]);(try simp only[am]);(try simp only[ak])
    refine cq (rs:=[16]) (by kernel_rfl) (by simp) (ep.cons rfl (fun K hK=>?_) ep.nil)
    go_simp
    refine hK.out _ _ (fun _=>HS) ?_;clear hK K
    (try simp only[Act.put]);(try simp only[af]);(try simp only[am]);(try simp only[ak])
    refine cq (rs:=[17]) (by kernel_rfl) (by simp) (ep.cons rfl (fun K hK=>?_) ep.nil)
    go_simp
    refine hK.out _ _ (fun _=>HS) ?_;clear hK K
    (try simp only[Act.put]);(try simp only[af]);(try simp only[am]);(try simp only[ak])
    refine oh (by kernel_rfl) ?_ _
    go_wp2
    go_meet
    case rel=>exact⟨rfl,rfl,Ja18.out⟩
   case ma17=>
    go_simp
    go_at_call 233
    refine(TT.out _ (Ja15.out.into 0 rfl).props (Ja15.out.into 0 rfl).caps.2.2.2).mono ?_;rintro e' za20 ⟨rfl,hb⟩;have Ja20:=aa (Ja15.out.below hb);have Ba20:=aa (Ba15.out.trans (hb.mono Ba15.out.size));clear hb HS;have HS:=And.intro ((Ja20.out.cell 0 rfl 20).trans (cC _ _)) (And.intro ((Ja20.out.cell 0 rfl 21).trans (cn _ _)) (And.intro ((Ja20.out.cell 0 rfl 0).trans (cI _ _)) ((Ja20.out.cell 0 rfl 24).trans (bR _ _))))
    go_simp
    refine hK.out _ _ (fun _=>HS) ?_;clear hK K
    (try simp only[Act.put]);(try simp only[af]);(try simp only[am]);(try simp only[ak])
    refine cq (rs:=[8]) (by kernel_rfl) (by simp) (ep.cons rfl (fun K hK=>?_) ep.nil);have hcv:=Ca15.out _ Ba20.out
    go_simp
    refine hK.out _ _ (fun _=>HS) ?_;clear hK K hcv
    (try simp only[Act.put]);(try simp only[af]);(try simp only[am]);(try simp only[ak])
    refine aJ (i:=15) (v:=?va21) [] rfl (by kernel_rfl) (by kernel_rfl) (by kernel_rfl) (by kernel_rfl) (by kernel_rfl) (by kernel_rfl) (fun _ _ _ h=>h) (Or.inl ⟨by rfl,?ha21⟩) HS ?ra21
    case ha21=>intro w' hSw;(try dsimp only at hSw);go_simp;try with_reducible rfl
    (try simp only[Act.put]);(try simp only[af]);(try simp only[am]);(try simp only[ak])
    refine cq (rs:=[16]) (by kernel_rfl) (by simp) (ep.cons rfl (fun K hK=>?_) ep.nil)
    go_simp
    refine hK.out _ _ (fun _=>HS) ?_;clear hK K
    (try simp only[Act.put]);(try simp only[af]);(try simp only[am]);(try simp only[ak])
    refine cq (rs:=[17]) (by kernel_rfl) (by simp) (ep.cons rfl (fun K hK=>?_) ep.nil)
    go_simp
    refine hK.out _ _ (fun _=>HS) ?_;clear hK K
    (try simp only[Act.put]);(try simp only[af]);(try simp only[am]);(try simp only[ak])
    refine oh (by kernel_rfl) ?_ _
    go_wp2
    go_meet
    case rel=>exact⟨rfl,rfl,Ja20.out⟩
  case ma14=>
   go_simp
   go_at_call 233
   refine(TT.out _ (J0.out.into 0 rfl).props (J0.out.into 0 rfl).caps.2.2.2).mono ?_;rintro e' za22 ⟨rfl,hb⟩;have Ja22:=aa (J0.out.below hb);clear hb HS;have HS:=And.intro ((Ja22.out.cell 0 rfl 20).trans (cC _ _)) (And.intro ((Ja22.out.cell 0 rfl 21).trans (cn _ _)) (And.intro ((Ja22.out.cell 0 rfl 0).trans (cI _ _)) ((Ja22.out.cell 0 rfl 24).trans (bR _ _))))
   go_simp
   refine hK.out _ _ (fun _=>HS) ?_;clear hK K
   (try simp only[Act.put]);(try simp only[af]);(try simp only[am]);(try simp only[ak])
   refine cq (rs:=[7]) (by kernel_rfl) (by simp) (ep.cons rfl (fun K hK=>?_) ep.nil);have Ja23:=aa (Ja22.out.alloc (.cells #[.int .u8 (b0.toNat:Int),.int .u8 (b1.toNat:Int)] 5));have Ba23:=aa (aq (za22.alloc (.cells #[.int .u8 (b0.toNat:Int),.int .u8 (b1.toNat:Int)] 5)).heap.size (za22.alloc (.cells #[.int .u8 (b0.toNat:Int),.int .u8 (b1.toNat:Int)] 5)));have Ca23:=aa (fun(z:World) hb=>Iq (W:=za22) (z:=z) b0 b1 hb);clear HS
   have HS:=And.intro ((Ja23.out.cell 0 rfl 20).trans (cC _ _)) (And.intro ((Ja23.out.cell 0 rfl 21).trans (cn _ _)) (And.intro ((Ja23.out.cell 0 rfl 0).trans (cI _ _)) ((Ja23.out.cell 0 rfl 24).trans (bR _ _))))
   go_simp
   refine hK.out _ _ (fun _=>HS) ?_;clear hK K
   (try simp only[Act.put]);(try simp only[af]);(try simp only[am]);(try simp only[ak])
   refine cq (rs:=[8]) (by kernel_rfl) (by simp) (ep.cons rfl (fun K hK=>?_) ep.nil);have hcv:=Ca23.out _ Ba23.out
   go_simp
   refine hK.out _ _ (fun _=>HS) ?_;clear hK K hcv
   (try simp only[Act.put]);(try simp only[af]);(try simp only[am]);(try simp only[ak])
   refine aJ (i:=15) (v:=?va24) [] rfl (by kernel_rfl) (by kernel_rfl) (by kernel_rfl) (by kernel_rfl) (by kernel_rfl) (by kernel_rfl) (fun _ _ _ h=>h) (Or.inl ⟨by rfl,?ha24⟩) HS ?ra24
   case ha24=>intro w' hSw;(try dsimp only at hSw);go_simp;try with_reducible rfl
   (try simp only[Act.put]);(try simp only[af]);(try simp only[am]);(try simp only[ak])
   refine cq (rs:=[16]) (by kernel_rfl) (by simp) (ep.cons rfl (fun K hK=>?_) ep.nil)
   go_simp
   refine hK.out _ _ (fun _=>HS) ?_;clear hK K
   (try simp only[Act.put]);(try simp only[af]);(try simp only[am]);(try simp only[ak])
   refine cq (rs:=[17]) (by kernel_rfl) (by simp) (ep.cons rfl (fun K hK=>?_) ep.nil)
   go_simp
   refine hK.out _ _ (fun _=>HS) ?_;clear hK K
   (try simp only[Act.put]);(try simp only[af]);(try simp only[am]);(try simp only[ak])
   refine oh (by kernel_rfl) ?_ _
   go_wp2
   go_meet
   case rel=>exact⟨rfl,rfl,Ja23.out⟩
 obtain⟨rfl,rfl,hst⟩:=hcut
 go_wp2
 go_ret2
 refine⟨?_,hst.kept⟩;rw[HX.out,HQ2.out];rfl
theorem LI (n:Int) (h:0≤n∧n<256):∃b:UInt8,Hid (da n.toNat 1=[b])∧IntKind.u8.wrap n=(b.toNat:Int):=by
 refine⟨UInt8.ofNat n.toNat,aa (by simp[da]),?_⟩;rw[GM];simp[UInt8.toNat_ofNat'];omega
theorem Jl (a b:ByteArray):qK [a,b]=a++b:=by refine eX ?_;simp[qK,ls]
theorem Nt:qE ⟨#[77,81,84,84]⟩=i8:=by decide+kernel
theorem KL (v:Int) (p:Pk) (h:Hs) (w:World) (ip:PkIn w w.heap.size p h) (ok:PkOk p) (h2:p.kind≠2):
  Calls Tryz.prog 170 #[.int .i64 v,pkV p h] w fun e w'=>e= .returned (.tuple #[.string (if eR v p=0 then(EY v p,(0:Int))else(⟨#[]⟩,eR v p)).1,.int .i64 (if eR v p=0 then(EY v p,(0:Int))else(⟨#[]⟩,eR v p)).2])∧Below w.heap.size w w':=by
 have OK:=aa ok;have S0:=aa ((St.start w).push ip);obtain⟨B,hB⟩:∃B,(if eR v p=0 then(EY v p,(0:Int))else(⟨#[]⟩,eR v p))=B:=⟨_,rfl⟩;rw[hB];have HE:=aa hB.symm;have l0:=S0.out.ld 0 rfl;have H2:=aa h2;clear ip ok h2 hB
 go_enter Tryz.func170,Tryz.ntmps170
 go_wp2_with fail
 refine(Ic v p h _ (S0.out.into 0 rfl) OK.out).mono ?_;rintro e w1 ⟨rfl,hb⟩;have S1:=aa (S0.out.below hb);clear hb l0
 by_cases he:eR v p=0
 rotate_left
 ·have e0:(eR v p !=0)=true:=aA.2 he;have HX:Hid (B=(⟨#[]⟩,eR v p)):=aa (by rw[HE.out,ae he]);clear he
  go_wp2
  go_ret2
  exact⟨by rw[HX.out];rfl,S1.out.kept⟩
 have HX:Hid (B=(EY v p,0)):=aa (by rw[HE.out,if_pos he]);have HG:=aa (OO he H2.out);have HP:=aa (mM he);rw[he];obtain⟨b0,hb0,hw0⟩:=LI v (by have:=HG.out.2.1;omega);obtain⟨FQ,hFQ⟩:∃FQ,flQ p=FQ:=⟨_,rfl⟩;have HFQ:Hid (flN p=FQ):=aa (by rw[←hFQ];exact(if_pos HG.out.1).symm);have FF:Hid (∀x:World,Calls Tryz.prog 235 #[pkV p h] x fun e w'=>e= .returned (.int .i64 FQ)∧Below x.heap.size x w'):=aa (fun x=>by rw[←hFQ];exact KE p h x);clear hFQ;obtain⟨b1,hb1,hw1⟩:=LI FQ (by rw[←HFQ.out];exact NA p);obtain⟨an,han,hw3⟩:∃m:Nat,Hid (p.alive.toNat=m)∧IntKind.u64.wrap p.alive=(m:Int):=⟨_,aa rfl,by rw[iZ];have:=HG.out.2.2;omega⟩;have HAN:Hid (an<65536):=aa (by have:=han.out;have:=HG.out.2.2;omega);have HTS:=aa (Jr v p.kind p.props);have HCS:=aa (G9 p.client);have HQ1:Hid (yK v p=qK [i8,⟨(da v.toNat 1).toArray⟩,⟨(da (flN p).toNat 1).toArray⟩,⟨(da p.alive.toNat 2).toArray⟩,tW v p.kind p.props,qE p.client]):=aa rfl;rw[HFQ.out,han.out,hb0.out,hb1.out]at HQ1;have TT:=aa (fun(x:World) hr hc=>G5 v p.kind p.props _ rfl OK.out.props h.props.a h.props.c x hr OK.out.len.2.2.2 hc);simp only[ML]at TT;have N1:=aa (fun x:World=>He ⟨#[77,81,84,84]⟩ x (by decide));rw[Nt]at N1;have P3:=aa (fun x:World=>GV an 2 x (by have:=HAN.out;omega) (by omega) (by omega));have D4:=aa (fun x:World=>He p.client x (gL HP.out.2.1.1));rw[show((2:Nat):Int)=2 from rfl]at P3;obtain⟨T,hT⟩:∃T,tW v p.kind p.props=T:=⟨_,rfl⟩;obtain⟨M,hM⟩:∃X,i8=X:=⟨_,rfl⟩;obtain⟨X3,hX3⟩:∃X:ByteArray,(⟨(da an 2).toArray⟩:ByteArray)=X:=⟨_,rfl⟩;obtain⟨D1,hD1⟩:∃X:ByteArray,qE p.client=X:=⟨_,rfl⟩;rw[hT,hM,hX3,hD1]at HQ1;rw[hT]at TT HTS;rw[hM]at N1;rw[hX3]at P3;rw[hD1]at D4 HCS;have HX3S:X3.size=2:=by rw[←hX3,GW,fM]
 have HMS:M.size=6:=by rw[←hM];rfl
 have HL:=aa HMS;have HL3:=aa HX3S
 have HQ2:Hid (yK v p=M++⟨#[b0,b1]⟩++X3++T++D1):=aa (by
  rw[HQ1.out];refine eX ?_;simp[qK,ls])
 have HZ1:Hid ((yK v p).size≤131140700):=aa (by
  rw[HQ2.out];simp only[cK];have:=HTS.out;have:=HCS.out
  show M.size+2+X3.size+T.size+D1.size≤_;omega)
 have hs2:(⟨#[b0,b1]⟩:ByteArray).size=2:=rfl;have hsA:¬(9223372036854775807<10+T.size):=by have:=HTS.out;omega
 have hsB:¬(9223372036854775807<10+T.size+D1.size):=by have:=HTS.out;have:=HCS.out;omega
 have k0:=(S1.out.cell 0 rfl 0).trans (cI _ _);have e2:(p.kind==2)=false:=ar.2 H2.out;have HOK:Hid (p.user.size≤65535∧p.pass.size≤65535∧p.will.payload.size≤65535∧(p.hasWill=true→p.will.topic.size≤65535)):=aa ⟨gL HP.out.2.1.2,HP.out.2.2.2.1.2,HP.out.2.2.2.1.1,fun y=>gL (uV (HP.out.2.2.1 y))⟩;clear he hT hM hX3 hD1 HP
 go_wp2_with fail
 clear k0
 go_cut [7] (fun a wx=>a= .string (M++⟨#[b0,b1]⟩++X3++T++D1)∧St w [(w.heap.size,p,h)] wx)
 case first=>
  have J0:=aa S1.out.drew;obtain⟨WX,hWX⟩:∃W,w1.drew=W:=⟨_,rfl⟩;have HS:=And.intro (J0.out.ld 0 rfl) (And.intro ((J0.out.cell 0 rfl 0).trans (cI _ _)) (And.intro ((J0.out.cell 0 rfl 8).trans (dp _ _)) (And.intro ((J0.out.cell 0 rfl 9).trans (dn _ _)) ((J0.out.cell 0 rfl 24).trans (bR _ _)))));refine je (fun w'=>(kZ (.pointer (some ⟨w.heap.size,0,none⟩))).run Tryz.prog w'= .ok (pkV p h) w'∧w'.cell? ⟨w.heap.size,0,none⟩=some (.int .i64 p.kind)∧w'.cell? ⟨w.heap.size,8,none⟩=some (.int .i64 p.alive)∧w'.cell? ⟨w.heap.size,9,none⟩=some (.string p.client)∧w'.cell? ⟨w.heap.size,24,none⟩=some (.slice h.props.a p.props.length h.props.c)) [] (by kernel_rfl) ?_;rw[hWX]at J0 HS⊢;clear hWX;refine aJ (i:=1) (v:=?vb1) [] rfl (by kernel_rfl) (by kernel_rfl) (by kernel_rfl) (by kernel_rfl) (by kernel_rfl) (by kernel_rfl) (fun _ _ _ h=>h) (Or.inl ⟨by rfl,?hb1⟩) HS ?rb1
  case hb1=>intro w' hSw;(try dsimp only at hSw);go_simp;try with_reducible rfl
  (try simp only[Act.put]);(try simp only[af]);(try simp only[am]);(try simp only[ak])
  refine aJ (i:=2) (v:=?vb2) [] rfl (by kernel_rfl) (by kernel_rfl) (by kernel_rfl) (by kernel_rfl) (by kernel_rfl) (by kernel_rfl) (fun _ _ _ h=>h) (Or.inl ⟨by rfl,?hb2⟩) HS ?rb2
  case hb2=>intro w' hSw;(try dsimp only at hSw);go_simp;try with_reducible rfl
  (try simp only[Act.put]);(try simp only[af]);(try simp only[am]);(try simp only[ak])
  refine aJ (i:=3) (v:=?vb3) [] rfl (by kernel_rfl) (by kernel_rfl) (by kernel_rfl) (by kernel_rfl) (by kernel_rfl) (by kernel_rfl) (fun _ _ _ h=>h) (Or.inl ⟨by rfl,?hb3⟩) HS ?rb3
  case hb3=>intro w' hSw;(try dsimp only at hSw);go_simp;try with_reducible rfl
  (try simp only[Act.put]);(try simp only[af]);(try simp only[am]);(try simp only[ak])
  refine aJ (i:=9) (v:=?vb4) [] rfl (by kernel_rfl) (by kernel_rfl) (by kernel_rfl) (by kernel_rfl) (by kernel_rfl) (by kernel_rfl) (fun _ _ _ h=>h) (Or.inl ⟨by rfl,?hb4⟩) HS ?rb4
  case hb4=>intro w' hSw;(try dsimp only at hSw);go_simp;try with_reducible rfl
  (try simp only[Act.put]);(try simp only[af]);(try simp only[am]);(try simp only[ak])
  refine aJ (i:=10) (v:=?vb5) [] rfl (by kernel_rfl) (by kernel_rfl) (by kernel_rfl) (by kernel_rfl) (by kernel_rfl) (by kernel_rfl) (fun _ _ _ h=>h) (Or.inl ⟨by rfl,?hb5⟩) HS ?rb5
  case hb5=>intro w' hSw;(try dsimp only at hSw);go_simp;try with_reducible rfl
  (try simp only[Act.put]);(try simp only[af]);(try simp only[am]);(try simp only[ak])
  refine aJ (i:=11) (v:=?vb6) [] rfl (by kernel_rfl) (by kernel_rfl) (by kernel_rfl) (by kernel_rfl) (by kernel_rfl) (by kernel_rfl) (fun _ _ _ h=>h) (Or.inl ⟨by rfl,?hb6⟩) HS ?rb6
  case hb6=>intro w' hSw;(try dsimp only at hSw);go_simp;try with_reducible rfl
  (try simp only[Act.put]);(try simp only[af]);(try simp only[am]);(try simp only[ak])
  refine aJ (i:=14) (v:=?vb7) [] rfl (by kernel_rfl) (by kernel_rfl) (by kernel_rfl) (by kernel_rfl) (by kernel_rfl) (by kernel_rfl) (fun _ _ _ h=>h) (Or.inl ⟨by rfl,?hb7⟩) HS ?rb7
  case hb7=>intro w' hSw;(try dsimp only at hSw);go_simp;try with_reducible rfl
  (try simp only[Act.put]);(try simp only[af]);(try simp only[am]);(try simp only[ak])
  refine aJ (i:=15) (v:=?vb8) [] rfl (by kernel_rfl) (by kernel_rfl) (by kernel_rfl) (by kernel_rfl) (by kernel_rfl) (by kernel_rfl) (fun _ _ _ h=>h) (Or.inl ⟨by rfl,?hb8⟩) HS ?rb8
  case hb8=>intro w' hSw;(try dsimp only at hSw);go_simp;try with_reducible rfl
  (try simp only[Act.put]);(try simp only[af]);(try simp only[am]);(try simp only[ak])
  refine aJ (i:=16) (v:=?vb9) [] rfl (by kernel_rfl) (by kernel_rfl) (by kernel_rfl) (by kernel_rfl) (by kernel_rfl) (by kernel_rfl) (fun _ _ _ h=>h) (Or.inl ⟨by rfl,?hb9⟩) HS ?rb9
  case hb9=>intro w' hSw;(try dsimp only at hSw);go_simp;try with_reducible rfl
  (try simp only[Act.put]);(try simp only[af]);(try simp only[am]);(try simp only[ak])
  refine aJ (i:=17) (v:=?vb10) [] rfl (by kernel_rfl) (by kernel_rfl) (by kernel_rfl) (by kernel_rfl) (by kernel_rfl) (by kernel_rfl) (fun _ _ _ h=>h) (Or.inl ⟨by rfl,?hb10⟩) HS ?rb10
  case hb10=>intro w' hSw;(try dsimp only at hSw);go_simp;try with_reducible rfl
  (try simp only[Act.put]);(try simp only[af]);(try simp only[am]);(try simp only[ak])
  refine aJ (i:=18) (v:=?vb11) [] rfl (by kernel_rfl) (by kernel_rfl) (by kernel_rfl) (by kernel_rfl) (by kernel_rfl) (by kernel_rfl) (fun _ _ _ h=>h) (Or.inl ⟨by rfl,?hb11⟩) HS ?rb11
  case hb11=>intro w' hSw;(try dsimp only at hSw);go_simp;try with_reducible rfl
  (try simp only[Act.put]);(try simp only[af]);(try simp only[am]);(try simp only[ak])
  refine aJ (i:=21) (v:=?vb12) [] rfl (by kernel_rfl) (by kernel_rfl) (by kernel_rfl) (by kernel_rfl) (by kernel_rfl) (by kernel_rfl) (fun _ _ _ h=>h) (Or.inl ⟨by rfl,?hb12⟩) HS ?rb12
  case hb12=>intro w' hSw;(try dsimp only at hSw);go_simp;try with_reducible rfl
  (try simp only[Act.put]);(try simp only[af]);(try simp only[am]);(try simp only[ak])
  refine aJ (i:=22) (v:=?vb13) [] rfl (by kernel_rfl) (by kernel_rfl) (by kernel_rfl) (by kernel_rfl) (by kernel_rfl) (by kernel_rfl) (fun _ _ _ h=>h) (Or.inl ⟨by rfl,?hb13⟩) HS ?rb13
  case hb13=>intro w' hSw;(try dsimp only at hSw);go_simp;try with_reducible rfl
  (try simp only[Act.put]);(try simp only[af]);(try simp only[am]);(try simp only[ak])
  refine cq (rs:=[0]) (by kernel_rfl) (by simp) (ep.cons rfl (fun K hK=>?_) ep.nil)
  go_simp
  go_at_call 234
  refine(N1.out _).mono ?_;rintro e' zb14 ⟨rfl,hb⟩;have Jb14:=aa (J0.out.below hb);clear hb HS;have HS:=And.intro (Jb14.out.ld 0 rfl) (And.intro ((Jb14.out.cell 0 rfl 0).trans (cI _ _)) (And.intro ((Jb14.out.cell 0 rfl 8).trans (dp _ _)) (And.intro ((Jb14.out.cell 0 rfl 9).trans (dn _ _)) ((Jb14.out.cell 0 rfl 24).trans (bR _ _)))))
  go_simp
  refine hK.out _ _ (fun _=>HS) ?_;clear hK K
  (try simp only[Act.put]);(try simp only[af]);(try simp only[am]);(try simp only[ak])
  refine cq (rs:=[4]) (by kernel_rfl) (by simp) (ep.cons rfl (fun K hK=>?_) ep.nil)
  go_simp
  go_at_call 235
  refine(FF.out _).mono ?_;rintro e' zb15 ⟨rfl,hb⟩;have Jb15:=aa (Jb14.out.below hb);clear hb HS;have HS:=And.intro (Jb15.out.ld 0 rfl) (And.intro ((Jb15.out.cell 0 rfl 0).trans (cI _ _)) (And.intro ((Jb15.out.cell 0 rfl 8).trans (dp _ _)) (And.intro ((Jb15.out.cell 0 rfl 9).trans (dn _ _)) ((Jb15.out.cell 0 rfl 24).trans (bR _ _)))))
  go_simp
  refine hK.out _ _ (fun _=>HS) ?_;clear hK K
  (try simp only[Act.put]);(try simp only[af]);(try simp only[am]);(try simp only[ak])
  refine aJ (i:=5) (v:=?vb16) [] rfl (by kernel_rfl) (by kernel_rfl) (by kernel_rfl) (by kernel_rfl) (by kernel_rfl) (by kernel_rfl) (fun _ _ _ h=>h) (Or.inl ⟨by rfl,?hb16⟩) HS ?rb16
  case hb16=>intro w' hSw;(try dsimp only at hSw);go_simp;try with_reducible rfl
  (try simp only[Act.put]);(try simp only[af]);(try simp only[am]);(try simp only[ak])
  refine cq (rs:=[6,12]) (by kernel_rfl) (by simp) (ep.cons rfl (fun K hK=>?mb17) (ep.cons rfl (fun K hK=>?mb18) ep.nil))
  case mb17=>
   have Jb19:=aa (Jb15.out.alloc (.cells #[.int .u8 (b0.toNat:Int),.int .u8 (b1.toNat:Int)] 5));have Bb19:=aa (aq (zb15.alloc (.cells #[.int .u8 (b0.toNat:Int),.int .u8 (b1.toNat:Int)] 5)).heap.size (zb15.alloc (.cells #[.int .u8 (b0.toNat:Int),.int .u8 (b1.toNat:Int)] 5)));have Cb19:=aa (fun(z:World) hb=>Iq (W:=zb15) (z:=z) b0 b1 hb);clear HS
   have HS:=And.intro (Jb19.out.ld 0 rfl) (And.intro ((Jb19.out.cell 0 rfl 0).trans (cI _ _)) (And.intro ((Jb19.out.cell 0 rfl 8).trans (dp _ _)) (And.intro ((Jb19.out.cell 0 rfl 9).trans (dn _ _)) ((Jb19.out.cell 0 rfl 24).trans (bR _ _)))))
   go_simp
   refine hK.out _ _ (fun _=>HS) ?_;clear hK K
   (try simp only[Act.put]);(try simp only[af]);(try simp only[am]);(try simp only[ak])
   refine cq (rs:=[7,12]) (by kernel_rfl) (by simp) (ep.cons rfl (fun K hK=>?mb20) (ep.cons rfl (fun K hK=>?mb21) ep.nil))
   case mb20=>
    have hcv:=Cb19.out _ Bb19.out
    go_simp
    refine hK.out _ _ (fun _=>HS) ?_;clear hK K hcv
    (try simp only[Act.put]);(try simp only[af]);(try simp only[am]);(try simp only[ak])
    refine aJ (i:=8) (v:=?vb22) [] rfl (by kernel_rfl) (by kernel_rfl) (by kernel_rfl) (by kernel_rfl) (by kernel_rfl) (by kernel_rfl) (fun _ _ _ h=>h) (Or.inl ⟨by rfl,?hb22⟩) HS ?rb22
    case hb22=>intro w' hSw;(try dsimp only at hSw);go_simp;try with_reducible rfl
    (try simp only[Act.put]);(try simp only[af]);(try simp only[am]);(try simp only[ak])
    refine cq (rs:=[12]) (by kernel_rfl) (by simp) (ep.cons rfl (fun K hK=>?_) ep.nil)
    go_simp
    go_at_call 123
    refine(P3.out _).mono ?_;rintro e' zb23 ⟨rfl,hb⟩;have Jb23:=aa (Jb19.out.below hb);clear hb HS;have HS:=And.intro (Jb23.out.ld 0 rfl) (And.intro ((Jb23.out.cell 0 rfl 0).trans (cI _ _)) (And.intro ((Jb23.out.cell 0 rfl 8).trans (dp _ _)) (And.intro ((Jb23.out.cell 0 rfl 9).trans (dn _ _)) ((Jb23.out.cell 0 rfl 24).trans (bR _ _)))))
    go_simp
    refine hK.out _ _ (fun _=>HS) ?_;clear hK K
    (try simp only[Act.put]);(try simp only[af]);(try simp only[am]);(try simp only[ak])
    refine aJ (i:=13) (v:=?vb24) [] rfl (by kernel_rfl) (by kernel_rfl) (by kernel_rfl) (by kernel_rfl) (by kernel_rfl) (by kernel_rfl) (fun _ _ _ h=>h) (Or.inl ⟨by rfl,?hb24⟩) HS ?rb24
    case hb24=>intro w' hSw;(try dsimp only at hSw);go_simp;try with_reducible rfl
    (try simp only[Act.put]);(try simp only[af]);(try simp only[am]);(try simp only[ak])
    refine cq (rs:=[19]) (by kernel_rfl) (by simp) (ep.cons rfl (fun K hK=>?_) ep.nil)
    go_simp
    go_at_call 233
    refine(TT.out _ (Jb23.out.into 0 rfl).props (Jb23.out.into 0 rfl).caps.2.2.2).mono ?_;rintro e' zb25 ⟨rfl,hb⟩;have Jb25:=aa (Jb23.out.below hb);clear hb HS;have HS:=And.intro (Jb25.out.ld 0 rfl) (And.intro ((Jb25.out.cell 0 rfl 0).trans (cI _ _)) (And.intro ((Jb25.out.cell 0 rfl 8).trans (dp _ _)) (And.intro ((Jb25.out.cell 0 rfl 9).trans (dn _ _)) ((Jb25.out.cell 0 rfl 24).trans (bR _ _)))))
    go_simp
    refine hK.out _ _ (fun _=>HS) ?_;clear hK K
    (try simp only[Act.put]);(try simp only[af]);(try simp only[am]);(try simp only[ak])
    refine aJ (i:=20) (v:=?vb26) [] rfl (by kernel_rfl) (by kernel_rfl) (by kernel_rfl) (by kernel_rfl) (by kernel_rfl) (by kernel_rfl) (fun _ _ _ h=>h) (Or.inl ⟨by rfl,?hb26⟩) HS ?rb26
    case hb26=>intro w' hSw;(try dsimp only at hSw);go_simp;try with_reducible rfl
    (try simp only[Act.put]);(try simp only[af]);(try simp only[am]);(try simp only[ak])
    refine cq (rs:=[23]) (by kernel_rfl) (by simp) (ep.cons rfl (fun K hK=>?_) ep.nil)
    go_simp
    go_at_call 234
    refine(D4.out _).mono ?_;rintro e' zb27 ⟨rfl,hb⟩;have Jb27:=aa (Jb25.out.below hb);clear hb HS;have HS:=And.intro (Jb27.out.ld 0 rfl) (And.intro ((Jb27.out.cell 0 rfl 0).trans (cI _ _)) (And.intro ((Jb27.out.cell 0 rfl 8).trans (dp _ _)) (And.intro ((Jb27.out.cell 0 rfl 9).trans (dn _ _)) ((Jb27.out.cell 0 rfl 24).trans (bR _ _)))))
    go_simp
    refine hK.out _ _ (fun _=>HS) ?_;clear hK K
    (try simp only[Act.put]);(try simp only[af]);(try simp only[am]);(try simp only[ak])
    refine aJ (i:=24) (v:=?vb28) [] rfl (by kernel_rfl) (by kernel_rfl) (by kernel_rfl) (by kernel_rfl) (by kernel_rfl) (by kernel_rfl) (fun _ _ _ h=>h) (Or.inl ⟨by rfl,?hb28⟩) HS ?rb28
    case hb28=>intro w' hSw;(try dsimp only at hSw);go_simp;try with_reducible rfl
    (try simp only[Act.put]);(try simp only[af]);(try simp only[am]);(try simp only[ak])
    refine cq (rs:=[25]) (by kernel_rfl) (by simp) (ep.cons rfl (fun K hK=>?_) ep.nil)
    go_simp
    refine hK.out _ _ (fun _=>HS) ?_;clear hK K
    (try simp only[Act.put]);(try simp only[af]);(try simp only[am]);(try simp only[ak])
    refine oh (by kernel_rfl) ?_ _
    go_wp2
    go_meet
    case rel=>exact⟨rfl,Jb27.out⟩
   case mb21=>
    go_simp
    go_at_call 123
    refine(P3.out _).mono ?_;rintro e' zb29 ⟨rfl,hb⟩;have Jb29:=aa (Jb19.out.below hb);have Bb29:=aa (Bb19.out.trans (hb.mono Bb19.out.size));clear hb HS;have HS:=And.intro (Jb29.out.ld 0 rfl) (And.intro ((Jb29.out.cell 0 rfl 0).trans (cI _ _)) (And.intro ((Jb29.out.cell 0 rfl 8).trans (dp _ _)) (And.intro ((Jb29.out.cell 0 rfl 9).trans (dn _ _)) ((Jb29.out.cell 0 rfl 24).trans (bR _ _)))))
    go_simp
    refine hK.out _ _ (fun _=>HS) ?_;clear hK K
    (try simp only[Act.put]);(try simp only[af]);(try simp only[am]);(try simp only[ak])
    refine cq (rs:=[7,19]) (by kernel_rfl) (by simp) (ep.cons rfl (fun K hK=>?mb30) (ep.cons rfl (fun K hK=>?mb31) ep.nil))
    case mb30=>
     have hcv:=Cb19.out _ Bb29.out
     go_simp
     refine hK.out _ _ (fun _=>HS) ?_;clear hK K hcv
     (try simp only[Act.put]);(try simp only[af]);(try simp only[am]);(try simp only[ak])
     refine aJ (i:=8) (v:=?vb32) [] rfl (by kernel_rfl) (by kernel_rfl) (by kernel_rfl) (by kernel_rfl) (by kernel_rfl) (by kernel_rfl) (fun _ _ _ h=>h) (Or.inl ⟨by rfl,?hb32⟩) HS ?rb32
     case hb32=>intro w' hSw;(try dsimp only at hSw);go_simp;try with_reducible rfl
     (try simp only[Act.put]);(try simp only[af]);(try simp only[am]);(try simp only[ak])
     refine aJ (i:=13) (v:=?vb33) [] rfl (by kernel_rfl) (by kernel_rfl) (by kernel_rfl) (by kernel_rfl) (by kernel_rfl) (by kernel_rfl) (fun _ _ _ h=>h) (Or.inl ⟨by rfl,?hb33⟩) HS ?rb33
     case hb33=>intro w' hSw;(try dsimp only at hSw);go_simp;try with_reducible rfl
     (try simp only[Act.put]);(try simp only[af]);(try simp only[am]);(try simp only[ak])
     refine cq (rs:=[19]) (by kernel_rfl) (by simp) (ep.cons rfl (fun K hK=>?_) ep.nil)
     go_simp
     go_at_call 233
     refine(TT.out _ (Jb29.out.into 0 rfl).props (Jb29.out.into 0 rfl).caps.2.2.2).mono ?_;rintro e' zb34 ⟨rfl,hb⟩;have Jb34:=aa (Jb29.out.below hb);clear hb HS;have HS:=And.intro (Jb34.out.ld 0 rfl) (And.intro ((Jb34.out.cell 0 rfl 0).trans (cI _ _)) (And.intro ((Jb34.out.cell 0 rfl 8).trans (dp _ _)) (And.intro ((Jb34.out.cell 0 rfl 9).trans (dn _ _)) ((Jb34.out.cell 0 rfl 24).trans (bR _ _)))))
     go_simp
     refine hK.out _ _ (fun _=>HS) ?_;clear hK K
     (try simp only[Act.put]);(try simp only[af]);(try simp only[am]);(try simp only[ak])
     refine aJ (i:=20) (v:=?vb35) [] rfl (by kernel_rfl) (by kernel_rfl) (by kernel_rfl) (by kernel_rfl) (by kernel_rfl) (by kernel_rfl) (fun _ _ _ h=>h) (Or.inl ⟨by rfl,?hb35⟩) HS ?rb35
     case hb35=>intro w' hSw;(try dsimp only at hSw);go_simp;try with_reducible rfl
     (try simp only[Act.put]);(try simp only[af]);(try simp only[am]);(try simp only[ak])
     refine cq (rs:=[23]) (by kernel_rfl) (by simp) (ep.cons rfl (fun K hK=>?_) ep.nil)
     go_simp
     go_at_call 234
     refine(D4.out _).mono ?_;rintro e' zb36 ⟨rfl,hb⟩;have Jb36:=aa (Jb34.out.below hb);clear hb HS;have HS:=And.intro (Jb36.out.ld 0 rfl) (And.intro ((Jb36.out.cell 0 rfl 0).trans (cI _ _)) (And.intro ((Jb36.out.cell 0 rfl 8).trans (dp _ _)) (And.intro ((Jb36.out.cell 0 rfl 9).trans (dn _ _)) ((Jb36.out.cell 0 rfl 24).trans (bR _ _)))))
     go_simp
     refine hK.out _ _ (fun _=>HS) ?_;clear hK K
     (try simp only[Act.put]);(try simp only[af]);(try simp only[am]);(try simp only[ak])
     refine aJ (i:=24) (v:=?vb37) [] rfl (by kernel_rfl) (by kernel_rfl) (by kernel_rfl) (by kernel_rfl) (by kernel_rfl) (by kernel_rfl) (fun _ _ _ h=>h) (Or.inl ⟨by rfl,?hb37⟩) HS ?rb37
     case hb37=>intro w' hSw;(try dsimp only at hSw);go_simp;try with_reducible rfl
     (try simp only[Act.put]);(try simp only[af]);(try simp only[am]);(try simp only[ak])
     refine cq (rs:=[25]) (by kernel_rfl) (by simp) (ep.cons rfl (fun K hK=>?_) ep.nil)
     go_simp
     refine hK.out _ _ (fun _=>HS) ?_;clear hK K
     (try simp only[Act.put]);(try simp only[af]);(try simp only[am]);(try simp only[ak])
     refine oh (by kernel_rfl) ?_ _
     go_wp2
     go_meet
     case rel=>exact⟨rfl,Jb36.out⟩
    case mb31=>
     go_simp
     go_at_call 233
     refine(TT.out _ (Jb29.out.into 0 rfl).props (Jb29.out.into 0 rfl).caps.2.2.2).mono ?_;rintro e' zb38 ⟨rfl,hb⟩;have Jb38:=aa (Jb29.out.below hb);have Bb38:=aa (Bb29.out.trans (hb.mono Bb29.out.size));clear hb HS;have HS:=And.intro (Jb38.out.ld 0 rfl) (And.intro ((Jb38.out.cell 0 rfl 0).trans (cI _ _)) (And.intro ((Jb38.out.cell 0 rfl 8).trans (dp _ _)) (And.intro ((Jb38.out.cell 0 rfl 9).trans (dn _ _)) ((Jb38.out.cell 0 rfl 24).trans (bR _ _)))))
     go_simp
     refine hK.out _ _ (fun _=>HS) ?_;clear hK K
     (try simp only[Act.put]);(try simp only[af]);(try simp only[am]);(try simp only[ak])
     refine cq (rs:=[7,23]) (by kernel_rfl) (by simp) (ep.cons rfl (fun K hK=>?mb39) (ep.cons rfl (fun K hK=>?mb40) ep.nil))
     case mb39=>
      have hcv:=Cb19.out _ Bb38.out
      go_simp
      refine hK.out _ _ (fun _=>HS) ?_;clear hK K hcv
      (try simp only[Act.put]);(try simp only[af]);(try simp only[am]);(try simp only[ak])
      refine aJ (i:=8) (v:=?vb41) [] rfl (by kernel_rfl) (by kernel_rfl) (by kernel_rfl) (by kernel_rfl) (by kernel_rfl) (by kernel_rfl) (fun _ _ _ h=>h) (Or.inl ⟨by rfl,?hb41⟩) HS ?rb41
      case hb41=>intro w' hSw;(try dsimp only at hSw);go_simp;try with_reducible rfl
      (try simp only[Act.put]);(try simp only[af]);(try simp only[am]);(try simp only[ak])
      refine aJ (i:=13) (v:=?vb42) [] rfl (by kernel_rfl) (by kernel_rfl) (by kernel_rfl) (by kernel_rfl) (by kernel_rfl) (by kernel_rfl) (fun _ _ _ h=>h) (Or.inl ⟨by rfl,?hb42⟩) HS ?rb42
      case hb42=>intro w' hSw;(try dsimp only at hSw);go_simp;try with_reducible rfl
      (try simp only[Act.put]);(try simp only[af]);(try simp only[am]);(try simp only[ak])
      refine aJ (i:=20) (v:=?vb43) [] rfl (by kernel_rfl) (by kernel_rfl) (by kernel_rfl) (by kernel_rfl) (by kernel_rfl) (by kernel_rfl) (fun _ _ _ h=>h) (Or.inl ⟨by rfl,?hb43⟩) HS ?rb43
      case hb43=>intro w' hSw;(try dsimp only at hSw);go_simp;try with_reducible rfl
      (try simp only[Act.put]);(try simp only[af]);(try simp only[am]);(try simp only[ak])
      refine cq (rs:=[23]) (by kernel_rfl) (by simp) (ep.cons rfl (fun K hK=>?_) ep.nil)
      go_simp
      go_at_call 234
      refine(D4.out _).mono ?_;rintro e' zb44 ⟨rfl,hb⟩;have Jb44:=aa (Jb38.out.below hb);clear hb HS;have HS:=And.intro (Jb44.out.ld 0 rfl) (And.intro ((Jb44.out.cell 0 rfl 0).trans (cI _ _)) (And.intro ((Jb44.out.cell 0 rfl 8).trans (dp _ _)) (And.intro ((Jb44.out.cell 0 rfl 9).trans (dn _ _)) ((Jb44.out.cell 0 rfl 24).trans (bR _ _)))))
      go_simp
      refine hK.out _ _ (fun _=>HS) ?_;clear hK K
      (try simp only[Act.put]);(try simp only[af]);(try simp only[am]);(try simp only[ak])
      refine aJ (i:=24) (v:=?vb45) [] rfl (by kernel_rfl) (by kernel_rfl) (by kernel_rfl) (by kernel_rfl) (by kernel_rfl) (by kernel_rfl) (fun _ _ _ h=>h) (Or.inl ⟨by rfl,?hb45⟩) HS ?rb45
      case hb45=>intro w' hSw;(try dsimp only at hSw);go_simp;try with_reducible rfl
      (try simp only[Act.put]);(try simp only[af]);(try simp only[am]);(try simp only[ak])
      refine cq (rs:=[25]) (by kernel_rfl) (by simp) (ep.cons rfl (fun K hK=>?_) ep.nil)
      go_simp
      refine hK.out _ _ (fun _=>HS) ?_;clear hK K
      (try simp only[Act.put]);(try simp only[af]);(try simp only[am]);(try simp only[ak])
      refine oh (by kernel_rfl) ?_ _
      go_wp2
      go_meet
      case rel=>exact⟨rfl,Jb44.out⟩
     case mb40=>
      go_simp
      go_at_call 234
      refine(D4.out _).mono ?_;rintro e' zb46 ⟨rfl,hb⟩;have Jb46:=aa (Jb38.out.below hb);have Bb46:=aa (Bb38.out.trans (hb.mono Bb38.out.size));clear hb HS;have HS:=And.intro (Jb46.out.ld 0 rfl) (And.intro ((Jb46.out.cell 0 rfl 0).trans (cI _ _)) (And.intro ((Jb46.out.cell 0 rfl 8).trans (dp _ _)) (And.intro ((Jb46.out.cell 0 rfl 9).trans (dn _ _)) ((Jb46.out.cell 0 rfl 24).trans (bR _ _)))))
      go_simp
      refine hK.out _ _ (fun _=>HS) ?_;clear hK K
      (try simp only[Act.put]);(try simp only[af]);(try simp only[am]);(try simp only[ak])
      refine cq (rs:=[7]) (by kernel_rfl) (by simp) (ep.cons rfl (fun K hK=>?_) ep.nil);have hcv:=Cb19.out _ Bb46.out
      go_simp
      refine hK.out _ _ (fun _=>HS) ?_;clear hK K hcv
      (try simp only[Act.put]);(try simp only[af]);(try simp only[am]);(try simp only[ak])
      refine aJ (i:=8) (v:=?vb47) [] rfl (by kernel_rfl) (by kernel_rfl) (by kernel_rfl) (by kernel_rfl) (by kernel_rfl) (by kernel_rfl) (fun _ _ _ h=>h) (Or.inl ⟨by rfl,?hb47⟩) HS ?rb47
      case hb47=>intro w' hSw;(try dsimp only at hSw);go_simp;try with_reducible rfl
      (try simp only[Act.put]);(try simp only[af]);(try simp only[am]);(try simp only[ak])
      refine aJ (i:=13) (v:=?vb48) [] rfl (by kernel_rfl) (by kernel_rfl) (by kernel_rfl) (by kernel_rfl) (by kernel_rfl) (by kernel_rfl) (fun _ _ _ h=>h) (Or.inl ⟨by rfl,?hb48⟩) HS ?rb48
      case hb48=>intro w' hSw;(try dsimp only at hSw);go_simp;try with_reducible rfl
      (try simp only[Act.put]);(try simp only[af]);(try simp only[am]);(try simp only[ak])
      refine aJ (i:=20) (v:=?vb49) [] rfl (by kernel_rfl) (by kernel_rfl) (by kernel_rfl) (by kernel_rfl) (by kernel_rfl) (by kernel_rfl) (fun _ _ _ h=>h) (Or.inl ⟨by rfl,?hb49⟩) HS ?rb49
      case hb49=>intro w' hSw;(try dsimp only at hSw);go_simp;try with_reducible rfl
      (try simp only[Act.put]);(try simp only[af]);(try simp only[am]);(try simp only[ak])
      refine aJ (i:=24) (v:=?vb50) [] rfl (by kernel_rfl) (by kernel_rfl) (by kernel_rfl) (by kernel_rfl) (by kernel_rfl) (by kernel_rfl) (fun _ _ _ h=>h) (Or.inl ⟨by rfl,?hb50⟩) HS ?rb50
      case hb50=>intro w' hSw;(try dsimp only at hSw);go_simp;try with_reducible rfl
      (try simp only[Act.put]);(try simp only[af]);(try simp only[am]);(try simp only[ak])
      refine cq (rs:=[25]) (by kernel_rfl) (by simp) (ep.cons rfl (fun K hK=>?_) ep.nil)
      go_simp
      refine hK.out _ _ (fun _=>HS) ?_;clear hK K
      (try simp only[Act.put]);(try simp only[af]);(try simp only[am]);(try simp only[ak])
      refine oh (by kernel_rfl) ?_ _
      go_wp2
      go_meet
      case rel=>exact⟨rfl,Jb46.out⟩
  case mb18=>
   go_simp
   go_at_call 123
   refine(P3.out _).mono ?_;rintro e' zb51 ⟨rfl,hb⟩;have Jb51:=aa (Jb15.out.below hb);clear hb HS;have HS:=And.intro (Jb51.out.ld 0 rfl) (And.intro ((Jb51.out.cell 0 rfl 0).trans (cI _ _)) (And.intro ((Jb51.out.cell 0 rfl 8).trans (dp _ _)) (And.intro ((Jb51.out.cell 0 rfl 9).trans (dn _ _)) ((Jb51.out.cell 0 rfl 24).trans (bR _ _)))))
   go_simp
   refine hK.out _ _ (fun _=>HS) ?_;clear hK K
   (try simp only[Act.put]);(try simp only[af]);(try simp only[am]);(try simp only[ak])
   refine cq (rs:=[6,19]) (by kernel_rfl) (by simp) (ep.cons rfl (fun K hK=>?mb52) (ep.cons rfl (fun K hK=>?mb53) ep.nil))
   case mb52=>
    have Jb54:=aa (Jb51.out.alloc (.cells #[.int .u8 (b0.toNat:Int),.int .u8 (b1.toNat:Int)] 5));have Bb54:=aa (aq (zb51.alloc (.cells #[.int .u8 (b0.toNat:Int),.int .u8 (b1.toNat:Int)] 5)).heap.size (zb51.alloc (.cells #[.int .u8 (b0.toNat:Int),.int .u8 (b1.toNat:Int)] 5)));have Cb54:=aa (fun(z:World) hb=>Iq (W:=zb51) (z:=z) b0 b1 hb);clear HS
    have HS:=And.intro (Jb54.out.ld 0 rfl) (And.intro ((Jb54.out.cell 0 rfl 0).trans (cI _ _)) (And.intro ((Jb54.out.cell 0 rfl 8).trans (dp _ _)) (And.intro ((Jb54.out.cell 0 rfl 9).trans (dn _ _)) ((Jb54.out.cell 0 rfl 24).trans (bR _ _)))))
    go_simp
    refine hK.out _ _ (fun _=>HS) ?_;clear hK K
    (try simp only[Act.put]);(try simp only[af]);(try simp only[am]);(try simp only[ak])
    refine cq (rs:=[7,19]) (by kernel_rfl) (by simp) (ep.cons rfl (fun K hK=>?mb55) (ep.cons rfl (fun K hK=>?mb56) ep.nil))
    case mb55=>
     have hcv:=Cb54.out _ Bb54.out
     go_simp
     refine hK.out _ _ (fun _=>HS) ?_;clear hK K hcv
     (try simp only[Act.put]);(try simp only[af]);(try simp only[am]);(try simp only[ak])
     refine aJ (i:=8) (v:=?vb57) [] rfl (by kernel_rfl) (by kernel_rfl) (by kernel_rfl) (by kernel_rfl) (by kernel_rfl) (by kernel_rfl) (fun _ _ _ h=>h) (Or.inl ⟨by rfl,?hb57⟩) HS ?rb57
     case hb57=>intro w' hSw;(try dsimp only at hSw);go_simp;try with_reducible rfl
     (try simp only[Act.put]);(try simp only[af]);(try simp only[am]);(try simp only[ak])
     refine aJ (i:=13) (v:=?vb58) [] rfl (by kernel_rfl) (by kernel_rfl) (by kernel_rfl) (by kernel_rfl) (by kernel_rfl) (by kernel_rfl) (fun _ _ _ h=>h) (Or.inl ⟨by rfl,?hb58⟩) HS ?rb58
     case hb58=>intro w' hSw;(try dsimp only at hSw);go_simp;try with_reducible rfl
     (try simp only[Act.put]);(try simp only[af]);(try simp only[am]);(try simp only[ak])
     refine cq (rs:=[19]) (by kernel_rfl) (by simp) (ep.cons rfl (fun K hK=>?_) ep.nil)
     go_simp
     go_at_call 233
     refine(TT.out _ (Jb54.out.into 0 rfl).props (Jb54.out.into 0 rfl).caps.2.2.2).mono ?_;rintro e' zb59 ⟨rfl,hb⟩;have Jb59:=aa (Jb54.out.below hb);clear hb HS;have HS:=And.intro (Jb59.out.ld 0 rfl) (And.intro ((Jb59.out.cell 0 rfl 0).trans (cI _ _)) (And.intro ((Jb59.out.cell 0 rfl 8).trans (dp _ _)) (And.intro ((Jb59.out.cell 0 rfl 9).trans (dn _ _)) ((Jb59.out.cell 0 rfl 24).trans (bR _ _)))))
     go_simp
     refine hK.out _ _ (fun _=>HS) ?_;clear hK K
     (try simp only[Act.put]);(try simp only[af]);(try simp only[am]);(try simp only[ak])
     refine aJ (i:=20) (v:=?vb60) [] rfl (by kernel_rfl) (by kernel_rfl) (by kernel_rfl) (by kernel_rfl) (by kernel_rfl) (by kernel_rfl) (fun _ _ _ h=>h) (Or.inl ⟨by rfl,?hb60⟩) HS ?rb60
     case hb60=>intro w' hSw;(try dsimp only at hSw);go_simp;try with_reducible rfl
     (try simp only[Act.put]);(try simp only[af]);(try simp only[am]);(try simp only[ak])
     refine cq (rs:=[23]) (by kernel_rfl) (by simp) (ep.cons rfl (fun K hK=>?_) ep.nil)
     go_simp
     go_at_call 234
     refine(D4.out _).mono ?_;rintro e' zb61 ⟨rfl,hb⟩;have Jb61:=aa (Jb59.out.below hb);clear hb HS;have HS:=And.intro (Jb61.out.ld 0 rfl) (And.intro ((Jb61.out.cell 0 rfl 0).trans (cI _ _)) (And.intro ((Jb61.out.cell 0 rfl 8).trans (dp _ _)) (And.intro ((Jb61.out.cell 0 rfl 9).trans (dn _ _)) ((Jb61.out.cell 0 rfl 24).trans (bR _ _)))))
     go_simp
     refine hK.out _ _ (fun _=>HS) ?_;clear hK K
     (try simp only[Act.put]);(try simp only[af]);(try simp only[am]);(try simp only[ak])
     refine aJ (i:=24) (v:=?vb62) [] rfl (by kernel_rfl) (by kernel_rfl) (by kernel_rfl) (by kernel_rfl) (by kernel_rfl) (by kernel_rfl) (fun _ _ _ h=>h) (Or.inl ⟨by rfl,?hb62⟩) HS ?rb62
     case hb62=>intro w' hSw;(try dsimp only at hSw);go_simp;try with_reducible rfl
     (try simp only[Act.put]);(try simp only[af]);(try simp only[am]);(try simp only[ak])
     refine cq (rs:=[25]) (by kernel_rfl) (by simp) (ep.cons rfl (fun K hK=>?_) ep.nil)
     go_simp
     refine hK.out _ _ (fun _=>HS) ?_;clear hK K
     (try simp only[Act.put]);(try simp only[af]);(try simp only[am]);(try simp only[ak])
     refine oh (by kernel_rfl) ?_ _
     go_wp2
     go_meet
     case rel=>exact⟨rfl,Jb61.out⟩
    case mb56=>
     go_simp
     go_at_call 233
     refine(TT.out _ (Jb54.out.into 0 rfl).props (Jb54.out.into 0 rfl).caps.2.2.2).mono ?_;rintro e' zb63 ⟨rfl,hb⟩;have Jb63:=aa (Jb54.out.below hb);have Bb63:=aa (Bb54.out.trans (hb.mono Bb54.out.size));clear hb HS;have HS:=And.intro (Jb63.out.ld 0 rfl) (And.intro ((Jb63.out.cell 0 rfl 0).trans (cI _ _)) (And.intro ((Jb63.out.cell 0 rfl 8).trans (dp _ _)) (And.intro ((Jb63.out.cell 0 rfl 9).trans (dn _ _)) ((Jb63.out.cell 0 rfl 24).trans (bR _ _)))))
     go_simp
     refine hK.out _ _ (fun _=>HS) ?_;clear hK K
     (try simp only[Act.put]);(try simp only[af]);(try simp only[am]);(try simp only[ak])
     refine cq (rs:=[7,23]) (by kernel_rfl) (by simp) (ep.cons rfl (fun K hK=>?mb64) (ep.cons rfl (fun K hK=>?mb65) ep.nil))
     case mb64=>
      have hcv:=Cb54.out _ Bb63.out
      go_simp
      refine hK.out _ _ (fun _=>HS) ?_;clear hK K hcv
      (try simp only[Act.put]);(try simp only[af]);(try simp only[am]);(try simp only[ak])
      refine aJ (i:=8) (v:=?vb66) [] rfl (by kernel_rfl) (by kernel_rfl) (by kernel_rfl) (by kernel_rfl) (by kernel_rfl) (by kernel_rfl) (fun _ _ _ h=>h) (Or.inl ⟨by rfl,?hb66⟩) HS ?rb66
      case hb66=>intro w' hSw;(try dsimp only at hSw);go_simp;try with_reducible rfl
      (try simp only[Act.put]);(try simp only[af]);(try simp only[am]);(try simp only[ak])
      refine aJ (i:=13) (v:=?vb67) [] rfl (by kernel_rfl) (by kernel_rfl) (by kernel_rfl) (by kernel_rfl) (by kernel_rfl) (by kernel_rfl) (fun _ _ _ h=>h) (Or.inl ⟨by rfl,?hb67⟩) HS ?rb67
      case hb67=>intro w' hSw;(try dsimp only at hSw);go_simp;try with_reducible rfl
      (try simp only[Act.put]);(try simp only[af]);(try simp only[am]);(try simp only[ak])
      refine aJ (i:=20) (v:=?vb68) [] rfl (by kernel_rfl) (by kernel_rfl) (by kernel_rfl) (by kernel_rfl) (by kernel_rfl) (by kernel_rfl) (fun _ _ _ h=>h) (Or.inl ⟨by rfl,?hb68⟩) HS ?rb68
      case hb68=>intro w' hSw;(try dsimp only at hSw);go_simp;try with_reducible rfl
      (try simp only[Act.put]);(try simp only[af]);(try simp only[am]);(try simp only[ak])
      refine cq (rs:=[23]) (by kernel_rfl) (by simp) (ep.cons rfl (fun K hK=>?_) ep.nil)
      go_simp
      go_at_call 234
      refine(D4.out _).mono ?_;rintro e' zb69 ⟨rfl,hb⟩;have Jb69:=aa (Jb63.out.below hb);clear hb HS;have HS:=And.intro (Jb69.out.ld 0 rfl) (And.intro ((Jb69.out.cell 0 rfl 0).trans (cI _ _)) (And.intro ((Jb69.out.cell 0 rfl 8).trans (dp _ _)) (And.intro ((Jb69.out.cell 0 rfl 9).trans (dn _ _)) ((Jb69.out.cell 0 rfl 24).trans (bR _ _)))))
      go_simp
      refine hK.out _ _ (fun _=>HS) ?_;clear hK K
      (try simp only[Act.put]);(try simp only[af]);(try simp only[am]);(try simp only[ak])
      refine aJ (i:=24) (v:=?vb70) [] rfl (by kernel_rfl) (by kernel_rfl) (by kernel_rfl) (by kernel_rfl) (by kernel_rfl) (by kernel_rfl) (fun _ _ _ h=>h) (Or.inl ⟨by rfl,?hb70⟩) HS ?rb70
      case hb70=>intro w' hSw;(try dsimp only at hSw);go_simp;try with_reducible rfl
      (try simp only[Act.put]);(try simp only[af]);(try simp only[am]);(try simp only[ak])
      refine cq (rs:=[25]) (by kernel_rfl) (by simp) (ep.cons rfl (fun K hK=>?_) ep.nil)
      go_simp
      refine hK.out _ _ (fun _=>HS) ?_;clear hK K
      (try simp only[Act.put]);(try simp only[af]);(try simp only[am]);(try simp only[ak])
      refine oh (by kernel_rfl) ?_ _
      go_wp2
      go_meet
      case rel=>exact⟨rfl,Jb69.out⟩
     case mb65=>
      go_simp
      go_at_call 234
      refine(D4.out _).mono ?_;rintro e' zb71 ⟨rfl,hb⟩;have Jb71:=aa (Jb63.out.below hb);have Bb71:=aa (Bb63.out.trans (hb.mono Bb63.out.size));clear hb HS;have HS:=And.intro (Jb71.out.ld 0 rfl) (And.intro ((Jb71.out.cell 0 rfl 0).trans (cI _ _)) (And.intro ((Jb71.out.cell 0 rfl 8).trans (dp _ _)) (And.intro ((Jb71.out.cell 0 rfl 9).trans (dn _ _)) ((Jb71.out.cell 0 rfl 24).trans (bR _ _)))))
      go_simp
      refine hK.out _ _ (fun _=>HS) ?_;clear hK K
      (try simp only[Act.put]);(try simp only[af]);(try simp only[am]);(try simp only[ak])
      refine cq (rs:=[7]) (by kernel_rfl) (by simp) (ep.cons rfl (fun K hK=>?_) ep.nil);have hcv:=Cb54.out _ Bb71.out
      go_simp
      refine hK.out _ _ (fun _=>HS) ?_;clear hK K hcv
      (try simp only[Act.put]);(try simp only[af]);(try simp only[am]);(try simp only[ak])
      refine aJ (i:=8) (v:=?vb72) [] rfl (by kernel_rfl) (by kernel_rfl) (by kernel_rfl) (by kernel_rfl) (by kernel_rfl) (by kernel_rfl) (fun _ _ _ h=>h) (Or.inl ⟨by rfl,?hb72⟩) HS ?rb72
      case hb72=>intro w' hSw;(try dsimp only at hSw);go_simp;try with_reducible rfl
      (try simp only[Act.put]);(try simp only[af]);(try simp only[am]);(try simp only[ak])
      refine aJ (i:=13) (v:=?vb73) [] rfl (by kernel_rfl) (by kernel_rfl) (by kernel_rfl) (by kernel_rfl) (by kernel_rfl) (by kernel_rfl) (fun _ _ _ h=>h) (Or.inl ⟨by rfl,?hb73⟩) HS ?rb73
      case hb73=>intro w' hSw;(try dsimp only at hSw);go_simp;try with_reducible rfl
      (try simp only[Act.put]);(try simp only[af]);(try simp only[am]);(try simp only[ak])
      refine aJ (i:=20) (v:=?vb74) [] rfl (by kernel_rfl) (by kernel_rfl) (by kernel_rfl) (by kernel_rfl) (by kernel_rfl) (by kernel_rfl) (fun _ _ _ h=>h) (Or.inl ⟨by rfl,?hb74⟩) HS ?rb74
      case hb74=>intro w' hSw;(try dsimp only at hSw);go_simp;try with_reducible rfl
      (try simp only[Act.put]);(try simp only[af]);(try simp only[am]);(try simp only[ak])
      refine aJ (i:=24) (v:=?vb75) [] rfl (by kernel_rfl) (by kernel_rfl) (by kernel_rfl) (by kernel_rfl) (by kernel_rfl) (by kernel_rfl) (fun _ _ _ h=>h) (Or.inl ⟨by rfl,?hb75⟩) HS ?rb75
      case hb75=>intro w' hSw;(try dsimp only at hSw);go_simp;try with_reducible rfl
      (try simp only[Act.put]);(try simp only[af]);(try simp only[am]);(try simp only[ak])
      refine cq (rs:=[25]) (by kernel_rfl) (by simp) (ep.cons rfl (fun K hK=>?_) ep.nil)
      go_simp
      refine hK.out _ _ (fun _=>HS) ?_;clear hK K
      (try simp only[Act.put]);(try simp only[af]);(try simp only[am]);(try simp only[ak])
      refine oh (by kernel_rfl) ?_ _
      go_wp2
      go_meet
      case rel=>exact⟨rfl,Jb71.out⟩
   case mb53=>
    go_simp
    go_at_call 233
    refine(TT.out _ (Jb51.out.into 0 rfl).props (Jb51.out.into 0 rfl).caps.2.2.2).mono ?_;rintro e' zb76 ⟨rfl,hb⟩;have Jb76:=aa (Jb51.out.below hb);clear hb HS;have HS:=And.intro (Jb76.out.ld 0 rfl) (And.intro ((Jb76.out.cell 0 rfl 0).trans (cI _ _)) (And.intro ((Jb76.out.cell 0 rfl 8).trans (dp _ _)) (And.intro ((Jb76.out.cell 0 rfl 9).trans (dn _ _)) ((Jb76.out.cell 0 rfl 24).trans (bR _ _)))))
    go_simp
    refine hK.out _ _ (fun _=>HS) ?_;clear hK K
    (try simp only[Act.put]);(try simp only[af]);(try simp only[am]);(try simp only[ak])
    refine cq (rs:=[6,23]) (by kernel_rfl) (by simp) (ep.cons rfl (fun K hK=>?mb77) (ep.cons rfl (fun K hK=>?mb78) ep.nil))
    case mb77=>
     have Jb79:=aa (Jb76.out.alloc (.cells #[.int .u8 (b0.toNat:Int),.int .u8 (b1.toNat:Int)] 5));have Bb79:=aa (aq (zb76.alloc (.cells #[.int .u8 (b0.toNat:Int),.int .u8 (b1.toNat:Int)] 5)).heap.size (zb76.alloc (.cells #[.int .u8 (b0.toNat:Int),.int .u8 (b1.toNat:Int)] 5)));have Cb79:=aa (fun(z:World) hb=>Iq (W:=zb76) (z:=z) b0 b1 hb);clear HS
     have HS:=And.intro (Jb79.out.ld 0 rfl) (And.intro ((Jb79.out.cell 0 rfl 0).trans (cI _ _)) (And.intro ((Jb79.out.cell 0 rfl 8).trans (dp _ _)) (And.intro ((Jb79.out.cell 0 rfl 9).trans (dn _ _)) ((Jb79.out.cell 0 rfl 24).trans (bR _ _)))))
     go_simp
     refine hK.out _ _ (fun _=>HS) ?_;clear hK K
     (try simp only[Act.put]);(try simp only[af]);(try simp only[am]);(try simp only[ak])
     refine cq (rs:=[7,23]) (by kernel_rfl) (by simp) (ep.cons rfl (fun K hK=>?mb80) (ep.cons rfl (fun K hK=>?mb81) ep.nil))
     case mb80=>
      have hcv:=Cb79.out _ Bb79.out
      go_simp
      refine hK.out _ _ (fun _=>HS) ?_;clear hK K hcv
      (try simp only[Act.put]);(try simp only[af]);(try simp only[am]);(try simp only[ak])
      refine aJ (i:=8) (v:=?vb82) [] rfl (by kernel_rfl) (by kernel_rfl) (by kernel_rfl) (by kernel_rfl) (by kernel_rfl) (by kernel_rfl) (fun _ _ _ h=>h) (Or.inl ⟨by rfl,?hb82⟩) HS ?rb82
      case hb82=>intro w' hSw;(try dsimp only at hSw);go_simp;try with_reducible rfl
      (try simp only[Act.put]);(try simp only[af]);(try simp only[am]);(try simp only[ak])
      refine aJ (i:=13) (v:=?vb83) [] rfl (by kernel_rfl) (by kernel_rfl) (by kernel_rfl) (by kernel_rfl) (by kernel_rfl) (by kernel_rfl) (fun _ _ _ h=>h) (Or.inl ⟨by rfl,?hb83⟩) HS ?rb83
      case hb83=>intro w' hSw;(try dsimp only at hSw);go_simp;try with_reducible rfl
      (try simp only[Act.put]);(try simp only[af]);(try simp only[am]);(try simp only[ak])
      refine aJ (i:=20) (v:=?vb84) [] rfl (by kernel_rfl) (by kernel_rfl) (by kernel_rfl) (by kernel_rfl) (by kernel_rfl) (by kernel_rfl) (fun _ _ _ h=>h) (Or.inl ⟨by rfl,?hb84⟩) HS ?rb84
      case hb84=>intro w' hSw;(try dsimp only at hSw);go_simp;try with_reducible rfl
      (try simp only[Act.put]);(try simp only[af]);(try simp only[am]);(try simp only[ak])
      refine cq (rs:=[23]) (by kernel_rfl) (by simp) (ep.cons rfl (fun K hK=>?_) ep.nil)
      go_simp
      go_at_call 234
      refine(D4.out _).mono ?_;rintro e' zb85 ⟨rfl,hb⟩;have Jb85:=aa (Jb79.out.below hb);clear hb HS;have HS:=And.intro (Jb85.out.ld 0 rfl) (And.intro ((Jb85.out.cell 0 rfl 0).trans (cI _ _)) (And.intro ((Jb85.out.cell 0 rfl 8).trans (dp _ _)) (And.intro ((Jb85.out.cell 0 rfl 9).trans (dn _ _)) ((Jb85.out.cell 0 rfl 24).trans (bR _ _)))))
      go_simp
      refine hK.out _ _ (fun _=>HS) ?_;clear hK K
      (try simp only[Act.put]);(try simp only[af]);(try simp only[am]);(try simp only[ak])
      refine aJ (i:=24) (v:=?vb86) [] rfl (by kernel_rfl) (by kernel_rfl) (by kernel_rfl) (by kernel_rfl) (by kernel_rfl) (by kernel_rfl) (fun _ _ _ h=>h) (Or.inl ⟨by rfl,?hb86⟩) HS ?rb86
      case hb86=>intro w' hSw;(try dsimp only at hSw);go_simp;try with_reducible rfl
      (try simp only[Act.put]);(try simp only[af]);(try simp only[am]);(try simp only[ak])
      refine cq (rs:=[25]) (by kernel_rfl) (by simp) (ep.cons rfl (fun K hK=>?_) ep.nil)
      go_simp
      refine hK.out _ _ (fun _=>HS) ?_;clear hK K
      (try simp only[Act.put]);(try simp only[af]);(try simp only[am]);(try simp only[ak])
      refine oh (by kernel_rfl) ?_ _
      go_wp2
      go_meet
      case rel=>exact⟨rfl,Jb85.out⟩
     case mb81=>
      go_simp
      go_at_call 234
      refine(D4.out _).mono ?_;rintro e' zb87 ⟨rfl,hb⟩;have Jb87:=aa (Jb79.out.below hb);have Bb87:=aa (Bb79.out.trans (hb.mono Bb79.out.size));clear hb HS;have HS:=And.intro (Jb87.out.ld 0 rfl) (And.intro ((Jb87.out.cell 0 rfl 0).trans (cI _ _)) (And.intro ((Jb87.out.cell 0 rfl 8).trans (dp _ _)) (And.intro ((Jb87.out.cell 0 rfl 9).trans (dn _ _)) ((Jb87.out.cell 0 rfl 24).trans (bR _ _)))))
      go_simp
      refine hK.out _ _ (fun _=>HS) ?_;clear hK K
      (try simp only[Act.put]);(try simp only[af]);(try simp only[am]);(try simp only[ak])
      refine cq (rs:=[7]) (by kernel_rfl) (by simp) (ep.cons rfl (fun K hK=>?_) ep.nil);have hcv:=Cb79.out _ Bb87.out
      go_simp
      refine hK.out _ _ (fun _=>HS) ?_;clear hK K hcv
      (try simp only[Act.put]);(try simp only[af]);(try simp only[am]);(try simp only[ak])
      refine aJ (i:=8) (v:=?vb88) [] rfl (by kernel_rfl) (by kernel_rfl) (by kernel_rfl) (by kernel_rfl) (by kernel_rfl) (by kernel_rfl) (fun _ _ _ h=>h) (Or.inl ⟨by rfl,?hb88⟩) HS ?rb88
      case hb88=>intro w' hSw;(try dsimp only at hSw);go_simp;try with_reducible rfl
      (try simp only[Act.put]);(try simp only[af]);(try simp only[am]);(try simp only[ak])
      refine aJ (i:=13) (v:=?vb89) [] rfl (by kernel_rfl) (by kernel_rfl) (by kernel_rfl) (by kernel_rfl) (by kernel_rfl) (by kernel_rfl) (fun _ _ _ h=>h) (Or.inl ⟨by rfl,?hb89⟩) HS ?rb89
      case hb89=>intro w' hSw;(try dsimp only at hSw);go_simp;try with_reducible rfl
      (try simp only[Act.put]);(try simp only[af]);(try simp only[am]);(try simp only[ak])
      refine aJ (i:=20) (v:=?vb90) [] rfl (by kernel_rfl) (by kernel_rfl) (by kernel_rfl) (by kernel_rfl) (by kernel_rfl) (by kernel_rfl) (fun _ _ _ h=>h) (Or.inl ⟨by rfl,?hb90⟩) HS ?rb90
      case hb90=>intro w' hSw;(try dsimp only at hSw);go_simp;try with_reducible rfl
      (try simp only[Act.put]);(try simp only[af]);(try simp only[am]);(try simp only[ak])
      refine aJ (i:=24) (v:=?vb91) [] rfl (by kernel_rfl) (by kernel_rfl) (by kernel_rfl) (by kernel_rfl) (by kernel_rfl) (by kernel_rfl) (fun _ _ _ h=>h) (Or.inl ⟨by rfl,?hb91⟩) HS ?rb91
      case hb91=>intro w' hSw;(try dsimp only at hSw);go_simp;try with_reducible rfl
      (try simp only[Act.put]);(try simp only[af]);(try simp only[am]);(try simp only[ak])
      refine cq (rs:=[25]) (by kernel_rfl) (by simp) (ep.cons rfl (fun K hK=>?_) ep.nil)
      go_simp
      refine hK.out _ _ (fun _=>HS) ?_;clear hK K
      (try simp only[Act.put]);(try simp only[af]);(try simp only[am]);(try simp only[ak])
      refine oh (by kernel_rfl) ?_ _
      go_wp2
      go_meet
      case rel=>exact⟨rfl,Jb87.out⟩
    case mb78=>
     go_simp
     go_at_call 234
     refine(D4.out _).mono ?_;rintro e' zb92 ⟨rfl,hb⟩;have Jb92:=aa (Jb76.out.below hb);clear hb HS;have HS:=And.intro (Jb92.out.ld 0 rfl) (And.intro ((Jb92.out.cell 0 rfl 0).trans (cI _ _)) (And.intro ((Jb92.out.cell 0 rfl 8).trans (dp _ _)) (And.intro ((Jb92.out.cell 0 rfl 9).trans (dn _ _)) ((Jb92.out.cell 0 rfl 24).trans (bR _ _)))))
     go_simp
     refine hK.out _ _ (fun _=>HS) ?_;clear hK K
     (try simp only[Act.put]);(try simp only[af]);(try simp only[am]);(try simp only[ak])
     refine cq (rs:=[6]) (by kernel_rfl) (by simp) (ep.cons rfl (fun K hK=>?_) ep.nil);have Jb93:=aa (Jb92.out.alloc (.cells #[.int .u8 (b0.toNat:Int),.int .u8 (b1.toNat:Int)] 5));have Bb93:=aa (aq (zb92.alloc (.cells #[.int .u8 (b0.toNat:Int),.int .u8 (b1.toNat:Int)] 5)).heap.size (zb92.alloc (.cells #[.int .u8 (b0.toNat:Int),.int .u8 (b1.toNat:Int)] 5)));have Cb93:=aa (fun(z:World) hb=>Iq (W:=zb92) (z:=z) b0 b1 hb);clear HS
     have HS:=And.intro (Jb93.out.ld 0 rfl) (And.intro ((Jb93.out.cell 0 rfl 0).trans (cI _ _)) (And.intro ((Jb93.out.cell 0 rfl 8).trans (dp _ _)) (And.intro ((Jb93.out.cell 0 rfl 9).trans (dn _ _)) ((Jb93.out.cell 0 rfl 24).trans (bR _ _)))))
     go_simp
     refine hK.out _ _ (fun _=>HS) ?_;clear hK K
     (try simp only[Act.put]);(try simp only[af]);(try simp only[am]);(try simp only[ak])
     refine cq (rs:=[7]) (by kernel_rfl) (by simp) (ep.cons rfl (fun K hK=>?_) ep.nil);have hcv:=Cb93.out _ Bb93.out
     go_simp
     refine hK.out _ _ (fun _=>HS) ?_;clear hK K hcv
     (try simp only[Act.put]);(try simp only[af]);(try simp only[am]);(try simp only[ak])
     refine aJ (i:=8) (v:=?vb94) [] rfl (by kernel_rfl) (by kernel_rfl) (by kernel_rfl) (by kernel_rfl) (by kernel_rfl) (by kernel_rfl) (fun _ _ _ h=>h) (Or.inl ⟨by rfl,?hb94⟩) HS ?rb94
     case hb94=>intro w' hSw;(try dsimp only at hSw);go_simp;try with_reducible rfl
     (try simp only[Act.put]);(try simp only[af]);(try simp only[am]);(try simp only[ak])
     refine aJ (i:=13) (v:=?vb95) [] rfl (by kernel_rfl) (by kernel_rfl) (by kernel_rfl) (by kernel_rfl) (by kernel_rfl) (by kernel_rfl) (fun _ _ _ h=>h) (Or.inl ⟨by rfl,?hb95⟩) HS ?rb95
     case hb95=>intro w' hSw;(try dsimp only at hSw);go_simp;try with_reducible rfl
     (try simp only[Act.put]);(try simp only[af]);(try simp only[am]);(try simp only[ak])
     refine aJ (i:=20) (v:=?vb96) [] rfl (by kernel_rfl) (by kernel_rfl) (by kernel_rfl) (by kernel_rfl) (by kernel_rfl) (by kernel_rfl) (fun _ _ _ h=>h) (Or.inl ⟨by rfl,?hb96⟩) HS ?rb96
     case hb96=>intro w' hSw;(try dsimp only at hSw);go_simp;try with_reducible rfl
     (try simp only[Act.put]);(try simp only[af]);(try simp only[am]);(try simp only[ak])
     refine aJ (i:=24) (v:=?vb97) [] rfl (by kernel_rfl) (by kernel_rfl) (by kernel_rfl) (by kernel_rfl) (by kernel_rfl) (by kernel_rfl) (fun _ _ _ h=>h) (Or.inl ⟨by rfl,?hb97⟩) HS ?rb97
     case hb97=>intro w' hSw;(try dsimp only at hSw);go_simp;try with_reducible rfl
     (try simp only[Act.put]);(try simp only[af]);(try simp only[am]);(try simp only[ak])
     refine cq (rs:=[25]) (by kernel_rfl) (by simp) (ep.cons rfl (fun K hK=>?_) ep.nil)
     go_simp
     refine hK.out _ _ (fun _=>HS) ?_;clear hK K
     (try simp only[Act.put]);(try simp only[af]);(try simp only[am]);(try simp only[ak])
     refine oh (by kernel_rfl) ?_ _
     go_wp2
     go_meet
     case rel=>exact⟨rfl,Jb93.out⟩
 obtain⟨rfl,hst⟩:=hcut;have S7:=aa hst;clear hst FF TT N1 P3 D4 hw0 hw1 hw3 HX3S HMS hs2 hsA hsB e2;rw[←HQ2.out];have HS2:Hid (yJ v p=if p.hasWill=true then qK [yK v p,tW v 16 p.will.props,qE p.will.topic,qE p.will.payload]else yK v p):=aa rfl;have HS3:Hid (yI v p=if p.hasUser=true then qK [yJ v p,qE p.user]else yJ v p):=aa rfl;have HS4:Hid (EY v p=if p.hasPass=true then qK [yI v p,qE p.pass]else yI v p):=aa rfl;obtain⟨O1,hO1⟩:∃O,yK v p=O:=⟨_,rfl⟩;rw[hO1]at HZ1 HS2⊢;clear hO1 HQ1 HQ2 HTS HCS HL HL3;have k14:=(S7.out.cell 0 rfl 14).trans (bX _ _);obtain⟨wb,hwb⟩:∃b,p.hasWill=b:=⟨_,rfl⟩;rw[hwb]at k14 HS2 HOK;clear hwb;cases wb
 ·rw[ae (by decide)]at HS2;rw[HS2.out]at HS3;have uk:=(S7.out.cell 0 rfl 10).trans (bW _ _);obtain⟨ub,hub⟩:∃b,p.hasUser=b:=⟨_,rfl⟩;rw[hub]at uk HS3;clear hub;cases ub
  ·rw[ae (by decide)]at HS3;rw[HS3.out]at HS4;have qk:=(S7.out.cell 0 rfl 12).trans (bO _ _);obtain⟨qb,hqb⟩:∃b,p.hasPass=b:=⟨_,rfl⟩;rw[hqb]at qk HS4;clear hqb;cases qb
   ·rw[ae (by decide)]at HS4
    go_wp2
    go_ret2
    exact⟨by rw[HX.out,HS4.out];rfl,S7.out.kept⟩
   ·rw[if_pos rfl]at HS4;have qf:=(S7.out.cell 0 rfl 13).trans (bZ _ _)
    go_wp2_with fail
    refine(He p.pass _ HOK.out.2.1).mono ?_;rintro e yq ⟨rfl,hb⟩;have S7p:=aa (S7.out.below hb);clear hb qk qf
    have qD:=aa (G9 p.pass);obtain⟨qX,hqX⟩:∃X,qE p.pass=X:=⟨_,rfl⟩;rw[hqX]at HS4 qD⊢;clear hqX;have qs:¬(9223372036854775807<O1.size+qX.size):=by have:=HZ1.out;have:=qD.out;omega
    have HZp:Hid ((O1++qX).size≤131280700):=aa (by rw[cK];have:=HZ1.out;have:=qD.out;omega);have qc:qK [O1,qX]=O1++qX:=Jl _ _;rw[qc]at HS4;clear qc;obtain⟨Op1,hOp1⟩:∃O,O1++qX=O:=⟨_,rfl⟩;rw[hOp1]at HS4 HZp
    go_wp2
    go_ret2
    exact⟨by rw[HX.out,HS4.out];rfl,S7p.out.kept⟩
  ·rw[if_pos rfl]at HS3;have uf:=(S7.out.cell 0 rfl 11).trans (co _ _)
   go_wp2_with fail
   refine(He p.user _ HOK.out.1).mono ?_;rintro e yu ⟨rfl,hb⟩;have S7u:=aa (S7.out.below hb);clear hb uk uf
   have uD:=aa (G9 p.user);obtain⟨uX,huX⟩:∃X,qE p.user=X:=⟨_,rfl⟩;rw[huX]at HS3 uD⊢;clear huX;have us:¬(9223372036854775807<O1.size+uX.size):=by have:=HZ1.out;have:=uD.out;omega
   have HZu:Hid ((O1++uX).size≤131210700):=aa (by rw[cK];have:=HZ1.out;have:=uD.out;omega);have uc:qK [O1,uX]=O1++uX:=Jl _ _;rw[uc]at HS3;clear uc;obtain⟨Ou1,hOu1⟩:∃O,O1++uX=O:=⟨_,rfl⟩;rw[hOu1]at HS3 HZu;rw[HS3.out]at HS4;have qk:=(S7u.out.cell 0 rfl 12).trans (bO _ _);obtain⟨qb,hqb⟩:∃b,p.hasPass=b:=⟨_,rfl⟩;rw[hqb]at qk HS4;clear hqb;cases qb
   ·rw[ae (by decide)]at HS4
    go_wp2
    go_ret2
    exact⟨by rw[HX.out,HS4.out];rfl,S7u.out.kept⟩
   ·rw[if_pos rfl]at HS4;have qf:=(S7u.out.cell 0 rfl 13).trans (bZ _ _)
    go_wp2_with fail
    refine(He p.pass _ HOK.out.2.1).mono ?_;rintro e yq ⟨rfl,hb⟩;have S7up:=aa (S7u.out.below hb);clear hb qk qf
    have qD:=aa (G9 p.pass);obtain⟨qX,hqX⟩:∃X,qE p.pass=X:=⟨_,rfl⟩;rw[hqX]at HS4 qD⊢;clear hqX;have qs:¬(9223372036854775807<Ou1.size+qX.size):=by have:=HZu.out;have:=qD.out;omega
    have HZp:Hid ((Ou1++qX).size≤131280700):=aa (by rw[cK];have:=HZu.out;have:=qD.out;omega);have qc:qK [Ou1,qX]=Ou1++qX:=Jl _ _;rw[qc]at HS4;clear qc;obtain⟨Opu1,hOpu1⟩:∃O,Ou1++qX=O:=⟨_,rfl⟩;rw[hOpu1]at HS4 HZp
    go_wp2
    go_ret2
    exact⟨by rw[HX.out,HS4.out];rfl,S7up.out.kept⟩
 ·rw[if_pos rfl]at HS2;have HWS:Hid ((tW v 16 p.will.props).size≤131075004∧(qE p.will.topic).size≤65537∧(qE p.will.payload).size≤65537):=aa ⟨Jr _ _ _,G9 _,G9 _⟩;have q0:∀(d:Nat) (os:Array Obj),Calls Tryz.prog 233 #[.int .i64 v,.int .i64 16,.slice h.wp.a p.will.props.length h.wp.c] (Sort.grow (redrawn wc d) os) fun e w''=>e= .returned (.string (tW v 16 p.will.props))∧∃p:Regrown,w''=Sort.grow (redrawn wc p.d) p.os:=jw (fun x hx=>G5 v 16 p.will.props _ rfl OK.out.wp h.wp.a h.wp.c x ((S7.out.below hx).into 0 rfl).wp OK.out.len.1 ((S7.out.below hx).into 0 rfl).caps.1);have q1:=jw (W:=wc) (fun x hx=>He p.will.topic x (HOK.out.2.2.2 rfl));have q2:=jw (W:=wc) (fun x hx=>He p.will.payload x HOK.out.2.2.1);obtain⟨WT,hWT⟩:∃X,tW v 16 p.will.props=X:=⟨_,rfl⟩;obtain⟨WA,hWA⟩:∃X,qE p.will.topic=X:=⟨_,rfl⟩;obtain⟨WB,hWB⟩:∃X,qE p.will.payload=X:=⟨_,rfl⟩;rw[hWT,hWA,hWB]at HS2 HWS;rw[hWT]at q0;rw[hWA]at q1;rw[hWB]at q2;have k19:=cell_regrown (show wc.cell? ⟨w.heap.size,19,none⟩=some (.slice h.wp.a p.will.props.length h.wp.c)from(S7.out.cell 0 rfl 19).trans (ct _ _));have k15:=cell_regrown (show wc.cell? ⟨w.heap.size,15,none⟩=some (.string p.will.topic)from(S7.out.cell 0 rfl 15).trans (cz _ _));have k16:=cell_regrown (show wc.cell? ⟨w.heap.size,16,none⟩=some (.string p.will.payload)from(S7.out.cell 0 rfl 16).trans (cy _ _));have z1:¬(9223372036854775807<O1.size+WT.size):=by have:=HZ1.out;have:=HWS.out;omega
  have z2:¬(9223372036854775807<O1.size+WT.size+WA.size):=by have:=HZ1.out;have:=HWS.out;omega
  have z3:¬(9223372036854775807<O1.size+WT.size+WA.size+WB.size):=by have:=HZ1.out;have:=HWS.out;omega
  have HBW:Hid (∀d os,Below wc.heap.size wc (Sort.grow (redrawn wc d) os)):=aa (fun d os=>below_regrown wc d os);clear hWT hWA hWB
  go_wp2_with fail
  refine wp_region_quiet_below (by kernel_rfl) (by kernel_rfl) ?_
  repeat (go_big_quiet_step (first| with_reducible exact q0 _ _| with_reducible exact q1 _ _| with_reducible exact q2 _ _))
  refine kE ?_;intro _ hw';obtain⟨⟨dq,osq⟩,hw''⟩:=hw';subst hw'';have S8:=aa (S7.out.below (HBW.out dq osq));clear q0 q1 q2 k19 k15 k16 HBW k14 z1 z2 z3;generalize Sort.grow (redrawn _ dq) osq=wq at*;have HZ2:Hid ((O1++WT++WA++WB).size≤262346900):=aa (by simp only[cK];have:=HZ1.out;have:=HWS.out;omega);have hc4:qK [O1,WT,WA,WB]=O1++WT++WA++WB:=by refine eX ?_;simp[qK,ls]
  rw[hc4]at HS2;clear hc4;obtain⟨O2,hO2⟩:∃O,O1++WT++WA++WB=O:=⟨_,rfl⟩;rw[hO2]at HS2 HZ2⊢;clear hO2;rw[HS2.out]at HS3;have uk:=(S8.out.cell 0 rfl 10).trans (bW _ _);obtain⟨ub,hub⟩:∃b,p.hasUser=b:=⟨_,rfl⟩;rw[hub]at uk HS3;clear hub;cases ub
  ·rw[ae (by decide)]at HS3;rw[HS3.out]at HS4;have qk:=(S8.out.cell 0 rfl 12).trans (bO _ _);obtain⟨qb,hqb⟩:∃b,p.hasPass=b:=⟨_,rfl⟩;rw[hqb]at qk HS4;clear hqb;cases qb
   ·rw[ae (by decide)]at HS4
    go_wp2
    go_ret2
    exact⟨by rw[HX.out,HS4.out];rfl,S8.out.kept⟩
   ·rw[if_pos rfl]at HS4;have qf:=(S8.out.cell 0 rfl 13).trans (bZ _ _)
    go_wp2_with fail
    refine(He p.pass _ HOK.out.2.1).mono ?_;rintro e yq ⟨rfl,hb⟩;have S8p:=aa (S8.out.below hb);clear hb qk qf
    have qD:=aa (G9 p.pass);obtain⟨qX,hqX⟩:∃X,qE p.pass=X:=⟨_,rfl⟩;rw[hqX]at HS4 qD⊢;clear hqX;have qs:¬(9223372036854775807<O2.size+qX.size):=by have:=HZ2.out;have:=qD.out;omega
    have HZp:Hid ((O2++qX).size≤262486900):=aa (by rw[cK];have:=HZ2.out;have:=qD.out;omega);have qc:qK [O2,qX]=O2++qX:=Jl _ _;rw[qc]at HS4;clear qc;obtain⟨Op2,hOp2⟩:∃O,O2++qX=O:=⟨_,rfl⟩;rw[hOp2]at HS4 HZp
    go_wp2
    go_ret2
    exact⟨by rw[HX.out,HS4.out];rfl,S8p.out.kept⟩
  ·rw[if_pos rfl]at HS3;have uf:=(S8.out.cell 0 rfl 11).trans (co _ _)
   go_wp2_with fail
   refine(He p.user _ HOK.out.1).mono ?_;rintro e yu ⟨rfl,hb⟩;have S8u:=aa (S8.out.below hb);clear hb uk uf
   have uD:=aa (G9 p.user);obtain⟨uX,huX⟩:∃X,qE p.user=X:=⟨_,rfl⟩;rw[huX]at HS3 uD⊢;clear huX;have us:¬(9223372036854775807<O2.size+uX.size):=by have:=HZ2.out;have:=uD.out;omega
   have HZu:Hid ((O2++uX).size≤262416900):=aa (by rw[cK];have:=HZ2.out;have:=uD.out;omega);have uc:qK [O2,uX]=O2++uX:=Jl _ _;rw[uc]at HS3;clear uc;obtain⟨Ou2,hOu2⟩:∃O,O2++uX=O:=⟨_,rfl⟩;rw[hOu2]at HS3 HZu;rw[HS3.out]at HS4;have qk:=(S8u.out.cell 0 rfl 12).trans (bO _ _);obtain⟨qb,hqb⟩:∃b,p.hasPass=b:=⟨_,rfl⟩;rw[hqb]at qk HS4;clear hqb;cases qb
   ·rw[ae (by decide)]at HS4
    go_wp2
    go_ret2
    exact⟨by rw[HX.out,HS4.out];rfl,S8u.out.kept⟩
   ·rw[if_pos rfl]at HS4;have qf:=(S8u.out.cell 0 rfl 13).trans (bZ _ _)
    go_wp2_with fail
    refine(He p.pass _ HOK.out.2.1).mono ?_;rintro e yq ⟨rfl,hb⟩;have S8up:=aa (S8u.out.below hb);clear hb qk qf
    have qD:=aa (G9 p.pass);obtain⟨qX,hqX⟩:∃X,qE p.pass=X:=⟨_,rfl⟩;rw[hqX]at HS4 qD⊢;clear hqX;have qs:¬(9223372036854775807<Ou2.size+qX.size):=by have:=HZu.out;have:=qD.out;omega
    have HZp:Hid ((Ou2++qX).size≤262486900):=aa (by rw[cK];have:=HZu.out;have:=qD.out;omega);have qc:qK [Ou2,qX]=Ou2++qX:=Jl _ _;rw[qc]at HS4;clear qc;obtain⟨Opu2,hOpu2⟩:∃O,Ou2++qX=O:=⟨_,rfl⟩;rw[hOpu2]at HS4 HZp
    go_wp2
    go_ret2
    exact⟨by rw[HX.out,HS4.out];rfl,S8up.out.kept⟩
theorem Ls (v:Int) (p:Pk) (h:Hs) (w:World) (ip:PkIn w w.heap.size p h) (ok:PkOk p):
  Calls Tryz.prog 170 #[.int .i64 v,pkV p h] w fun e w'=>e= .returned (.tuple #[.string (Dm v p).1,.int .i64 (Dm v p).2])∧Below w.heap.size w w':=by
 by_cases h2:p.kind=2
 ·have hB:Dm v p=Fg v p:=if_pos h2;rw[hB];exact KJ v p h w ip ok h2
 ·have hB:Dm v p=if eR v p=0 then(EY v p,0)else(⟨#[]⟩,eR v p):=ae h2;rw[hB];exact KL v p h w ip ok h2
end Go.Proofs.YtpcleamaieaefaaGreatDoor
