/- A part of what the laws stand on: MRfP, RfY, RfZ. -/
import Derived.Test.YtpcleamaieaefaaGreatDoorMeG1MRft
set_option maxRecDepth 10000
set_option maxHeartbeats 8000000
namespace Go.Proofs.YtpcleamaieaefaaGreatDoor
open Go.RowKit
attribute [local go_sem ↓] bD bF bH bI bu
attribute [local go_sem] bc aD bh bg bK bJ bd aY be aO ax cI dC dB dt dj di dA dr dp dn bW co bO bZ bX cz cy cw cu ct cC cn bS bP bR
theorem JF (v:Int) (p:Pk) (h:Hs) (w:World):
  Calls Tryz.prog 77 #[.int .i64 v,pkV p h] w fun e w'=>e= .returned (.tuple #[.int .i64 (eM v p).1,.int .i64 (eM v p).2])∧Below w.heap.size w w':=by
 have HB:=aa ((aq w.heap.size w).alloc (ac _) (.cells (pkC p h) PkT));have HE:Hid (eM v p=if ba v=false then(0,2)else if dS v p.kind=false then(0,8)else if p.kind≠3 then(gg p.kind,0)else if tJ p=true then(0,7)else(ke p,0)):=aa rfl;have HBQ:Hid (tJ p=decide (p.qos<0∨2<p.qos∨(p.qos=0∧p.dup=true))):=aa rfl;have HFP:Hid (ke p=2*p.qos+(if p.retain=true then 1 else 0)+(if p.dup=true then 8 else 0)):=aa rfl;have k1a:(w.alloc (.cells (pkC p h) PkT)).cell? ⟨w.heap.size,3,none⟩=some (.int .i64 p.qos):=(Bk.fresh w PkT (pkC p h)).cell 3;have k1b:(w.alloc (.cells (pkC p h) PkT)).cell? ⟨w.heap.size,1,none⟩=some (.bool p.dup):=(Bk.fresh w PkT (pkC p h)).cell 1;have k1c:(w.alloc (.cells (pkC p h) PkT)).cell? ⟨w.heap.size,2,none⟩=some (.bool p.retain):=(Bk.fresh w PkT (pkC p h)).cell 2;have k1d:(w.alloc (.cells (pkC p h) PkT)).cell? ⟨w.heap.size,0,none⟩=some (.int .i64 p.kind):=(Bk.fresh w PkT (pkC p h)).cell 0
 go_enter Tryz.func77,Tryz.ntmps77
 go_wp2_with fail
 refine(pS v _).mono ?_;rintro e w1 ⟨rfl,rfl⟩;cases hk:ba v
 ·have HX:Hid (eM v p=(0,2)):=aa (by rw[HE.out,if_pos hk]);clear hk
  go_wp2
  go_ret2
  exact⟨by rw[HX.out];rfl,HB.out⟩
 have HE1:Hid (eM v p=if dS v p.kind=false then(0,8)else if p.kind≠3 then(gg p.kind,0)else if tJ p=true then(0,7)else(ke p,0)):=aa (by rw[HE.out,ae (fun x=>by rw[hk]at x;cases x)]);clear hk HE
 go_wp2_with fail
 refine(JO v p.kind _).mono ?_;rintro e w1 ⟨rfl,rfl⟩;cases hk:dS v p.kind
 ·have HX:Hid (eM v p=(0,8)):=aa (by rw[HE1.out,if_pos hk]);clear hk
  go_wp2
  go_ret2
  exact⟨by rw[HX.out];rfl,HB.out⟩
 have HE2:Hid (eM v p=if p.kind≠3 then(gg p.kind,0)else if tJ p=true then(0,7)else(ke p,0)):=aa (by rw[HE1.out,ae (fun x=>by rw[hk]at x;cases x)]);clear hk HE1;generalize p.kind=kd at*
 by_cases h3:kd=3
 rotate_left
 ·have q3:(kd==3)=false:=ar.2 h3;have HX0:Hid (eM v p=(gg kd,0)):=aa (by rw[HE2.out,if_pos h3])
  by_cases h6:kd=6
  ·subst h6;have HX:Hid (eM v p=(2,0)):=aa (by rw[HX0.out];rfl);clear h3 q3
   go_wp2
   go_ret2
   exact⟨by rw[HX.out];rfl,HB.out⟩
  by_cases h8:kd=8
  ·subst h8;have HX:Hid (eM v p=(2,0)):=aa (by rw[HX0.out];rfl);clear h3 q3 h6
   go_wp2
   go_ret2
   exact⟨by rw[HX.out];rfl,HB.out⟩
  by_cases h10:kd=10
  ·subst h10;have HX:Hid (eM v p=(2,0)):=aa (by rw[HX0.out];rfl);clear h3 q3 h6 h8
   go_wp2
   go_ret2
   exact⟨by rw[HX.out];rfl,HB.out⟩
  ·have HX:Hid (eM v p=(0,0)):=aa (by rw[HX0.out];unfold gg;rw[ae (by omega)]);have q6:(kd==6)=false:=ar.2 h6;have q8:(kd==8)=false:=ar.2 h8;have q10:(kd==10)=false:=ar.2 h10;clear h3 h6 h8 h10
   go_wp2
   go_ret2
   exact⟨by rw[HX.out];rfl,HB.out⟩
 subst h3;have HE3:Hid (eM v p=if tJ p=true then(0,7)else(ke p,0)):=aa (by rw[HE2.out,ae (fun x=>x rfl)]);clear HE2;generalize p.qos=q at*;generalize p.dup=d at*;generalize p.retain=r at*
 by_cases h0:q<0
 ·have HX:Hid (eM v p=(0,7)):=aa (by rw[HE3.out,if_pos (by rw[HBQ.out];exact au (.inl h0))]);have d0:decide (q<0)=true:=au h0;clear h0
  go_wp2
  go_ret2
  exact⟨by rw[HX.out];rfl,HB.out⟩
 have d0:decide (q<0)=false:=ah h0
 by_cases h2:2<q
 ·have HX:Hid (eM v p=(0,7)):=aa (by rw[HE3.out,if_pos (by rw[HBQ.out];exact au (.inr (.inl h2)))]);have d2:decide (2<q)=true:=au h2;clear h0 h2
  go_wp2
  go_ret2
  exact⟨by rw[HX.out];rfl,HB.out⟩
 have hq:q=0∨q=1∨q=2:=by omega
 clear h0 h2 d0;obtain rfl| rfl| rfl:=hq
 ·cases d
  ·have HX:Hid (eM v p=(ke p,0)):=aa (by rw[HE3.out,ae (by rw[HBQ.out];decide)]);cases r
   all_goals
    go_wp2
    go_ret2
    exact⟨by rw[HX.out,HFP.out];rfl,HB.out⟩
  ·have HX:Hid (eM v p=(0,7)):=aa (by rw[HE3.out,if_pos (by rw[HBQ.out];decide)])
   go_wp2
   go_ret2
   exact⟨by rw[HX.out];rfl,HB.out⟩
 all_goals
  have HX:Hid (eM v p=(ke p,0)):=aa (by rw[HE3.out,ae (by rw[HBQ.out];simp)]);cases d<;>cases r
  all_goals
   go_wp2
   go_ret2
   exact⟨by rw[HX.out,HFP.out];rfl,HB.out⟩
theorem Ik (p:Pk) (h:Hs) (w:World) (ip:PkIn w w.heap.size p h) (ok:PkOk p):
  Calls Tryz.prog 225 #[pkV p h] w fun e w'=>e= .returned (.tuple #[.int .i64 (xg p.props 35).n,.bool (qR p)])∧Below w.heap.size w w':=by
 have hn:=FK p.props 35 ok.props;have OK:=aa ok;have S0:=aa ((St.start w).push ip);clear ip ok
 go_enter Tryz.func225,Tryz.ntmps225
 go_wp2_with fail
 refine(Hy 35 p.props h.props.a h.props.c _ (S0.out.into 0 rfl).props OK.out.len.2.2.2).mono ?_;rintro e w1 ⟨rfl,hb⟩;have S1:=aa (S0.out.below hb);clear hb
 have HA:Hid (qR p=(nh p.props 35).isSome):=aa rfl;generalize (nh p.props 35).isSome=al at*;obtain⟨q,hq⟩:∃q,xg p.props 35=q:=⟨_,rfl⟩;rw[hq]at hn⊢;have HQ:=aa hq;clear hq;obtain⟨id,n,t,u⟩:=q;simp only at hn;have hw:IntKind.i64.wrap (n:Int)=(n:Int):=by rw[aQ];omega
 simp only[Pr.val];have S2:=aa (S1.out.alloc (.cells #[.int .i64 id,.int .u32 n,.string t,.string u] 97))
 go_wp2
 go_ret2
 exact⟨by rw[HA.out,HQ.out];rfl,S2.out.kept⟩
theorem Mg (p:Pk) (A:Option Addr) (c:Nat) (w:World):(qP #[(0,.int .i64 p.kind),(1,.bool p.dup),(2,.bool p.retain),(3,.int .i64 p.qos),(4,.int .i64 p.id),(5,.string p.topic),(6,.string p.payload),(20,.slice A p.props.length c)]).run Tryz.prog w= .ok (pkV (zA p) {hs0 with props:=⟨A,c⟩}) w:=by kernel_rfl
theorem OY {w:World} {B:Nat} {p:Pk} {h:Hs} (i:PkIn w B p h):PkIn w B (zA p) {hs0 with props:=⟨h.props.a,h.props.c⟩}:=
 ⟨Rd.nil _ _ _ _,Rd.nil _ _ _ _,Rd.nil _ _ _ _,i.props,ag _,ag _,ag _,i.caps.2.2.2⟩
theorem Oe {p:Pk} (h:gz p):gz (zA p):=⟨ag _,ag _,ag _,h.2.2.2⟩
theorem IW (v:Int) (p:Pk) (h:Hs) (w:World) (ip:PkIn w w.heap.size p h) (ok:PkOk p):
  Calls Tryz.prog 166 #[.int .i64 v,pkV p h] w fun e w'=>e= .returned (.int .i64 (ii v p))∧Below w.heap.size w w':=by
 have OK:=aa ok;have S0:=aa ((St.start w).push ip);have HL0:Hid (dK v p 0=if ba v=true∧p.kind=3 then 0 else 2):=aa rfl;have HL1:Hid (dK v p 1=(eM v p).2):=aa rfl;have HL2:Hid (dK v p 2=if kL v p=true then 0 else 2):=aa rfl;have HL3:Hid (dK v p 3=if tc v p=true then 0 else 10):=aa rfl;have HL4:Hid (dK v p 4=(aM 3 p.props).2):=aa rfl;have HE:Hid (ii v p=if dK v p 0≠0 then dK v p 0 else if dK v p 1≠0 then dK v p 1 else if dK v p 2≠0 then dK v p 2 else if dK v p 3≠0 then dK v p 3 else dK v p 4):=aa rfl;clear ip ok
 go_enter Tryz.func166,Tryz.ntmps166
 go_wp2_with fail
 refine(pS v _).mono ?_;rintro e w1 ⟨rfl,rfl⟩;have k0:=S0.out.cell 0 rfl 0;rw[cI]at k0;cases hk:ba v
 ·have HX:Hid (ii v p=2):=aa (by
   have h0:dK v p 0=2:=by rw[HL0.out,ae (fun x=>by rw[hk]at x;cases x.1)]
   rw[HE.out,h0];rfl)
  clear hk
  go_wp2
  go_ret
  exact⟨by rw[HX.out];rfl,S0.out.kept⟩
 by_cases h3:p.kind=3
 rotate_left
 ·have HX:Hid (ii v p=2):=aa (by
   have h0:dK v p 0=2:=by rw[HL0.out,ae (fun x=>h3 x.2)]
   rw[HE.out,h0];rfl)
  have e3:(p.kind !=3)=true:=aA.2 h3;clear hk h3
  go_wp2
  go_ret
  exact⟨by rw[HX.out];rfl,S0.out.kept⟩
 have e3:(p.kind !=3)=false:=by simpa using h3
 have HE1:Hid (ii v p=if dK v p 1≠0 then dK v p 1 else if dK v p 2≠0 then dK v p 2 else if dK v p 3≠0 then dK v p 3 else dK v p 4):=aa (by
  have h0:dK v p 0=0:=by rw[HL0.out,if_pos ⟨hk,h3⟩]
  rw[HE.out,h0,ae (fun x=>x rfl)])
 have HK3:=aa (And.intro hk h3);clear hk h3 HE HL0;have hl:=S0.out.ld 0 rfl
 go_wp2_with fail
 refine(JF v p h _).mono ?_;rintro e w1 ⟨rfl,hb⟩;have S1:=aa (S0.out.below hb);clear hb hl k0 e3
 obtain⟨fl,hfl⟩:∃fl,eM v p=fl:=⟨_,rfl⟩;rw[hfl]at HL1⊢;have HFL:=aa hfl;clear hfl;obtain⟨f1,f2⟩:=fl;simp only at HL1⊢
 by_cases hf:f2=0
 rotate_left
 ·have HX:Hid (ii v p=f2):=aa (by rw[HE1.out,HL1.out,if_pos hf]);have e2:(f2 !=0)=true:=aA.2 hf;clear hf
  go_wp2
  go_ret
  exact⟨by rw[HX.out];rfl,S1.out.kept⟩
 subst hf;have HE2:Hid (ii v p=if dK v p 2≠0 then dK v p 2 else if dK v p 3≠0 then dK v p 3 else dK v p 4):=aa (by rw[HE1.out,HL1.out,ae (fun x=>x rfl)]);have HBQ:Hid (0≤p.qos∧p.qos≤2):=aa (by
  have hh:=HFL.out;unfold eM at hh;rw[HK3.out.1,HK3.out.2]at hh;rw[ae (by simp)]at hh
  by_cases hkk:dS v 3=false
  ·rw[if_pos hkk]at hh;cases hh
  rw[ae hkk,ae (fun x=>x rfl)]at hh
  by_cases hbq:tJ p=true
  ·rw[if_pos hbq]at hh;cases hh
  ·have hb0:tJ p=false:=by simpa using hbq
   have:=Gy hb0;omega)
 clear HE1 HL1 HFL;have j0:=S1.out.cell 0 rfl 0;have j1:=S1.out.cell 0 rfl 1;have j2:=S1.out.cell 0 rfl 2;have j3:=S1.out.cell 0 rfl 3;have j4:=S1.out.cell 0 rfl 4;have j5:=S1.out.cell 0 rfl 5;have j6:=S1.out.cell 0 rfl 6;have j20:=S1.out.cell 0 rfl 24;rw[cI]at j0;rw[dC]at j1;rw[dB]at j2;rw[dt]at j3;rw[dj]at j4;rw[di]at j5;rw[dA]at j6;rw[bR]at j20;have hbd:=fun W=>Mg p h.props.a h.props.c W;have S2:Hid (St w [(w.heap.size,p,h),(w1.heap.size,zA p,{hs0 with props:=⟨h.props.a,h.props.c⟩})] (w1.alloc (.cells (pkC (zA p) {hs0 with props:=⟨h.props.a,h.props.c⟩}) PkT))):=aa (S1.out.push (OY (S1.out.into 0 rfl)));have hl0:=S2.out.ld 0 rfl;have hl1:=S2.out.ld 1 rfl
 go_wp2_with fail
 refine(GP p (zA p) h _ _ (S2.out.into 0 rfl) (S2.out.into 1 rfl) OK.out.len (Oe OK.out.len)).mono ?_;rintro e w3 ⟨rfl,hb⟩;have S3:=aa (S2.out.below hb);clear hb hl0 hl1 j0 j1 j2 j3 j4 j5 j6 j20 hbd
 have k3:=S3.out.cell 0 rfl 3;have k4:=S3.out.cell 0 rfl 4;have k20:=S3.out.cell 0 rfl 24;rw[dt]at k3;rw[dj]at k4;rw[bR]at k20;have hl3:=S3.out.ld 0 rfl
 by_cases hsm:p=zA p
 rotate_left
 ·have HX:Hid (ii v p=2):=aa (by
   have h0:dK v p 2=2:=by rw[HL2.out,ae (by unfold kL;simp only[Fx];exact fun x=>hsm x.1)]
   rw[HE2.out,h0];rfl)
  rw[ah hsm];clear hsm
  go_wp2
  go_ret
  exact⟨by rw[HX.out];rfl,S3.out.kept⟩
 rw[au hsm];have HSM:=aa hsm;clear hsm
 by_cases hq:p.qos=0
 ·have q0:(p.qos==0)=true:=aK.2 hq;have q1:decide ((0:Int)<p.qos)=false:=ah (by omega)
  by_cases hi:p.id=0
  rotate_left
  ·have HX:Hid (ii v p=2):=aa (by
    have h0:dK v p 2=2:=by rw[HL2.out,ae (by unfold kL;simp only[Fx];exact fun x=>hi (x.2.2.1 hq))]
    rw[HE2.out,h0];rfl)
   have i0:(p.id !=0)=true:=aA.2 hi;clear hq hi
   go_wp2
   go_ret
   exact⟨by rw[HX.out];rfl,S3.out.kept⟩
  have i0:(p.id !=0)=false:=by simpa using hi
  have HV5:v≠4→Hid (v=5):=fun x=>aa (by have:=aR (show decide (v=4∨v=5)=true from HK3.out.1);omega)
  by_cases h4:v=4
  ·have e4:(v==4)=true:=aK.2 h4;have e5:(v==5)=false:=ar.2 (by omega)
   by_cases h0:0<p.props.length
   ·have HX:Hid (ii v p=2):=aa (by
     have h0:dK v p 2=2:=by rw[HL2.out,ae (by unfold kL;simp only[Fx];exact fun x=>x.2.1 ⟨h4,h0⟩)]
     rw[HE2.out,h0];rfl)
    have d0:decide ((0:Int)<(p.props.length:Int))=true:=au (by omega);have d1:decide (0<p.props.length)=true:=au h0;clear hq hi HV5 h4 h0
    go_wp2
    go_ret
    exact⟨by rw[HX.out];rfl,S3.out.kept⟩
   ·have HE3:Hid (ii v p=if dK v p 3≠0 then dK v p 3 else dK v p 4):=aa (by
     have h0:dK v p 2=0:=by rw[HL2.out,if_pos (by unfold kL;exact au ⟨HSM.out,fun x=>h0 x.2,fun _=>hi,fun x=>absurd hq x⟩)]
     rw[HE2.out,h0,ae (fun x=>x rfl)])
    have HRT:Hid (GI v 3 p.props=(aM 3 p.props).2):=aa (by
     unfold GI;rw[if_pos h4,ae h0,show p.props=[]from aF (by omega)];rfl)
    have d0:decide ((0:Int)<(p.props.length:Int))=false:=ah (by omega);have d1:decide (0<p.props.length)=false:=ah h0;have H4:=aa h4;clear hq hi HV5 h4 h0
    go_wp2_with fail
    refine(Ik p h _ (S3.out.into 0 rfl) OK.out).mono ?_;rintro e w4 ⟨rfl,hb⟩;have S4:=aa (S3.out.below hb);clear hb hl3 k3 k4 k20
    have n5:=S4.out.cell 0 rfl 5;rw[di]at n5;have n24:=S4.out.cell 0 rfl 24;rw[bR]at n24
    go_wp2_with fail
    refine(Hg p.topic _ (by have:=OK.out.texts.1;omega)).mono ?_;rintro e w5 ⟨rfl,rfl⟩;have hem:=kR p.topic;have HN:Hid (tc v p=(fp p.topic || (decide (v=5)&&(qR p&&p.topic.toList.isEmpty)))):=aa (by rw[hem];rfl);clear hem;generalize (xg p.props 35).n=al at*;cases hn:fp p.topic
    ·rw[hn,nB]at HN;have HNM:=aa hn;cases he:p.topic.toList.isEmpty
     ·have HX:Hid (ii v p=10):=aa (by
       have h0:dK v p 3=10:=by rw[HL3.out,ae (by rw[HN.out,he,ru,ru];simp)]
       rw[HE3.out,h0];rfl)
      clear hn
      go_wp2
      go_ret
      exact⟨by rw[HX.out];rfl,S4.out.kept⟩
     cases ha:qR p
     ·have HX:Hid (ii v p=10):=aa (by
       have h0:dK v p 3=10:=by rw[HL3.out,ae (by rw[HN.out,ha,bj,ru];simp)]
       rw[HE3.out,h0];rfl)
      clear hn ha
      go_wp2
      go_ret
      exact⟨by rw[HX.out];rfl,S4.out.kept⟩
     have HX:Hid (ii v p=10):=aa (by
      have h0:dK v p 3=10:=by rw[HL3.out,ae (by rw[HN.out,ah (by have:=H4.out;omega),bj];simp)]
      rw[HE3.out,h0];rfl)
     clear hn ha
     go_wp2
     go_ret
     exact⟨by rw[HX.out];rfl,S4.out.kept⟩
    ·have HX3:Hid (ii v p=dK v p 4):=aa (by
      have h0:dK v p 3=0:=by rw[HL3.out,if_pos (by unfold tc;rw[hn];rfl)]
      rw[HE3.out,h0,ae (fun x=>x rfl)])
     clear hn
     go_wp2_with fail
     refine(Gx v 3 p.props _ rfl OK.out.props h.props.a h.props.c _ (S4.out.into 0 rfl).props OK.out.len.2.2.2 (S4.out.into 0 rfl).caps.2.2.2).mono ?_;rintro e w6 ⟨rfl,hb⟩;have S5:=aa (S4.out.below hb);clear hb
     rw[HRT.out]
     go_wp2
     go_ret
     exact⟨by rw[HX3.out,HL4.out];rfl,S5.out.kept⟩
  ·have e4:(v==4)=false:=ar.2 h4;have e5:(v==5)=true:=aK.2 (HV5 h4).out;have H5:Hid (v=5):=HV5 h4;have HE3:Hid (ii v p=if dK v p 3≠0 then dK v p 3 else dK v p 4):=aa (by
    have h0:dK v p 2=0:=by rw[HL2.out,if_pos (by unfold kL;exact au ⟨HSM.out,fun x=>h4 x.1,fun _=>hi,fun x=>absurd hq x⟩)]
    rw[HE2.out,h0,ae (fun x=>x rfl)])
   have HRT:Hid (GI v 3 p.props=(aM 3 p.props).2):=aa (ae h4);clear hq hi HV5 h4
   go_wp2_with fail
   refine(Ik p h _ (S3.out.into 0 rfl) OK.out).mono ?_;rintro e w4 ⟨rfl,hb⟩;have S4:=aa (S3.out.below hb);clear hb hl3 k3 k4 k20
   have n5:=S4.out.cell 0 rfl 5;rw[di]at n5;have n24:=S4.out.cell 0 rfl 24;rw[bR]at n24
   go_wp2_with fail
   refine(Hg p.topic _ (by have:=OK.out.texts.1;omega)).mono ?_;rintro e w5 ⟨rfl,rfl⟩;have hem:=kR p.topic;have HN:Hid (tc v p=(fp p.topic || (decide (v=5)&&(qR p&&p.topic.toList.isEmpty)))):=aa (by rw[hem];rfl);clear hem;generalize (xg p.props 35).n=al at*;cases hn:fp p.topic
   ·rw[hn,nB]at HN;have HNM:=aa hn;cases he:p.topic.toList.isEmpty
    ·have HX:Hid (ii v p=10):=aa (by
      have h0:dK v p 3=10:=by rw[HL3.out,ae (by rw[HN.out,he,ru,ru];simp)]
      rw[HE3.out,h0];rfl)
     clear hn
     go_wp2
     go_ret
     exact⟨by rw[HX.out];rfl,S4.out.kept⟩
    cases ha:qR p
    ·have HX:Hid (ii v p=10):=aa (by
      have h0:dK v p 3=10:=by rw[HL3.out,ae (by rw[HN.out,ha,bj,ru];simp)]
      rw[HE3.out,h0];rfl)
     clear hn ha
     go_wp2
     go_ret
     exact⟨by rw[HX.out];rfl,S4.out.kept⟩
    have HX3:Hid (ii v p=dK v p 4):=aa (by
     have h0:dK v p 3=0:=by rw[HL3.out,if_pos (by rw[HN.out,he,ha,au H5.out];rfl)]
     rw[HE3.out,h0,ae (fun x=>x rfl)])
    clear hn ha
    go_wp2_with fail
    refine(Gx v 3 p.props _ rfl OK.out.props h.props.a h.props.c _ (S4.out.into 0 rfl).props OK.out.len.2.2.2 (S4.out.into 0 rfl).caps.2.2.2).mono ?_;rintro e w6 ⟨rfl,hb⟩;have S5:=aa (S4.out.below hb);clear hb
    rw[HRT.out]
    go_wp2
    go_ret
    exact⟨by rw[HX3.out,HL4.out];rfl,S5.out.kept⟩
   ·have HX3:Hid (ii v p=dK v p 4):=aa (by
     have h0:dK v p 3=0:=by rw[HL3.out,if_pos (by unfold tc;rw[hn];rfl)]
     rw[HE3.out,h0,ae (fun x=>x rfl)])
    clear hn
    go_wp2_with fail
    refine(Gx v 3 p.props _ rfl OK.out.props h.props.a h.props.c _ (S4.out.into 0 rfl).props OK.out.len.2.2.2 (S4.out.into 0 rfl).caps.2.2.2).mono ?_;rintro e w6 ⟨rfl,hb⟩;have S5:=aa (S4.out.below hb);clear hb
    rw[HRT.out]
    go_wp2
    go_ret
    exact⟨by rw[HX3.out,HL4.out];rfl,S5.out.kept⟩
 ·have q0:(p.qos==0)=false:=ar.2 hq;have q1:decide ((0:Int)<p.qos)=true:=au (by have:=HBQ.out;omega)
  by_cases hi:p.id<1
  ·have HX:Hid (ii v p=2):=aa (by
    have h0:dK v p 2=2:=by rw[HL2.out,ae (by unfold kL;simp only[Fx];exact fun x=>by have:=(x.2.2.2 hq).1;omega)]
    rw[HE2.out,h0];rfl)
   have i1:decide (p.id<(1:Int))=true:=au hi;clear hq hi
   go_wp2
   go_ret
   exact⟨by rw[HX.out];rfl,S3.out.kept⟩
  have i1:decide (p.id<(1:Int))=false:=ah hi
  by_cases hj:65535<p.id
  ·have HX:Hid (ii v p=2):=aa (by
    have h0:dK v p 2=2:=by rw[HL2.out,ae (by unfold kL;simp only[Fx];exact fun x=>by have:=(x.2.2.2 hq).2;omega)]
    rw[HE2.out,h0];rfl)
   have i2:decide ((65535:Int)<p.id)=true:=au hj;clear hq hi hj
   go_wp2
   go_ret
   exact⟨by rw[HX.out];rfl,S3.out.kept⟩
  have i2:decide ((65535:Int)<p.id)=false:=ah hj;have HV5:v≠4→Hid (v=5):=fun x=>aa (by have:=aR (show decide (v=4∨v=5)=true from HK3.out.1);omega)
  by_cases h4:v=4
  ·have e4:(v==4)=true:=aK.2 h4;have e5:(v==5)=false:=ar.2 (by omega)
   by_cases h0:0<p.props.length
   ·have HX:Hid (ii v p=2):=aa (by
     have h0:dK v p 2=2:=by rw[HL2.out,ae (by unfold kL;simp only[Fx];exact fun x=>x.2.1 ⟨h4,h0⟩)]
     rw[HE2.out,h0];rfl)
    have d0:decide ((0:Int)<(p.props.length:Int))=true:=au (by omega);have d1:decide (0<p.props.length)=true:=au h0;clear hq hi hj HV5 h4 h0
    go_wp2
    go_ret
    exact⟨by rw[HX.out];rfl,S3.out.kept⟩
   ·have HE3:Hid (ii v p=if dK v p 3≠0 then dK v p 3 else dK v p 4):=aa (by
     have h0:dK v p 2=0:=by rw[HL2.out,if_pos (by unfold kL;exact au ⟨HSM.out,fun x=>h0 x.2,fun x=>absurd x hq,fun _=>⟨by omega,by omega⟩⟩)]
     rw[HE2.out,h0,ae (fun x=>x rfl)])
    have HRT:Hid (GI v 3 p.props=(aM 3 p.props).2):=aa (by
     unfold GI;rw[if_pos h4,ae h0,show p.props=[]from aF (by omega)];rfl)
    have d0:decide ((0:Int)<(p.props.length:Int))=false:=ah (by omega);have d1:decide (0<p.props.length)=false:=ah h0;have H4:=aa h4;clear hq hi hj HV5 h4 h0
    go_wp2_with fail
    refine(Ik p h _ (S3.out.into 0 rfl) OK.out).mono ?_;rintro e w4 ⟨rfl,hb⟩;have S4:=aa (S3.out.below hb);clear hb hl3 k3 k4 k20
    have n5:=S4.out.cell 0 rfl 5;rw[di]at n5;have n24:=S4.out.cell 0 rfl 24;rw[bR]at n24
    go_wp2_with fail
    refine(Hg p.topic _ (by have:=OK.out.texts.1;omega)).mono ?_;rintro e w5 ⟨rfl,rfl⟩;have hem:=kR p.topic;have HN:Hid (tc v p=(fp p.topic || (decide (v=5)&&(qR p&&p.topic.toList.isEmpty)))):=aa (by rw[hem];rfl);clear hem;generalize (xg p.props 35).n=al at*;cases hn:fp p.topic
    ·rw[hn,nB]at HN;have HNM:=aa hn;cases he:p.topic.toList.isEmpty
     ·have HX:Hid (ii v p=10):=aa (by
       have h0:dK v p 3=10:=by rw[HL3.out,ae (by rw[HN.out,he,ru,ru];simp)]
       rw[HE3.out,h0];rfl)
      clear hn
      go_wp2
      go_ret
      exact⟨by rw[HX.out];rfl,S4.out.kept⟩
     cases ha:qR p
     ·have HX:Hid (ii v p=10):=aa (by
       have h0:dK v p 3=10:=by rw[HL3.out,ae (by rw[HN.out,ha,bj,ru];simp)]
       rw[HE3.out,h0];rfl)
      clear hn ha
      go_wp2
      go_ret
      exact⟨by rw[HX.out];rfl,S4.out.kept⟩
     have HX:Hid (ii v p=10):=aa (by
      have h0:dK v p 3=10:=by rw[HL3.out,ae (by rw[HN.out,ah (by have:=H4.out;omega),bj];simp)]
      rw[HE3.out,h0];rfl)
     clear hn ha
     go_wp2
     go_ret
     exact⟨by rw[HX.out];rfl,S4.out.kept⟩
    ·have HX3:Hid (ii v p=dK v p 4):=aa (by
      have h0:dK v p 3=0:=by rw[HL3.out,if_pos (by unfold tc;rw[hn];rfl)]
      rw[HE3.out,h0,ae (fun x=>x rfl)])
     clear hn
     go_wp2_with fail
     refine(Gx v 3 p.props _ rfl OK.out.props h.props.a h.props.c _ (S4.out.into 0 rfl).props OK.out.len.2.2.2 (S4.out.into 0 rfl).caps.2.2.2).mono ?_;rintro e w6 ⟨rfl,hb⟩;have S5:=aa (S4.out.below hb);clear hb
     rw[HRT.out]
     go_wp2
     go_ret
     exact⟨by rw[HX3.out,HL4.out];rfl,S5.out.kept⟩
  ·have e4:(v==4)=false:=ar.2 h4;have e5:(v==5)=true:=aK.2 (HV5 h4).out;have H5:Hid (v=5):=HV5 h4;have HE3:Hid (ii v p=if dK v p 3≠0 then dK v p 3 else dK v p 4):=aa (by
    have h0:dK v p 2=0:=by rw[HL2.out,if_pos (by unfold kL;exact au ⟨HSM.out,fun x=>h4 x.1,fun x=>absurd x hq,fun _=>⟨by omega,by omega⟩⟩)]
    rw[HE2.out,h0,ae (fun x=>x rfl)])
   have HRT:Hid (GI v 3 p.props=(aM 3 p.props).2):=aa (ae h4);clear hq hi hj HV5 h4
   go_wp2_with fail
   refine(Ik p h _ (S3.out.into 0 rfl) OK.out).mono ?_;rintro e w4 ⟨rfl,hb⟩;have S4:=aa (S3.out.below hb);clear hb hl3 k3 k4 k20
   have n5:=S4.out.cell 0 rfl 5;rw[di]at n5;have n24:=S4.out.cell 0 rfl 24;rw[bR]at n24
   go_wp2_with fail
   refine(Hg p.topic _ (by have:=OK.out.texts.1;omega)).mono ?_;rintro e w5 ⟨rfl,rfl⟩;have hem:=kR p.topic;have HN:Hid (tc v p=(fp p.topic || (decide (v=5)&&(qR p&&p.topic.toList.isEmpty)))):=aa (by rw[hem];rfl);clear hem;generalize (xg p.props 35).n=al at*;cases hn:fp p.topic
   ·rw[hn,nB]at HN;have HNM:=aa hn;cases he:p.topic.toList.isEmpty
    ·have HX:Hid (ii v p=10):=aa (by
      have h0:dK v p 3=10:=by rw[HL3.out,ae (by rw[HN.out,he,ru,ru];simp)]
      rw[HE3.out,h0];rfl)
     clear hn
     go_wp2
     go_ret
     exact⟨by rw[HX.out];rfl,S4.out.kept⟩
    cases ha:qR p
    ·have HX:Hid (ii v p=10):=aa (by
      have h0:dK v p 3=10:=by rw[HL3.out,ae (by rw[HN.out,ha,bj,ru];simp)]
      rw[HE3.out,h0];rfl)
     clear hn ha
     go_wp2
     go_ret
     exact⟨by rw[HX.out];rfl,S4.out.kept⟩
    have HX3:Hid (ii v p=dK v p 4):=aa (by
     have h0:dK v p 3=0:=by rw[HL3.out,if_pos (by rw[HN.out,he,ha,au H5.out];rfl)]
     rw[HE3.out,h0,ae (fun x=>x rfl)])
    clear hn ha
    go_wp2_with fail
    refine(Gx v 3 p.props _ rfl OK.out.props h.props.a h.props.c _ (S4.out.into 0 rfl).props OK.out.len.2.2.2 (S4.out.into 0 rfl).caps.2.2.2).mono ?_;rintro e w6 ⟨rfl,hb⟩;have S5:=aa (S4.out.below hb);clear hb
    rw[HRT.out]
    go_wp2
    go_ret
    exact⟨by rw[HX3.out,HL4.out];rfl,S5.out.kept⟩
   ·have HX3:Hid (ii v p=dK v p 4):=aa (by
     have h0:dK v p 3=0:=by rw[HL3.out,if_pos (by unfold tc;rw[hn];rfl)]
     rw[HE3.out,h0,ae (fun x=>x rfl)])
    clear hn
    go_wp2_with fail
    refine(Gx v 3 p.props _ rfl OK.out.props h.props.a h.props.c _ (S4.out.into 0 rfl).props OK.out.len.2.2.2 (S4.out.into 0 rfl).caps.2.2.2).mono ?_;rintro e w6 ⟨rfl,hb⟩;have S5:=aa (S4.out.below hb);clear hb
    rw[HRT.out]
    go_wp2
    go_ret
    exact⟨by rw[HX3.out,HL4.out];rfl,S5.out.kept⟩
theorem PQ (T Y:ByteArray):T++(⟨#[]⟩:ByteArray)++Y=T++Y:=eX (by rw[fe,fe,fe];simp[ls])
theorem Md {v:Int} {l:List Pr} (h:(aM 3 l).2=0):(Hq v 3 l).size≤131075004:=by
 unfold Hq
 split
 ·exact ag _
 ·rw[GW];exact(G6 3 l h).2
theorem JV (v:Int) (p:Pk) (h:Hs) (w:World) (ip:PkIn w w.heap.size p h) (ok:PkOk p):
  Calls Tryz.prog 171 #[.int .i64 v,pkV p h] w fun e w'=>e= .returned (.tuple #[.string (Gf v p).1,.int .i64 (Gf v p).2])∧Below w.heap.size w w':=by
 have OK:=aa ok;have S0:=aa ((St.start w).push ip);have HE:Hid (Gf v p=if ii v p=0 then(ys v p++p.payload,0)else(⟨#[]⟩,ii v p)):=aa rfl;have H2:Hid (ys v p=if v=5 then BH p++⟨(aM p.kind p.props).1.toArray⟩else BH p):=aa rfl;have H1:Hid (BH p=if p.qos≠0 then cQ p.topic++⟨(da p.id.toNat 2).toArray⟩else cQ p.topic):=aa rfl;clear ip ok;have hl:=S0.out.ld 0 rfl
 go_enter Tryz.func171,Tryz.ntmps171
 go_wp2_with fail
 refine(IW v p h _ (S0.out.into 0 rfl) OK.out).mono ?_;rintro e w1 ⟨rfl,hb⟩;have S1:=aa (S0.out.below hb);clear hb hl
 by_cases he:ii v p=0
 rotate_left
 ·have e0:(ii v p !=0)=true:=aA.2 he;have HX:Hid (Gf v p=(⟨#[]⟩,ii v p)):=aa (by rw[HE.out,ae he]);clear he
  go_wp2
  go_ret2
  exact⟨by rw[HX.out];rfl,S1.out.kept⟩
 have HX:Hid (Gf v p=(ys v p++p.payload,0)):=aa (by rw[HE.out,if_pos he]);have G:=aa (zB he);rw[he];have HT:=aa (gL G.out.topic);have HXX:∀Q:ByteArray,BH p=Q→Hid (Gf v p=(Q++Hq v 3 p.props++p.payload,0)):=fun Q hQ=>aa (by
  rw[HX.out,H2.out];unfold Hq
  by_cases h5:v=5
  ·rw[if_pos h5,ae (by omega),hQ,G.out.kind]
  ·have h4:=G.out.k.resolve_right h5;rw[ae h5,if_pos h4,hQ,PQ])
 have HTB:=aa (Md (v:=v) G.out.bytes);have k1:=S1.out.cell 0 rfl 5;rw[di]at k1;clear he
 go_wp2_with fail
 refine(JC p.topic _ (by have:=OK.out.texts.1;omega)).mono ?_;rintro e w2 ⟨rfl,hb⟩;have S2:=aa (S1.out.below hb);clear hb k1
 rw[show IM p.topic=(cQ p.topic,0)from if_pos G.out.topic];simp only;have hfs:(cQ p.topic).size≤65537:=by rw[eN];have:=HT.out;omega
 obtain⟨T,hT⟩:∃T,cQ p.topic=T:=⟨_,rfl⟩;rw[hT]at hfs H1⊢;have HFS:=aa hfs;obtain⟨Y,hY⟩:∃Y:ByteArray,p.payload=Y:=⟨_,rfl⟩;have HY:Hid (Y.size≤140737488351232):=aa (by rw[←hY];exact OK.out.texts.2.1);rw[hY]at HXX;have HYY:=aa hY;have HXH:=aa HXX;clear hT hfs hY HXX;have k2:=S2.out.cell 0 rfl 3;rw[dt]at k2;have k3:=S2.out.cell 0 rfl 4;rw[dj]at k3
 by_cases hq:p.qos=0
 ·have eq:decide ((0:Int)<p.qos)=false:=ah (by omega);have HW:=HXH.out T (by rw[H1.out,ae (fun y=>y hq)]);clear hq k3;obtain⟨Z,hZ⟩:∃Z:ByteArray,Hq v 3 p.props=Z:=⟨_,rfl⟩;rw[hZ]at HW HTB;have HZ:=aa hZ;have ht:=jw (W:=w2) (fun x hx=>G5 v 3 p.props _ rfl OK.out.props h.props.a h.props.c x ((S2.out.below hx).into 0 rfl).props OK.out.len.2.2.2 (S2.out.into 0 rfl).caps.2.2.2);rw[HZ.out]at ht;have k6:=cell_regrown (show w2.cell? ⟨w.heap.size,6,none⟩=some (.string Y) by rw[←HYY.out];exact S2.out.cell 0 rfl 6);have k24:=cell_regrown (show w2.cell? ⟨w.heap.size,24,none⟩=some (.slice h.props.a p.props.length h.props.c)from S2.out.cell 0 rfl 24);have hs1:¬(9223372036854775807<T.size+Z.size):=by have:=HFS.out;have:=HTB.out;omega
  have hs2:¬(9223372036854775807<T.size+Z.size+Y.size):=by have:=HFS.out;have:=HTB.out;have:=HY.out;omega
  have HBQ:=aa (fun d os=>S2.out.kept.trans ((below_regrown w2 d os).mono S2.out.kept.size));clear hZ
  go_wp2_with fail
  refine wp_region_quiet_below (by kernel_rfl) (by kernel_rfl) ?_
  repeat (go_big_quiet_step (with_reducible exact ht _ _))
  refine kE ?_;intro _ hw';obtain⟨⟨dq,osq⟩,hw''⟩:=hw';subst hw'';have KF:=aa (HBQ.out dq osq);clear ht k6 k24 HBQ;generalize Sort.grow (redrawn _ dq) osq=wq at*
  go_wp2
  go_ret2
  exact⟨by rw[HW.out];rfl,KF.out⟩
 ·have eq:decide ((0:Int)<p.qos)=true:=au (by
   have:=Gy G.out.flags;omega)
  obtain⟨m,hm,hw1⟩:∃m:Nat,Hid (p.id.toNat=m)∧IntKind.u64.wrap p.id=(m:Int):=⟨_,aa rfl,by rw[iZ];have:=G.out.id1 hq;omega⟩;have HM:Hid (m<65536):=aa (by have:=hm.out;have:=G.out.id1 hq;omega);obtain⟨X,hX⟩:∃X:ByteArray,(⟨(da m 2).toArray⟩:ByteArray)=X:=⟨_,rfl⟩;have HXE:=aa hX;have HXS:Hid (X.size=2):=aa (by rw[←hX,GW,fM]);have HW:=HXH.out (T++X) (by rw[H1.out,if_pos hq,hm.out,hX]);clear hq hX
  go_wp2_with fail
  refine(GV m 2 _ (by have:=HM.out;omega) (by omega) (by omega)).mono ?_;rintro e w3 ⟨rfl,hb⟩;have S3:=aa (S2.out.below hb);clear hb k2 k3
  rw[HXE.out];have hs0:¬(9223372036854775807<T.size+X.size):=by have:=HFS.out;have:=HXS.out;omega
  obtain⟨Z,hZ⟩:∃Z:ByteArray,Hq v 3 p.props=Z:=⟨_,rfl⟩;rw[hZ]at HW HTB;have HZ:=aa hZ;have ht:=jw (W:=w3) (fun x hx=>G5 v 3 p.props _ rfl OK.out.props h.props.a h.props.c x ((S3.out.below hx).into 0 rfl).props OK.out.len.2.2.2 (S3.out.into 0 rfl).caps.2.2.2);rw[HZ.out]at ht;have k6:=cell_regrown (show w3.cell? ⟨w.heap.size,6,none⟩=some (.string Y) by rw[←HYY.out];exact S3.out.cell 0 rfl 6);have k24:=cell_regrown (show w3.cell? ⟨w.heap.size,24,none⟩=some (.slice h.props.a p.props.length h.props.c)from S3.out.cell 0 rfl 24);have hs1:¬(9223372036854775807<T.size+X.size+Z.size):=by have:=HFS.out;have:=HXS.out;have:=HTB.out;omega
  have hs2:¬(9223372036854775807<T.size+X.size+Z.size+Y.size):=by have:=HFS.out;have:=HXS.out;have:=HTB.out;have:=HY.out;omega
  have HBQ:=aa (fun d os=>S3.out.kept.trans ((below_regrown w3 d os).mono S3.out.kept.size));clear hZ
  go_wp2_with fail
  refine wp_region_quiet_below (by kernel_rfl) (by kernel_rfl) ?_
  repeat (go_big_quiet_step (with_reducible exact ht _ _))
  refine kE ?_;intro _ hw';obtain⟨⟨dq,osq⟩,hw''⟩:=hw';subst hw'';have KF:=aa (HBQ.out dq osq);clear ht k6 k24 HBQ;generalize Sort.grow (redrawn _ dq) osq=wq at*
  go_wp2
  go_ret2
  exact⟨by rw[HW.out];rfl,KF.out⟩
end Go.Proofs.YtpcleamaieaefaaGreatDoor
namespace Go.Proofs.YtpcleamaieaefaaGreatDoor
open Go.RowKit
def Ih (v k:Int):Bool:=decide (k=12∨k=13∨(k=14∧v=4))
theorem PL {v k:Int} (h:jR v k=0):(12≤k∧k≤15)∧(v=4∨v=5)∧¬(k=15∧v=4):=by
 unfold jR at h
 split at h
 ·cases h
 ·next h1=>
  split at h
  ·cases h
  ·next h2=>
   refine⟨?_,aU.1 fun x=>h1 (.inr x),h2⟩;exact aR (show decide (12≤k∧k≤15)=true from by
    cases e:decide (12≤k∧k≤15)
    ·exact absurd (.inl e) h1
    ·rfl)
theorem Jk {v k:Int} (h:jR v k=0):Ih v k= !fO v k:=by
 obtain⟨h1,h2,h3⟩:=PL h;unfold Ih fO
 by_cases c:(k=14∨k=15)∧v=5
 ·rw[au c];exact ah (by omega)
 ·rw[ah c];exact au (by omega)
theorem ON (v:Int) (p:Pk):fH v p=if jR v p.kind≠0 then jR v p.kind
  else if p≠conQ v p∨(Ih v p.kind=false∧may p.kind p.code=false)then 2 else GI v p.kind p.props:=by
 unfold fH
 by_cases hk:jR v p.kind≠0
 ·rw[if_pos hk,if_pos hk]
 rw[ae hk,ae hk];have hk0:=aU.1 hk;have hpl:=Jk hk0
 by_cases h1:fO v p.kind=true∧may p.kind p.code=false
 ·rw[if_pos h1,if_pos (.inr ⟨by rw[hpl,h1.1];rfl,h1.2⟩)]
 rw[ae h1]
 by_cases h2:p≠conQ v p
 ·rw[if_pos h2,if_pos (.inl h2)]
 rw[ae h2,ae,Ir]
 ·intro h4;have hm:fO v p.kind=false:=ah (fun x=>by omega);have hq:conQ v p=aP p.kind 0 0 []:=by unfold conQ;rw[ae (by rw[hm];decide)]
  have hp:=aU.1 h2;rw[hq]at hp;have:p.props=[]:=congrArg Pk.props hp;rw[this];rfl
 ·rintro (x| ⟨x,y⟩)
  ·exact h2 x
  ·refine h1 ⟨?_,y⟩;rw[hpl]at x;cases e:fO v p.kind
   ·rw[e]at x;cases x
   ·rfl
theorem MD {v:Int} {p:Pk} (h:fH v p=0) (hp:Ih v p.kind=true):FY v p=([],0):=by
 have g:=Ap h;have hm:fO v p.kind=false:=by
  have:=Jk g.k;rw[hp]at this;cases e:fO v p.kind
  ·rfl
  ·rw[e]at this;cases this
 obtain⟨e1,e2⟩:=g.old hm;unfold FY;rw[if_pos h,g.tail];unfold oG;rw[if_pos ⟨e1,by rw[e2];rfl⟩]
theorem MY (c k:Int) (l:List Pr):(⟨(xV c l k).toArray⟩:ByteArray)=if c<0∨255<c∨(aM k l).2≠0 then⟨#[]⟩else Ia 5 k c l:=by
 unfold xV Ia
 split
 ·rfl
 ·rw[if_pos rfl]
end Go.Proofs.YtpcleamaieaefaaGreatDoor
namespace Go.Proofs.YtpcleamaieaefaaGreatDoor
open Go.RowKit
attribute [local go_sem ↓] bD bF bH bI bu
attribute [local go_sem] bc aD bh bg bK bJ bd aY be aO ax cI dC dB dt dj di dA dr dp dn bW co bO bZ bX cz cy cw cu ct cC cn bS bP bR
theorem G7 (v k:Int) (w:World):
  Calls Tryz.prog 198 #[.int .i64 v,.int .i64 k] w fun e w'=>e= .returned (.bool (Ih v k))∧w=w':=by
 have HE:Hid (Ih v k=decide (k=12∨k=13∨(k=14∧v=4))):=aa rfl
 go_enter Tryz.func198,Tryz.ntmps198
 by_cases h1:k=12
 ·have e1:(k==12)=true:=aK.2 h1;have HX:Hid (Ih v k=true):=aa (by rw[HE.out];exact au (.inl h1));clear h1
  go_wp2
  go_ret
  exact⟨by rw[HX.out];rfl,rfl⟩
 have e1:(k==12)=false:=ar.2 h1
 by_cases h2:k=13
 ·have e2:(k==13)=true:=aK.2 h2;have HX:Hid (Ih v k=true):=aa (by rw[HE.out];exact au (.inr (.inl h2)));clear h1 h2
  go_wp2
  go_ret
  exact⟨by rw[HX.out];rfl,rfl⟩
 have e2:(k==13)=false:=ar.2 h2
 by_cases h3:k=14
 ·have e3:(k==14)=true:=aK.2 h3
  by_cases h4:v=4
  ·have e4:(v==4)=true:=aK.2 h4;have HX:Hid (Ih v k=true):=aa (by rw[HE.out];exact au (.inr (.inr ⟨h3,h4⟩)));clear h1 h2 h3 h4
   go_wp2
   go_ret
   exact⟨by rw[HX.out];rfl,rfl⟩
  ·have e4:(v==4)=false:=ar.2 h4;have HX:Hid (Ih v k=false):=aa (by rw[HE.out];exact ah (by omega));clear h1 h2 h3 h4
   go_wp2
   go_ret
   exact⟨by rw[HX.out];rfl,rfl⟩
 ·have e3:(k==14)=false:=ar.2 h3;have HX:Hid (Ih v k=false):=aa (by rw[HE.out];exact ah (by omega));clear h1 h2 h3
  go_wp2
  go_ret
  exact⟨by rw[HX.out];rfl,rfl⟩
theorem LF {v k:Int} (h:¬((12≤k∧k≤15)∧(v=4∨v=5))):jR v k=2:=by
 unfold jR;refine if_pos ?_
 by_cases hv:v=4∨v=5
 ·exact .inl (ah (fun x=>h ⟨x,hv⟩))
 ·exact .inr hv
theorem NH {v k:Int} (h:k=15∧v=4):jR v k=8:=by
 obtain⟨rfl,rfl⟩:=h;rfl
theorem L9 {v k:Int} (h:(12≤k∧k≤15)∧(v=4∨v=5)) (h2:¬(k=15∧v=4)):jR v k=0:=by
 unfold jR;have h1:qH k=true:=au h.1;rw[ae,ae h2];rintro (x| x)
 ·rw[h1]at x;cases x
 ·exact x h.2
theorem IY (v:Int) (p:Pk) (h:Hs) (w:World) (ip:PkIn w w.heap.size p h) (ok:PkOk p):
  Calls Tryz.prog 169 #[.int .i64 v,pkV p h] w fun e w'=>e= .returned (.int .i64 (fH v p))∧Below w.heap.size w w':=by
 have OK:=aa ok;have IP:=aa ip;have S0:=aa ((St.start w).push ip);have HE:=aa (ON v p);clear ip ok
 go_enter Tryz.func169,Tryz.ntmps169
 have k0:=S0.out.cell 0 rfl 0;rw[cI]at k0
 go_wp2_with fail
 refine(pS v _).mono ?_;rintro e w1 ⟨rfl,rfl⟩;cases hk:ba v
 ·have HX:Hid (fH v p=2):=aa (by have hK:jR v p.kind=2:=LF (fun x=>by have h2:=Gy (show decide (v=4∨v=5)=false from hk);exact h2 x.2);rw[HE.out,hK];rfl);clear hk
  go_wp2
  go_ret
  exact⟨by rw[HX.out];rfl,S0.out.kept⟩
 have hv:=aR (show decide (v=4∨v=5)=true from hk)
 by_cases h4:p.kind<12
 ·have HX:Hid (fH v p=2):=aa (by have hK:jR v p.kind=2:=LF (fun x=>by omega);rw[HE.out,hK];rfl);clear hk hv
  go_wp2
  go_ret
  exact⟨by rw[HX.out];rfl,S0.out.kept⟩
 have d4:decide (p.kind<(12:Int))=false:=ah h4
 by_cases h7:15<p.kind
 ·have HX:Hid (fH v p=2):=aa (by have hK:jR v p.kind=2:=LF (fun x=>by omega);rw[HE.out,hK];rfl);clear hk h4 hv
  go_wp2
  go_ret
  exact⟨by rw[HX.out];rfl,S0.out.kept⟩
 have d7:decide ((15:Int)<p.kind)=false:=ah h7
 by_cases h15:p.kind=15
 ·have e15:(p.kind==15)=true:=aK.2 h15
  by_cases hv4:v=4
  ·have e4:(v==4)=true:=aK.2 hv4;have HX:Hid (fH v p=8):=aa (by have hK:jR v p.kind=8:=NH ⟨h15,hv4⟩;rw[HE.out,hK];rfl);clear hk h4 h7 hv h15 hv4
   go_wp2
   go_ret
   exact⟨by rw[HX.out];rfl,S0.out.kept⟩
  have e4:(v==4)=false:=ar.2 hv4;have HK:Hid (jR v p.kind=0):=aa (L9 ⟨by omega,hv⟩ (fun x=>hv4 x.2));have HPM:=aa (Jk HK.out);have HE1:Hid (fH v p=if p≠conQ v p∨(Ih v p.kind=false∧may p.kind p.code=false)then 2 else GI v p.kind p.props):=aa (by rw[HE.out,ae (fun x=>x HK.out)]);have S2:Hid (St w [(w.heap.size,p,h),((w.heap.size+1),aP p.kind 0 0 [],hs0)] ((w.alloc (.cells (pkC p h) PkT)).alloc (.cells (pkC (aP p.kind 0 0 []) hs0) PkT))):=aa (by
   have:=S0.out.push (PkIn.R1 (w:=w.alloc (.cells (pkC p h) PkT)) (B:=(w.alloc (.cells (pkC p h) PkT)).heap.size) (A:=Option.none) (n:=0) (l:=[]) (Rd.nil _ _ _ _) (ag _) p.kind 0 0);rw[show(w.alloc (.cells (pkC p h) PkT)).heap.size=w.heap.size+1 by simp]at this;exact this)
  have hst0:∀q k,(zc (.pointer (some ⟨w.heap.size+1,0,none⟩)) (pkV q k)).run Tryz.prog ((w.alloc (.cells (pkC p h) PkT)).alloc (.cells (pkC pk0 hs0) PkT))= .ok () ((w.alloc (.cells (pkC p h) PkT)).alloc (.cells (pkC q k) PkT)):=fun q k=>by
   have:=ax (w.alloc (.cells (pkC p h) PkT)) pk0 q hs0 k;rw[show(w.alloc (.cells (pkC p h) PkT)).heap.size=w.heap.size+1 by simp]at this;exact this
  have k2:((w.alloc (.cells (pkC p h) PkT)).alloc (.cells (pkC (aP p.kind 0 0 []) hs0) PkT)).cell? ⟨w.heap.size,0,none⟩=some (.int .i64 p.kind):=(S2.out.cell 0 rfl 0).trans (cI _ _);clear hk h4 h7 hv h15 hv4 HE
  go_wp2_with fail
  (try rw[yP])
  refine(G7 v p.kind _).mono ?_;rintro e w2 ⟨rfl,rfl⟩;clear k0 k2 hst0;cases hm:Ih v p.kind
  ·have HQ:Hid (conQ v p=aP p.kind 0 p.code p.props):=aa (by unfold conQ;rw[if_pos (by have:=HPM.out;rw[hm]at this;cases e:fO v p.kind;rw[e]at this;cases this;rfl)]);have HE2:Hid (fH v p=if p≠aP p.kind 0 p.code p.props∨may p.kind p.code=false then 2 else GI v p.kind p.props):=aa (by rw[HE1.out,HQ.out,hm];simp);have HPL:=aa hm;have k4:=S2.out.cell 0 rfl 21;rw[cn]at k4;have k5:=S2.out.cell 0 rfl 24;rw[bR]at k5;have j4:((w.alloc (.cells (pkC p h) PkT)).alloc (.cells (pkC (aP p.kind 0 0 []) hs0) PkT)).cell? ⟨(w.heap.size+1),21,none⟩=some (.int .i64 0):=S2.out.cell 1 rfl 21;have j5:((w.alloc (.cells (pkC p h) PkT)).alloc (.cells (pkC (aP p.kind 0 0 []) hs0) PkT)).cell? ⟨(w.heap.size+1),24,none⟩=some (.slice none 0 0):=S2.out.cell 1 rfl 24;have f4:=(S2.out.bk 1 rfl).free 21;have f5:=(S2.out.bk 1 rfl).free 24;have hne:(w.heap.size==(w.heap.size+1))=false:=ar.2 (by simp);clear hm;generalize (w.heap.size+1)=g1 at*;generalize (w.alloc (.cells (pkC p h) PkT)).alloc (.cells (pkC (aP p.kind 0 0 []) hs0) PkT)=W2 at*
   go_wp2_with fail
   go_region
   have S5:=aa ((S2.out.conQ IP.out (by simpa using hne)).drew);have hl0:=S5.out.ld 0 rfl;have hl1:=S5.out.ld 1 rfl;clear k4 k5 j4 j5 f4 f5 hne;generalize ((W2.setCell ⟨g1,21,none⟩ (.int .i64 p.code)).setCell ⟨g1,24,none⟩ (.slice h.props.a p.props.length h.props.c)).drew=w5 at*
   go_wp2_with fail
   refine(GP p (aP p.kind 0 p.code p.props) h (vU h) _ (S5.out.into 0 rfl) (S5.out.into 1 rfl) OK.out.len (Df OK.out.len)).mono ?_;rintro e w6 ⟨rfl,hb⟩;have S6:=aa (S5.out.below hb);clear hb hl0 hl1
   by_cases hs:p=aP p.kind 0 p.code p.props
   rotate_left
   ·rw[ah hs];have HX:Hid (fH v p=2):=aa (by rw[HE2.out,if_pos (.inl hs)]);clear hs
    go_wp2
    go_ret
    exact⟨by rw[HX.out];rfl,S6.out.kept⟩
   rw[au hs];have HSM:=aa hs;have k6:=S6.out.cell 0 rfl 0;rw[cI]at k6;have k7:=S6.out.cell 0 rfl 21;rw[cn]at k7;clear hs
   go_wp2_with fail
   refine(G7 v p.kind _).mono ?_;rintro e w7 ⟨rfl,rfl⟩;rw[HPL.out]
   go_wp2_with fail
   refine(Ht p.kind p.code _).mono ?_;rintro e w8 ⟨rfl,hb⟩;have S8:=aa (S6.out.below hb);clear hb k6 k7
   cases hy:may p.kind p.code
   ·have HX:Hid (fH v p=2):=aa (by rw[HE2.out,if_pos (.inr hy)]);clear hy
    go_wp2
    go_ret
    exact⟨by rw[HX.out];rfl,S8.out.kept⟩
   have HX:Hid (fH v p=GI v p.kind p.props):=aa (by rw[HE2.out,ae (fun x=>x.elim (fun y=>y HSM.out) (fun y=>by rw[hy]at y;cases y))]);clear hy;have k8:=S8.out.cell 0 rfl 0;rw[cI]at k8;have k9:=S8.out.cell 0 rfl 24;rw[bR]at k9
   go_wp2_with fail
   refine(Gx v p.kind p.props _ rfl OK.out.props h.props.a h.props.c _ (S8.out.into 0 rfl).props OK.out.len.2.2.2 (S8.out.into 0 rfl).caps.2.2.2).mono ?_;rintro e w9 ⟨rfl,hb⟩;have S9:=aa (S8.out.below hb);clear hb k8 k9
   go_wp2
   go_ret
   exact⟨by rw[HX.out];rfl,S9.out.kept⟩
  ·have HQ:Hid (conQ v p=aP p.kind 0 0 []):=aa (by unfold conQ;rw[ae (by have:=HPM.out;rw[hm]at this;cases e:fO v p.kind;decide;rw[e]at this;cases this)]);have HE2:Hid (fH v p=if p≠aP p.kind 0 0 []then 2 else GI v p.kind p.props):=aa (by rw[HE1.out,HQ.out,hm];simp);have HPL:=aa hm;have hl0:=S2.out.ld 0 rfl;have hl1:=S2.out.ld 1 rfl;clear hm;generalize (w.heap.size+1)=g1 at*;generalize (w.alloc (.cells (pkC p h) PkT)).alloc (.cells (pkC (aP p.kind 0 0 []) hs0) PkT)=W2 at*
   go_wp2_with fail
   refine(GP p (aP p.kind 0 0 []) h hs0 _ (S2.out.into 0 rfl) (S2.out.into 1 rfl) OK.out.len ⟨ag _,ag _,ag _,ag _⟩).mono ?_;rintro e w6 ⟨rfl,hb⟩;have S6:=aa (S2.out.below hb);clear hb hl0 hl1
   by_cases hs:p=aP p.kind 0 0 []
   rotate_left
   ·rw[ah hs];have HX:Hid (fH v p=2):=aa (by rw[HE2.out,if_pos hs]);clear hs
    go_wp2
    go_ret
    exact⟨by rw[HX.out];rfl,S6.out.kept⟩
   rw[au hs];have HX:Hid (fH v p=GI v p.kind p.props):=aa (by rw[HE2.out,ae (fun x=>x hs)]);have k6:=S6.out.cell 0 rfl 0;rw[cI]at k6;have k7:=S6.out.cell 0 rfl 24;rw[bR]at k7;clear hs
   go_wp2_with fail
   refine(G7 v p.kind _).mono ?_;rintro e w7 ⟨rfl,rfl⟩;rw[HPL.out]
   go_wp2_with fail
   refine(Gx v p.kind p.props _ rfl OK.out.props h.props.a h.props.c _ (S6.out.into 0 rfl).props OK.out.len.2.2.2 (S6.out.into 0 rfl).caps.2.2.2).mono ?_;rintro e w9 ⟨rfl,hb⟩;have S9:=aa (S6.out.below hb);clear hb k6 k7
   go_wp2
   go_ret
   exact⟨by rw[HX.out];rfl,S9.out.kept⟩
 have e15:(p.kind==15)=false:=ar.2 h15;have HK:Hid (jR v p.kind=0):=aa (L9 ⟨by omega,hv⟩ (fun x=>h15 x.1));have HPM:=aa (Jk HK.out);have HE1:Hid (fH v p=if p≠conQ v p∨(Ih v p.kind=false∧may p.kind p.code=false)then 2 else GI v p.kind p.props):=aa (by rw[HE.out,ae (fun x=>x HK.out)]);have S2:Hid (St w [(w.heap.size,p,h),((w.heap.size+1),aP p.kind 0 0 [],hs0)] ((w.alloc (.cells (pkC p h) PkT)).alloc (.cells (pkC (aP p.kind 0 0 []) hs0) PkT))):=aa (by
  have:=S0.out.push (PkIn.R1 (w:=w.alloc (.cells (pkC p h) PkT)) (B:=(w.alloc (.cells (pkC p h) PkT)).heap.size) (A:=Option.none) (n:=0) (l:=[]) (Rd.nil _ _ _ _) (ag _) p.kind 0 0);rw[show(w.alloc (.cells (pkC p h) PkT)).heap.size=w.heap.size+1 by simp]at this;exact this)
 have hst0:∀q k,(zc (.pointer (some ⟨w.heap.size+1,0,none⟩)) (pkV q k)).run Tryz.prog ((w.alloc (.cells (pkC p h) PkT)).alloc (.cells (pkC pk0 hs0) PkT))= .ok () ((w.alloc (.cells (pkC p h) PkT)).alloc (.cells (pkC q k) PkT)):=fun q k=>by
  have:=ax (w.alloc (.cells (pkC p h) PkT)) pk0 q hs0 k;rw[show(w.alloc (.cells (pkC p h) PkT)).heap.size=w.heap.size+1 by simp]at this;exact this
 have k2:((w.alloc (.cells (pkC p h) PkT)).alloc (.cells (pkC (aP p.kind 0 0 []) hs0) PkT)).cell? ⟨w.heap.size,0,none⟩=some (.int .i64 p.kind):=(S2.out.cell 0 rfl 0).trans (cI _ _);clear hk h4 h7 hv h15 HE
 go_wp2_with fail
 (try rw[yP])
 refine(G7 v p.kind _).mono ?_;rintro e w2 ⟨rfl,rfl⟩;clear k0 k2 hst0;cases hm:Ih v p.kind
 ·have HQ:Hid (conQ v p=aP p.kind 0 p.code p.props):=aa (by unfold conQ;rw[if_pos (by have:=HPM.out;rw[hm]at this;cases e:fO v p.kind;rw[e]at this;cases this;rfl)]);have HE2:Hid (fH v p=if p≠aP p.kind 0 p.code p.props∨may p.kind p.code=false then 2 else GI v p.kind p.props):=aa (by rw[HE1.out,HQ.out,hm];simp);have HPL:=aa hm;have k4:=S2.out.cell 0 rfl 21;rw[cn]at k4;have k5:=S2.out.cell 0 rfl 24;rw[bR]at k5;have j4:((w.alloc (.cells (pkC p h) PkT)).alloc (.cells (pkC (aP p.kind 0 0 []) hs0) PkT)).cell? ⟨(w.heap.size+1),21,none⟩=some (.int .i64 0):=S2.out.cell 1 rfl 21;have j5:((w.alloc (.cells (pkC p h) PkT)).alloc (.cells (pkC (aP p.kind 0 0 []) hs0) PkT)).cell? ⟨(w.heap.size+1),24,none⟩=some (.slice none 0 0):=S2.out.cell 1 rfl 24;have f4:=(S2.out.bk 1 rfl).free 21;have f5:=(S2.out.bk 1 rfl).free 24;have hne:(w.heap.size==(w.heap.size+1))=false:=ar.2 (by simp);clear hm;generalize (w.heap.size+1)=g1 at*;generalize (w.alloc (.cells (pkC p h) PkT)).alloc (.cells (pkC (aP p.kind 0 0 []) hs0) PkT)=W2 at*
  go_wp2_with fail
  go_region
  have S5:=aa ((S2.out.conQ IP.out (by simpa using hne)).drew);have hl0:=S5.out.ld 0 rfl;have hl1:=S5.out.ld 1 rfl;clear k4 k5 j4 j5 f4 f5 hne;generalize ((W2.setCell ⟨g1,21,none⟩ (.int .i64 p.code)).setCell ⟨g1,24,none⟩ (.slice h.props.a p.props.length h.props.c)).drew=w5 at*
  go_wp2_with fail
  refine(GP p (aP p.kind 0 p.code p.props) h (vU h) _ (S5.out.into 0 rfl) (S5.out.into 1 rfl) OK.out.len (Df OK.out.len)).mono ?_;rintro e w6 ⟨rfl,hb⟩;have S6:=aa (S5.out.below hb);clear hb hl0 hl1
  by_cases hs:p=aP p.kind 0 p.code p.props
  rotate_left
  ·rw[ah hs];have HX:Hid (fH v p=2):=aa (by rw[HE2.out,if_pos (.inl hs)]);clear hs
   go_wp2
   go_ret
   exact⟨by rw[HX.out];rfl,S6.out.kept⟩
  rw[au hs];have HSM:=aa hs;have k6:=S6.out.cell 0 rfl 0;rw[cI]at k6;have k7:=S6.out.cell 0 rfl 21;rw[cn]at k7;clear hs
  go_wp2_with fail
  refine(G7 v p.kind _).mono ?_;rintro e w7 ⟨rfl,rfl⟩;rw[HPL.out]
  go_wp2_with fail
  refine(Ht p.kind p.code _).mono ?_;rintro e w8 ⟨rfl,hb⟩;have S8:=aa (S6.out.below hb);clear hb k6 k7
  cases hy:may p.kind p.code
  ·have HX:Hid (fH v p=2):=aa (by rw[HE2.out,if_pos (.inr hy)]);clear hy
   go_wp2
   go_ret
   exact⟨by rw[HX.out];rfl,S8.out.kept⟩
  have HX:Hid (fH v p=GI v p.kind p.props):=aa (by rw[HE2.out,ae (fun x=>x.elim (fun y=>y HSM.out) (fun y=>by rw[hy]at y;cases y))]);clear hy;have k8:=S8.out.cell 0 rfl 0;rw[cI]at k8;have k9:=S8.out.cell 0 rfl 24;rw[bR]at k9
  go_wp2_with fail
  refine(Gx v p.kind p.props _ rfl OK.out.props h.props.a h.props.c _ (S8.out.into 0 rfl).props OK.out.len.2.2.2 (S8.out.into 0 rfl).caps.2.2.2).mono ?_;rintro e w9 ⟨rfl,hb⟩;have S9:=aa (S8.out.below hb);clear hb k8 k9
  go_wp2
  go_ret
  exact⟨by rw[HX.out];rfl,S9.out.kept⟩
 ·have HQ:Hid (conQ v p=aP p.kind 0 0 []):=aa (by unfold conQ;rw[ae (by have:=HPM.out;rw[hm]at this;cases e:fO v p.kind;decide;rw[e]at this;cases this)]);have HE2:Hid (fH v p=if p≠aP p.kind 0 0 []then 2 else GI v p.kind p.props):=aa (by rw[HE1.out,HQ.out,hm];simp);have HPL:=aa hm;have hl0:=S2.out.ld 0 rfl;have hl1:=S2.out.ld 1 rfl;clear hm;generalize (w.heap.size+1)=g1 at*;generalize (w.alloc (.cells (pkC p h) PkT)).alloc (.cells (pkC (aP p.kind 0 0 []) hs0) PkT)=W2 at*
  go_wp2_with fail
  refine(GP p (aP p.kind 0 0 []) h hs0 _ (S2.out.into 0 rfl) (S2.out.into 1 rfl) OK.out.len ⟨ag _,ag _,ag _,ag _⟩).mono ?_;rintro e w6 ⟨rfl,hb⟩;have S6:=aa (S2.out.below hb);clear hb hl0 hl1
  by_cases hs:p=aP p.kind 0 0 []
  rotate_left
  ·rw[ah hs];have HX:Hid (fH v p=2):=aa (by rw[HE2.out,if_pos hs]);clear hs
   go_wp2
   go_ret
   exact⟨by rw[HX.out];rfl,S6.out.kept⟩
  rw[au hs];have HX:Hid (fH v p=GI v p.kind p.props):=aa (by rw[HE2.out,ae (fun x=>x hs)]);have k6:=S6.out.cell 0 rfl 0;rw[cI]at k6;have k7:=S6.out.cell 0 rfl 24;rw[bR]at k7;clear hs
  go_wp2_with fail
  refine(G7 v p.kind _).mono ?_;rintro e w7 ⟨rfl,rfl⟩;rw[HPL.out]
  go_wp2_with fail
  refine(Gx v p.kind p.props _ rfl OK.out.props h.props.a h.props.c _ (S6.out.into 0 rfl).props OK.out.len.2.2.2 (S6.out.into 0 rfl).caps.2.2.2).mono ?_;rintro e w9 ⟨rfl,hb⟩;have S9:=aa (S6.out.below hb);clear hb k6 k7
  go_wp2
  go_ret
  exact⟨by rw[HX.out];rfl,S9.out.kept⟩
theorem JZ (c k:Int) (l:List Pr) (n:Nat) (hn:l.length=n) (hg:∀p∈l,ea p) (A:Option Addr) (q:Nat) (w:World) (h:Rd w w.heap.size 4 A n (prs l)) (hl:n≤4611686018427387904) (hq:n≤q):
  Calls Tryz.prog 239 #[.int .i64 c,.slice A n q,.int .i64 k] w fun e w'=>e= .returned (.string ⟨(xV c l k).toArray⟩)∧Below w.heap.size w w':=by
 have HX:=aa (MY c k l);have H:=aa h;have HG:=aa hg;have HN:=aa hn;have HL:=aa hl;have HQ:=aa hq
 clear h hg hn hl hq;obtain⟨Z,hZ⟩:∃Z:ByteArray,(⟨(xV c l k).toArray⟩:ByteArray)=Z:=⟨_,rfl⟩;rw[hZ]at HX⊢;clear hZ
 by_cases h1:c<0
 ·have HY:Hid (Z=⟨#[]⟩):=aa (by rw[HX.out,if_pos (.inl h1)])
  go_enter Tryz.func239,Tryz.ntmps239
  go_wp2
  go_ret
  exact⟨by rw[HY.out];rfl,aq _ _⟩
 have d1:decide (c<(0:Int))=false:=ah h1
 by_cases h2:255<c
 ·have HY:Hid (Z=⟨#[]⟩):=aa (by rw[HX.out,if_pos (.inr (.inl h2))]);clear h1
  go_enter Tryz.func239,Tryz.ntmps239
  go_wp2
  go_ret
  exact⟨by rw[HY.out];rfl,aq _ _⟩
 have d2:decide ((255:Int)<c)=false:=ah h2;have HC:Hid (0≤c∧c<256):=aa (by omega)
 go_enter Tryz.func239,Tryz.ntmps239
 go_wp2_with fail
 refine(Hv k l n HN.out HG.out A q _ H.out HL.out HQ.out).mono ?_;rintro e w1 ⟨rfl,hb⟩;have HB:=aa hb;clear hb
 by_cases h3:(aM k l).2=0
 rotate_left
 ·have HY:Hid (Z=⟨#[]⟩):=aa (by rw[HX.out,if_pos (.inr (.inr h3))]);have e3:((aM k l).2 !=0)=true:=aA.2 h3;clear h1 h2 h3
  go_wp2
  go_ret
  exact⟨by rw[HY.out];rfl,HB.out⟩
 have HY:Hid (Z=Ia 5 k c l):=aa (by rw[HX.out,ae (fun x=>x.elim (fun y=>by omega) (fun y=>y.elim (fun z=>by omega) (fun z=>z h3)))]);rw[h3];clear h1 h2 h3
 go_wp2_with fail
 refine(JD 5 k c l n HN.out HC.out HG.out A q _ ((H.out.below HB.out).wider HB.out.size) HL.out HQ.out).mono ?_;rintro e w2 ⟨rfl,hb⟩;have HB2:=aa (HB.out.trans (hb.mono HB.out.size));clear hb
 go_wp2
 go_ret
 exact⟨by rw[HY.out];rfl,HB2.out⟩
theorem Kc (v:Int) (p:Pk) (h:Hs) (w:World) (ip:PkIn w w.heap.size p h) (ok:PkOk p):
  Calls Tryz.prog 174 #[.int .i64 v,pkV p h] w fun e w'=>e= .returned (.tuple #[.string ⟨(FY v p).1.toArray⟩,.int .i64 (FY v p).2])∧Below w.heap.size w w':=by
 have OK:=aa ok;have S0:=aa ((St.start w).push ip);have HE:Hid (FY v p=if fH v p=0 then(xV p.code p.props p.kind,0)else([],fH v p)):=aa rfl;have HP:=aa (fun h1 h2=>MD (v:=v) (p:=p) h1 h2);clear ip ok
 go_enter Tryz.func174,Tryz.ntmps174
 have hl:=S0.out.ld 0 rfl
 go_wp2_with fail
 refine(IY v p h _ (S0.out.into 0 rfl) OK.out).mono ?_;rintro e w1 ⟨rfl,hb⟩;have S1:=aa (S0.out.below hb);clear hb hl
 have k0:=S1.out.cell 0 rfl 0;rw[cI]at k0
 by_cases he:fH v p=0
 rotate_left
 ·have e0:(fH v p !=0)=true:=aA.2 he;have HX:Hid (FY v p=([],fH v p)):=aa (by rw[HE.out,ae he]);clear he
  go_wp2
  go_ret2
  exact⟨by rw[HX.out];rfl,S1.out.kept⟩
 have HX:Hid (FY v p=(xV p.code p.props p.kind,0)):=aa (by rw[HE.out,if_pos he]);have HEZ:=aa he;rw[he];clear he
 go_wp2_with fail
 refine(G7 v p.kind _).mono ?_;rintro e w2 ⟨rfl,rfl⟩;cases hp:Ih v p.kind;rotate_left
 ·have HY:=aa (HP.out HEZ.out hp);clear hp
  go_wp2
  go_ret2
  exact⟨by rw[HY.out];rfl,S1.out.kept⟩
 clear hp;have k1:=S1.out.cell 0 rfl 21;rw[cn]at k1;have k2:=S1.out.cell 0 rfl 24;rw[bR]at k2
 go_wp2_with fail
 refine(JZ p.code p.kind p.props _ rfl OK.out.props h.props.a h.props.c _ (S1.out.into 0 rfl).props OK.out.len.2.2.2 (S1.out.into 0 rfl).caps.2.2.2).mono ?_;rintro e w2 ⟨rfl,hb⟩;have S2:=aa (S1.out.below hb);clear hb
 go_wp2
 go_ret2
 exact⟨by rw[HX.out];rfl,S2.out.kept⟩
end Go.Proofs.YtpcleamaieaefaaGreatDoor
