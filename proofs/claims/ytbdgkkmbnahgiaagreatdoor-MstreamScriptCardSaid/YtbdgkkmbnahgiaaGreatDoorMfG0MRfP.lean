/- A part of what the laws stand on: MRfP, RfY. -/
import Derived.Test.YtbdgkkmbnahgiaaGreatDoorMfG0MRft
set_option maxRecDepth 10000
set_option maxHeartbeats 8000000
namespace Go.Proofs.YtbdgkkmbnahgiaaGreatDoor
open Go.RowKit Go.Proofs.Tryz
section
attribute [local go_sem ↓] bD bF bH bI bu
attribute [local go_sem] bc aD bh bg bK bJ bd aY be aO ax cI dC dB dt dj di dA dr dp dn bW co bO bZ bX cz cy cw cu ct cC cn bS bP bR
theorem JF(v:Int)(p:Pk)(h:Hs)(w:World):
  Calls prog 86 #[.int .i64 v,pkV p h] w fun e w'=>e= .returned (.tuple #[.int .i64 (eM v p).1,.int .i64 (eM v p).2])/\Below w.heap.size w w':=by
 have HB:=aa ((aq w.heap.size w).alloc (ac _) (.cells (pkC p h) PkT));have HE:Hid (eM v p=if ba v=false then(0,2)else if dS v p.kind=false then(0,8)else if p.kind≠3 then(gg p.kind,0)else if tJ p=true then(0,7)else(ke p,0)):=aa rfl;have HBQ:Hid (tJ p=decide (p.qos<0\/2<p.qos\/(p.qos=0/\p.dup=true))):=aa rfl;have HFP:Hid (ke p=2*p.qos+(if p.retain=true then 1 else 0)+(if p.dup=true then 8 else 0)):=aa rfl;have k1a:(w.alloc (.cells (pkC p h) PkT)).cell? ⟨w.heap.size,3,none⟩=some (.int .i64 p.qos):=(Bk.fresh w PkT (pkC p h)).cell 3;have k1b:(w.alloc (.cells (pkC p h) PkT)).cell? ⟨w.heap.size,1,none⟩=some (.bool p.dup):=(Bk.fresh w PkT (pkC p h)).cell 1;have k1c:(w.alloc (.cells (pkC p h) PkT)).cell? ⟨w.heap.size,2,none⟩=some (.bool p.retain):=(Bk.fresh w PkT (pkC p h)).cell 2;have k1d:(w.alloc (.cells (pkC p h) PkT)).cell? ⟨w.heap.size,0,none⟩=some (.int .i64 p.kind):=(Bk.fresh w PkT (pkC p h)).cell 0;go_enter func86,ntmps86
 go_wp2_with fail
 refine(pS v _).mono ?_;rintro e w1 ⟨rfl,rfl⟩;cases hk:ba v
 ·have HX:Hid (eM v p=(0,2)):=aa (by rw[HE.o,if_pos hk]);clear hk;go_wp2;go_ret2;exact⟨by rw[HX.o];rfl,HB.o⟩
 have HE1:Hid (eM v p=if dS v p.kind=false then(0,8)else if p.kind≠3 then(gg p.kind,0)else if tJ p=true then(0,7)else(ke p,0)):=aa (by rw[HE.o,ae (fun x=>by rw[hk]at x;cases x)]);clear hk HE
 go_wp2_with fail
 refine(JO v p.kind _).mono ?_;rintro e w1 ⟨rfl,rfl⟩;cases hk:dS v p.kind
 ·have HX:Hid (eM v p=(0,8)):=aa (by rw[HE1.o,if_pos hk]);clear hk;go_wp2;go_ret2;exact⟨by rw[HX.o];rfl,HB.o⟩
 have HE2:Hid (eM v p=if p.kind≠3 then(gg p.kind,0)else if tJ p=true then(0,7)else(ke p,0)):=aa (by rw[HE1.o,ae (fun x=>by rw[hk]at x;cases x)]);clear hk HE1;generalize p.kind=kd at*
 by_cases h3:kd=3
 rotate_left
 ·have q3:(kd==3)=false:=ar.2 h3;have HX0:Hid (eM v p=(gg kd,0)):=aa (by rw[HE2.o,if_pos h3])
  by_cases h6:kd=6
  ·subst h6;have HX:Hid (eM v p=(2,0)):=aa (by rw[HX0.o];rfl);clear h3 q3;go_wp2;go_ret2;exact⟨by rw[HX.o];rfl,HB.o⟩
  by_cases h8:kd=8
  ·subst h8;have HX:Hid (eM v p=(2,0)):=aa (by rw[HX0.o];rfl);clear h3 q3 h6;go_wp2;go_ret2;exact⟨by rw[HX.o];rfl,HB.o⟩
  by_cases h10:kd=10
  ·subst h10;have HX:Hid (eM v p=(2,0)):=aa (by rw[HX0.o];rfl);clear h3 q3 h6 h8;go_wp2;go_ret2;exact⟨by rw[HX.o];rfl,HB.o⟩
  ·have HX:Hid (eM v p=(0,0)):=aa (by rw[HX0.o];unfold gg;rw[ae (by omega)]);have q6:(kd==6)=false:=ar.2 h6;have q8:(kd==8)=false:=ar.2 h8;have q10:(kd==10)=false:=ar.2 h10;clear h3 h6 h8 h10;go_wp2;go_ret2;exact⟨by rw[HX.o];rfl,HB.o⟩
 subst h3;have HE3:Hid (eM v p=if tJ p=true then(0,7)else(ke p,0)):=aa (by rw[HE2.o,ae (fun x=>x rfl)]);clear HE2;generalize p.qos=q at*;generalize p.dup=d at*;generalize p.retain=r at*
 by_cases h0:q<0
 ·have HX:Hid (eM v p=(0,7)):=aa (by rw[HE3.o,if_pos (by rw[HBQ.o];exact au (.inl h0))]);have d0:decide (q<0)=true:=au h0;clear h0;go_wp2;go_ret2;exact⟨by rw[HX.o];rfl,HB.o⟩
 have d0:decide (q<0)=false:=ah h0
 by_cases h2:2<q
 ·have HX:Hid (eM v p=(0,7)):=aa (by rw[HE3.o,if_pos (by rw[HBQ.o];exact au (.inr (.inl h2)))]);have d2:decide (2<q)=true:=au h2;clear h0 h2;go_wp2;go_ret2;exact⟨by rw[HX.o];rfl,HB.o⟩
 have hq:q=0\/q=1\/q=2:=by omega
 clear h0 h2 d0;obtain rfl| rfl| rfl:=hq
 ·cases d
  ·have HX:Hid (eM v p=(ke p,0)):=aa (by rw[HE3.o,ae (by rw[HBQ.o];decide)]);cases r
   all_goals
    go_wp2;go_ret2;exact⟨by rw[HX.o,HFP.o];rfl,HB.o⟩
  ·have HX:Hid (eM v p=(0,7)):=aa (by rw[HE3.o,if_pos (by rw[HBQ.o];decide)]);go_wp2;go_ret2;exact⟨by rw[HX.o];rfl,HB.o⟩
 all_goals
  have HX:Hid (eM v p=(ke p,0)):=aa (by rw[HE3.o,ae (by rw[HBQ.o];simp)]);cases d<;>cases r
  all_goals
   go_wp2;go_ret2;exact⟨by rw[HX.o,HFP.o];rfl,HB.o⟩
theorem Ik(p:Pk)(h:Hs)(w:World)(ip:PkIn w w.heap.size p h)(ok:PkOk p):
  Calls prog 244 #[pkV p h] w fun e w'=>e= .returned (.tuple #[.int .i64 (xg p.props 35).n,.bool (qR p)])/\Below w.heap.size w w':=by
 have hn:=FK p.props 35 ok.props;have OK:=aa ok;have S0:=aa ((St.start w).push ip);clear ip ok;go_enter func244,ntmps244
 go_wp2_with fail
 refine(Hy 35 p.props h.props.a h.props.c _ (S0.o.into 0 rfl).props OK.o.len.2.2.2).mono ?_;rintro e w1 ⟨rfl,hb⟩;have S1:=aa (S0.o.below hb);clear hb
 have HA:Hid (qR p=(nh p.props 35).isSome):=aa rfl;generalize (nh p.props 35).isSome=al at*;obtain⟨q,hq⟩:∃q,xg p.props 35=q:=⟨_,rfl⟩;rw[hq]at hn⊢;have HQ:=aa hq;clear hq;obtain⟨id,n,t,u⟩:=q;simp only at hn;have hw:IntKind.i64.wrap (n:Int)=(n:Int):=by rw[aQ];omega
 simp only[Pr.val];have S2:=aa (S1.o.alloc (.cells #[.int .i64 id,.int .u32 n,.string t,.string u] 102));go_wp2;go_ret2;exact⟨by rw[HA.o,HQ.o];rfl,S2.o.kept⟩
theorem Mg(p:Pk)(A:Option Addr)(c:Nat)(w:World):(qP #[(0,.int .i64 p.kind),(1,.bool p.dup),(2,.bool p.retain),(3,.int .i64 p.qos),(4,.int .i64 p.id),(5,.string p.topic),(6,.string p.payload),(20,.slice A p.props.length c)]).run prog w= .ok (pkV (zA p) {hs0 with props:=⟨A,c⟩}) w:=by kernel_rfl
theorem OY{w:World}{B:Nat}{p:Pk}{h:Hs}(i:PkIn w B p h):PkIn w B (zA p) {hs0 with props:=⟨h.props.a,h.props.c⟩}:=
 ⟨Rd.nil _ _ _ _,Rd.nil _ _ _ _,Rd.nil _ _ _ _,i.props,ag _,ag _,ag _,i.caps.2.2.2⟩
theorem Oe{p:Pk}(h:gz p):gz (zA p):=⟨ag _,ag _,ag _,h.2.2.2⟩
theorem IW(v:Int)(p:Pk)(h:Hs)(w:World)(ip:PkIn w w.heap.size p h)(ok:PkOk p):
  Calls prog 182 #[.int .i64 v,pkV p h] w fun e w'=>e= .returned (.int .i64 (ii v p))/\Below w.heap.size w w':=by
 have OK:=aa ok;have S0:=aa ((St.start w).push ip);have HL0:Hid (dK v p 0=if ba v=true/\p.kind=3 then 0 else 2):=aa rfl;have HL1:Hid (dK v p 1=(eM v p).2):=aa rfl;have HL2:Hid (dK v p 2=if kL v p=true then 0 else 2):=aa rfl;have HL3:Hid (dK v p 3=if tc v p=true then 0 else 10):=aa rfl;have HL4:Hid (dK v p 4=(aM 3 p.props).2):=aa rfl;have HE:Hid (ii v p=if dK v p 0≠0 then dK v p 0 else if dK v p 1≠0 then dK v p 1 else if dK v p 2≠0 then dK v p 2 else if dK v p 3≠0 then dK v p 3 else dK v p 4):=aa rfl;clear ip ok;go_enter func182,ntmps182
 go_wp2_with fail
 refine(pS v _).mono ?_;rintro e w1 ⟨rfl,rfl⟩;have k0:=S0.o.cell 0 rfl 0;rw[cI]at k0;cases hk:ba v
 ·have HX:Hid (ii v p=2):=aa (by
   have h0:dK v p 0=2:=by rw[HL0.o,ae (fun x=>by rw[hk]at x;cases x.1)]
   rw[HE.o,h0];rfl)
  clear hk;go_wp2;go_ret;exact⟨by rw[HX.o];rfl,S0.o.kept⟩
 by_cases h3:p.kind=3
 rotate_left
 ·have HX:Hid (ii v p=2):=aa (by
   have h0:dK v p 0=2:=by rw[HL0.o,ae (fun x=>h3 x.2)]
   rw[HE.o,h0];rfl)
  have e3:(p.kind !=3)=true:=aA.2 h3;clear hk h3;go_wp2;go_ret;exact⟨by rw[HX.o];rfl,S0.o.kept⟩
 have e3:(p.kind !=3)=false:=by simpa using h3
 have HE1:Hid (ii v p=if dK v p 1≠0 then dK v p 1 else if dK v p 2≠0 then dK v p 2 else if dK v p 3≠0 then dK v p 3 else dK v p 4):=aa (by
  have h0:dK v p 0=0:=by rw[HL0.o,if_pos ⟨hk,h3⟩]
  rw[HE.o,h0,ae (fun x=>x rfl)])
 have HK3:=aa (And.intro hk h3);clear hk h3 HE HL0;have hl:=S0.o.ld 0 rfl
 go_wp2_with fail
 refine(JF v p h _).mono ?_;rintro e w1 ⟨rfl,hb⟩;have S1:=aa (S0.o.below hb);clear hb hl k0 e3
 obtain⟨fl,hfl⟩:∃fl,eM v p=fl:=⟨_,rfl⟩;rw[hfl]at HL1⊢;have HFL:=aa hfl;clear hfl;obtain⟨f1,f2⟩:=fl;simp only at HL1⊢
 by_cases hf:f2=0
 rotate_left
 ·have HX:Hid (ii v p=f2):=aa (by rw[HE1.o,HL1.o,if_pos hf]);have e2:(f2 !=0)=true:=aA.2 hf;clear hf;go_wp2;go_ret;exact⟨by rw[HX.o];rfl,S1.o.kept⟩
 subst hf;have HE2:Hid (ii v p=if dK v p 2≠0 then dK v p 2 else if dK v p 3≠0 then dK v p 3 else dK v p 4):=aa (by rw[HE1.o,HL1.o,ae (fun x=>x rfl)]);have HBQ:Hid (0<=p.qos/\p.qos<=2):=aa (by
  have hh:=HFL.o;unfold eM at hh;rw[HK3.o.1,HK3.o.2]at hh;rw[ae (by simp)]at hh
  by_cases hkk:dS v 3=false
  ·rw[if_pos hkk]at hh;cases hh
  rw[ae hkk,ae (fun x=>x rfl)]at hh
  by_cases hbq:tJ p=true
  ·rw[if_pos hbq]at hh;cases hh
  ·have hb0:tJ p=false:=by simpa using hbq
   have:=Gy hb0;omega)
 clear HE1 HL1 HFL;have j0:=S1.o.cell 0 rfl 0;have j1:=S1.o.cell 0 rfl 1;have j2:=S1.o.cell 0 rfl 2;have j3:=S1.o.cell 0 rfl 3;have j4:=S1.o.cell 0 rfl 4;have j5:=S1.o.cell 0 rfl 5;have j6:=S1.o.cell 0 rfl 6;have j20:=S1.o.cell 0 rfl 24;rw[cI]at j0;rw[dC]at j1;rw[dB]at j2;rw[dt]at j3;rw[dj]at j4;rw[di]at j5;rw[dA]at j6;rw[bR]at j20;have hbd:=fun W=>Mg p h.props.a h.props.c W;have S2:Hid (St w [(w.heap.size,p,h),(w1.heap.size,zA p,{hs0 with props:=⟨h.props.a,h.props.c⟩})] (w1.alloc (.cells (pkC (zA p) {hs0 with props:=⟨h.props.a,h.props.c⟩}) PkT))):=aa (S1.o.push (OY (S1.o.into 0 rfl)));have hl0:=S2.o.ld 0 rfl;have hl1:=S2.o.ld 1 rfl
 go_wp2_with fail
 refine(GP p (zA p) h _ _ (S2.o.into 0 rfl) (S2.o.into 1 rfl) OK.o.len (Oe OK.o.len)).mono ?_;rintro e w3 ⟨rfl,hb⟩;have S3:=aa (S2.o.below hb);clear hb hl0 hl1 j0 j1 j2 j3 j4 j5 j6 j20 hbd
 have k3:=S3.o.cell 0 rfl 3;have k4:=S3.o.cell 0 rfl 4;have k20:=S3.o.cell 0 rfl 24;rw[dt]at k3;rw[dj]at k4;rw[bR]at k20;have hl3:=S3.o.ld 0 rfl
 by_cases hsm:p=zA p
 rotate_left
 ·have HX:Hid (ii v p=2):=aa (by
   have h0:dK v p 2=2:=by rw[HL2.o,ae (by unfold kL;simp only[Fx];exact fun x=>hsm x.1)]
   rw[HE2.o,h0];rfl)
  rw[ah hsm];clear hsm;go_wp2;go_ret;exact⟨by rw[HX.o];rfl,S3.o.kept⟩
 rw[au hsm];have HSM:=aa hsm;clear hsm
 by_cases hq:p.qos=0
 ·have q0:(p.qos==0)=true:=aK.2 hq;have q1:decide ((0:Int)<p.qos)=false:=ah (by omega)
  by_cases hi:p.id=0
  rotate_left
  ·have HX:Hid (ii v p=2):=aa (by
    have h0:dK v p 2=2:=by rw[HL2.o,ae (by unfold kL;simp only[Fx];exact fun x=>hi (x.2.2.1 hq))]
    rw[HE2.o,h0];rfl)
   have i0:(p.id !=0)=true:=aA.2 hi;clear hq hi;go_wp2;go_ret;exact⟨by rw[HX.o];rfl,S3.o.kept⟩
  have i0:(p.id !=0)=false:=by simpa using hi
  have HV5:v≠4->Hid (v=5):=fun x=>aa (by have:=aR (show decide (v=4\/v=5)=true from HK3.o.1);omega)
  by_cases h4:v=4
  ·have e4:(v==4)=true:=aK.2 h4;have e5:(v==5)=false:=ar.2 (by omega)
   by_cases h0:0<p.props.length
   ·have HX:Hid (ii v p=2):=aa (by
     have h0:dK v p 2=2:=by rw[HL2.o,ae (by unfold kL;simp only[Fx];exact fun x=>x.2.1 ⟨h4,h0⟩)]
     rw[HE2.o,h0];rfl)
    have d0:decide ((0:Int)<(p.props.length:Int))=true:=au (by omega);have d1:decide (0<p.props.length)=true:=au h0;clear hq hi HV5 h4 h0;go_wp2;go_ret;exact⟨by rw[HX.o];rfl,S3.o.kept⟩
   ·have HE3:Hid (ii v p=if dK v p 3≠0 then dK v p 3 else dK v p 4):=aa (by
     have h0:dK v p 2=0:=by rw[HL2.o,if_pos (by unfold kL;exact au ⟨HSM.o,fun x=>h0 x.2,fun _=>hi,fun x=>absurd hq x⟩)]
     rw[HE2.o,h0,ae (fun x=>x rfl)])
    have HRT:Hid (GI v 3 p.props=(aM 3 p.props).2):=aa (by
     unfold GI;rw[if_pos h4,ae h0,show p.props=[]from aF (by omega)];rfl)
    have d0:decide ((0:Int)<(p.props.length:Int))=false:=ah (by omega);have d1:decide (0<p.props.length)=false:=ah h0;have H4:=aa h4;clear hq hi HV5 h4 h0
    go_wp2_with fail
    refine(Ik p h _ (S3.o.into 0 rfl) OK.o).mono ?_;rintro e w4 ⟨rfl,hb⟩;have S4:=aa (S3.o.below hb);clear hb hl3 k3 k4 k20
    have n5:=S4.o.cell 0 rfl 5;rw[di]at n5;have n24:=S4.o.cell 0 rfl 24;rw[bR]at n24
    go_wp2_with fail
    refine(Hg p.topic _ (by have:=OK.o.texts.1;omega)).mono ?_;rintro e w5 ⟨rfl,rfl⟩;have hem:=kR p.topic;have HN:Hid (tc v p=(fp p.topic || (decide (v=5)&&(qR p&&p.topic.toList.isEmpty)))):=aa (by rw[hem];rfl);clear hem;generalize (xg p.props 35).n=al at*;cases hn:fp p.topic
    ·rw[hn,nB]at HN;have HNM:=aa hn;cases he:p.topic.toList.isEmpty
     ·have HX:Hid (ii v p=10):=aa (by
       have h0:dK v p 3=10:=by rw[HL3.o,ae (by rw[HN.o,he,ru,ru];simp)]
       rw[HE3.o,h0];rfl)
      clear hn;go_wp2;go_ret;exact⟨by rw[HX.o];rfl,S4.o.kept⟩
     cases ha:qR p
     ·have HX:Hid (ii v p=10):=aa (by
       have h0:dK v p 3=10:=by rw[HL3.o,ae (by rw[HN.o,ha,bj,ru];simp)]
       rw[HE3.o,h0];rfl)
      clear hn ha;go_wp2;go_ret;exact⟨by rw[HX.o];rfl,S4.o.kept⟩
     have HX:Hid (ii v p=10):=aa (by
      have h0:dK v p 3=10:=by rw[HL3.o,ae (by rw[HN.o,ah (by have:=H4.o;omega),bj];simp)]
      rw[HE3.o,h0];rfl)
     clear hn ha;go_wp2;go_ret;exact⟨by rw[HX.o];rfl,S4.o.kept⟩
    ·have HX3:Hid (ii v p=dK v p 4):=aa (by
      have h0:dK v p 3=0:=by rw[HL3.o,if_pos (by unfold tc;rw[hn];rfl)]
      rw[HE3.o,h0,ae (fun x=>x rfl)])
     clear hn
     go_wp2_with fail
     refine(Gx v 3 p.props _ rfl OK.o.props h.props.a h.props.c _ (S4.o.into 0 rfl).props OK.o.len.2.2.2 (S4.o.into 0 rfl).caps.2.2.2).mono ?_;rintro e w6 ⟨rfl,hb⟩;have S5:=aa (S4.o.below hb);clear hb
     rw[HRT.o];go_wp2;go_ret;exact⟨by rw[HX3.o,HL4.o];rfl,S5.o.kept⟩
  ·have e4:(v==4)=false:=ar.2 h4;have e5:(v==5)=true:=aK.2 (HV5 h4).out;have H5:Hid (v=5):=HV5 h4;have HE3:Hid (ii v p=if dK v p 3≠0 then dK v p 3 else dK v p 4):=aa (by
    have h0:dK v p 2=0:=by rw[HL2.o,if_pos (by unfold kL;exact au ⟨HSM.o,fun x=>h4 x.1,fun _=>hi,fun x=>absurd hq x⟩)]
    rw[HE2.o,h0,ae (fun x=>x rfl)])
   have HRT:Hid (GI v 3 p.props=(aM 3 p.props).2):=aa (ae h4);clear hq hi HV5 h4
   go_wp2_with fail
   refine(Ik p h _ (S3.o.into 0 rfl) OK.o).mono ?_;rintro e w4 ⟨rfl,hb⟩;have S4:=aa (S3.o.below hb);clear hb hl3 k3 k4 k20
   have n5:=S4.o.cell 0 rfl 5;rw[di]at n5;have n24:=S4.o.cell 0 rfl 24;rw[bR]at n24
   go_wp2_with fail
   refine(Hg p.topic _ (by have:=OK.o.texts.1;omega)).mono ?_;rintro e w5 ⟨rfl,rfl⟩;have hem:=kR p.topic;have HN:Hid (tc v p=(fp p.topic || (decide (v=5)&&(qR p&&p.topic.toList.isEmpty)))):=aa (by rw[hem];rfl);clear hem;generalize (xg p.props 35).n=al at*;cases hn:fp p.topic
   ·rw[hn,nB]at HN;have HNM:=aa hn;cases he:p.topic.toList.isEmpty
    ·have HX:Hid (ii v p=10):=aa (by
      have h0:dK v p 3=10:=by rw[HL3.o,ae (by rw[HN.o,he,ru,ru];simp)]
      rw[HE3.o,h0];rfl)
     clear hn;go_wp2;go_ret;exact⟨by rw[HX.o];rfl,S4.o.kept⟩
    cases ha:qR p
    ·have HX:Hid (ii v p=10):=aa (by
      have h0:dK v p 3=10:=by rw[HL3.o,ae (by rw[HN.o,ha,bj,ru];simp)]
      rw[HE3.o,h0];rfl)
     clear hn ha;go_wp2;go_ret;exact⟨by rw[HX.o];rfl,S4.o.kept⟩
    have HX3:Hid (ii v p=dK v p 4):=aa (by
     have h0:dK v p 3=0:=by rw[HL3.o,if_pos (by rw[HN.o,he,ha,au H5.o];rfl)]
     rw[HE3.o,h0,ae (fun x=>x rfl)])
    clear hn ha
    go_wp2_with fail
    refine(Gx v 3 p.props _ rfl OK.o.props h.props.a h.props.c _ (S4.o.into 0 rfl).props OK.o.len.2.2.2 (S4.o.into 0 rfl).caps.2.2.2).mono ?_;rintro e w6 ⟨rfl,hb⟩;have S5:=aa (S4.o.below hb);clear hb
    rw[HRT.o];go_wp2;go_ret;exact⟨by rw[HX3.o,HL4.o];rfl,S5.o.kept⟩
   ·have HX3:Hid (ii v p=dK v p 4):=aa (by
     have h0:dK v p 3=0:=by rw[HL3.o,if_pos (by unfold tc;rw[hn];rfl)]
     rw[HE3.o,h0,ae (fun x=>x rfl)])
    clear hn
    go_wp2_with fail
    refine(Gx v 3 p.props _ rfl OK.o.props h.props.a h.props.c _ (S4.o.into 0 rfl).props OK.o.len.2.2.2 (S4.o.into 0 rfl).caps.2.2.2).mono ?_;rintro e w6 ⟨rfl,hb⟩;have S5:=aa (S4.o.below hb);clear hb
    rw[HRT.o];go_wp2;go_ret;exact⟨by rw[HX3.o,HL4.o];rfl,S5.o.kept⟩
 ·have q0:(p.qos==0)=false:=ar.2 hq;have q1:decide ((0:Int)<p.qos)=true:=au (by have:=HBQ.o;omega)
  by_cases hi:p.id<1
  ·have HX:Hid (ii v p=2):=aa (by
    have h0:dK v p 2=2:=by rw[HL2.o,ae (by unfold kL;simp only[Fx];exact fun x=>by have:=(x.2.2.2 hq).1;omega)]
    rw[HE2.o,h0];rfl)
   have i1:decide (p.id<(1:Int))=true:=au hi;clear hq hi;go_wp2;go_ret;exact⟨by rw[HX.o];rfl,S3.o.kept⟩
  have i1:decide (p.id<(1:Int))=false:=ah hi
  by_cases hj:65535<p.id
  ·have HX:Hid (ii v p=2):=aa (by
    have h0:dK v p 2=2:=by rw[HL2.o,ae (by unfold kL;simp only[Fx];exact fun x=>by have:=(x.2.2.2 hq).2;omega)]
    rw[HE2.o,h0];rfl)
   have i2:decide ((65535:Int)<p.id)=true:=au hj;clear hq hi hj;go_wp2;go_ret;exact⟨by rw[HX.o];rfl,S3.o.kept⟩
  have i2:decide ((65535:Int)<p.id)=false:=ah hj;have HV5:v≠4->Hid (v=5):=fun x=>aa (by have:=aR (show decide (v=4\/v=5)=true from HK3.o.1);omega)
  by_cases h4:v=4
  ·have e4:(v==4)=true:=aK.2 h4;have e5:(v==5)=false:=ar.2 (by omega)
   by_cases h0:0<p.props.length
   ·have HX:Hid (ii v p=2):=aa (by
     have h0:dK v p 2=2:=by rw[HL2.o,ae (by unfold kL;simp only[Fx];exact fun x=>x.2.1 ⟨h4,h0⟩)]
     rw[HE2.o,h0];rfl)
    have d0:decide ((0:Int)<(p.props.length:Int))=true:=au (by omega);have d1:decide (0<p.props.length)=true:=au h0;clear hq hi hj HV5 h4 h0;go_wp2;go_ret;exact⟨by rw[HX.o];rfl,S3.o.kept⟩
   ·have HE3:Hid (ii v p=if dK v p 3≠0 then dK v p 3 else dK v p 4):=aa (by
     have h0:dK v p 2=0:=by rw[HL2.o,if_pos (by unfold kL;exact au ⟨HSM.o,fun x=>h0 x.2,fun x=>absurd x hq,fun _=>⟨by omega,by omega⟩⟩)]
     rw[HE2.o,h0,ae (fun x=>x rfl)])
    have HRT:Hid (GI v 3 p.props=(aM 3 p.props).2):=aa (by
     unfold GI;rw[if_pos h4,ae h0,show p.props=[]from aF (by omega)];rfl)
    have d0:decide ((0:Int)<(p.props.length:Int))=false:=ah (by omega);have d1:decide (0<p.props.length)=false:=ah h0;have H4:=aa h4;clear hq hi hj HV5 h4 h0
    go_wp2_with fail
    refine(Ik p h _ (S3.o.into 0 rfl) OK.o).mono ?_;rintro e w4 ⟨rfl,hb⟩;have S4:=aa (S3.o.below hb);clear hb hl3 k3 k4 k20
    have n5:=S4.o.cell 0 rfl 5;rw[di]at n5;have n24:=S4.o.cell 0 rfl 24;rw[bR]at n24
    go_wp2_with fail
    refine(Hg p.topic _ (by have:=OK.o.texts.1;omega)).mono ?_;rintro e w5 ⟨rfl,rfl⟩;have hem:=kR p.topic;have HN:Hid (tc v p=(fp p.topic || (decide (v=5)&&(qR p&&p.topic.toList.isEmpty)))):=aa (by rw[hem];rfl);clear hem;generalize (xg p.props 35).n=al at*;cases hn:fp p.topic
    ·rw[hn,nB]at HN;have HNM:=aa hn;cases he:p.topic.toList.isEmpty
     ·have HX:Hid (ii v p=10):=aa (by
       have h0:dK v p 3=10:=by rw[HL3.o,ae (by rw[HN.o,he,ru,ru];simp)]
       rw[HE3.o,h0];rfl)
      clear hn;go_wp2;go_ret;exact⟨by rw[HX.o];rfl,S4.o.kept⟩
     cases ha:qR p
     ·have HX:Hid (ii v p=10):=aa (by
       have h0:dK v p 3=10:=by rw[HL3.o,ae (by rw[HN.o,ha,bj,ru];simp)]
       rw[HE3.o,h0];rfl)
      clear hn ha;go_wp2;go_ret;exact⟨by rw[HX.o];rfl,S4.o.kept⟩
     have HX:Hid (ii v p=10):=aa (by
      have h0:dK v p 3=10:=by rw[HL3.o,ae (by rw[HN.o,ah (by have:=H4.o;omega),bj];simp)]
      rw[HE3.o,h0];rfl)
     clear hn ha;go_wp2;go_ret;exact⟨by rw[HX.o];rfl,S4.o.kept⟩
    ·have HX3:Hid (ii v p=dK v p 4):=aa (by
      have h0:dK v p 3=0:=by rw[HL3.o,if_pos (by unfold tc;rw[hn];rfl)]
      rw[HE3.o,h0,ae (fun x=>x rfl)])
     clear hn
     go_wp2_with fail
     refine(Gx v 3 p.props _ rfl OK.o.props h.props.a h.props.c _ (S4.o.into 0 rfl).props OK.o.len.2.2.2 (S4.o.into 0 rfl).caps.2.2.2).mono ?_;rintro e w6 ⟨rfl,hb⟩;have S5:=aa (S4.o.below hb);clear hb
     rw[HRT.o];go_wp2;go_ret;exact⟨by rw[HX3.o,HL4.o];rfl,S5.o.kept⟩
  ·have e4:(v==4)=false:=ar.2 h4;have e5:(v==5)=true:=aK.2 (HV5 h4).out;have H5:Hid (v=5):=HV5 h4;have HE3:Hid (ii v p=if dK v p 3≠0 then dK v p 3 else dK v p 4):=aa (by
    have h0:dK v p 2=0:=by rw[HL2.o,if_pos (by unfold kL;exact au ⟨HSM.o,fun x=>h4 x.1,fun x=>absurd x hq,fun _=>⟨by omega,by omega⟩⟩)]
    rw[HE2.o,h0,ae (fun x=>x rfl)])
   have HRT:Hid (GI v 3 p.props=(aM 3 p.props).2):=aa (ae h4);clear hq hi hj HV5 h4
   go_wp2_with fail
   refine(Ik p h _ (S3.o.into 0 rfl) OK.o).mono ?_;rintro e w4 ⟨rfl,hb⟩;have S4:=aa (S3.o.below hb);clear hb hl3 k3 k4 k20
   have n5:=S4.o.cell 0 rfl 5;rw[di]at n5;have n24:=S4.o.cell 0 rfl 24;rw[bR]at n24
   go_wp2_with fail
   refine(Hg p.topic _ (by have:=OK.o.texts.1;omega)).mono ?_;rintro e w5 ⟨rfl,rfl⟩;have hem:=kR p.topic;have HN:Hid (tc v p=(fp p.topic || (decide (v=5)&&(qR p&&p.topic.toList.isEmpty)))):=aa (by rw[hem];rfl);clear hem;generalize (xg p.props 35).n=al at*;cases hn:fp p.topic
   ·rw[hn,nB]at HN;have HNM:=aa hn;cases he:p.topic.toList.isEmpty
    ·have HX:Hid (ii v p=10):=aa (by
      have h0:dK v p 3=10:=by rw[HL3.o,ae (by rw[HN.o,he,ru,ru];simp)]
      rw[HE3.o,h0];rfl)
     clear hn;go_wp2;go_ret;exact⟨by rw[HX.o];rfl,S4.o.kept⟩
    cases ha:qR p
    ·have HX:Hid (ii v p=10):=aa (by
      have h0:dK v p 3=10:=by rw[HL3.o,ae (by rw[HN.o,ha,bj,ru];simp)]
      rw[HE3.o,h0];rfl)
     clear hn ha;go_wp2;go_ret;exact⟨by rw[HX.o];rfl,S4.o.kept⟩
    have HX3:Hid (ii v p=dK v p 4):=aa (by
     have h0:dK v p 3=0:=by rw[HL3.o,if_pos (by rw[HN.o,he,ha,au H5.o];rfl)]
     rw[HE3.o,h0,ae (fun x=>x rfl)])
    clear hn ha
    go_wp2_with fail
    refine(Gx v 3 p.props _ rfl OK.o.props h.props.a h.props.c _ (S4.o.into 0 rfl).props OK.o.len.2.2.2 (S4.o.into 0 rfl).caps.2.2.2).mono ?_;rintro e w6 ⟨rfl,hb⟩;have S5:=aa (S4.o.below hb);clear hb
    rw[HRT.o];go_wp2;go_ret;exact⟨by rw[HX3.o,HL4.o];rfl,S5.o.kept⟩
   ·have HX3:Hid (ii v p=dK v p 4):=aa (by
     have h0:dK v p 3=0:=by rw[HL3.o,if_pos (by unfold tc;rw[hn];rfl)]
     rw[HE3.o,h0,ae (fun x=>x rfl)])
    clear hn
    go_wp2_with fail
    refine(Gx v 3 p.props _ rfl OK.o.props h.props.a h.props.c _ (S4.o.into 0 rfl).props OK.o.len.2.2.2 (S4.o.into 0 rfl).caps.2.2.2).mono ?_;rintro e w6 ⟨rfl,hb⟩;have S5:=aa (S4.o.below hb);clear hb
    rw[HRT.o];go_wp2;go_ret;exact⟨by rw[HX3.o,HL4.o];rfl,S5.o.kept⟩
def rN(f:Int)(X:ByteArray):Nat×Nat×Int:=if f/ 2% 4≠0 then(br X 0 0 2,(aH X 0 0 2).2.1,(aH X 0 0 2).2.2)else(0,0,0)
def rP(v f:Int)(X:ByteArray):List Pr×Nat×Int:=QK v 3 X (rN f X).2.1 (rN f X).2.2
def rY(v f:Int)(X:ByteArray):ByteArray:=(aH X (rP v f X).2.1 (rP v f X).2.2 ((X.size- (rP v f X).2.1:Nat):Int)).1
def rQ(v f:Int)(T X:ByteArray):Pk:=eU f T (rN f X).1 (rP v f X).1 (rY v f X)
def rE(v f:Int)(T X:ByteArray):Int:=if(rP v f X).2.2=0 then ii v (rQ v f T X)else(rP v f X).2.2
theorem Ul(f:Int)(X:ByteArray):(rN f X).2.1<=X.size:=by
 unfold rN;split
 ·exact dy (ag _) _ _
 ·exact ag _
theorem SH(v f:Int)(X:ByteArray):(rP v f X).2.1<=X.size:=by
 have h:=Ul f X;unfold rP QK;split
 ·exact h
 ·have:=Bt 3 (X.extract (rN f X).2.1 X.size);rw[aj]at this;show(rN f X).2.1+_<=_;omega
theorem Sg{X:ByteArray}{a:Nat}(h:a<=X.size):aH X a 0 ((X.size- a:Nat):Int)=(X.extract a X.size,X.size,0):=by
 rw[dZ (by omega),show a+(X.size- a)=X.size by omega]
theorem TQ{v f:Int}{s T X:ByteArray}{N:Nat}(hk:ba v=true)(hc:eJ v f=0)(hu:bL s=(T,N,0))(hX:s.extract N s.size=X)(hN:N<=s.size):km v f s=if rE v f T X≠0 then(pk0,rE v f T X)else(rQ v f T X,0):=by
 have hxs:X.size=s.size- N:=by rw[<-hX,aj];omega
 have hxe:∀i j,j<=X.size->X.extract i j=s.extract (N+i) (N+j):=fun i j hj=>by rw[<-hX,Qp (by omega)]
 have hv:¬v=4->v=5:=fun h=>by have:=aR (show decide (v=4\/v=5)=true from hk);omega
 unfold km;rw[ae (fun x=>by rw[hk]at x;cases x),ae (fun x=>x hc),hu,ae (fun x=>x rfl)];simp only
 by_cases hsh:f/ 2% 4≠0/\s.size<N+2
 ·have h1:rN f X=(0,0,3):=by
   unfold rN br;have h2:aH X 0 0 (2:Nat)=(⟨#[]⟩,0,3):=kH (by omega);rw[show((2:Nat):Int)=2 from rfl]at h2;rw[if_pos hsh.1,h2];rfl
  have h3:rP v f X=([],0,3):=by unfold rP QK;rw[h1];exact if_pos (.inr (by decide))
  have h4:rE v f T X=3:=by unfold rE;rw[h3];rfl
  rw[if_pos hsh,h4];rfl
 rw[ae hsh];have hN2:rN f X=((mm f s).toNat,iu f s- N,0)/\N<=iu f s/\iu f s<=s.size/\((mm f s).toNat:Int)=mm f s:=by
  unfold rN mm iu;rw[hu]
  by_cases h0:f/ 2% 4≠0
  ·have h2:aH X 0 0 (2:Nat)=(X.extract 0 (0+2),0+2,0):=dZ (by have:¬s.size<N+2:=fun x=>hsh ⟨h0,x⟩;omega);rw[show((2:Nat):Int)=2 from rfl]at h2;rw[if_pos h0,if_pos h0,if_pos h0];unfold br;rw[h2,hxe 0 (0+2) (by have:¬s.size<N+2:=fun x=>hsh ⟨h0,x⟩;omega)];have:¬s.size<N+2:=fun x=>hsh ⟨h0,x⟩;refine⟨?_,by simp only;omega,by simp only;omega,by simp⟩;simp
  ·rw[ae h0,ae h0,ae h0];exact⟨by simp,by simp only;omega,by simp only;omega,rfl⟩
 obtain⟨hn1,hn2,hn3,hn4⟩:=hN2;have hP:rP v f X=((fG v f s).1,iu f s- N+(fG v f s).2.1,(fG v f s).2.2):=by
  unfold rP QK fG;rw[hn1];simp only
  by_cases h4:v=4
  ·rw[if_pos (.inl h4),ae (by omega)];rfl
  ·have h5:=hv h4;rw[ae (by simpa using h4),if_pos h5];have e1:X.extract (iu f s- N) X.size=s.extract (iu f s) s.size:=by
    rw[hxe _ _ (ac _),hxs,show N+(iu f s- N)=iu f s by omega,show N+(s.size- N)=s.size by omega]
   rw[e1]
 by_cases hp:(fG v f s).2.2≠0
 ·have h4:rE v f T X=(fG v f s).2.2:=by unfold rE;rw[hP];exact ae hp
  rw[if_pos hp,h4,if_pos hp]
 rw[ae hp];have hp0:=aU.1 hp;have hle:=SH v f X;have hY:rY v f X=s.extract (iu f s+(fG v f s).2.1) s.size:=by
  unfold rY;rw[hP]at hle⊢;simp only at hle⊢;rw[hp0,Sg hle];simp only;rw[hxe _ _ (ac _),hxs]
  congr 1<;>omega
 have hQ:rQ v f T X=gI v f s:=by
  unfold rQ gI;rw[hY,hP,hn1,hu];simp only;rw[hn4]
 have hE:rE v f T X=ii v (gI v f s):=by unfold rE;rw[hP];simp only;rw[if_pos hp0,hQ]
 rw[hE,hQ]
theorem Uk{v f:Int}{T X:ByteArray}(hT:T.size<=140737488351232)(hX:X.size<=140737488351232):PkOk (rQ v f T X):=by
 have hx:∀a b,(X.extract a b).size<=140737488351232:=fun a b=>by rw[aj];omega
 have hl:(rP v f X).1.length<=1000/\∀q∈(rP v f X).1,ea q:=by
  unfold rP QK;split
  ·exact⟨ag _,by intro q hq;cases hq⟩
  ·show(aZ 3 (X.extract (rN f X).2.1 X.size)).1.length<=1000/\∀q∈(aZ 3 (X.extract (rN f X).2.1 X.size)).1,ea q;have hz:=hx (rN f X).2.1 X.size;generalize X.extract (rN f X).2.1 X.size=Z at*;refine⟨?_,iT (kind:=3) (s:=Z) hz⟩
   by_cases h:(aZ 3 Z).2.2=0
   ·exact kj h
   ·rw[fZ h];exact ag _
 have hy:(rY v f X).size<=140737488351232:=by
  unfold rY aH;split
  ·split
   ·exact hx _ _
   ·exact ag _
  ·exact ag _
 refine⟨?_,hl.2,?_,?_,?_⟩
 ·intro q hq;cases hq
 ·intro q hq;cases hq
 ·exact⟨hT,hy,ag _,ag _,ag _,ag _,ag _⟩
 ·exact⟨ag _,ag _,ag _,aC hl.1 (by decide)⟩
end
section
attribute [local go_sem ↓] bD bF bH bI bu
attribute [local go_sem] bc aD bh bg bK bJ bd aY be aO ax cI dC dB dt dj di dA dr dp dn bW co bO bZ bX cz cy cw cu ct cC cn bS bP bR
theorem Tp(f:Int)(w:World):(qP #[(0,.int .i64 3),(1,.bool (decide (8<=f))),(3,.int .i64 (f/ 2% 4)),(2,.bool (decide (f% 2=1)))]).run prog w= .ok (pkV (eU f ⟨#[]⟩ 0 [] ⟨#[]⟩) (hsP none 0)) w:=by kernel_rfl
theorem Sr{X:ByteArray}{a:Nat}(h:a<=X.size)(e:Int):(aH X a e ((X.size- a:Nat):Int)).2.2=e:=by
 by_cases he:e=0
 ·subst he;rw[Sg h]
 ·rw[fY he]
structure QR (w:World) (g gc:Nat) (f:Int) (t:ByteArray) (i:Int) (l:List Pr) (y:ByteArray) (A:Option Addr) (n:Nat) (S:ByteArray) (a:Nat) (e:Int) (x:World):Prop where
 kept:Below w.heap.size w x
 res:Bk x w.heap.size PkT (pkC pk0 hs0)
 pk:Bk x g PkT (pkC (eU f t i l y) (hsP A n))
 rd:Rd x x.heap.size 4 A l.length (prs l)
 cap:l.length<=n
 base:w.heap.size<g
 cur:IC x gc S a e
 ne:g≠gc
 cb:w.heap.size<gc
section
variable {w x y:World} {g gc:Nat} {f i:Int} {t u S:ByteArray} {l:List Pr} {A:Option Addr} {n a:Nat} {e:Int}
theorem QR.below(h:QR w g gc f t i l u A n S a e x)(hb:Below x.heap.size x y):QR w g gc f t i l u A n S a e y:=
 ⟨h.kept.trans (hb.mono h.kept.size),h.res.below hb h.res.lt,h.pk.below hb h.pk.lt,(h.rd.below hb).wider hb.size,h.cap,h.base,h.cur.below hb,h.ne,h.cb⟩
theorem QR.set(h:QR w g gc f t i l u A n S a e x)(k:Nat)(v:Value){i':Int}{t' u':ByteArray}(he:(pkC (eU f t i l u) (hsP A n)).setIfInBounds k v=pkC (eU f t' i' l u') (hsP A n)):QR w g gc f t' i' l u' A n S a e (x.setCell ⟨g,k,none⟩ v):=
 ⟨dw h.kept (cP x g k v) h.kept.size (by have:=h.base;omega),h.res.other (by have:=h.base;simp;omega) _,h.pk.upd k v he,(h.rd.other h.pk (dY _ _) (cP x g k v) (ac _)).wider (cP x g k v).size,h.cap,h.base,⟨h.cur.1.other (by have:=h.ne;simp;omega) _,h.cur.2⟩,h.ne,h.cb⟩
theorem QR.put(h:QR w g gc f t i l u A n S a e x){l':List Pr}{A':Option Addr}{n':Nat}(hr:Rd x x.heap.size 4 A' l'.length (prs l'))(hn:l'.length<=n'):QR w g gc f t i l' u A' n' S a e (x.setCell ⟨g,24,none⟩ (.slice A' l'.length n')):=
 ⟨dw h.kept (cP x g 24 _) h.kept.size (by have:=h.base;omega),h.res.other (by have:=h.base;simp;omega) _,h.pk.upd 24 _ rfl,(hr.other h.pk (dY _ _) (cP x g 24 _) (ac _)).wider (cP x g 24 _).size,hn,h.base,⟨h.cur.1.other (by have:=h.ne;simp;omega) _,h.cur.2⟩,h.ne,h.cb⟩
theorem QR.turn(h:QR w g gc f t i l u A n S a e x){a':Nat}{e':Int}(hc:IC y gc S a' e')(hm:x.grownBy y (some gc)):QR w g gc f t i l u A n S a' e' y:=
 ⟨dw h.kept hm h.kept.size (pf h.cb),h.res.mods (S:=fun z=>z=gc) (Mods.of_grown hm rfl) (by have:=h.cb;omega),h.pk.mods (S:=fun z=>z=gc) (Mods.of_grown hm rfl) h.ne,(h.rd.other h.cur.1 (Io _ _ _) hm (ac _)).wider hm.size,h.cap,h.base,hc,h.ne,h.cb⟩
theorem QR.into(h:QR w g gc f t i l u A n S a e x):PkIn x x.heap.size (eU f t i l u) (hsP A n):=⟨Rd.nil _ _ _ _,Rd.nil _ _ _ _,Rd.nil _ _ _ _,h.rd,ag _,ag _,ag _,h.cap⟩
theorem QR.some(h:QR w g gc f t i l u A n S a e x):Below w.heap.size w (dE x w.heap.size (eU f t i l u) (hsP A n))/\Bk (dE x w.heap.size (eU f t i l u) (hsP A n)) w.heap.size PkT (pkC (eU f t i l u) (hsP A n))/\
  PkIn (dE x w.heap.size (eU f t i l u) (hsP A n)) (dE x w.heap.size (eU f t i l u) (hsP A n)).heap.size (eU f t i l u) (hsP A n):=
 ⟨bT h.kept h.kept.size (ac _) _ _,cO h.res _ _,Rd.nil _ _ _ _,Rd.nil _ _ _ _,Rd.nil _ _ _ _,(h.rd.other h.res (dY _ _) (cJ _ _ _ _) (ac _)).wider (cJ _ _ _ _).size,ag _,ag _,ag _,h.cap⟩
end
theorem RE(v f:Int)(s:ByteArray)(w:World)(hs:s.size<=140737488351232):
  Calls prog 148 #[.int .i64 v,.int .i64 f,.string s] w (mu (km v f s) w):=by
 have HS:=aa hs;have HB0:=aa ((aq w.heap.size w).alloc (ac _) (.cells (pkC pk0 hs0) PkT));have HR0:=aa (Bk.fresh w PkT (pkC pk0 hs0));have hst:=aW HR0.o;go_enter func148,ntmps148
 go_wp2_with fail
 refine(pS v _).mono ?_;rintro e w1 ⟨rfl,rfl⟩;cases hk:ba v
 ·have HX:Hid (km v f s=(pk0,2)):=aa (by unfold km;rw[if_pos hk]);clear hk;go_wp2;refine av (aI rfl _ rfl (cO HR0.o _ _)) rfl ?_;exact cL HX.o (bT HB0.o HB0.o.size (ac _) _ _)
 have HK:=aa hk;clear hk
 go_wp2_with fail
 refine(Se v f _).mono ?_;rintro e w1 ⟨rfl,hb⟩;have HB1:=aa (HB0.o.trans (hb.mono HB0.o.size));have HR1:=aa (HR0.o.below hb HR0.o.lt)
 clear hb hst;have hst:=aW HR1.o
 by_cases hc:eJ v f=0
 rotate_left
 ·have HX:Hid (km v f s=(pk0,7)):=aa (by unfold km;rw[ae (fun x=>by rw[HK.o]at x;cases x),if_pos hc]);have e0:(eJ v f !=0)=true:=aA.2 hc;clear hc;go_wp2;refine av (aI rfl _ rfl (cO HR1.o _ _)) rfl ?_;exact cL HX.o (bT HB1.o HB1.o.size (ac _) _ _)
 have hF:0<=f/\f<16:=by
  have h2:gd f=true:=by
   have hc':=hc;unfold eJ at hc';rw[ae (fun x=>by rw[HK.o]at x;cases x)]at hc';cases hh:gd f
   ·rw[hh,if_pos rfl]at hc';exact absurd hc' (by decide)
   ·rfl
  have:=aR h2;omega
 have HC:=aa hc;have e0:(eJ v f !=0)=false:=by rw[hc];rfl
 have F0:0<=f:=hF.1;have F1:f<16:=hF.2;have hf1:(f% 2==1)=decide (f% 2=1):=by by_cases h:f% 2=1<;>simp[h]
 have hbd:=fun W=>Tp f W;clear hc hF;obtain⟨T,N,E,hU⟩:∃T N E,bL s=(T,N,E):=⟨_,_,_,rfl⟩;have HU:=aa hU;have HUok:Hid (N<=s.size/\T.size<=s.size):=aa (by
  have h1:(bL s).2.1<=s.size/\(bL s).1.size<=s.size:=by
   unfold bL dJ;split
   ·exact⟨ag _,ag _⟩
   ·split
    ·exact⟨ag _,ag _⟩
    ·split
     ·exact⟨ag _,ag _⟩
     ·refine⟨by show 2+br s 0 0 2<=s.size;omega,?_⟩;show(s.extract _ _).size<=_;rw[aj];omega
  rw[hU]at h1;exact h1)
 clear hU
 go_wp2_with fail
 refine(Rl s _ (by have:=HS.o;omega)).mono ?_;rintro e w2 ⟨rfl,rfl⟩;rw[HU.o];simp only;have P0:=aa (Bk.fresh w1 PkT (pkC (eU f ⟨#[]⟩ 0 [] ⟨#[]⟩) (hsP none 0)));have HB2:=aa (HB1.o.alloc HB1.o.size (.cells (pkC (eU f ⟨#[]⟩ 0 [] ⟨#[]⟩) (hsP none 0)) PkT));have HR2:=aa (HR1.o.alloc (.cells (pkC (eU f ⟨#[]⟩ 0 [] ⟨#[]⟩) (hsP none 0)) PkT))
 clear hst;have hst:=aW HR2.o
 by_cases hE:E=0
 rotate_left
 ·have HX:Hid (km v f s=(pk0,E)):=aa (by unfold km;rw[ae (fun x=>by rw[HK.o]at x;cases x),ae (fun x=>x HC.o),HU.o,if_pos hE]);have e1:(E !=0)=true:=aA.2 hE;clear hE;go_wp2;refine av (aI rfl _ rfl (cO HR2.o _ _)) rfl ?_;exact cL HX.o (bT HB2.o HB2.o.size (ac _) _ _)
 subst hE;obtain⟨X,hX⟩:∃X,s.extract N s.size=X:=⟨_,rfl⟩;have HRD:=aa (TQ HK.o HC.o HU.o hX HUok.o.1);have HXS:Hid (X.size<=140737488351232):=aa (by rw[<-hX,aj];have:=HS.o;omega);have HOK:=aa (Uk (v:=v) (f:=f) (T:=T) (X:=X) (by have:=HUok.o.2;have:=HS.o;omega) HXS.o);have n0:(0:Int)<=(N:Int):=by omega
 have n1:(N:Int)<=(s.size:Int):=by have:=HUok.o.1;omega
 have hset:(pkC (eU f ⟨#[]⟩ 0 [] ⟨#[]⟩) (hsP none 0)).setIfInBounds 5 (.string T)=pkC (eU f T 0 [] ⟨#[]⟩) (hsP none 0):=rfl;have HSET:=aa hset;have P1:=aa (Bk.fresh w1 PkT (pkC (eU f T 0 [] ⟨#[]⟩) (hsP none 0)));have HB3:=aa (HB1.o.alloc HB1.o.size (.cells (pkC (eU f T 0 [] ⟨#[]⟩) (hsP none 0)) PkT));have HR3:=aa (HR1.o.alloc (.cells (pkC (eU f T 0 [] ⟨#[]⟩) (hsP none 0)) PkT))
 have HLT:Hid (w.heap.size<w1.heap.size):=aa HR1.o.lt;clear hst hset
 go_wp2_with fail
 rw[HSET.o];refine(QN X _ (by have:=HXS.o;omega)).mono ?_;rintro e w3 ⟨rfl,hcur,hb⟩;have hz3:(w1.alloc (.cells (pkC (eU f T 0 [] ⟨#[]⟩) (hsP none 0)) PkT)).heap.size=w1.heap.size+1:=by simp
 have Q0:Hid (QR w w1.heap.size (w1.heap.size+1) f T 0 [] ⟨#[]⟩ none 0 X 0 0 w3):=aa
  ⟨HB3.o.trans (hb.mono HB3.o.size),HR3.o.below hb HR3.o.lt,P1.o.below hb P1.o.lt,Rd.nil _ _ _ _,ac _,HLT.o,by rw[<-hz3];exact hcur,by omega,by have:=HLT.o;omega⟩
 rw[hz3];clear hcur hb hz3 hbd;have q3:w3.cell? ⟨w1.heap.size,3,none⟩=some (.int .i64 (f/ 2% 4)):=Q0.o.pk.cell 3;generalize w1.heap.size=g at*
 by_cases h0:f/ 2% 4=0
 ·have q0:decide ((0:Int)<f/ 2% 4)=false:=ah (by omega);have HRN:Hid (rN f X=(0,0,0)):=aa (by unfold rN;rw[ae (fun x=>x h0)]);clear h0;have HRP:Hid (rP v f X=QK v 3 X 0 0):=aa (by unfold rP;rw[HRN.o])
  go_wp2_with fail
  refine(QD v 3 (g+1) 0 X 0 _ Q0.o.cur HXS.o).mono ?_;rintro e' x1 ⟨A,c,rfl,hlc,hr,hcu,hm⟩;rw[<-HRP.o]at hlc hr hcu⊢;have HPLE:=aa (SH v f X);have HY:Hid (rY v f X=(aH X (rP v f X).2.1 (rP v f X).2.2 ((X.size- (rP v f X).2.1:Nat):Int)).1):=aa rfl;have HTE:=aa (Sr (SH v f X) (rP v f X).2.2);have HQE:Hid (rQ v f T X=eU f T (0:Int) (rP v f X).1 (rY v f X)):=aa (by unfold rQ;rw[HRN.o];first| done| rfl);have HEE:Hid (rE v f T X=if(rP v f X).2.2=0 then ii v (rQ v f T X)else(rP v f X).2.2):=aa rfl;generalize rP v f X=R at*;obtain⟨l,a2,e2⟩:=R;simp only at hlc hr hcu HPLE HY HTE HQE HEE⊢;have Q2:=aa ((Q0.o.turn hcu hm).put hr hlc);have Q1:=aa (Q0.o.turn hcu hm);have f24:=Q1.o.pk.free 24;have p24:=Q1.o.pk.cell 24;rw[bR]at p24;clear hlc hr hcu hm q3 q0
  go_wp2_with fail
  refine(Qy (g+1) a2 X e2 _ Q2.o.cur).mono ?_;rintro e' x2 ⟨rfl,hb⟩;have Q3:=aa (Q2.o.below hb);clear hb f24 p24
  go_wp2_with fail
  refine(QY (g+1) a2 X e2 _ _ Q3.o.cur).mono ?_;rintro e' x3 ⟨rfl,hcu,hm⟩;rw[<-HY.o];rw[HTE.o]at hcu;obtain⟨Y,hYE⟩:∃Y,rY v f X=Y:=⟨_,rfl⟩;rw[hYE]at HQE⊢;have Q4:=aa (Q3.o.turn hcu hm);have Q5:=aa (Q4.o.set 6 (.string Y) (i':=(0:Int)) (t':=T) (u':=Y) rfl);generalize (aH X a2 e2 ((X.size- a2:Nat):Int)).2.1=a3 at*;have f6:=Q4.o.pk.free 6;have p6:=Q4.o.pk.cell 6;rw[dA]at p6;clear hcu hm hYE HY HTE HPLE;have hl:=cf Q5.o.pk;have HOK2:Hid (PkOk (eU f T (0:Int) l Y)):=aa (by rw[<-HQE.o];exact HOK.o)
  go_wp2_with fail
  refine(IW v (eU f T (0:Int) l Y) (hsP A c) _ Q5.o.into HOK2.o).mono ?_;rintro e' x4 ⟨rfl,hb⟩;have Q6:=aa (Q5.o.below hb);clear hb hl f6 p6
  go_wp2_with fail
  refine(Qv (g+1) a3 X e2 _ _ Q6.o.cur).mono ?_;rintro e' x5 ⟨rfl,hcu,hm⟩;have Q7:=aa (Q6.o.turn hcu hm);clear hcu hm;obtain⟨⟨d0,d1,d2⟩,-⟩:=Q7.o.cur.cells;have HF3:Hid (rE v f T X=if e2=0 then ii v (eU f T (0:Int) l Y)else e2):=aa (by rw[HEE.o,HQE.o]);have hst:=aW Q7.o.res;rw[<-HF3.o]at d2
  by_cases hE3:rE v f T X=0
  ·have HX:Hid (km v f s=(eU f T (0:Int) l Y,0)):=aa (by rw[HRD.o,ae (fun x=>x hE3),HQE.o]);rw[hE3]at d2;have hl7:=cf Q7.o.pk;clear hE3;go_wp2;refine av (aI rfl _ rfl (cO Q7.o.res _ _)) rfl ?_;exact fo HX.o Q7.o.some.2.2 Q7.o.some.1
  ·have HX:Hid (km v f s=(pk0,rE v f T X)):=aa (by rw[HRD.o,if_pos hE3]);generalize rE v f T X=E3 at*;have e9:(E3 !=0)=true:=aA.2 hE3;clear hE3
   go_wp2_with fail
   have hst1:(zc (.pointer (some ⟨w.heap.size,0,none⟩)) (pkV pk0 hs0)).run prog x5.drew= .ok () (dE x5.drew w.heap.size pk0 hs0):=aW (Q7.o.res.drewN 1) pk0 hs0;have d2':(dE x5.drew w.heap.size pk0 hs0).cell? ⟨g+1,2,none⟩=some (.int .i64 E3):=by
    have hcb:=Q7.o.cb;have hbb:=(Q7.o.cur.1.drewN 1).mods (S:=fun z=>z=w.heap.size) (Mods.of_grown (cJ (x5.drewN 1) w.heap.size pk0 hs0) rfl) (by omega);have:=hbb.cell 2;rw[<-HF3.o]at this;exact this
   clear hst
   go_region_law (fail)
   all_goals
    go_wp2;refine av (aI rfl _ rfl (cO (Q7.o.res.drewN 1) _ _)) rfl ?_;exact cL HX.o (bT (aV Q7.o.kept 1) (aV Q7.o.kept 1).size (ac _) _ _)
 ·have q0:decide ((0:Int)<f/ 2% 4)=true:=au (by omega);have HRN0:Hid (rN f X=(br X 0 0 2,(aH X 0 0 2).2.1,(aH X 0 0 2).2.2)):=aa (by unfold rN;rw[if_pos h0]);clear h0
  go_wp2_with fail
  refine(Qz (g+1) 0 X 0 2 _ Q0.o.cur (by decide)).mono ?_;rintro e' w4 ⟨rfl,hcu,hm⟩;have HNL:=aa (gU X 0 0 (ag _));obtain⟨m,hmE⟩:∃m,br X 0 0 2=m:=⟨_,rfl⟩;obtain⟨a1,ha1⟩:∃a1,(aH X 0 0 2).2.1=a1:=⟨_,rfl⟩;obtain⟨e1,he1⟩:∃e1,(aH X 0 0 2).2.2=e1:=⟨_,rfl⟩;rw[ha1,he1]at hcu;rw[hmE]at HNL⊢;have HRN:Hid (rN f X=(m,a1,e1)):=aa (by rw[HRN0.o,hmE,ha1,he1]);have hwm:IntKind.i64.wrap (m:Int)=(m:Int):=by rw[aQ];have:=HNL.o;omega
  have T0:=aa (Q0.o.turn hcu hm);have T1:=aa (T0.o.set 4 (.int .i64 m) (i':=(m:Int)) (t':=T) (u':=⟨#[]⟩) rfl);have f4:=T0.o.pk.free 4;have p4:=T0.o.pk.cell 4;rw[dj]at p4;clear hcu hm hmE ha1 he1 q3 q0;have HRP:Hid (rP v f X=QK v 3 X a1 e1):=aa (by unfold rP;rw[HRN.o])
  go_wp2_with fail
  refine(QD v 3 (g+1) a1 X e1 _ T1.o.cur HXS.o).mono ?_;rintro e' x1 ⟨A,c,rfl,hlc,hr,hcu,hm⟩;rw[<-HRP.o]at hlc hr hcu⊢;have HPLE:=aa (SH v f X);have HY:Hid (rY v f X=(aH X (rP v f X).2.1 (rP v f X).2.2 ((X.size- (rP v f X).2.1:Nat):Int)).1):=aa rfl;have HTE:=aa (Sr (SH v f X) (rP v f X).2.2);have HQE:Hid (rQ v f T X=eU f T (m:Int) (rP v f X).1 (rY v f X)):=aa (by unfold rQ;rw[HRN.o];first| done| rfl);have HEE:Hid (rE v f T X=if(rP v f X).2.2=0 then ii v (rQ v f T X)else(rP v f X).2.2):=aa rfl;generalize rP v f X=R at*;obtain⟨l,a2,e2⟩:=R;simp only at hlc hr hcu HPLE HY HTE HQE HEE⊢;have Q2:=aa ((T1.o.turn hcu hm).put hr hlc);have Q1:=aa (T1.o.turn hcu hm);have f24:=Q1.o.pk.free 24;have p24:=Q1.o.pk.cell 24;rw[bR]at p24;clear hlc hr hcu hm f4 p4
  go_wp2_with fail
  refine(Qy (g+1) a2 X e2 _ Q2.o.cur).mono ?_;rintro e' x2 ⟨rfl,hb⟩;have Q3:=aa (Q2.o.below hb);clear hb f24 p24
  go_wp2_with fail
  refine(QY (g+1) a2 X e2 _ _ Q3.o.cur).mono ?_;rintro e' x3 ⟨rfl,hcu,hm⟩;rw[<-HY.o];rw[HTE.o]at hcu;obtain⟨Y,hYE⟩:∃Y,rY v f X=Y:=⟨_,rfl⟩;rw[hYE]at HQE⊢;have Q4:=aa (Q3.o.turn hcu hm);have Q5:=aa (Q4.o.set 6 (.string Y) (i':=(m:Int)) (t':=T) (u':=Y) rfl);generalize (aH X a2 e2 ((X.size- a2:Nat):Int)).2.1=a3 at*;have f6:=Q4.o.pk.free 6;have p6:=Q4.o.pk.cell 6;rw[dA]at p6;clear hcu hm hYE HY HTE HPLE;have hl:=cf Q5.o.pk;have HOK2:Hid (PkOk (eU f T (m:Int) l Y)):=aa (by rw[<-HQE.o];exact HOK.o)
  go_wp2_with fail
  refine(IW v (eU f T (m:Int) l Y) (hsP A c) _ Q5.o.into HOK2.o).mono ?_;rintro e' x4 ⟨rfl,hb⟩;have Q6:=aa (Q5.o.below hb);clear hb hl f6 p6
  go_wp2_with fail
  refine(Qv (g+1) a3 X e2 _ _ Q6.o.cur).mono ?_;rintro e' x5 ⟨rfl,hcu,hm⟩;have Q7:=aa (Q6.o.turn hcu hm);clear hcu hm;obtain⟨⟨d0,d1,d2⟩,-⟩:=Q7.o.cur.cells;have HF3:Hid (rE v f T X=if e2=0 then ii v (eU f T (m:Int) l Y)else e2):=aa (by rw[HEE.o,HQE.o]);have hst:=aW Q7.o.res;rw[<-HF3.o]at d2
  by_cases hE3:rE v f T X=0
  ·have HX:Hid (km v f s=(eU f T (m:Int) l Y,0)):=aa (by rw[HRD.o,ae (fun x=>x hE3),HQE.o]);rw[hE3]at d2;have hl7:=cf Q7.o.pk;clear hE3;go_wp2;refine av (aI rfl _ rfl (cO Q7.o.res _ _)) rfl ?_;exact fo HX.o Q7.o.some.2.2 Q7.o.some.1
  ·have HX:Hid (km v f s=(pk0,rE v f T X)):=aa (by rw[HRD.o,if_pos hE3]);generalize rE v f T X=E3 at*;have e9:(E3 !=0)=true:=aA.2 hE3;clear hE3
   go_wp2_with fail
   have hst1:(zc (.pointer (some ⟨w.heap.size,0,none⟩)) (pkV pk0 hs0)).run prog x5.drew= .ok () (dE x5.drew w.heap.size pk0 hs0):=aW (Q7.o.res.drewN 1) pk0 hs0;have d2':(dE x5.drew w.heap.size pk0 hs0).cell? ⟨g+1,2,none⟩=some (.int .i64 E3):=by
    have hcb:=Q7.o.cb;have hbb:=(Q7.o.cur.1.drewN 1).mods (S:=fun z=>z=w.heap.size) (Mods.of_grown (cJ (x5.drewN 1) w.heap.size pk0 hs0) rfl) (by omega);have:=hbb.cell 2;rw[<-HF3.o]at this;exact this
   clear hst
   go_region_law (fail)
   all_goals
    go_wp2;refine av (aI rfl _ rfl (cO (Q7.o.res.drewN 1) _ _)) rfl ?_;exact cL HX.o (bT (aV Q7.o.kept 1) (aV Q7.o.kept 1).size (ac _) _ _)
end
def Ih(v k:Int):Bool:=decide (k=12\/k=13\/(k=14/\v=4))
theorem PL{v k:Int}(h:jR v k=0):(12<=k/\k<=15)/\(v=4\/v=5)/\¬(k=15/\v=4):=by
 unfold jR at h;split at h
 ·cases h
 ·next h1=>
  split at h
  ·cases h
  ·next h2=>
   refine⟨?_,aU.1 fun x=>h1 (.inr x),h2⟩;exact aR (show decide (12<=k/\k<=15)=true from by
    cases e:decide (12<=k/\k<=15)
    ·exact absurd (.inl e) h1
    ·rfl)
theorem Jk{v k:Int}(h:jR v k=0):Ih v k= !fO v k:=by
 obtain⟨h1,h2,h3⟩:=PL h;unfold Ih fO
 by_cases c:(k=14\/k=15)/\v=5
 ·rw[au c];exact ah (by omega)
 ·rw[ah c];exact au (by omega)
theorem ON(v:Int)(p:Pk):fH v p=if jR v p.kind≠0 then jR v p.kind
  else if p≠conQ v p\/(Ih v p.kind=false/\may p.kind p.code=false)then 2 else GI v p.kind p.props:=by
 unfold fH
 by_cases hk:jR v p.kind≠0
 ·rw[if_pos hk,if_pos hk]
 rw[ae hk,ae hk];have hk0:=aU.1 hk;have hpl:=Jk hk0
 by_cases h1:fO v p.kind=true/\may p.kind p.code=false
 ·rw[if_pos h1,if_pos (.inr ⟨by rw[hpl,h1.1];rfl,h1.2⟩)]
 rw[ae h1]
 by_cases h2:p≠conQ v p
 ·rw[if_pos h2,if_pos (.inl h2)]
 rw[ae h2,ae,Ir]
 ·intro h4;have hm:fO v p.kind=false:=ah (fun x=>by omega);have hq:conQ v p=aP p.kind 0 0 []:=by unfold conQ;rw[ae (by rw[hm];decide)]
  have hp:=aU.1 h2;rw[hq]at hp;have:p.props=[]:=congrArg Pk.props hp;rw[this];rfl
 ·rintro (x| ⟨x,y⟩)
  ·exact h2 x
  ·refine h1 ⟨?_,y⟩;rw[hpl]at x;cases e:fO v p.kind
   ·rw[e]at x;cases x
   ·rfl
def QJ(v k:Int)(s:ByteArray):Int×List Pr×Nat×Int:=if Ih v k=true then(0,[],0,0)else Qu v k s 0 0
def Rr(v k:Int)(s:ByteArray):Pk:=aP k 0 (QJ v k s).1 (QJ v k s).2.1
theorem SQ{v k:Int}{s:ByteArray}(hk:jR v k=0):gX v k s=Qx (Rr v k s) s (QJ v k s).2.2.1 (QJ v k s).2.2.2 (fH v (Rr v k s)):=by
 have hpl:=Jk hk;unfold gX;rw[ae (fun x=>x hk)];cases hm:fO v k
 ·rw[hm]at hpl;have h1:QJ v k s=(0,[],0,0):=by unfold QJ;rw[if_pos (by rw[hpl];rfl)]
  have h2:Rr v k s=fN v k s:=by unfold Rr fN fA;rw[h1,hm];rfl
  have h3:(fA v k s).2.2=Rj s 0 0:=by
   unfold fA Rj;rw[hm,ae (by decide)];show(if s.size≠0 then(5:Int)else 0)=if(0:Int)≠0 then 0 else if 0<s.size then 5 else 0
   by_cases hz:s.size=0
   ·rw[ae (fun x=>x hz),ae (by decide),ae (by omega)]
   ·rw[if_pos hz,ae (by decide),if_pos (by omega)]
  rw[Rb,h2,h1,h3]
 ·rw[hm]at hpl;have h5:v=5:=(aR (show decide ((k=14\/k=15)/\v=5)=true from hm)).2;have h1:QJ v k s=Qu v k s 0 0:=by unfold QJ;rw[ae (by rw[hpl];decide)]
  have hr:=Sx (k:=k) (t:=s) (a:=0) (ag _);rw[<-h5]at hr;have h2:Rr v k s=aP k 0 (dg k s 0).1 (dg k s 0).2.1:=by unfold Rr;rw[h1,hr.1,hr.2.1]
  have h3:pK k s=Rj s (dg k s 0).2.2.1 (dg k s 0).2.2.2:=rfl;have h4:∀p x,Qx p s (QJ v k s).2.2.1 (QJ v k s).2.2.2 x=Qx p s (dg k s 0).2.2.1 (dg k s 0).2.2.2 x:=fun p x=>by unfold Qx;rw[h1,hr.2.2]
  rw[h4,Rb,h2];unfold fN fA;rw[hm,if_pos rfl]
  by_cases he:pK k s=0
  ·have hT:iO k s=((dg k s 0).1,(dg k s 0).2.1,0):=by unfold iO;rw[ae (fun x=>x he)]
   rw[hT,<-h3,he]
  ·have hT:iO k s=(0,[],pK k s):=by unfold iO;rw[if_pos he]
   rw[hT,<-h3];simp only;rw[if_pos he,if_pos he]
theorem Sa{v k:Int}{s:ByteArray}(hs:s.size<=140737488351232):(∀p∈(QJ v k s).2.1,ea p)/\(QJ v k s).2.1.length<=1000:=by
 unfold QJ;split
 ·exact⟨fun q hq=>(nomatch hq),ag _⟩
 ·exact Rc hs
theorem SU{v k:Int}{s:ByteArray}(hs:s.size<=140737488351232):PkOk (Rr v k s):=
 iw (Sa hs).1 (aC (Sa hs).2 (by decide))
end Go.Proofs.YtbdgkkmbnahgiaaGreatDoor
