/- A part of what the laws stand on: LmS, LmF, LimA, LimB. -/
import Derived.Test.YtbdgkkmbnahgiaaGreatDoorMxG0MqF
import Derived.Shelf.Sort.Plain
import Derived.Shelf.SlicesE.DeleteFunc
import Derived.Sort.OwnSortedInts
import Derived.Shelf.Slices.In.SortNone
set_option maxRecDepth 10000
set_option maxHeartbeats 8000000
namespace Go.Proofs.YtbdgkkmbnahgiaaGreatDoor
open Go.RowKit Go.Proofs.Tryz
section
attribute [local go_sem ↓] bD bF bH bI bu
attribute [local go_sem] bc aD bh bg bK bJ bd aY be aO ax cI dC dB dt dj di dA dr dp dn bW co bO bZ bX cz cy cw cu ct cC cn bS bP bR
attribute [local go_sem ↓] xS
attribute [local go_sem] um
def XM(y:World)(R:Pk×Nat×Int)(pz nz ez:Value)(wx:World):Prop:=∃hh g,pz= .pointer (some ⟨g,0,none⟩)/\nz= .int .i64 (R.2.1:Nat)/\ez= .int .i64 R.2.2/\y.heap.size<=g/\Bk wx g PkT (pkC R.1 hh)/\PkIn wx wx.heap.size R.1 hh/\Below y.heap.size y wx/\ja y R.1 hh
theorem WR{y w3:World}{R:Pk×Nat×Int}{hh:Hs}(hi:PkIn w3 w3.heap.size R.1 hh)(hb:Below (y.alloc (.cells (pkC pk0 hs0) PkT)).drew.heap.size (y.alloc (.cells (pkC pk0 hs0) PkT)).drew w3)(hf:ja (y.alloc (.cells (pkC pk0 hs0) PkT)).drew R.1 hh):
  (zc (.pointer (some ⟨y.heap.size,0,none⟩)) (pkV R.1 hh)).run prog w3= .ok () (dE w3 y.heap.size R.1 hh)/\XM y R (.pointer (some ⟨y.heap.size,0,none⟩)) (.int .i64 (R.2.1:Nat)) (.int .i64 R.2.2) (dE w3 y.heap.size R.1 hh):=by
 have hk0:Bk (y.alloc (.cells (pkC pk0 hs0) PkT)).drew y.heap.size PkT (pkC pk0 hs0):=(Bk.fresh y PkT (pkC pk0 hs0)).drewN 1;have hk:=hk0.below hb hk0.lt;have hb0:Below y.heap.size y (y.alloc (.cells (pkC pk0 hs0) PkT)).drew:=aV ((aq y.heap.size y).alloc (ac _) (.cells (pkC pk0 hs0) PkT)) 1;exact⟨aW hk R.1 hh,hh,y.heap.size,rfl,rfl,rfl,ac _,cO hk R.1 hh,hi.put hk (cJ _ _ _ _) hf hk0.lt,bT (hb0.trans (hb.mono hb0.size)) (aC hb0.size hb.size) (ac _) R.1 hh,hf.mono hb0.size⟩
theorem Xn{y w3:World}{R:Pk×Nat×Int}{hh:Hs}(hi:PkIn w3 w3.heap.size R.1 hh)(hb:Below y.drew.heap.size y.drew w3)(hf:ja y.drew R.1 hh):
  XM y R (.pointer (some ⟨w3.heap.size,0,none⟩)) (.int .i64 (R.2.1:Nat)) (.int .i64 R.2.2) (w3.alloc (.cells (pkC R.1 hh) PkT)):=
 ⟨hh,w3.heap.size,rfl,rfl,rfl,hb.size,Bk.fresh _ _ _,hi.next ((aq _ _).alloc (ac _) _),((aV (aq y.heap.size y) 1).trans hb).alloc hb.size _,hf⟩
theorem XQ{v mp md:Int}(h:¬nF v mp md=true)(s:ByteArray):lmS v mp md s=([],0,2):=ae h
theorem Yb{v mp md:Int}(h:nF v mp md=true)(s:ByteArray):lmS v mp md s=((smG v mp s 0 0 []).1,(smG v mp s 0 0 []).2.2.1,(smG v mp s 0 0 []).2.2.2.2):=if_pos h
theorem RowI.wide2{w0 w' x:World}{A:Option Addr}{n c:Nat}{L:List (Pk×Hs)}(h:RowI w0 x A n c L)(hb:w'.heap.size<=w0.heap.size):RowI w' x A n c L:=by
 refine⟨⟨h.row.len,?_⟩,h.ins,h.apart⟩;rcases h.row.lies with h1| ⟨g,M,h1,h2,h3⟩
 ·exact .inl h1
 ·exact .inr ⟨g,M,h1,aC hb h2,h3⟩
def SpL(w1:World)(v mp:Int)(s:ByteArray)(RES:List Pk×Nat×Int)(lv zv:Value)(wr:World):Prop:=∃(A:Option Addr) (n c:Nat) (L:List (Pk×Hs)) (a:Nat),lv= .slice A n c/\zv= .int .i64 a/\RowI w1 wr A n c L/\Below w1.heap.size w1 wr/\n<=a/\a<=s.size/\RES=((smG v mp (s.extract a s.size) a n (L.map Prod.fst)).1,(smG v mp (s.extract a s.size) a n (L.map Prod.fst)).2.2.1,(smG v mp (s.extract a s.size) a n (L.map Prod.fst)).2.2.2.2)
theorem WS(v mp md:Int)(s:ByteArray)(w:World)(hs:s.size<=10000000000):Calls prog 44 #[.int .i64 v,zW mp md,.string s] w (Vs (lmS v mp md s) w):=by
 have HS:=aa hs;have HB:=aa ((aq w.heap.size w).alloc (ac _) (.cells #[.int .i64 mp,.int .i64 md] 54));have HK:=aa (Bk.fresh w 54 #[.int .i64 mp,.int .i64 md]);have HCK:=aa (WU mp md);have HKN:Hid (ba v=decide (v=4\/v=5)):=aa rfl;obtain⟨RES,hRES⟩:∃R,lmS v mp md s=R:=⟨_,rfl⟩;rw[hRES];have HRS:=aa hRES;unfold zW at*;clear hs hRES;go_enter func44,ntmps44
 go_upto_region 1 with fail
 go_cut [22] (fun z wx=>z= .bool (!nF v mp md)/\Below w.heap.size w wx/\Bk wx w.heap.size 54 #[.int .i64 mp,.int .i64 md])
 case first=>
  have hld:(w.alloc (.cells #[.int .i64 mp,.int .i64 md] 54)).cell? ⟨w.heap.size,0,none⟩=some (.int .i64 mp):=HK.o.cell 0;have hld1:(w.alloc (.cells #[.int .i64 mp,.int .i64 md] 54)).cell? ⟨w.heap.size,1,none⟩=some (.int .i64 md):=HK.o.cell 1
  go_wp2_with fail
  refine(HCK.o _).mono ?_;rintro e w1 ⟨rfl,hb⟩;have HB1:=aa (HB.o.trans (hb.mono HB.o.size));have HK1:=aa (HK.o.below hb HK.o.lt);clear hb hld hld1
  by_cases hl:WZ mp md=true
  rotate_left
  ·have HX:Hid (nF v mp md=false):=aa (by rw[WM,Bool.eq_false_iff.2 hl,ru]);rw[Xd hl];clear hl;go_wp2
   go_meet
   case rel=>exact⟨by rw[HX.o];rfl,HB1.o,HK1.o⟩
  rw[Xp hl]
  by_cases h4:v=4
  ·have HX:Hid (nF v mp md=true):=aa (by rw[WM,hl,HKN.o,h4];rfl);have e4:(v !=4)=false:=by rw[h4];rfl
   clear hl h4;go_wp2
   go_meet
   case rel=>exact⟨by rw[HX.o];rfl,HB1.o,HK1.o⟩
  have e4:(v !=4)=true:=aA.2 h4
  by_cases h5:v=5
  ·have HX:Hid (nF v mp md=true):=aa (by rw[WM,hl,HKN.o,h5];rfl);have e5:(v !=5)=false:=by rw[h5];rfl
   clear hl h4 h5;go_wp2
   go_meet
   case rel=>exact⟨by rw[HX.o];rfl,HB1.o,HK1.o⟩
  ·have HX:Hid (nF v mp md=false):=aa (by rw[WM,hl,HKN.o,ah (by omega)];rfl);have e5:(v !=5)=true:=aA.2 h5;clear hl h4 h5;go_wp2
   go_meet
   case rel=>exact⟨by rw[HX.o];rfl,HB1.o,HK1.o⟩
 obtain⟨rfl,hb1,hk1⟩:=hcut;obtain⟨w1,hw1⟩:∃x,x=wc:=⟨_,rfl⟩;subst hw1;have HB1:=aa hb1;have HK1:=aa hk1
 clear hb1 hk1 HB HK HCK HKN
 by_cases hok:nF v mp md=true
 rotate_left
 ·have HX:Hid (RES=([],0,2)):=aa (by rw[<-HRS.o];exact XQ hok s);have HR0:Hid (RowI w w1 none 0 0 []):=aa (RowI.start w w1);rw[Bool.eq_false_iff.2 hok];clear hok;go_wp2;go_ret3;exact UE HR0.o HB1.o (a:=0) HX.o.symm (ag _)
 have HRES0:=Yb hok s;have HM:Hid (16<=mp/\mp<=1048576):=aa (by
  rw[WM,eh]at hok;have:=aR hok.2;omega)
 rw[HRS.o]at HRES0;have HRES:Hid (RES=((smG v mp (s.extract 0 s.size) 0 0 []).1,(smG v mp (s.extract 0 s.size) 0 0 []).2.2.1,(smG v mp (s.extract 0 s.size) 0 0 []).2.2.2.2)):=aa (by
  rw[show s.extract 0 s.size=s from eX (by rw[m9];rfl)];exact HRES0)
 have HRD:=aa (fun(a:Nat) W=>Xg v mp (s.extract a s.size) W HM.o (by rw[aj];have:=HS.o;omega));rw[hok];clear HRES0 hok;go_wp2
 go_loopw [6,7] (fun lv zv wr=>SpL w1 v mp s RES lv zv wr) (fun _ zv _=>s.size+1- (intOf zv).toNat)
 case atStart=>exact⟨none,0,0,[],0,rfl,rfl,RowI.start w1 w1,aq _ _,ac _,ag _,HRES.o⟩
 case round=>
  obtain⟨A,n,c,L,a,rfl,rfl,hI,hB,h1,h2,hF⟩:=hrel;have I0:=aa hI;have B0:=aa hB;have HN:=aa h1;have HA:=aa h2
  obtain⟨⟨P,q,E⟩,hR⟩:∃R,smN v mp (s.extract a s.size)=R:=⟨_,rfl⟩;have HST:=aa (XN hF hR);have HCL:=aa (HRD.o a);rw[hR]at HCL;have HKL:=aa (HK1.o.below hB HK1.o.lt);clear hI hB h1 h2 hF hR;have b1:(0:Int)<=(a:Int):=by omega
  have b2:(a:Int)<=(s.size:Int):=by have:=HA.o;omega
  have c0:=HKL.o.cell 0;have a0:=(HKL.o.alloc (.cells (pkC pk0 hs0) PkT)).cell 0;simp only[ay,aB]at c0 a0
  go_upto_region 3 with fail
  go_cut [9,10,11] (fun pz nz ez wx=>XM wr (P,q,E) pz nz ez wx)
  case first=>
   go_region_law ((go_simp;go_at_call 99;refine(HCL.o _).mono ?_;rintro e w3 ⟨hh,rfl,hi3,hb3,hf3⟩;(first| (have hst3:=by(with_reducible exact(WR hi3 hb3 hf3).1)) | skip);(first| (have hr3:=by(with_reducible exact(WR hi3 hb3 hf3).2)) | (have hr3:=by(with_reducible exact Xn hi3 hb3 hf3)))))
   all_goals
    go_wp2
    go_meet
    case rel=>with_reducible exact hr3
  obtain⟨hh,g,rfl,rfl,rfl,hg,hkx,hix,hbx,hfx⟩:=hcut;obtain⟨wx,hwx⟩:∃x,x=wc:=⟨_,rfl⟩;subst hwx;have KX:=aa hkx;have IX:=aa hix;have FX:=aa hfx
  have I1:=aa (I0.o.below hbx);have B1:=aa (B0.o.trans (hbx.mono B0.o.size));have hld:(kZ (.pointer (some ⟨g,0,none⟩))).run prog wx= .ok (pkV P hh) wx:=cf hkx;have HNB:Hid (n<=10000000000):=aa (by have:=HN.o;have:=HA.o;have:=HS.o;omega);clear hg hkx hix hbx hfx c0 a0 b1 b2 HCL HKL;dsimp only at IX FX
  by_cases h3:E=3
  ·have HX:=aa (HST.o.1 h3);subst h3;go_wp2;go_ret3;exact UE (I1.o.wide2 HB1.o.size) (HB1.o.trans (B1.o.mono HB1.o.size)) HX.o.symm HNB.o
  by_cases h0:E=0
  rotate_left
  ·have HX:=aa (HST.o.2.1 h0 h3);have e3:(E==3)=false:=ar.2 h3;have e0:(E !=0)=true:=aA.2 h0;clear h3 h0 HST;go_wp2;go_ret3;exact UE (I1.o.wide2 HB1.o.size) (HB1.o.trans (B1.o.mono HB1.o.size)) HX.o.symm HNB.o
  subst h0;obtain⟨hq,hF2⟩:=HST.o.2.2 rfl;have HQ:Hid (2<=q/\a+q<=s.size):=aa (by have:=HA.o;omega);have HF2:Hid (RES=((smG v mp (s.extract (a+q) s.size) (a+q) (n+1) ((L++[(P,hh)]).map Prod.fst)).1,(smG v mp (s.extract (a+q) s.size) (a+q) (n+1) ((L++[(P,hh)]).map Prod.fst)).2.2.1,(smG v mp (s.extract (a+q) s.size) (a+q) (n+1) ((L++[(P,hh)]).map Prod.fst)).2.2.2.2)):=aa (by
   rw[Ii];exact hF2)
  have I3:=aa (I1.o.below ((aq _ _).alloc (ac _) (.cells (pkC P hh) PkT)));have B3:=aa (B1.o.alloc B1.o.size (.cells (pkC P hh) PkT));have P3:=aa (IX.o.next ((aq _ _).alloc (ac _) (.cells (pkC P hh) PkT)));have R3:=aa (Fs wx P hh (g:=wx.heap.size) rfl);have hadd:wrap64 ((a:Int)+(q:Int))=((a+q:Nat):Int):=by have:=HS.o;have:=HQ.o;unfold wrap64;omega
  have HNB1:Hid (n+1<=100000000000):=aa (by have:=HNB.o;omega);clear h3 HST hq hF2
  go_upto_region 9 with (at_builtin;refine oE rfl (.tmp 43) (.tmp 45) rfl (w0:=w1) (A:=A) (n:=n) (c:=c) (L:=L) rfl I3.o.row B3.o.size _ [(P,hh)] 1 1 _ rfl rfl (by decide) R3.o HNB1.o ?_;intro g' c' w3 hrow hgr hat hlt)
  have I4:=aa (I3.o.more hrow hgr hat (fun x hx=>by rw[gA.1 hx];exact P3.o) (fun x hx g o e=>by rw[gA.1 hx];exact FX.o.apart (I0.o.row.block e).2));have B4:=aa (kz B3.o hgr B3.o.size (fun g hg=>(I3.o.row.own hg).1));clear hrow hgr hat hlt I3 B3 P3 R3 hld;go_wp2
  go_roundw
  case rel=>exact⟨some ⟨g',0,none⟩,n+1,c',L++[(P,hh)],a+q,rfl,(by first| rw[hadd] | rw[Int.natCast_add]),I4.o,B4.o,by have:=HN.o;have:=HQ.o;omega,HQ.o.2,HF2.o⟩
  case measure=>
   first| rw[hadd] | rw[<-Int.natCast_add]
   simp only[intOf,dN];have:=HQ.o;omega
theorem WN(v mp md:Int)(p:Pk)(h:Hs)(w:World)(ip:PkIn w w.heap.size p h)(ok:PkOk p)(hz:MV v p):
  Calls prog 47 #[.int .i64 v,zW mp md,pkV p h] w fun e w'=>e= .returned (.bool (WL v mp md p))/\Below w.heap.size w w':=by
 have HE:Hid (WL v mp md p=(WZ mp md&&(decide ((mqB v p).2=0)&&decide (((mqB v p).1.size:Int)<=mp)))):=aa rfl;have b0:=(aq w.heap.size w).alloc (ac _) (.cells #[.int .i64 mp,.int .i64 md] 54);have k0:=Bk.fresh w 54 #[.int .i64 mp,.int .i64 md];have S0:=aa (((St.start w).below b0).push (ip.next b0));have HK:=aa (k0.alloc (.cells (pkC p h) PkT));rw[show(w.alloc (.cells #[.int .i64 mp,.int .i64 md] 54)).heap.size=w.heap.size+1 by simp]at S0;have HCK:=aa (WU mp md);have OK:=aa ok;have HZ:=aa hz
 unfold zW at*;clear b0 k0 ip ok hz;have c0:=HK.o.cell 0;have c1:=HK.o.cell 1;simp only[ay,aE,aB]at c0 c1;go_enter func47,ntmps47
 go_wp2_with fail
 refine(HCK.o _).mono ?_;rintro e w1 ⟨rfl,hb⟩;have S1:=aa (S0.o.below hb);have HK1:=aa (HK.o.below hb HK.o.lt)
 clear hb c0 c1 HCK S0 HK
 by_cases hl:WZ mp md=true
 rotate_left
 ·have HX:Hid (WL v mp md p=false):=aa (by rw[HE.o,Bool.eq_false_iff.2 hl,bj]);rw[Xd hl];clear hl;go_wp2;go_ret;exact⟨by rw[HX.o];rfl,S1.o.kept⟩
 have HE1:Hid (WL v mp md p=(decide ((mqB v p).2=0)&&decide (((mqB v p).1.size:Int)<=mp))):=aa (by rw[HE.o,hl,aL]);rw[Xp hl];clear hl HE;have hld:=S1.o.ld 0 rfl
 go_wp2_with fail
 refine(Vq v p h _ (S1.o.into 0 rfl) OK.o HZ.o).mono ?_;rintro e w2 ⟨rfl,hb⟩;have S2:=aa (S1.o.below hb);have HK2:=aa (HK1.o.below hb HK1.o.lt)
 clear hb hld S1 HK1;generalize (mqB v p).2=E at*;generalize (mqB v p).1.size=z at*;have c0:=HK2.o.cell 0;simp only[ay,aB]at c0
 by_cases hE:E=0
 ·have HX:Hid (WL v mp md p=decide ((z:Int)<=mp)):=aa (by rw[HE1.o,au hE,aL]);subst hE;clear HE1;go_wp2;go_ret;exact⟨by rw[HX.o];rfl,S2.o.kept⟩
 ·have HX:Hid (WL v mp md p=false):=aa (by rw[HE1.o,ah hE,bj]);have e0:(E==0)=false:=ar.2 hE;clear HE1 hE;go_wp2;go_ret;exact⟨by rw[HX.o];rfl,S2.o.kept⟩
end
end Go.Proofs.YtbdgkkmbnahgiaaGreatDoor
namespace Go.Proofs.YtbdgkkmbnahgiaaGreatDoor
open Go.RowKit Go.Shelf
open Go.Sort hiding Below
open Go.Proofs.Tryz
def Xk:Ren:=⟨fun| 125=>217| 128=>296| 129=>297| 189=>155| 215=>353| 216=>293| 257=>216| 294=>287| 295=>288| 296=>289| 297=>290| 298=>291| 299=>292| 300=>294| 301=>295| 328=>348| 329=>349| 330=>350| 331=>351| 332=>352| 343=>375| n=>n,fun| 0=>0| 3=>3| 4=>4| 5=>5| 9=>9| 28=>26| 46=>103| 51=>100| 53=>82| 131=>220| 182=>240| 183=>241| 218=>273| 222=>277| 228=>300| 229=>284| n=>n,fun n=>n⟩
theorem Xv:Lays.n189 prog Xk where
 mixed:=by kernel_rfl
 f125:=func217.trans (congrArg some (by kernel_rfl))
 f128:=func296.trans (congrArg some (by kernel_rfl))
 f129:=func297.trans (congrArg some (by kernel_rfl))
 f189:=func155.trans (congrArg some (by kernel_rfl))
 f215:=func353.trans (congrArg some (by kernel_rfl))
 f216:=func293.trans (congrArg some (by kernel_rfl))
 f257:=func216.trans (congrArg some (by kernel_rfl))
 f294:=func287.trans (congrArg some (by kernel_rfl))
 f295:=func288.trans (congrArg some (by kernel_rfl))
 f296:=func289.trans (congrArg some (by kernel_rfl))
 f297:=func290.trans (congrArg some (by kernel_rfl))
 f298:=func291.trans (congrArg some (by kernel_rfl))
 f299:=func292.trans (congrArg some (by kernel_rfl))
 f300:=func294.trans (congrArg some (by kernel_rfl))
 f301:=func295.trans (congrArg some (by kernel_rfl))
 f328:=func348.trans (congrArg some (by kernel_rfl))
 f329:=func349.trans (congrArg some (by kernel_rfl))
 f330:=func350.trans (congrArg some (by kernel_rfl))
 f331:=func351.trans (congrArg some (by kernel_rfl))
 f332:=func352.trans (congrArg some (by kernel_rfl))
 f343:=func375.trans (congrArg some (by kernel_rfl))
 t0:=underlying0
 a0:=Tryz.isAgg0
 z0:=Tryz.sizeOf0
 v0:=Tryz.zeroValue0
 t3:=underlying3
 a3:=Tryz.isAgg3
 z3:=Tryz.sizeOf3
 v3:=Tryz.zeroValue3
 t4:=underlying4
 a4:=Tryz.isAgg4
 z4:=Tryz.sizeOf4
 v4:=Tryz.zeroValue4
 t5:=underlying5
 a5:=Tryz.isAgg5
 z5:=Tryz.sizeOf5
 v5:=Tryz.zeroValue5
 t9:=underlying9
 a9:=Tryz.isAgg9
 z9:=Tryz.sizeOf9
 v9:=Tryz.zeroValue9
 t28:=underlying26
 a28:=Tryz.isAgg26
 z28:=Tryz.sizeOf26
 v28:=Tryz.zeroValue26
 t46:=underlying103
 a46:=Tryz.isAgg103
 z46:=Tryz.sizeOf103
 v46:=Tryz.zeroValue103
 t51:=underlying100
 a51:=Tryz.isAgg100
 z51:=Tryz.sizeOf100
 v51:=Tryz.zeroValue100
 t53:=underlying82
 a53:=Tryz.isAgg82
 z53:=Tryz.sizeOf82
 v53:=Tryz.zeroValue82
 t131:=underlying220
 a131:=Tryz.isAgg220
 z131:=Tryz.sizeOf220
 v131:=Tryz.zeroValue220
 t182:=underlying240
 a182:=Tryz.isAgg240
 z182:=Tryz.sizeOf240
 v182:=Tryz.zeroValue240
 t183:=underlying241
 a183:=Tryz.isAgg241
 z183:=Tryz.sizeOf241
 v183:=Tryz.zeroValue241
 t218:=underlying273
 a218:=Tryz.isAgg273
 z218:=Tryz.sizeOf273
 v218:=Tryz.zeroValue273
 t222:=underlying277
 a222:=Tryz.isAgg277
 z222:=Tryz.sizeOf277
 v222:=Tryz.zeroValue277
 t228:=underlying300
 a228:=Tryz.isAgg300
 z228:=Tryz.sizeOf300
 v228:=Tryz.zeroValue300
 t229:=underlying284
 a229:=Tryz.isAgg284
 z229:=Tryz.sizeOf284
 v229:=Tryz.zeroValue284
def Xj:Ren:=⟨fun| 6=>215| 10=>152| n=>n,fun| 0=>0| 3=>3| 4=>4| 22=>26| 23=>3| 25=>104| n=>n,fun n=>n⟩
theorem XT:SlLaysH.n10 prog Xj where
 mixed:=by kernel_rfl
 f6:=⟨Tryz.f215.name,by kernel_rfl,func215.trans (congrArg some (by kernel_rfl))⟩
 f10:=⟨Tryz.f152.name,by kernel_rfl,func152.trans (congrArg some (by kernel_rfl))⟩
 t0:=underlying0
 a0:=Tryz.isAgg0
 z0:=Tryz.sizeOf0
 v0:=Tryz.zeroValue0
 t3:=underlying3
 a3:=Tryz.isAgg3
 z3:=Tryz.sizeOf3
 v3:=Tryz.zeroValue3
 t4:=underlying4
 a4:=Tryz.isAgg4
 z4:=Tryz.sizeOf4
 v4:=Tryz.zeroValue4
 t22:=underlying26
 a22:=Tryz.isAgg26
 z22:=Tryz.sizeOf26
 v22:=Tryz.zeroValue26
 a23:=Tryz.isAgg3
 z23:=Tryz.sizeOf3
 t25:=underlying104
 a25:=Tryz.isAgg104
 z25:=Tryz.sizeOf104
 v25:=Tryz.zeroValue104
theorem Xe:(prog.info? 3).map (fun i=>(i.zero,i.size,i.bytes))=some (some (.int .i64 0),1,8):=by kernel_rfl
theorem WP:(prog.info? 9).map (fun i=>(i.zero,i.size,i.bytes))=some (some (.string ⟨#[]⟩),1,16):=by kernel_rfl
theorem XS(l:List Int):∀u∈iv l,u.oneCell'=true:=by
 intro u hu;obtain⟨z,-,rfl⟩:=jX.1 hu;rfl
theorem Xr(n c:Nat)(w:World):Calls prog 153 #[.slice none n c] w fun e w'=>e= .returned (.slice none 0 0)/\w=w':=by
 have q22:∀(w:World) (a:Option Addr) (n c n' c':Nat),(binOp .eql 26 (.slice a n c) (.slice none n' c')).run prog w= .ok (.bool a.isNone) w:=fun w a n c n' c'=>Lib.run_eql_slice_nil w _ _ a n c n' c' underlying26;go_enter func153,ntmps153;go_wp2;go_ret;exact⟨rfl,rfl⟩
theorem Xq(ad:Addr)(l:List Int)(c:Nat)(w:World)(h:Rd w w.heap.size 1 (some ad) l.length (iv l))(hl:l.length<=1000000):
  Calls prog 153 #[.slice (some ad) l.length c] w fun e w'=>∃v,e= .returned v/\w'.ownsRow w.heap.size 3 1 v l.length (iv l)/\Below w.heap.size w w'/\v≠ .slice none 0 0:=by
 have H:=aa h;clear h
 have q22:∀(w:World) (a:Option Addr) (n c n' c':Nat),(binOp .eql 26 (.slice a n c) (.slice none n' c')).run prog w= .ok (.bool a.isNone) w:=fun w a n c n' c'=>Lib.run_eql_slice_nil w _ _ a n c n' c' underlying26;go_enter func153,ntmps153
 go_wp2_with (at_builtin;refine kF _ rfl (.tmp 5) (.tmp 6) 26 rfl w.heap.size 3 _ 1 8 underlying26 Xe rfl (by decide) (.slice (some ⟨w.heap.size,0,none⟩) 0 0) 0 [] rfl (UH w w.heap.size _ 1 (ac _)) _ _ _ _ (iv l) rfl (H.o.alloc (ac _) _) (XS _) (by unfold maxLen;omega) (by omega) (by simp) ?_;intro v' w3 hown3 hg3 hat3)
 go_ret;refine⟨v',rfl,by simpa using hown3,kz ((aq _ _).alloc (ac _) _) hg3 (by simp) (fun g hg=>?_),?_⟩
 ·have:w.heap.size=g:=by simpa [Value.ownBlock]using hg
  omega
 ·rintro rfl;simp[Value.ownBlock]at hat3
theorem WW(n:Nat)(z:Int)(B:Nat)(w:World)(hc:w.cell? ⟨B,0,none⟩=some (.int .i64 n)):
  FnGives prog 154 #[.pointer (some ⟨B,0,none⟩)] #[.int .i64 z] (.bool (!WK n z)) w:=by
 show Calls prog 154 #[.int .i64 z,.pointer (some ⟨B,0,none⟩)] w _;have HX:Hid (WK n z=(decide (0<=z)&&decide (z<=(n:Int)))):=aa rfl
 by_cases h0:z<0
 ·have HY:Hid (WK n z=false):=aa (by rw[HX.o,ah (by omega)];rfl);go_enter func154,ntmps154;go_wp2;go_ret;exact⟨by rw[HY.o];rfl,0,rfl⟩
 ·have h0':0<=z:=by omega
  by_cases h1:(n:Int)<z
  ·have HY:Hid (WK n z=false):=aa (by rw[HX.o,ah (show ¬z<=(n:Int) by omega),ru]);go_enter func154,ntmps154;go_wp2;go_ret;exact⟨by rw[HY.o];rfl,0,rfl⟩
  ·have h1':z<=(n:Int):=by omega
   have HY:Hid (WK n z=true):=aa (by rw[HX.o,au h0',au h1'];rfl);clear h0 h1;go_enter func154,ntmps154;go_wp2;go_ret;refine⟨?_,0,rfl⟩;rw[HY.o];simp;omega
theorem XG(f:Value)(c:Nat)(w:World):Calls prog 215 #[.slice none 0 c,f] w fun e w'=>e= .returned (.int .i64 (-1))/\w=w':=by
 go_enter func215,ntmps215;go_wp2
 go_loopw [8] (fun i wr=>i= .int .i64 0/\w=wr) (fun i _=>0)
 case atStart=>exact⟨rfl,rfl⟩
 case round=>
  obtain⟨rfl,rfl⟩:=hrel;go_wp2;go_ret;exact⟨rfl,rfl⟩
theorem XL(f:Value)(c:Nat)(w:World):Calls prog 152 #[.slice none 0 c,f] w fun e w'=>e= .returned (.slice none 0 c)/\w=w':=by
 go_enter func152,ntmps152
 go_wp2_with fail
 refine(XG f c _).mono ?_;rintro e w1 ⟨rfl,rfl⟩;go_wp2;go_ret;exact⟨rfl,rfl⟩
theorem Xb{B g n:Nat}{a w:World}{os:Array Obj}(d:Array Int)(h:Below B a w)(hB:B<=w.heap.size)(hg:B<=g):Below B a (grow (putRow (Value.int .i64) (Sort.ahead w n) g 0 d) os):=
 h.grown (grownBy_sortedI d) hB (fun k hk=>by cases hk;exact hg)
theorem Xz{w:World}{g n:Nat}(d:Array Int):putRow (Value.int .i64) (Sort.ahead w n) g 0 d=grow (putRow (Value.int .i64) (Sort.ahead w n) g 0 d) #[]:=(grow_empty _).symm
theorem Xl{w:World}{g:Nat}{l m:List Int}(h:Holds (Value.int .i64) w g 0 (l++m).toArray):Holds (Value.int .i64) w g 0 l.toArray:=fun j hj=>by
 have hj':j<l.length:=by simpa using hj
 have:=h j (by simp;omega);have e:(l++m).toArray[j]! =l.toArray[j]! :=by
  rw[getElem!_pos (l++m).toArray j (by simp;omega),getElem!_pos l.toArray j hj];simp[List.getElem_append_left hj']
 rwa[e]at this
theorem Xw(blk cap:Nat)(zs:List Int)(w:World)(hH:Holds (Value.int .i64) w blk 0 zs.toArray)(hblk:blk<w.heap.size)(hsz:zs.length<4611686018427387904):
  Calls prog 155 #[.slice (some ⟨blk,0,none⟩) zs.length cap] w fun e w'=>
   e= .returned (.tuple #[])/\∃n os,w'=grow (putRow (Value.int .i64) (Sort.ahead w n) blk 0 (zs.mergeSort fun x y=>decide (x<=y)).toArray) os:=Any.slices_Sort_int Xv blk 0 cap zs w hH hblk hsz
theorem XK(n blk cap B:Nat)(l:List Int)(w:World)(hB:w.cell? ⟨B,0,none⟩=some (.int .i64 n))(hBlt:B<w.heap.size)(hne:B≠blk)(hH:Holds (Value.int .i64) w blk 0 l.toArray)(hl:l.length<=1000000)(hc:l.length<=cap):
  Calls prog 152 #[.slice (some ⟨blk,0,none⟩) l.length cap,.func (.func 154) #[] #[.pointer (some ⟨B,0,none⟩)]] w fun e w'=>
   e= .returned (.slice (some ⟨blk,0,none⟩) (l.filter (WK n)).length cap)/\∃q,w'=putRow (Value.int .i64) (Sort.ahead w q) blk 0 (l.filter (WK n)++List.replicate (l.length- (l.filter (WK n)).length) 0).toArray:=by
 have eg:∀args w,(callFunc 154 args).run prog w= .ok (.enter 154 args) w:=enters_of func154 (by kernel_rfl) rfl;have h:=AnyE.slices_DeleteFunc XT (Value.int .i64) (fun _=>rfl) (fun z=>!WK n z) 154 #[.pointer (some ⟨B,0,none⟩)] eg 0 Tryz.zeroValue3 blk 0 cap l.toArray w
  (fun W x hb=>WW n x B W ((hb.cell (p:=⟨B,0,none⟩) hBlt).trans hB))
  (fun m os dk x _=>WW n x B _ (by
    unfold sortWorld;rw[cell?_grow _ _ _ (by show B<(putRow _ _ _ _ _).heap.size;rw[size_putRow];exact hBlt),cell?_putRow_other _ _ blk 0 _ _ (Or.inl hne)];exact hB)) hH (by simp;omega) (by simpa using hc)
 have e1:(l.toArray.toList.filter fun x=>!(fun z=>!WK n z) x)=l.filter (WK n):=by simp
 rw[e1]at h;simp only[WO]at h;exact h
theorem Xo(n:Nat)(A:Option Addr)(l:List Int)(c:Nat)(w:World)(hr:Rd w w.heap.size 1 A l.length (iv l))(hl:l.length<=1000000):
  Calls prog 100 #[.int .i64 n,.slice A l.length c] w fun e w'=>∃A' c',e= .returned (.slice A' (plL n l).length c')/\Rd w' w'.heap.size 1 A' (plL n l).length (iv (plL n l))/\Below w.heap.size w w':=by
 have HR:=aa hr;have HB:=aa ((aq w.heap.size w).alloc (ac _) (.cells #[.int .i64 n] 3));have HC:=aa (Bk.fresh w 3 #[.int .i64 n]);clear hr;have HS:Hid (plL n l=((l.filter (WK n)).mergeSort fun x y=>decide (x<=y))):=aa rfl;have HQ:Hid (plL n []=[]):=aa (XF (List.Perm.refl _) List.Pairwise.nil);rcases A with _| ad
 ·have hn:l=[]:=by
   rcases HR.o.2 with h0| ⟨b,o,h,_⟩
   ·simpa [iv]using h0
   ·cases h
  subst hn;go_enter func100,ntmps100
  go_wp2_with fail
  refine(Xr _ _ _).mono ?_;rintro e w1 ⟨rfl,rfl⟩
  go_wp2_with fail
  refine(XL _ _ _).mono ?_;rintro e w1 ⟨rfl,rfl⟩
  go_wp2_with fail
  refine(Any.slices_Sort_int_none Xv none 0 _).mono ?_;rintro e w1 ⟨rfl,rfl⟩;go_wp2;go_ret;rw[HQ.o];exact⟨none,0,rfl,Rd.nil _ _ _ _,HB.o⟩
 ·go_enter func100,ntmps100
  go_wp2_with fail
  refine(Xq ad l c _ (HR.o.alloc (ac _) _ |>.wider (by simp)) hl).mono ?_;rintro e w1 ⟨v,rfl,hown,hb,hne⟩;rcases hown.2 with ⟨h0,_⟩ | ⟨g,cap,cur,rfl,hg1,hg2,hg3,hg4,hg5,hg6⟩
  ·exact absurd h0 hne
  have HB1:=aa (HB.o.trans (hb.mono HB.o.size));have hC1:=HC.o.below hb HC.o.lt;have HH:Hid (Holds (Value.int .i64) w1 g 0 l.toArray):=aa (holds_of_blockI hg2 (by simpa [iv]using hg6));have HG:=aa hg2;have hgl:g<w1.heap.size:=(cZ.1 hg2).1;have hgw0:w.heap.size+1<=g:=by simpa using hg1
  have hgw:w.heap.size<g:=hgw0;have HD:=aa (XK n g cap w.heap.size l w1 (hC1.cell 0) hC1.lt (by omega) HH.o hl hg3);have HK:=aa (And.intro hg3 (And.intro hg4 hg5));clear hown hb hne hg2 hg6 hC1 hg3 hg4 hg5
  go_wp2_with fail
  refine HD.o.mono ?_;rintro e w2 ⟨rfl,q,hw2⟩;have hfl:(l.filter (WK n)).length<=l.length:=WJ _ _;have H2:w2.heap[g]? =some (.cells (putCells (Value.int .i64) 0 (l.filter (WK n)++List.replicate (l.length- (l.filter (WK n)).length) 0).toArray cur) 3 (0,0)):=by
   have:=heap_sortedI (n:=q) (os:=#[]) (l.filter (WK n)++List.replicate (l.length- (l.filter (WK n)).length) 0).toArray HG.o;rw[grow_empty]at this;rw[hw2];exact this
  have HH2:Hid (Holds (Value.int .i64) w2 g 0 (l.filter (WK n)).toArray):=aa (by
   rw[hw2];exact Xl (holds_putRow _ _ g 0 l.toArray _ (holds_ahead _ _ q g 0 _ HH.o) (by simp;omega)))
  have HB2:Hid (Below w.heap.size w w2):=aa (by
   rw[hw2,Xz];exact Xb _ HB1.o HB1.o.size (by omega))
  have hg2:g<w2.heap.size:=(cZ.1 H2).1;have HG2:=aa H2;have HFL:=aa hfl;clear H2 hw2 hfl
  go_wp2_with fail
  refine(Xw g cap (l.filter (WK n)) w2 HH2.o hg2 (by have:=HFL.o;omega)).mono ?_;rintro e w3 ⟨rfl,n3,os,hw3⟩;have HO:=aa (ownsRow_sortedI (n:=n3) (os:=os) (base:=w.heap.size) (ss:=l.filter (WK n)) (ts:=plL n l) (Xc n l) (by omega) HG2.o (by have:=HFL.o;have:=HK.o.1;omega) HK.o.2.1 (by simpa [putCells]using HK.o.2.2));rw[<-HS.o]at hw3;have HO3:Hid (w3.ownsRow w.heap.size 3 1 (.slice (some ⟨g,0,none⟩) (l.filter (WK n)).length cap) (l.filter (WK n)).length (iv (plL n l))):=aa (by rw[hw3];exact HO.o);have HB3:Hid (Below w.heap.size w w3):=aa (by
   rw[hw3];exact Xb _ HB2.o HB2.o.size (by omega))
  have HPL:=aa (Xc n l);clear hw3;go_wp2;go_ret;obtain⟨A',c',he,hc,hr⟩:=jK HO3.o;cases he;rw[<-HPL.o]at hr⊢;exact⟨_,_,rfl,hr,HB3.o⟩
theorem Xs(s:ByteArray)(A:Option Addr)(l:List Int)(c:Nat)(w:World)(hr:Rd w w.heap.size 1 A l.length (iv l))(hl:l.length<=1000000)(hs:s.size<=140737488351232):
  Calls prog 49 #[.string s,.slice A l.length c] w fun e w'=>∃v,e= .returned v/\w'.ownsRow w.heap.size 9 1 v (lkL s (plL s.size l)).length (txv (lkL s (plL s.size l)))/\Below w.heap.size w w':=by
 have HR:=aa hr;have HS:=aa hs
 have HPL:=aa (Xo s.size A l c w hr hl);have HOK:=aa (Ya s.size l);have HLL:Hid ((plL s.size l).length<=1000000):=aa (aC (XA s.size l) hl);clear hr hs hl;generalize plL s.size l=L at*;go_enter func49,ntmps49
 go_wp2_with fail
 refine HPL.o.mono ?_;rintro e w1 ⟨A',c',rfl,hr1,hb1⟩;have HR1:=aa hr1;have HB1:=aa hb1
 clear hr1 hb1 HPL;go_wp2
 go_loopw [5,6,14] (fun o f i wr=>∃k:Nat,k<=L.length/\i= .int .i64 k/\f= .int .i64 (lkA L k)/\wr.ownsRow w1.heap.size 9 1 o k (txv ((List.range k).map (lkS s L)))/\Below w1.heap.size w1 wr) (fun _ _ i _=>L.length- (intOf i).toNat)
 case atStart=>exact⟨0,by omega,rfl,by rw[vc];rfl,dD _ _ _ _,aq _ _⟩
 case round=>
  obtain⟨k,hk,rfl,rfl,hown,hbel⟩:=hrel;have HO:=aa hown;have HB:=aa hbel
  have hsz:=hbel.size;have HD:=HLL.o;clear hown
  by_cases hlt:k<L.length
  ·obtain⟨bA,oA,z,rfl,hb,hz,hc⟩:=(HR1.o.below hbel).atI hlt;have hzL:L[k]=z:=by rw[List.getElem?_eq_getElem hlt]at hz;exact Option.some.inj hz
   have h1:=HOK.o.at hlt;rw[hzL]at h1;have h2:=HOK.o.le hk;rw[FH hlt]at h2;have HX:Hid (lkS s L k=s.extract (lkA L k) (lkA L (k+1))):=aa (by unfold lkS;rw[FH hlt]);have HZ:=aa hz;obtain⟨a,ha⟩:∃a,lkA L k=a:=⟨_,rfl⟩;obtain⟨q,hq⟩:∃q,lkA L (k+1)=q:=⟨_,rfl⟩;have HQ:=aa hq;rw[hq]at h1 h2 HX;rw[ha]at h2 HX⊢;obtain⟨h1,h3⟩:=h1;subst h1;have c1:(0:Int)<=(a:Int):=by omega
   have c2:(a:Int)<=(q:Int):=by omega
   have c3:(q:Int)<=(s.size:Int):=by omega
   have b1:(0:Int)<=(k:Int):=by omega
   have b2:(k:Int)<(L.length:Int):=by omega
   have HT:Hid (txv ((List.range (k+1)).map (lkS s L))=txv ((List.range k).map (lkS s L))++[.string (s.extract a q)]):=aa (by rw[Xh,Xf,HX.o]);clear hz hzL h2 h3 hq ha
   go_wp2_with (at_builtin;refine kF _ rfl (.tmp 18) (.tmp 23) 55 rfl w1.heap.size 9 (.string ⟨#[]⟩) 1 16 underlying55 WP rfl (by decide) u5 _ _ rfl (HO.o.alloc _) _ _ 1 1 [.string (s.extract a q)] rfl (Rd.lit _ _ _ rfl (ed _) rfl) (Xt [s.extract a q]) (by unfold maxLen;omega) (by omega) (by simp;omega) ?_;intro v' w3 hown3 hg3 hat3)
   have R:w3.ownsRow w1.heap.size 9 1 v' (k+1) (txv ((List.range (k+1)).map (lkS s L)))/\Below w1.heap.size w1 w3:=by
    refine⟨by rw[HT.o];exact hown3,?_⟩;exact kz (HB.o.alloc (by omega) _) hg3 (by simp;omega) (fun g hg=>(cX HO.o g hg).1)
   clear hown3 hg3 hat3;go_wp2
   go_roundw
   case rel=>exact⟨k+1,by omega,by go_num,by rw[HQ.o],R.1,R.2⟩
   case measure=>simp[intOf];omega
  ·obtain rfl:k=L.length:=by omega
   have h2:=HOK.o.le (ac _);rw[Eu (WQ _)]at h2;have HX:Hid (lkS s L L.length=s.extract (lkA L L.length) s.size):=aa (by unfold lkS;rw[Eu (WQ _)]);obtain⟨a,ha⟩:∃a,lkA L L.length=a:=⟨_,rfl⟩;rw[ha]at h2 HX⊢;have c1:(0:Int)<=(a:Int):=by omega
   have c2:(a:Int)<=(s.size:Int):=by omega
   have HT:Hid (txv (lkL s L)=txv ((List.range L.length).map (lkS s L))++[.string (s.extract a s.size)]):=aa (by unfold lkL;rw[Xh,Xf,HX.o]);clear h2 ha
   go_wp2_with (at_builtin;refine kF _ rfl (.tmp 27) (.tmp 31) 55 rfl w1.heap.size 9 (.string ⟨#[]⟩) 1 16 underlying55 WP rfl (by decide) u5 _ _ rfl (HO.o.alloc _) _ _ 1 1 [.string (s.extract a s.size)] rfl (Rd.lit _ _ _ rfl (ed _) rfl) (Xt [s.extract a s.size]) (by unfold maxLen;omega) (by omega) (by simp;omega) ?_;intro v' w3 hown3 hg3 hat3)
   have R:w3.ownsRow w.heap.size 9 1 v' (lkL s L).length (txv (lkL s L))/\Below w.heap.size w w3:=by
    rw[HT.o,XR];refine⟨zH hown3 HB1.o.size,HB1.o.trans ((kz (HB.o.alloc (by omega) _) hg3 (by simp;omega) (fun g hg=>(cX HO.o g hg).1)).mono HB1.o.size)⟩
   clear hown3 hg3 hat3;go_wp2;go_ret;exact⟨v',rfl,R.1,R.2⟩
end Go.Proofs.YtbdgkkmbnahgiaaGreatDoor
namespace Go.Proofs.YtbdgkkmbnahgiaaGreatDoor
open Go.RowKit Go.Proofs.Tryz
theorem Xx(A A':Option Addr)(n m c c':Nat)(l l':List ByteArray)(w:World)(hl:Rd w w.heap.size 1 A n (txv l))(hm:Rd w w.heap.size 1 A' m (txv l'))(hn:n<=9223372036854775807)(hn':m<=9223372036854775807)(he:l=l'):
  Calls prog 48 #[.slice A n c,.slice A' m c'] w fun e w'=>e= .returned (.bool true)/\Below w.heap.size w w':=by
 subst he;have e1:l.length=n:=by have:=hl.len;simp[txv]at this;omega
 have e2:l.length=m:=by have:=hm.len;simp[txv]at this;omega
 obtain rfl:n=m:=by omega
 have E1:=aa e1;clear e1 e2
 go_enter func48,ntmps48;go_wp2
 go_loopw [5] (fun i wr=>∃k:Nat,k<=n/\i= .int .i64 k/\Below w.heap.size w wr) (fun i _=>n- (intOf i).toNat)
 case atStart=>exact⟨0,by omega,rfl,aq _ _⟩
 case round=>
  obtain⟨k,hk,rfl,hbel⟩:=hrel
  by_cases hlt:k<n
  ·obtain⟨bA,oA,z,rfl,hb,hz,hc⟩:=(hl.below hbel).atT hlt;obtain⟨bA',oA',z',rfl,hb',hz',hc'⟩:=(hm.below hbel).atT hlt;obtain rfl:z=z':=by rw[hz]at hz';exact Option.some.inj hz'
   clear hz hz' hl hm;have b1:(0:Int)<=(k:Int):=by omega
   have b2:(k:Int)<(n:Int):=by omega
   go_wp2
   go_quiet (fail)
   go_wp2
   go_roundw
   case rel=>exact⟨k+1,by omega,by go_num,aV hbel _⟩
   case measure=>simp[intOf];omega
  ·go_wp2;go_ret;exact⟨rfl,hbel⟩
theorem XE(W:World):Rd (W.alloc (.cells #[.int .i64 2,.int .i64 0] 3)) (W.alloc (.cells #[.int .i64 2,.int .i64 0] 3)).heap.size 1 (some ⟨W.heap.size,0,none⟩) 2 (iv [2,0]):=
 Rd.lit W _ _ rfl (by simp) rfl
theorem Xi(w:World):Calls prog 43 #[] w fun e w'=>e= .returned (.bool true)/\Below w.heap.size w w':=by
 have HB:=aa ((aq w.heap.size w).alloc (ac _) (.cells #[.int .i64 2,.int .i64 0] 3));have HC:=aa (Xs ⟨#[97,98,99]⟩ (some ⟨w.heap.size,0,none⟩) [2,0] 2 _ (XE w) (by decide) (by decide));rw[show(⟨#[97,98,99]⟩:ByteArray).size=3 from rfl,Xm]at HC;go_enter func43,ntmps43
 go_wp2_with fail
 refine HC.o.mono ?_;rintro e w1 ⟨v,rfl,hown,hb⟩;obtain⟨A1,c1,rfl,-,hr⟩:=jK hown;have HR:=aa hr;have HB1:=aa (HB.o.trans (hb.mono HB.o.size));clear hr hown hb
 go_wp2_with fail
 refine(Xx A1 _ _ 3 c1 _ [⟨#[]⟩,⟨#[97,98]⟩,⟨#[99]⟩] [⟨#[]⟩,⟨#[97,98]⟩,⟨#[99]⟩] _ (HR.o.alloc (ac _) _ |>.wider (by simp)) (Rd.lit _ _ _ rfl (by simp) rfl) (by decide) (by decide) rfl).mono ?_;rintro e w2 ⟨rfl,hb⟩;have HB2:=aa ((HB1.o.alloc HB1.o.size _).trans (hb.mono (HB1.o.alloc HB1.o.size _).size));clear hb;go_wp2;go_ret;exact⟨rfl,HB2.o⟩
end Go.Proofs.YtbdgkkmbnahgiaaGreatDoor
