/- A part of what the laws stand on: LmE, Laid. -/
import Derived.Test.YtbdgkkmbnahgiaaGreatDoorMxG0LmS
import Derived.Test.YtbdgkkmbnahgiaaGreatDoorMxG0MSubR
import Derived.Test.YtbdgkkmbnahgiaaGreatDoorCards
import Derived.Test.YtbdgkkmbnahgiaaGreatDoorTie
import Derived.ChangeVars
import Derived.LaidLaws
import Derived.LaidHandle
import Derived.SevenTiedAt
set_option maxRecDepth 10000
set_option maxHeartbeats 8000000
namespace Go.Proofs.YtbdgkkmbnahgiaaGreatDoor
open Go.RowKit Go.Proofs.Tryz
section
attribute [local go_sem ↓] bD bF bH bI bu
attribute [local go_sem] bc aD bh bg bK bJ bd aY be aO ax cI dC dB dt dj di dA dr dp dn bW co bO bZ bX cz cy cw cu ct cC cn bS bP bR
def XZ(v:Array (Nat×Value)):Sem Value:=Instr.build 54 v
theorem XD(v:Array (Nat×Value)):Instr.build 54 v=XZ v:=rfl
theorem Xy(a:Int)(w:World):(XZ #[(0,.int .i64 a)]).run prog w= .ok (.agg #[.int .i64 a,.int .i64 0]) w:=by kernel_rfl
attribute [local go_sem ↓] XD
attribute [local go_sem] Xy
def XX(w:World)(_ az ez:Value)(wx:World):Prop:=az= .int .i64 0/\ez= .int .i64 4/\Below w.heap.size w wx
theorem WY(v:Int)(p:Pk)(h:Hs)(w:World)(ip:PkIn w w.heap.size p h)(ok:PkOk p):
  Calls prog 8 #[.int .i64 v,pkV p h] w fun e w'=>e= .returned (.bool true)/\Below w.heap.size w w':=by
 have OK:=aa ok;have S0:=aa ((St.start w).push ip);clear ip ok;go_enter func8,ntmps8
 go_wp2_with fail
 refine(Xi _).mono ?_;rintro e w1 ⟨rfl,hb⟩;have S1:=aa (S0.o.below hb);clear hb
 have hl:=S1.o.ld 0 rfl
 go_wp2_with fail
 refine(Mw p h _ (S1.o.into 0 rfl) OK.o).mono ?_;rintro e w2 ⟨rfl,hb⟩;have S2:=aa (S1.o.below hb);clear hb hl
 cases hL:Ie p
 ·go_wp2;go_ret;exact⟨rfl,S2.o.kept⟩
 have HZ:=aa (LD v hL);clear hL;have hl:=S2.o.ld 0 rfl
 go_wp2_with fail
 refine(Kg v p h _ (S2.o.into 0 rfl) OK.o HZ.o).mono ?_;rintro e w3 ⟨rfl,hb⟩;have S3:=aa (S2.o.below hb);clear hb hl S1 S0 S2
 rw[Qo]
 by_cases hE:mqE v p=0
 rotate_left
 ·have q0:=jw (W:=w3) (fun x _=>WX x);have q1:=jw (W:=w3) (fun x hx=>WN v 1048576 32 p h x ((S3.o.below hx).into 0 rfl) OK.o HZ.o);rw[XV hE]at q1;have d0:=qp (S3.o.bk 0 rfl);generalize mqE v p=E at*;have e0:(E !=0)=true:=aA.2 hE;have e1:(E==0)=false:=ar.2 hE;have HBQ:=aa (fun d os=>below_regrown w3 d os);have HK:=aa S3.o.kept;clear hE S3
  go_wp2_with fail
  refine wp_region_quiet_below (by as_aux_lemma=>kernel_rfl) (by as_aux_lemma=>kernel_rfl) ?_
  repeat (go_big_quiet_step (first| with_reducible exact q0 _ _| with_reducible exact q1 _ _))
  refine kE ?_;intro _ hw';obtain⟨⟨dq,osq⟩,hw''⟩:=hw';subst hw'';have KF:=aa (HBQ.o dq osq);clear q0 q1 d0 HBQ;generalize Sort.grow (redrawn _ dq) osq=wq at*;go_wp2;go_ret;exact⟨rfl,HK.o.trans (KF.o.mono HK.o.size)⟩
 have hA:(mqB v p).1=mqS v p:=by unfold mqB;rw[if_pos hE]
 have FJ:=aa (fun h1 h2=>XJ hE (fun q hq=>(OK.o.props q hq).1) (fun q hq=>(OK.o.wp q hq).1) h1 h2);have FL:=aa (fun h1 h2=>XI hE (fun q hq=>(OK.o.props q hq).1) (fun q hq=>(OK.o.wp q hq).1) h1 h2);have FY:=aa (fun z (h1:16<=z) h2 h3=>XU hE (z:=z) h1 h2 h3);have FN:=aa (fun z h3=>Yc hE (z:=z) h3);rw[hA,hE];clear hE hA;obtain⟨X,hX⟩:∃X,mqS v p=X:=⟨_,rfl⟩;rw[hX]at FJ FL FY FN⊢;clear hX
 by_cases hz:X.size<17
 ·have d1:(X.size:Int)<17:=by omega
  have HB3:=aa S3.o.kept;clear hz;go_wp2
  go_quiet (fail)
  go_wp2;go_ret;exact⟨rfl,aV HB3.o _⟩
 have d1:(17:Int)<=(X.size:Int):=by omega
 by_cases hy:100000<X.size
 ·have d2:(100000:Int)<(X.size:Int):=by omega
  have HB3:=aa S3.o.kept;clear hz hy;go_wp2
  go_quiet (fail)
  go_wp2;go_ret;exact⟨rfl,aV HB3.o _⟩
 have d2:(X.size:Int)<=100000:=by omega
 have HX:Hid (17<=X.size/\X.size<=100000):=aa (by omega);clear hz hy;have hsub:wrap64 ((X.size:Int) - 1)=(X.size:Int) - 1:=by unfold wrap64;omega
 have hsub2:IntKind.i64.wrap ((X.size:Int) - 1)=(X.size:Int) - 1:=by rw[aQ];omega
 have J:=FJ.o (by have:=HX.o;omega) (by have:=HX.o;omega);have Lz:=FL.o (by have:=HX.o;omega) (by have:=HX.o;omega);have YJ:=FY.o (X.size:Int) (by have:=HX.o;omega) (by have:=HX.o;omega) (Int.le_refl _);have YN:=FN.o ((X.size:Int) - 1) (by omega);have b1:=S3.o.alloc (.cells #[.int .i64 (X.size:Nat),.int .i64 0] 54);have S4:=aa (b1.alloc (.cells #[.int .i64 ((X.size:Int) - 1),.int .i64 0] 54));have K7:=aa ((Bk.fresh w3 54 #[.int .i64 (X.size:Nat),.int .i64 0]).alloc (.cells #[.int .i64 ((X.size:Int) - 1),.int .i64 0] 54));have K8:=aa (Bk.fresh (w3.alloc (.cells #[.int .i64 (X.size:Nat),.int .i64 0] 54)) 54 #[.int .i64 ((X.size:Int) - 1),.int .i64 0]);have HSJ:=aa (fun W=>WS v (X.size:Nat) 0 X W (by have:=HX.o;omega));have HSL:=aa (fun W=>WS v ((X.size:Int) - 1) 0 (X.extract 0 5) W (by rw[aj];have:=HX.o;omega));have HFJ:=aa (fun x hx=>WN v (X.size:Nat) 0 p h x hx OK.o HZ.o);have HFL:=aa (fun x hx=>WN v ((X.size:Int) - 1) 0 p h x hx OK.o HZ.o);rw[J]at HSJ;rw[Lz]at HSL;rw[YJ]at HFJ;rw[YN]at HFL;unfold zW at*;clear b1 J Lz YJ YN FJ FL FY FN S3
 go_upto_region 9 with fail
 obtain⟨x4,hx4⟩:∃x,(w3.alloc (.cells #[.int .i64 (X.size:Nat),.int .i64 0] 54)).alloc (.cells #[.int .i64 ((X.size:Int) - 1),.int .i64 0] 54)=x:=⟨_,rfl⟩;obtain⟨g7,hg7⟩:∃g,w3.heap.size=g:=⟨_,rfl⟩;obtain⟨g8,hg8⟩:∃g,(w3.alloc (.cells #[.int .i64 (X.size:Nat),.int .i64 0] 54)).heap.size=g:=⟨_,rfl⟩;have hg8':g8=g7+1:=by rw[<-hg8,<-hg7];simp
 rw[hx4]at S4 K7 K8;rw[hg7]at K7;rw[hg8]at K8;rw[hx4];rw[hg7];clear hx4 hg7 hg8;subst hg8';clear w3;have c0:=K7.o.cell 0;have c1:=K7.o.cell 1
 simp only[ay,aE,aB]at c0 c1;clear hsub hsub2
 go_wp2_with fail
 refine(HSJ.o _).mono ?_;rintro e x5 ⟨A5,n5,c5,L5,rfl,hr5,hm5,hb,-,-⟩;obtain⟨hh,hL5⟩:=tg hm5;subst hL5;obtain rfl:n5=1:=hr5.len.symm;have S5:=aa (S4.o.below hb);have K75:=aa (K7.o.below hb K7.o.lt);have K85:=aa (K8.o.below hb K8.o.lt)
 have HR5:=aa hr5;clear hb hr5 hm5 c0 c1 S4 K7 K8 HSJ;dsimp only;have c0:=K85.o.cell 0;have c1:=K85.o.cell 1
 simp only[ay,aE,aB]at c0 c1;have v1:(0:Int)<=5:=by decide
 have v2:(5:Int)<=(X.size:Int):=by omega
 go_upto_region 10 with fail
 go_cut [12,13,14] (fun lz az ez wx=>XX x5 lz az ez wx)
 case first=>
  go_region_law ((go_simp;go_at_call 44;refine(HSL.o _).mono ?_;rintro e w6 ⟨A6,n6,c6,L6,rfl,-,-,hb6,-,-⟩))
  all_goals
   go_wp2
   go_meet
   case rel=>exact⟨rfl,rfl,(aV (aq x5.heap.size x5) 1).trans hb6⟩
 obtain⟨rfl,rfl,hb6⟩:=hcut;obtain⟨x6,hx6⟩:∃x,x=wc:=⟨_,rfl⟩;subst hx6;have S6:=aa (S5.o.below hb6);have K76:=aa (K75.o.below hb6 K75.o.lt);have K86:=aa (K85.o.below hb6 K85.o.lt)
 have HR6:=aa (HR5.o.below hb6);clear hb6 c0 c1 S5 K75 K85 HR5 HSL v1 v2;obtain⟨b5,o5,p5,h5,rfl,e5,hb5,l5,i5⟩:=HR6.o.at (i:=0) (by decide);obtain⟨rfl,rfl⟩:p=p5/\hh=h5:=by simpa using e5
 have q0:=jw (W:=x6) (fun x hx=>HFJ.o x ((S6.o.below hx).into 0 rfl));have q1:=jw (W:=x6) (fun x hx=>HFL.o x ((S6.o.below hx).into 0 rfl));have q2:=jw (W:=x6) (fun x hx=>ws p p hh h x (i5.next hx) ((S6.o.below hx).into 0 rfl) OK.o.len OK.o.len);rw[au rfl]at q2;have t0:=qp (S6.o.bk 0 rfl);have t1:=fun d os=>l5 _ (below_regrown x6 d os);rw[jU,jV]at t1;have k0:=cell_regrown (show x6.cell? ⟨g7,0,none⟩=some (.int .i64 (X.size:Nat))from K76.o.cell 0);have k1:=cell_regrown (show x6.cell? ⟨g7,1,none⟩=some (.int .i64 0)from K76.o.cell 1);have k2:=cell_regrown (show x6.cell? ⟨g7+1,0,none⟩=some (.int .i64 ((X.size:Int) - 1))from K86.o.cell 0);have k3:=cell_regrown (show x6.cell? ⟨g7+1,1,none⟩=some (.int .i64 0)from K86.o.cell 1);have HBQ:=aa (fun d os=>below_regrown x6 d os);have HK:=aa S6.o.kept;clear S6 K76 K86 HR6 e5 hb5 l5 i5 HFJ HFL d1 d2
 go_upto_region 11 with fail
 refine wp_region_quiet_below (by as_aux_lemma=>kernel_rfl) (by as_aux_lemma=>kernel_rfl) ?_
 repeat (go_big_quiet_step (first| with_reducible exact q0 _ _| with_reducible exact q1 _ _| with_reducible exact q2 _ _))
 refine kE ?_;intro _ hw';obtain⟨⟨dq,osq⟩,hw''⟩:=hw';subst hw'';have KF:=aa (HBQ.o dq osq);clear q0 q1 q2 t0 t1 k0 k1 k2 k3 HBQ;generalize Sort.grow (redrawn _ dq) osq=wq at*;go_wp2;go_ret;exact⟨rfl,HK.o.trans (KF.o.mono HK.o.size)⟩
end
end Go.Proofs.YtbdgkkmbnahgiaaGreatDoor
namespace Go.Proofs.YtbdgkkmbnahgiaaGreatDoor
open Go.ChangeShapes Go.WideShapes Go.ChangeAt Go.RowKit
open Go.Proofs.Tryz
def vh(c:Array Value):Obj->Obj
 | .cells _ t frozen=>.cells c t frozen
 | o=>o
def firstCells:Array Value:=(Go.Pinned.utf8FirstZ.map fun(n:Nat)=>Value.int .u8 n).toArray
def wI:Array Value:=#[.int .u8 128,.int .u8 191,.int .u8 160,.int .u8 191,.int .u8 128,.int .u8 159,.int .u8 144,.int .u8 191,.int .u8 128,.int .u8 143,
 .int .u8 0,.int .u8 0,.int .u8 0,.int .u8 0,.int .u8 0,.int .u8 0,.int .u8 0,.int .u8 0,.int .u8 0,.int .u8 0,.int .u8 0,.int .u8 0,.int .u8 0,.int .u8 0,.int .u8 0,.int .u8 0,.int .u8 0,.int .u8 0,.int .u8 0,.int .u8 0,.int .u8 0,.int .u8 0]
noncomputable def l7(os:Os):World:=
 {World.holding prog os ⟨#[],#[],[]⟩with heap:=((World.holding prog os ⟨#[],#[],[]⟩).heap.modify 1 (vh firstCells)).modify 2 (vh wI)}
theorem qu(os:Os)(args:Array Value):laidMetH prog [("unicode/utf8.acceptRanges",Rows.laid_unicode_utf8_acceptRanges),("unicode/utf8.first",Rows.laid_unicode_utf8_first)] ((l7 os).forCall (fun _ _=>0) ⟨#[],args,[]⟩).memory:=
 laidMetH_of_parts (laidMet_of_run' 8 (by kernel_rfl) (by kernel_rfl)) (by kernel_rfl)
end Go.Proofs.YtbdgkkmbnahgiaaGreatDoor
