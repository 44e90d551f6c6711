/- A part of what the laws stand on: MsB, MsD, MsP, MsE, MsC, OpenK, PkS, MqL. -/
import Derived.Test.YtbdgkkmbnahgiaaGreatDoorMfG0PkR
import Derived.OwnWalk
set_option maxRecDepth 10000
set_option maxHeartbeats 8000000
namespace Go.Proofs.YtbdgkkmbnahgiaaGreatDoor
open Go.RowKit Go.Proofs.Tryz
section
attribute [local go_sem ↓] bD bF bH bI bu
attribute [local go_sem] bc aD bh bg bK bJ bd aY be aO ax cI dC dB dt dj di dA dr dp dn bW co bO bZ bX cz cy cw cu ct cC cn bS bP bR
abbrev SmT:TypeId:=127
def smC(v most:Int)(K:Option Addr)(n c a k:Nat)(e:Int):Array Value:=#[.int .i64 v,.int .i64 most,.slice K n c,.int .i64 a,.int .i64 k,.int .i64 e]
def hdC(k f n:Int):Array Value:=#[.int .i64 k,.int .i64 f,.int .i64 n]
def Gs(b:Bool)(v:Value):Sem Value:=Instr.alloc 112 b v
def AY(a v:Value):Sem Unit:=Instr.storeAt 112 a v
theorem DJ(b:Bool)(v:Value):Instr.alloc 112 b v=Gs b v:=rfl
theorem DH(a v:Value):Instr.storeAt 112 a v=AY a v:=rfl
theorem Br(w:World):(Gs true (.tuple #[])).run prog w= .ok (.pointer (some ⟨w.heap.size,0,none⟩)) (w.alloc (.cells (hdC 0 0 0) 112)):=by kernel_rfl
theorem Ez:(prog.info? 112).map (·.size)=some 3:=by kernel_rfl
theorem AR{w:World}{g:Nat}{k f n:Int}(hb:Bk w g 112 (hdC k f n)):w.there g 0 3:=fun j hj=>by
 rw[bV,hb.cell,hb.free];refine⟨?_,rfl⟩;rw[eL (by exact hj)];rfl
def rR(w:World)(g:Nat)(k f n:Int):World:=w.setCells g 0 (hdC k f n).toList
theorem uj{w:World}{g:Nat}{k0 f0 n0:Int}(hb:Bk w g 112 (hdC k0 f0 n0))(k f n:Int):(AY (.pointer (some ⟨g,0,none⟩)) (.agg #[.int .i64 k,.int .i64 f,.int .i64 n])).run prog w= .ok () (rR w g k f n):=by
 unfold AY;exact run_storeAt_mid w g 0 112 (hdC k f n) (AR hb) Ez (by simp[hdC,Value.oneCell'])
theorem BF{w:World}{g:Nat}{k0 f0 n0:Int}(hb:Bk w g 112 (hdC k0 f0 n0))(k f n:Int):Bk (rR w g k f n) g 112 (hdC k f n):=((hb.put 0 (.int .i64 k)).put 1 (.int .i64 f)).put 2 (.int .i64 n)
theorem uL(w:World)(k0 f0 n0 k f n:Int):rR (w.alloc (.cells (hdC k0 f0 n0) 112)) w.heap.size k f n=w.alloc (.cells (hdC k f n) 112):=by
 unfold rR;rw[io,qa (cs:=hdC k0 f0 n0) (ds:=hdC k f n) rfl]
theorem pR(w:World)(k f n:Int):(AY (.pointer (some ⟨w.heap.size,0,none⟩)) (.agg #[.int .i64 k,.int .i64 f,.int .i64 n])).run prog (w.alloc (.cells (hdC 0 0 0) 112))= .ok () (w.alloc (.cells (hdC k f n) 112)):=by
 rw[uj (Bk.fresh w 112 (hdC 0 0 0)),uL]
attribute [local go_sem ↓] DJ DH
attribute [local go_sem] Br pR
def Gb(w:World)(h:Hdr)(a:Nat)(x:Int)(pz az ez:Value)(wx:World):Prop:=∃g,pz= .pointer (some ⟨g,0,none⟩)/\az= .int .i64 a/\ez= .int .i64 x/\Bk wx g 112 (hdC h.k h.f h.n)/\Below w.heap.size w wx
theorem vW{w w3:World}(h:Hdr)(a:Nat)(x:Int)(hb:Below (w.alloc (.cells (hdC 0 0 0) 112)).drew.heap.size (w.alloc (.cells (hdC 0 0 0) 112)).drew w3):
  (AY (.pointer (some ⟨w.heap.size,0,none⟩)) (.agg #[.int .i64 h.k,.int .i64 h.f,.int .i64 h.n])).run prog w3= .ok () (rR w3 w.heap.size h.k h.f h.n)/\Gb w h a x (.pointer (some ⟨w.heap.size,0,none⟩)) (.int .i64 a) (.int .i64 x) (rR w3 w.heap.size h.k h.f h.n):=by
 have hb0:Below w.heap.size w (w.alloc (.cells (hdC 0 0 0) 112)).drew:=aV ((aq w.heap.size w).alloc (ac _) _) 1;have h1:=hb0.trans (hb.mono hb0.size);have h0:Bk (w.alloc (.cells (hdC 0 0 0) 112)).drew w.heap.size 112 (hdC 0 0 0):=(Bk.fresh w _ _).drewN 1;have hk:=h0.below hb h0.lt;exact⟨uj hk _ _ _,w.heap.size,rfl,rfl,rfl,BF hk _ _ _,((h1.setCell (ac _) _).setCell (ac _) _).setCell (ac _) _⟩
theorem yS{w w3:World}(h:Hdr)(a:Nat)(x:Int)(hb:Below w.drew.heap.size w.drew w3):
  Gb w h a x (.pointer (some ⟨w3.heap.size,0,none⟩)) (.int .i64 a) (.int .i64 x) (w3.alloc (.cells (hdC h.k h.f h.n) 112)):=
 ⟨w3.heap.size,rfl,rfl,rfl,Bk.fresh _ _ _,((aV (aq w.heap.size w) 1).trans hb).alloc hb.size _⟩
theorem pM(v most:Int)(g:Nat)(K:Option Addr)(n c a k:Nat)(e:Int)(t:ByteArray)(w0 w:World)(hb:Bk w g SmT (smC v most K n c a k e))(hk:Kp w0 w K n c (ls t))(ht:t.size<=1000000000000):
  Calls prog 98 #[.pointer (some ⟨g,0,none⟩)] w fun e' w'=>e'= .returned (.tuple #[.int .i64 ((smZ v t).1:Nat),.int .i64 (smZ v t).2])/\Below w.heap.size w w':=by
 have HT:=aa ht;have HB:=aa hb;have HKP:=aa hk
 have HL:Hid (t.size=n):=aa (by rw[<-aN];exact hk.len);have HE:Hid (smZ v t=if(hdR v (t.extract 0 (min t.size 5))).2.2≠0 then(0,(hdR v (t.extract 0 (min t.size 5))).2.2)
  else((hdR v (t.extract 0 (min t.size 5))).2.1+(hdR v (t.extract 0 (min t.size 5))).1.n,0)):=aa rfl
 obtain⟨m,hm⟩:∃m,min t.size 5=m:=⟨_,rfl⟩;rw[hm]at HE;have HMN:Hid (m<=n/\m<=5/\(m=n\/m=5)):=aa (by have:=HL.o;omega);have HX:Hid (∀W,Below w.heap.size w W->(convert 80 9 (.slice K m c)).run prog W= .ok (.string (t.extract 0 m)) W):=aa (fun W hW=>by
  have h1:=((HKP.o.below hW).rd).cut_to HMN.o.1;rw[rB,lM]at h1;have h2:=ni (P:=prog) 80 9 U8 underlying80 underlying5 underlying9 c h1;rw[h2]
  congr 2
  apply eX;rw[jo];have:=db t 0 m;rw[bV,cS]at this;exact this.symm)
 have HHD:=aa (fun W=>qy v (t.extract 0 m) W (by rw[aj];have:=HMN.o;omega));clear hb hk ht hm;have HLE:Hid ((hdR v (t.extract 0 m)).2.2=0->(hdR v (t.extract 0 m)).1.n<=268435455/\(hdR v (t.extract 0 m)).2.1<=5):=aa (fun h0=>by
  obtain⟨b1,b2,b3,b4,b5⟩:=kw (v:=v) (s:=t.extract 0 m) (h:=(hdR v (t.extract 0 m)).1) (a:=(hdR v (t.extract 0 m)).2.1) (by rw[<-h0]);rw[aj]at b5;have:=HMN.o;exact⟨b2,by omega⟩)
 obtain⟨⟨⟨hk,hf,hn⟩,ha,hx⟩,hr⟩:∃r,hdR v (t.extract 0 m)=r:=⟨_,rfl⟩;rw[hr]at HE HHD HLE;dsimp only at HLE;simp only[Cx]at HE HHD;clear hr;have HBD:Hid (Below w.heap.size w w.drew):=aa (aV (aq w.heap.size w) 1);have HBA:Hid (Below w.heap.size w (w.alloc (.cells (hdC 0 0 0) 112)).drew):=aa (aV ((aq w.heap.size w).alloc (ac _) _) 1);have HSB:Hid (∀W,Below w.heap.size w W->W.cell? ⟨g,0,none⟩=some (.int .i64 v)/\W.cell? ⟨g,2,none⟩=some (.slice K n c)/\(convert 80 9 (.slice K m c)).run prog W= .ok (.string (t.extract 0 m)) W):=aa (fun W hW=>⟨(HB.o.below hW HB.o.lt).cell 0,(HB.o.below hW HB.o.lt).cell 2,HX.o W hW⟩);have hsl:=fun W=>Bi (P:=prog) (t:=80) (e:=U8) (s:=1) underlying80 (fun W=>by kernel_rfl) K n c m (aC HMN.o.1 HKP.o.cap) W;have hmin:min (n:Int) 5=(m:Int):=by have:=HMN.o;omega
 go_enter func98,ntmps98
 go_wp2_with fail
 go_cut [4,5,6] (fun pz az ez wx=>Gb w ⟨hk,hf,hn⟩ ha hx pz az ez wx)
 case first=>
  refine je (fun w'=>w'.cell? ⟨g,0,none⟩=some (.int .i64 v)/\w'.cell? ⟨g,2,none⟩=some (.slice K n c)/\(convert 80 9 (.slice K m c)).run prog w'= .ok (.string (t.extract 0 m)) w') [] (by kernel_rfl) ?_;have HS:=HSB.o w.drew HBD.o;refine Uo (i:=0) (v:=?va0) [] rfl (Or.inl ⟨by rfl,?ha0⟩) HS ?ra0
  case ha0=>intro w' hSw;(try dsimp only at hSw);obtain⟨s0,s2,s3⟩:=hSw;go_simp;try with_reducible rfl
  refine Uo (i:=1) (v:=?va1) [] rfl (Or.inl ⟨by rfl,?ha1⟩) HS ?ra1
  case ha1=>intro w' hSw;(try dsimp only at hSw);obtain⟨s0,s2,s3⟩:=hSw;go_simp;try with_reducible rfl
  refine Uo (i:=2) (v:=?va2) [] rfl (Or.inl ⟨by rfl,?ha2⟩) HS ?ra2
  case ha2=>intro w' hSw;(try dsimp only at hSw);obtain⟨s0,s2,s3⟩:=hSw;go_simp;try with_reducible rfl
  refine Uo (i:=3) (v:=?va3) [] rfl (Or.inl ⟨by rfl,?ha3⟩) HS ?ra3
  case ha3=>intro w' hSw;(try dsimp only at hSw);obtain⟨s0,s2,s3⟩:=hSw;go_simp;try with_reducible rfl
  refine Uo (i:=4) (v:=?va4) [] rfl (Or.inl ⟨by rfl,?ha4⟩) HS ?ra4
  case ha4=>intro w' hSw;(try dsimp only at hSw);obtain⟨s0,s2,s3⟩:=hSw;go_simp;try with_reducible rfl
  refine Uo (i:=5) (v:=?va5) [] rfl (Or.inl ⟨by rfl,?ha5⟩) HS ?ra5
  case ha5=>intro w' hSw;(try dsimp only at hSw);obtain⟨s0,s2,s3⟩:=hSw;go_simp;try with_reducible rfl
  refine Uo (i:=6) (v:=?va6) [] rfl (Or.inl ⟨by rfl,?ha6⟩) HS ?ra6
  case ha6=>intro w' hSw;(try dsimp only at hSw);obtain⟨s0,s2,s3⟩:=hSw;go_simp;try with_reducible rfl
  refine Uo (i:=7) (v:=?va7) [] rfl (Or.inl ⟨by rfl,?ha7⟩) HS ?ra7
  case ha7=>intro w' hSw;(try dsimp only at hSw);obtain⟨s0,s2,s3⟩:=hSw;go_simp;try with_reducible rfl
  refine Uo (i:=8) (v:=?va8) [] rfl (Or.inl ⟨by rfl,?ha8⟩) HS ?ra8
  case ha8=>intro w' hSw;(try dsimp only at hSw);obtain⟨s0,s2,s3⟩:=hSw;go_simp;try with_reducible rfl
  refine Uo (i:=9) (v:=?va9) [] rfl (Or.inl ⟨by rfl,?ha9⟩) HS ?ra9
  case ha9=>intro w' hSw;(try dsimp only at hSw);obtain⟨s0,s2,s3⟩:=hSw;go_simp;try with_reducible rfl
  refine Uo (i:=10) (v:=?va10) [] rfl (Or.inl ⟨by rfl,?ha10⟩) HS ?ra10
  case ha10=>intro w' hSw;(try dsimp only at hSw);obtain⟨s0,s2,s3⟩:=hSw;go_simp;try with_reducible rfl
  refine Uo (i:=11) (v:=?va11) [] rfl (Or.inl ⟨by rfl,?ha11⟩) HS ?ra11
  case ha11=>intro w' hSw;(try dsimp only at hSw);obtain⟨s0,s2,s3⟩:=hSw;go_simp;try with_reducible rfl
  refine Uo (i:=12) (v:=?va12) [] rfl (Or.inl ⟨by rfl,?ha12⟩) HS ?ra12
  case ha12=>intro w' hSw;(try dsimp only at hSw);obtain⟨s0,s2,s3⟩:=hSw;go_simp;try with_reducible rfl
  refine Uo (i:=13) (v:=?va13) [] rfl (Or.inl ⟨by rfl,?ha13⟩) HS ?ra13
  case ha13=>intro w' hSw;(try dsimp only at hSw);obtain⟨s0,s2,s3⟩:=hSw;go_simp;try with_reducible rfl
  refine Uo (i:=14) (v:=?va14) [] rfl (Or.inl ⟨by rfl,?ha14⟩) HS ?ra14
  case ha14=>intro w' hSw;(try dsimp only at hSw);obtain⟨s0,s2,s3⟩:=hSw;go_simp;try with_reducible rfl
  refine Uo (i:=15) (v:=?va15) [] rfl (Or.inl ⟨by rfl,?ha15⟩) HS ?ra15
  case ha15=>intro w' hSw;(try dsimp only at hSw);obtain⟨s0,s2,s3⟩:=hSw;go_simp;try with_reducible rfl
  refine cq (rs:=[16,21]) (by kernel_rfl) (by simp) (ep.cons rfl (fun K hK=>?mx) (ep.cons rfl (fun K hK=>?my) ep.nil))
  case mx=>
   go_simp
   go_at_call 88
   refine(HHD.o _).mono ?_;rintro e' w3 ⟨rfl,hb3⟩;have B3:=aa (HBD.o.trans (hb3.mono HBD.o.size));have R3:=aa (yS ⟨hk,hf,hn⟩ ha hx hb3);clear hb3 HS;have HS:=HSB.o w3 B3.o;go_simp;refine hK.out _ _ (fun _=>HS) ?_;clear hK K;refine Uo (i:=17) (v:=?vb17) [] rfl (Or.inl ⟨by rfl,?hb17⟩) HS ?rb17
   case hb17=>intro w' hSw;(try dsimp only at hSw);obtain⟨s0,s2,s3⟩:=hSw;go_simp;try with_reducible rfl
   refine Uo (i:=18) (v:=?vb18) [] rfl (Or.inl ⟨by rfl,?hb18⟩) HS ?rb18
   case hb18=>intro w' hSw;(try dsimp only at hSw);obtain⟨s0,s2,s3⟩:=hSw;go_simp;try with_reducible rfl
   refine Uo (i:=19) (v:=?vb19) [] rfl (Or.inl ⟨by rfl,?hb19⟩) HS ?rb19
   case hb19=>intro w' hSw;(try dsimp only at hSw);obtain⟨s0,s2,s3⟩:=hSw;go_simp;try with_reducible rfl
   refine Uo (i:=20) (v:=?vb20) [] rfl (Or.inl ⟨by rfl,?hb20⟩) HS ?rb20
   case hb20=>intro w' hSw;(try dsimp only at hSw);obtain⟨s0,s2,s3⟩:=hSw;go_simp;try with_reducible rfl
   refine Up 21 rfl (fun K hK=>?_);go_simp;clear HS;have HS:=HSB.o _ (B3.o.alloc B3.o.size (.cells (hdC 0 0 0) 112));refine hK.out _ _ (fun _=>HS) ?_;clear hK K;refine Up 22 rfl (fun K hK=>?_);go_simp;clear HS;have HS:=HSB.o _ (B3.o.alloc B3.o.size (.cells (hdC hk hf hn) 112));refine hK.out _ _ (fun _=>HS) ?_;clear hK K;refine Up 23 rfl (fun K hK=>?_);go_simp;refine hK.out _ _ (fun _=>HS) ?_;clear hK K;refine Up 24 rfl (fun K hK=>?_);go_simp;refine hK.out _ _ (fun _=>HS) ?_;clear hK K;refine oh (by kernel_rfl) ?_ _;go_wp2
   go_meet
   case rel=>exact R3.o
  case my=>
   go_simp;clear HS;have HS:=HSB.o _ HBA.o;refine hK.out _ _ (fun _=>HS) ?_;clear hK K;refine Up 16 rfl (fun K hK=>?_);go_simp
   go_at_call 88
   refine(HHD.o _).mono ?_;rintro e' w3 ⟨rfl,hb3⟩;have B3:=aa (HBA.o.trans (hb3.mono HBA.o.size));have R3:=aa (vW ⟨hk,hf,hn⟩ ha hx hb3);clear hb3 HS;have HS:=HSB.o w3 B3.o;go_simp;refine hK.out _ _ (fun _=>HS) ?_;clear hK K;refine Uo (i:=17) (v:=?vd17) [] rfl (Or.inl ⟨by rfl,?hd17⟩) HS ?rd17
   case hd17=>intro w' hSw;(try dsimp only at hSw);obtain⟨s0,s2,s3⟩:=hSw;go_simp;try with_reducible rfl
   refine Uo (i:=18) (v:=?vd18) [] rfl (Or.inl ⟨by rfl,?hd18⟩) HS ?rd18
   case hd18=>intro w' hSw;(try dsimp only at hSw);obtain⟨s0,s2,s3⟩:=hSw;go_simp;try with_reducible rfl
   refine Uo (i:=19) (v:=?vd19) [] rfl (Or.inl ⟨by rfl,?hd19⟩) HS ?rd19
   case hd19=>intro w' hSw;(try dsimp only at hSw);obtain⟨s0,s2,s3⟩:=hSw;go_simp;try with_reducible rfl
   refine Uo (i:=20) (v:=?vd20) [] rfl (Or.inl ⟨by rfl,?hd20⟩) HS ?rd20
   case hd20=>intro w' hSw;(try dsimp only at hSw);obtain⟨s0,s2,s3⟩:=hSw;go_simp;try with_reducible rfl
   refine Up 22 rfl (fun K hK=>?_);have hst:=R3.o.1;go_simp;clear HS hst;have HS:=HSB.o _ (((B3.o.setCell (p:=⟨w.heap.size,0,none⟩) (ac _) (.int .i64 hk)).setCell (p:=⟨w.heap.size,1,none⟩) (ac _) (.int .i64 hf)).setCell (p:=⟨w.heap.size,2,none⟩) (ac _) (.int .i64 hn));refine hK.out _ _ (fun _=>HS) ?_;clear hK K;refine Up 23 rfl (fun K hK=>?_);go_simp;refine hK.out _ _ (fun _=>HS) ?_;clear hK K;refine Up 24 rfl (fun K hK=>?_);go_simp;refine hK.out _ _ (fun _=>HS) ?_;clear hK K;refine oh (by kernel_rfl) ?_ _;go_wp2
   go_meet
   case rel=>exact R3.o.2
 obtain⟨gh,rfl,rfl,rfl,hkx,hbx⟩:=hcut;have KX:=aa hkx;have BX:=aa hbx
 have x2:wc.cell? ⟨gh,2,none⟩=some (.int .i64 hn):=hkx.cell 2;clear hkx hbx hsl hmin HHD HX HSB HBD HBA
 by_cases h0:hx=0
 rotate_left
 ·have HZ:Hid (smZ v t=(0,hx)):=aa (by rw[HE.o,if_pos h0]);have e0:(hx !=0)=true:=aA.2 h0;clear h0;go_wp2;go_ret2;exact⟨by rw[HZ.o];rfl,BX.o⟩
 ·have HZ:Hid (smZ v t=(ha+hn,0)):=aa (by rw[HE.o,ae (fun x=>x h0)]);subst h0;have d1:(ha:Int)+(hn:Int)<=9223372036854775807:=by have:=HLE.o (by first| rfl| trivial);omega
  have d2: -9223372036854775808<=(ha:Int)+(hn:Int):=by omega
  go_wp2;go_ret2;refine⟨?_,BX.o⟩;rw[HZ.o];simp
end
section
attribute [local go_sem ↓] bD bF bH bI bu
attribute [local go_sem] bc aD bh bg bK bJ bd aY be aO ax cI dC dB dt dj di dA dr dp dn bW co bO bZ bX cz cy cw cu ct cC cn bS bP bR
theorem wn(v most:Int)(g:Nat)(K:Option Addr)(n c a k z:Nat)(e:Int)(w:World)(hb:Bk w g SmT (smC v most K n c a k e))(hz:z<=n)(hc:n<=c)(ha:a<=1000000000000)(hk:k<=1000000000000)(hn:n<=1000000000000):
  Calls prog 96 #[.pointer (some ⟨g,0,none⟩),.int .i64 z] w fun e' w'=>e'= .returned (.tuple #[])/\Bk w' g SmT (smC v most (xt K n z 1) (n- z) (n- z) (a+z) (k+1) e)/\w.grownBy w' (some g):=by
 have HB:=aa hb;have hsl:=fun W=>Bl (P:=prog) (t:=80) (e:=U8) (s:=1) underlying80 (fun W=>by kernel_rfl) K n c z hz hc W;have h1:wrap64 ((a:Int)+(z:Int))=((a+z:Nat):Int):=by unfold wrap64;omega
 have h2:wrap64 ((k:Int)+1)=((k+1:Nat):Int):=by unfold wrap64;omega
 have d1:(a:Int)+(z:Int)<=9223372036854775807:=by omega
 have d2:(k:Int)+1<=9223372036854775807:=by omega
 have c2:w.cell? ⟨g,2,none⟩=some (.slice K n c):=HB.o.cell 2;have c3:w.cell? ⟨g,3,none⟩=some (.int .i64 a):=HB.o.cell 3;have c4:w.cell? ⟨g,4,none⟩=some (.int .i64 k):=HB.o.cell 4;have f2:=HB.o.free 2;have f3:=HB.o.free 3;have f4:=HB.o.free 4
 clear hb hz hc ha hk hn;obtain⟨K',hK'⟩:∃K',xt K n z 1=K':=⟨_,rfl⟩;obtain⟨n',hn'⟩:∃n',n- z=n':=⟨_,rfl⟩;rw[hK',hn']at hsl;rw[hK',hn'];clear hK' hn';go_enter func96,ntmps96;go_wp2
 go_end0
 exact⟨rfl,((HB.o.put 2 (.slice K' n' n')).put 3 (.int .i64 ((a+z:Nat):Int))).put 4 (.int .i64 ((k+1:Nat):Int)),((cP w g 2 _).trans (cP _ g 3 _)).trans (cP _ g 4 _)⟩
theorem gQ(v most:Int)(g:Nat)(K:Option Addr)(n c a k:Nat)(e:Int)(w:World)(hb:Bk w g SmT (smC v most K n c a k e)):
  Calls prog 39 #[.pointer (some ⟨g,0,none⟩)] w fun e' w'=>e'= .returned (.int .i64 n)/\w=w':=by
 have c2:w.cell? ⟨g,2,none⟩=some (.slice K n c):=hb.cell 2;clear hb;go_enter func39,ntmps39;go_wp2;go_ret;exact⟨rfl,rfl⟩
theorem iQ(v most:Int)(g:Nat)(K:Option Addr)(n c a k:Nat)(e:Int)(w:World)(hb:Bk w g SmT (smC v most K n c a k e)):
  Calls prog 40 #[.pointer (some ⟨g,0,none⟩)] w fun e' w'=>e'= .returned (.int .i64 k)/\w=w':=by
 have c4:w.cell? ⟨g,4,none⟩=some (.int .i64 k):=hb.cell 4;clear hb;go_enter func40,ntmps40;go_wp2;go_ret;exact⟨rfl,rfl⟩
theorem mV(v most:Int)(g:Nat)(K:Option Addr)(n c a k:Nat)(e:Int)(w:World)(hb:Bk w g SmT (smC v most K n c a k e)):
  Calls prog 38 #[.pointer (some ⟨g,0,none⟩)] w fun e' w'=>e'= .returned (.int .i64 a)/\w=w':=by
 have c3:w.cell? ⟨g,3,none⟩=some (.int .i64 a):=hb.cell 3;clear hb;go_enter func38,ntmps38;go_wp2;go_ret;exact⟨rfl,rfl⟩
theorem lS(v most:Int)(g:Nat)(K:Option Addr)(n c a k:Nat)(e:Int)(w:World)(hb:Bk w g SmT (smC v most K n c a k e)):
  Calls prog 37 #[.pointer (some ⟨g,0,none⟩)] w fun e' w'=>e'= .returned (.int .i64 e)/\w=w':=by
 have c5:w.cell? ⟨g,5,none⟩=some (.int .i64 e):=hb.cell 5;clear hb;go_enter func37,ntmps37;go_wp2;go_ret;exact⟨rfl,rfl⟩
def fC(v:Int)(t:ByteArray)(e:Int):Int:=if e≠0 then 0 else if(smZ v t).2≠0 then 1 else((smZ v t).1:Int) - (t.size:Int)
theorem iR(v most:Int)(g:Nat)(K:Option Addr)(n c a k:Nat)(e:Int)(t:ByteArray)(w0 w:World)(hb:Bk w g SmT (smC v most K n c a k e))(hk:Kp w0 w K n c (ls t))(ht:t.size<=1000000000000):
  Calls prog 41 #[.pointer (some ⟨g,0,none⟩)] w fun e' w'=>e'= .returned (.int .i64 (fC v t e))/\Below w.heap.size w w':=by
 have HE:Hid (fC v t e=if e≠0 then 0 else if(smZ v t).2≠0 then 1 else((smZ v t).1:Int) - (t.size:Int)):=aa rfl;have HB:=aa hb;have HL:Hid (t.size=n):=aa (by rw[<-aN];exact hk.len);have HZC:=aa (pM v most g K n c a k e t w0 w hb hk ht);have HB0:=aa (aq w.heap.size w);have c5:w.cell? ⟨g,5,none⟩=some (.int .i64 e):=hb.cell 5;have HN:Hid (n<=1000000000000):=aa (by have:=HL.o;omega);have HZB:Hid ((smZ v t).1<=1000000000):=aa (by
  unfold smZ;split
  ·exact ag _
  rename_i h;have h0:=il.1 h;obtain⟨b1,b2,b3,b4,b5⟩:=kw (v:=v) (s:=t.extract 0 (min t.size 5)) (h:=(hdR v (t.extract 0 (min t.size 5))).1) (a:=(hdR v (t.extract 0 (min t.size 5))).2.1) (by rw[<-h0]);rw[aj]at b5;dsimp only;omega)
 clear hb hk ht;go_enter func41,ntmps41
 by_cases he:e=0
 rotate_left
 ·have HX:Hid (fC v t e=0):=aa (by rw[HE.o,if_pos he]);have e0:(e !=0)=true:=aA.2 he;clear he;go_wp2;go_ret;exact⟨by rw[HX.o];rfl,HB0.o⟩
 have HE1:Hid (fC v t e=if(smZ v t).2≠0 then 1 else((smZ v t).1:Int) - (t.size:Int)):=aa (by rw[HE.o,ae (fun x=>x he)]);subst he;obtain⟨⟨z,x⟩,hz⟩:∃r,smZ v t=r:=⟨_,rfl⟩;rw[hz]at HE1 HZC HZB;dsimp only at HE1 HZC HZB;clear hz HE
 go_wp2_with fail
 refine HZC.o.mono ?_;rintro e' w1 ⟨rfl,hb⟩;have HB1:=aa hb;have c2:w1.cell? ⟨g,2,none⟩=some (.slice K n c):=(HB.o.below hb HB.o.lt).cell 2;clear hb c5 HZC
 by_cases hx:x=0
 rotate_left
 ·have HX:Hid (fC v t 0=1):=aa (by rw[HE1.o,if_pos hx]);have e0:(x !=0)=true:=aA.2 hx;clear hx;go_wp2;go_ret;exact⟨by rw[HX.o];rfl,HB1.o⟩
 ·have HX:Hid (fC v t 0=(z:Int) - (n:Int)):=aa (by rw[HE1.o,ae (fun y=>y hx),HL.o]);subst hx;have d1:(z:Int) - (n:Int)<=9223372036854775807:=by have:=HZB.o;omega
  have d2: -9223372036854775808<=(z:Int) - (n:Int):=by have:=HN.o;omega
  go_wp2;go_ret;exact⟨by rw[HX.o];rfl,HB1.o⟩
theorem yb:∀(l m:List UInt8) (n k:Nat),(rv l n k).2.2≠3->rv (l++m) n k=rv l n k
 | [],m,n,k,h=>absurd rfl h
 | b :: l,m,n,k,h=>by
   rw[IJ,rv,rv];rw[rv]at h;split
   ·rename_i hb;rw[if_pos hb]at h;split
    ·rfl
    ·rename_i hk;rw[ae hk]at h;exact yb l m _ _ h
   ·rfl
theorem ui:∀(l:List UInt8) (n k:Nat),k<=3->(rv l n k).2.2=3->l.length+k<=3
 | [],n,k,hk,_=>by simpa using hk
 | b :: l,n,k,hk,h=>by
   rw[rv]at h;split at h
   ·split at h
    ·simp at h
    ·have:=ui l _ (k+1) (by omega) h;rw[bM];omega
   ·split at h
    ·simp at h
    ·simp at h
theorem nd{v:Int}{s u:ByteArray}(h:(hdR v s).2.2≠3):hdR v (s++u)=hdR v s:=by
 unfold hdR at h⊢
 by_cases hk:ba v=false
 ·simp only[if_pos hk]
 by_cases hz:s.size=0
 ·rw[ae hk,if_pos hz]at h;exact absurd rfl h
 have hz':(s++u).size≠0:=by rw[cK];omega
 have hb:cU (s++u)=cU s:=by
  unfold cU;rw[fe];cases hl:ls s with
  | nil=>exact absurd (by rw[<-aN,hl];rfl) hz
  | cons x l=>rfl
 have hr:ls ((s++u).extract 1 (s++u).size)=ls (s.extract 1 s.size)++ls u:=by
  rw[jP,jP,fe,List.drop_append_of_le_length (by rw[aN];omega)]
 rw[ae hk,ae hz]at h;rw[ae hk,ae hz',ae hk,ae hz,hb,hr]
 by_cases hc:ff v (cU s/ 16:Nat) (cU s% 16:Nat)≠0
 ·rw[if_pos hc,if_pos hc]
 rw[ae hc]at h;rw[ae hc,ae hc];have hrv:(bm (ls (s.extract 1 s.size))).2.2≠3:=by
  intro e;rw[if_pos (by rw[e];decide)]at h;exact h e
 rw[show bm (ls (s.extract 1 s.size)++ls u)=bm (ls (s.extract 1 s.size))from yb _ (ls u) 0 0 hrv]
theorem Ad(v k f:Int):ff v k f≠3:=by
 unfold ff;cases ba v<;>cases dS v k<;>cases eu k f<;>simp
theorem sf{v:Int}{s:ByteArray}(h:(hdR v s).2.2=3):s.size<=4:=by
 unfold hdR at h;split at h
 ·simp at h
 split at h
 ·omega
 split at h
 ·exact absurd h (Ad _ _ _)
 split at h
 ·have:=ui _ 0 0 (by omega) h;rw[jP,bU,aN]at this;omega
 ·simp at h
theorem Cy(v:Int)(t:ByteArray):hdR v (t.extract 0 (min t.size 5))=hdR v t:=by
 by_cases h:t.size<=5
 ·congr 1
  apply eX;rw[ix,bt (by rw[aN];omega)]
 ·have e3:(hdR v (t.extract 0 5)).2.2≠3:=fun e=>by
   have:=sf e;rw[aj]at this;omega
  have hs:t.extract 0 5++t.extract 5 t.size=t:=eX (by rw[fe,ix,m9,cg]);have:=nd (u:=t.extract 5 t.size) e3;rw[hs]at this;rw[show min t.size 5=5 by omega,this]
theorem ED{v:Int}{t:ByteArray}(h:(hdR v t).2.2=0){z:Nat}(hz:(hdR v t).2.1<=z):hdR v (t.extract 0 z)=hdR v t:=by
 obtain⟨b1,b2,b3,b4,b5⟩:=kw (v:=v) (s:=t) (h:=(hdR v t).1) (a:=(hdR v t).2.1) (by rw[<-h]);have:=Ab b1 b2 (s:=t.extract 0 z) (R:=((ls t).drop (hdR v t).2.1).take (z- (hdR v t).2.1)) (by
  rw[ix]
  conv=>lhs;rw[b3]
  rw[ot,bt (by omega),<-b4])
 rw[this,<-b4,<-h]
def hdZ(v:Int)(t:ByteArray):Nat:=(hdR v t).2.1+(hdR v t).1.n
theorem AZ(v:Int)(t:ByteArray):smZ v t=if(hdR v t).2.2≠0 then(0,(hdR v t).2.2)else(hdZ v t,0):=by
 unfold smZ;rw[Cy];rfl
theorem nI(v most:Int)(t:ByteArray):smN v most t=if(hdR v t).2.2≠0 then(pk0,0,(hdR v t).2.2)else if most<(hdZ v t:Nat)then(pk0,0,4)else if t.size<hdZ v t then(pk0,0,3)else mqR v (t.extract 0 (hdZ v t)):=by
 unfold smN;rw[AZ]
 by_cases h:(hdR v t).2.2≠0
 ·rw[if_pos h,if_pos h];exact(if_pos h).symm
 ·rw[ae h,ae h];exact ae (fun x=>x rfl)
theorem Ba(v most:Int):∀(f f':Nat) (t:ByteArray) (a k:Nat) (l:List Pk),t.size<f->t.size<f'->smF v most f t a k l=smF v most f' t a k l
 | 0,_,_,_,_,_,h,_=>absurd h (by omega)
 | _+1,0,_,_,_,_,_,h=>absurd h (by omega)
 | f+1,f'+1,t,a,k,l,h,h'=>by
   rw[mU,mU];split
   ·rename_i h0;have:=jD h0;exact Ba v most f f' _ _ _ _ (by rw[aj];omega) (by rw[aj];omega)
   ·rfl
def smG(v most:Int)(t:ByteArray)(a k:Nat)(l:List Pk):List Pk×ByteArray×Nat×Nat×Int:=smF v most (t.size+1) t a k l
theorem fK(v most:Int)(t:ByteArray)(a k:Nat)(l:List Pk):smG v most t a k l=
  if(smN v most t).2.2=0 then smG v most (t.extract (smN v most t).2.1 t.size) (a+(smN v most t).2.1) (k+1) (l++[(smN v most t).1])
  else if(smN v most t).2.2=3 then(l,t,a,k,0)
  else(l,⟨#[]⟩,a,k,(smN v most t).2.2):=by
 unfold smG;rw[mU];split
 ·rename_i h0;have:=jD h0;exact Ba v most _ _ _ _ _ _ (by rw[aj];omega) (ed _)
 ·rfl
theorem sG(v most:Int):∀(N:Nat) (t:ByteArray) (a k:Nat) (l:List Pk),t.size<=N->
  ((smG v most t a k l).2.2.2.2=0->(smN v most (smG v most t a k l).2.1).2.2=3)/\((smG v most t a k l).2.2.2.2≠0->(smG v most t a k l).2.1=⟨#[]⟩)/\
  (smG v most t a k l).2.2.2.1+l.length=k+(smG v most t a k l).1.length/\(smG v most t a k l).2.2.1+(smG v most t a k l).2.1.size<=a+t.size/\(smG v most t a k l).2.2.2.1<=k+t.size/\(smG v most t a k l).2.2.2.2≠3
 | N,t,a,k,l,hN=>by
   rw[fK];split
   ·rename_i h0;have h1:=jD h0;have hx:(t.extract (smN v most t).2.1 t.size).size=t.size- (smN v most t).2.1:=by rw[aj];omega
    match N,hN with
    | 0,hN=>omega
    | N+1,hN=>
      obtain⟨i1,i2,i3,i4,i5,i6⟩:=sG v most N (t.extract (smN v most t).2.1 t.size) (a+(smN v most t).2.1) (k+1) (l++[(smN v most t).1]) (by omega);rw[List.length_append,qU]at i3;exact⟨i1,i2,by omega,by omega,by omega,i6⟩
   ·rename_i h0;split
    ·rename_i h3;exact⟨fun _=>h3,fun h=>absurd rfl h,rfl,ac _,iX _ _,by simp⟩
    ·rename_i h3;exact⟨fun h=>absurd h h0,fun _=>rfl,rfl,by show a+0<=a+t.size;omega,iX _ _,h3⟩
theorem kg(v:Int)(t:ByteArray):fC v t 0=if(hdR v t).2.2≠0 then 1 else(hdZ v t:Int) - (t.size:Int):=by
 unfold fC;rw[ae (fun x=>x rfl),AZ]
 by_cases h:(hdR v t).2.2≠0
 ·rw[if_pos h,if_pos h];exact(if_pos h).symm
 ·rw[ae h,ae h];exact ae (fun x=>x rfl)
def nF(v mp md:Int):Bool:=ba v&&decide (16<=mp/\mp<=1048576/\0<=md/\md<=32)
def zW(mp md:Int):Value:=.agg #[.int .i64 mp,.int .i64 md]
def xL(v mp md:Int)(w:World)(e:Ending)(w':World):Prop:=
 Below w.heap.size w w'/\if nF v mp md=true then ∃g,e= .returned (.tuple #[.pointer (some ⟨g,0,none⟩),.int .i64 0])/\w.heap.size<=g/\Bk w' g SmT (smC v mp none 0 0 0 0 0)else e= .returned (.tuple #[.pointer none,.int .i64 2])
theorem qi{v mp md:Int}{w w':World}(h:nF v mp md=false)(hb:Below w.heap.size w w'):xL v mp md w (.returned (.tuple #[.pointer none,.int .i64 2])) w':=by
 refine⟨hb,?_⟩;rw[ae (by rw[h];decide)]
theorem zL{v mp md:Int}{w w':World}{g:Nat}(h:nF v mp md=true)(hb:Below w.heap.size w w')(hg:w.heap.size<=g)(hk:Bk w' g SmT (smC v mp none 0 0 0 0 0)):xL v mp md w (.returned (.tuple #[.pointer (some ⟨g,0,none⟩),.int .i64 0])) w':=by
 refine⟨hb,?_⟩;rw[if_pos h];exact⟨g,rfl,hg,hk⟩
theorem fm(v mp md:Int)(w:World):Calls prog 33 #[.int .i64 v,zW mp md] w (xL v mp md w):=by
 have HE:Hid (nF v mp md=(decide (v=4\/v=5)&&decide (16<=mp/\mp<=1048576/\0<=md/\md<=32))):=aa rfl;have HB:=aa ((aq w.heap.size w).alloc (ac _) (.cells #[.int .i64 mp,.int .i64 md] 54));have HS:Hid ((w.alloc (.cells #[.int .i64 mp,.int .i64 md] 54)).heap.size=w.heap.size+1):=aa (by simp);have HK:=aa (Bk.fresh w 54 #[.int .i64 mp,.int .i64 md]);have c0:(w.alloc (.cells #[.int .i64 mp,.int .i64 md] 54)).cell? ⟨w.heap.size,0,none⟩=some (.int .i64 mp):=HK.o.cell 0;have c1:(w.alloc (.cells #[.int .i64 mp,.int .i64 md] 54)).cell? ⟨w.heap.size,1,none⟩=some (.int .i64 md):=HK.o.cell 1;unfold zW
 by_cases hv:v=4\/v=5
 rotate_left
 ·have HX:Hid (nF v mp md=false):=aa (by rw[HE.o,ah hv];rfl);have e4:(v !=4)=true:=aA.2 (by omega);have e5:(v !=5)=true:=aA.2 (by omega);clear hv HE;go_enter func33,ntmps33;go_wp2;go_ret2;exact qi HX.o HB.o
 have hvv:(v !=4)=false\/((v !=4)=true/\(v !=5)=false):=by
  by_cases e:v=4
  ·exact .inl (by rw[e];rfl)
  ·exact .inr ⟨aA.2 e,by rw[show v=5 by omega];rfl⟩
 by_cases hl:16<=mp/\mp<=1048576/\0<=md/\md<=32
 rotate_left
 ·have HX:Hid (nF v mp md=false):=aa (by rw[HE.o,ah hl,ru]);have h3:mp<16\/(16<=mp/\1048576<mp)\/(16<=mp/\mp<=1048576/\md<0)\/(16<=mp/\mp<=1048576/\0<=md/\32<md):=by omega
  clear hv hl HE;rcases hvv with e4| ⟨e4,e5⟩<;>rcases h3 with h3| ⟨h3,h4⟩ | ⟨h3,h4,h5⟩ | ⟨h3,h4,h5,h6⟩
  all_goals
   go_enter func33,ntmps33;go_wp2;go_ret2;exact qi HX.o HB.o
 have HX:Hid (nF v mp md=true):=aa (by rw[HE.o,au hv,au hl];rfl);have HG:=aa (Bk.fresh (w.alloc (.cells #[.int .i64 mp,.int .i64 md] 54)) SmT (smC v mp none 0 0 0 0 0));obtain⟨h3,h4,h5,h6⟩:=hl;clear hv HE;rcases hvv with e4| ⟨e4,e5⟩
 all_goals
  go_enter func33,ntmps33;go_wp2;go_ret2;refine zL HX.o (HB.o.alloc HB.o.size _) ?_ (by rw[HS.o]at HG;exact HG.o);omega
theorem Kp.apart{w0 w y:World}{K:Option Addr}{n c:Nat}{t:List UInt8}(h:Kp w0 w K n c t){gp:Nat}{ty:TypeId}{cs:Array Value}(hp:Bk w gp ty cs)(hne:ty≠U8)(hm:w.grownBy y (some gp)):Kp w0 y K n c t:=by
 refine⟨h.len,h.cap,?_⟩;rcases h.lies with h1| ⟨g,o,M,h1,h2,h3,h4⟩
 ·exact .inl h1
 ·refine .inr ⟨g,o,M,h1,h2,(hm.block g h3.lt fun e=>?_).trans h3,h4⟩;cases e;unfold Bk at hp h3;rw[hp]at h3;simp only[aX,fc]at h3;exact hne h3.2.1
theorem yB{w0 w:World}{K:Option Addr}{n c z:Nat}{t:ByteArray}(h:Kp w0 w K n c (ls t))(hz:z<=n):(convert 80 9 (.slice K z c)).run prog w= .ok (.string (t.extract 0 z)) w:=by
 have h1:=h.rd.cut_to hz;rw[rB,lM]at h1;have h2:=ni (P:=prog) 80 9 U8 underlying80 underlying5 underlying9 c h1;rw[h2]
 congr 2
 apply eX;rw[jo];have:=db t 0 z;rw[bV,cS]at this;exact this.symm
theorem DM{v:Int}{t:ByteArray}:(smZ v t).1<=268435460:=by
 unfold smZ;split
 ·exact ag _
 rename_i h;have h0:=il.1 h;obtain⟨b1,b2,b3,b4,b5⟩:=kw (v:=v) (s:=t.extract 0 (min t.size 5)) (h:=(hdR v (t.extract 0 (min t.size 5))).1) (a:=(hdR v (t.extract 0 (min t.size 5))).2.1) (by rw[<-h0]);rw[aj]at b5;dsimp only;omega
theorem wj(v most:Int)(g:Nat)(K:Option Addr)(n c a k:Nat)(e:Int)(t:ByteArray)(w0 w:World)(hb:Bk w g SmT (smC v most K n c a k e))(hk:Kp w0 w K n c (ls t))(ht:t.size<=1000000000000):
  Calls prog 95 #[.pointer (some ⟨g,0,none⟩)] w (tM (smN v most t) w):=by
 have HE:Hid (smN v most t=if(smZ v t).2≠0 then(pk0,0,(smZ v t).2)else if most<((smZ v t).1:Nat)then(pk0,0,4)else if t.size<(smZ v t).1 then(pk0,0,3)else mqR v (t.extract 0 (smZ v t).1)):=aa rfl;have HT:=aa ht;have HL:Hid (t.size=n):=aa (by rw[<-aN];exact hk.len);have hb0:=(aq w.heap.size w).alloc (ac _) (.cells (pkC pk0 hs0) PkT);have HB0:=aa hb0;have HK0:=aa (Bk.fresh w PkT (pkC pk0 hs0));have HG:=aa (show g<w.heap.size from hb.lt);have HBK:=aa (hb.alloc (.cells (pkC pk0 hs0) PkT));have HKP:=aa (hk.below hb0);have HZC:=aa (pM v most g K n c a k e t w0 _ HBK.o HKP.o ht);have HZB:=aa (DM (v:=v) (t:=t));clear hb hk ht hb0;obtain⟨⟨z,x⟩,hz⟩:∃r,smZ v t=r:=⟨_,rfl⟩;rw[hz]at HE HZC HZB;dsimp only at HE HZC HZB;clear hz;go_enter func95,ntmps95
 go_wp2_with fail
 refine HZC.o.mono ?_;rintro e' w1 ⟨rfl,hb⟩;have HB1:=aa (HB0.o.trans (hb.mono HB0.o.size));have HK1:=aa (HK0.o.below hb HK0.o.lt);have HBK1:=aa (HBK.o.below hb HBK.o.lt);have HKP1:=aa (HKP.o.below hb);clear hb HZC HB0 HK0 HBK HKP;have hst:=aW HK1.o pk0 hs0;have HBP:Hid (Below w.heap.size w (dE w1 w.heap.size pk0 hs0)):=aa (bT HB1.o HB1.o.size (ac _) pk0 hs0);have HKPP:=aa (cO HK1.o pk0 hs0)
 by_cases hx:x=0
 rotate_left
 ·have HX:Hid (smN v most t=(pk0,0,x)):=aa (by rw[HE.o,if_pos hx]);have e0:(x !=0)=true:=aA.2 hx;clear hx;go_wp2;refine av (eZ rfl _ rfl HKPP.o) rfl ?_;exact gR HX.o HBP.o
 have HE1:Hid (smN v most t=if most<(z:Nat)then(pk0,0,4)else if t.size<z then(pk0,0,3)else mqR v (t.extract 0 z)):=aa (by rw[HE.o,ae (fun y=>y hx)]);subst hx;have c1:w1.cell? ⟨g,1,none⟩=some (.int .i64 most):=HBK1.o.cell 1;have c2:w1.cell? ⟨g,2,none⟩=some (.slice K n c):=HBK1.o.cell 2
 by_cases hm:most<(z:Nat)
 ·have HX:Hid (smN v most t=(pk0,0,4)):=aa (by rw[HE1.o,if_pos hm]);go_wp2;refine av (eZ rfl _ rfl HKPP.o) rfl ?_;exact gR HX.o HBP.o
 have m1:decide (most<(z:Int))=false:=ah hm;have HE2:Hid (smN v most t=if t.size<z then(pk0,0,3)else mqR v (t.extract 0 z)):=aa (by rw[HE1.o,ae hm]);clear hm HE HE1
 go_upto_region 4 with fail
 go_upto_if 21 with fail
 clear m1
 go_upto_region 6 with fail
 by_cases hl:n<z
 ·have HX:Hid (smN v most t=(pk0,0,3)):=aa (by rw[HE2.o,if_pos (by rw[HL.o];exact hl)]);have m2:decide ((n:Int)<(z:Int))=true:=au (by omega);have m3:decide (n<z)=true:=au hl;clear hl;go_wp2;refine av (eZ rfl _ rfl HKPP.o) rfl ?_;exact gR HX.o HBP.o
 have m2:decide ((n:Int)<(z:Int))=false:=ah (by omega);have m3:decide (n<z)=false:=ah hl;have HZN:Hid (z<=n):=aa (by omega);have HX:Hid (smN v most t=mqR v (t.extract 0 z)):=aa (by rw[HE2.o,ae (by rw[HL.o];exact hl)]);clear hl HE2;clear HKPP HBP
 go_upto_region 8 with fail
 clear hst m2 m3 c1 c2;have HCV:Hid (∀W,Below w1.heap.size w1 W->(convert 80 9 (.slice K z c)).run prog W= .ok (.string (t.extract 0 z)) W):=aa (fun W hW=>yB (HKP1.o.below hW) HZN.o);have HSB:Hid (∀W,Below w1.heap.size w1 W->W.cell? ⟨g,0,none⟩=some (.int .i64 v)/\W.cell? ⟨g,2,none⟩=some (.slice K n c)/\(convert 80 9 (.slice K z c)).run prog W= .ok (.string (t.extract 0 z)) W):=aa (fun W hW=>⟨(HBK1.o.below hW HBK1.o.lt).cell 0,(HBK1.o.below hW HBK1.o.lt).cell 2,HCV.o W hW⟩);have HSP:Hid (∀W (p:Pk) (q:Hs),Below w1.heap.size w1 W->(dE W w.heap.size p q).cell? ⟨g,0,none⟩=some (.int .i64 v)/\(dE W w.heap.size p q).cell? ⟨g,2,none⟩=some (.slice K n c)/\(convert 80 9 (.slice K z c)).run prog (dE W w.heap.size p q)= .ok (.string (t.extract 0 z)) (dE W w.heap.size p q)):=aa (fun W p q hW=>by
  have hk:=HK1.o.below hW HK1.o.lt;have hm:=cJ W w.heap.size p q;have hg:Bk (dE W w.heap.size p q) g SmT (smC v most K n c a k e):=(hm.block g (HBK1.o.below hW HBK1.o.lt).lt (fun e=>by cases e;exact absurd HG.o (Nat.lt_irrefl _))).trans (HBK1.o.below hW HBK1.o.lt);exact⟨hg.cell 0,hg.cell 2,yB ((HKP1.o.below hW).apart hk (by decide) hm) HZN.o⟩)
 have HBD:Hid (Below w1.heap.size w1 w1.drew):=aa (aV (aq w1.heap.size w1) 1);have hsl:=fun W=>Bi (P:=prog) (t:=80) (e:=U8) (s:=1) underlying80 (fun W=>by kernel_rfl) K n c z (aC HZN.o HKP1.o.cap) W;have HRD:=aa (fun W=>wS v (t.extract 0 z) W (by rw[aj];have:=HT.o;omega));obtain⟨R,hR⟩:∃R,mqR v (t.extract 0 z)=R:=⟨_,rfl⟩;rw[hR]at HX HRD;clear hR HCV;refine je (fun w'=>w'.cell? ⟨g,0,none⟩=some (.int .i64 v)/\w'.cell? ⟨g,2,none⟩=some (.slice K n c)/\(convert 80 9 (.slice K z c)).run prog w'= .ok (.string (t.extract 0 z)) w') [] (by kernel_rfl) ?_;have HS:=HSB.o w1.drew HBD.o;refine Uo (i:=0) (v:=?va0) [] rfl (Or.inl ⟨by rfl,?ha0⟩) HS ?ra0
 case ha0=>intro w' hSw;(try dsimp only at hSw);obtain⟨s0,s2,s3⟩:=hSw;go_simp;try with_reducible rfl
 refine Uo (i:=1) (v:=?va1) [] rfl (Or.inl ⟨by rfl,?ha1⟩) HS ?ra1
 case ha1=>intro w' hSw;(try dsimp only at hSw);obtain⟨s0,s2,s3⟩:=hSw;go_simp;try with_reducible rfl
 refine Uo (i:=2) (v:=?va2) [] rfl (Or.inl ⟨by rfl,?ha2⟩) HS ?ra2
 case ha2=>intro w' hSw;(try dsimp only at hSw);obtain⟨s0,s2,s3⟩:=hSw;go_simp;try with_reducible rfl
 refine Uo (i:=3) (v:=?va3) [] rfl (Or.inl ⟨by rfl,?ha3⟩) HS ?ra3
 case ha3=>intro w' hSw;(try dsimp only at hSw);obtain⟨s0,s2,s3⟩:=hSw;go_simp;try with_reducible rfl
 refine Uo (i:=4) (v:=?va4) [] rfl (Or.inl ⟨by rfl,?ha4⟩) HS ?ra4
 case ha4=>intro w' hSw;(try dsimp only at hSw);obtain⟨s0,s2,s3⟩:=hSw;go_simp;try with_reducible rfl
 refine Uo (i:=5) (v:=?va5) [] rfl (Or.inl ⟨by rfl,?ha5⟩) HS ?ra5
 case ha5=>intro w' hSw;(try dsimp only at hSw);obtain⟨s0,s2,s3⟩:=hSw;go_simp;try with_reducible rfl
 refine Uo (i:=6) (v:=?va6) [] rfl (Or.inl ⟨by rfl,?ha6⟩) HS ?ra6
 case ha6=>intro w' hSw;(try dsimp only at hSw);obtain⟨s0,s2,s3⟩:=hSw;go_simp;try with_reducible rfl
 refine Uo (i:=7) (v:=?va7) [] rfl (Or.inl ⟨by rfl,?ha7⟩) HS ?ra7
 case ha7=>intro w' hSw;(try dsimp only at hSw);obtain⟨s0,s2,s3⟩:=hSw;go_simp;try with_reducible rfl
 refine Uo (i:=8) (v:=?va8) [] rfl (Or.inl ⟨by rfl,?ha8⟩) HS ?ra8
 case ha8=>intro w' hSw;(try dsimp only at hSw);obtain⟨s0,s2,s3⟩:=hSw;go_simp;try with_reducible rfl
 refine Uo (i:=9) (v:=?va9) [] rfl (Or.inl ⟨by rfl,?ha9⟩) HS ?ra9
 case ha9=>intro w' hSw;(try dsimp only at hSw);obtain⟨s0,s2,s3⟩:=hSw;go_simp;try with_reducible rfl
 refine Uo (i:=10) (v:=?va10) [] rfl (Or.inl ⟨by rfl,?ha10⟩) HS ?ra10
 case ha10=>intro w' hSw;(try dsimp only at hSw);obtain⟨s0,s2,s3⟩:=hSw;go_simp;try with_reducible rfl
 refine Up 11 rfl (fun K hK=>?_);go_simp
 go_at_call 25
 refine(HRD.o _).mono ?_;rintro e' w3 ⟨hh,rfl,hi3,hb3,hf3⟩;have B3:=aa (HBD.o.trans (hb3.mono HBD.o.size));have K3:=aa (HK1.o.below B3.o HK1.o.lt);have I3:=aa hi3;have F3:=aa hf3;have Z3:=aa hb3.size
 clear hi3 hb3 hf3 HS;have HS:=HSB.o w3 B3.o;go_simp;refine hK.out _ _ (fun _=>HS) ?_;clear hK K;refine Uo (i:=12) (v:=?vb12) [] rfl (Or.inl ⟨by rfl,?hb12⟩) HS ?rb12
 case hb12=>intro w' hSw;(try dsimp only at hSw);obtain⟨s0,s2,s3⟩:=hSw;go_simp;try with_reducible rfl
 refine Uo (i:=13) (v:=?vb13) [] rfl (Or.inl ⟨by rfl,?hb13⟩) HS ?rb13
 case hb13=>intro w' hSw;(try dsimp only at hSw);obtain⟨s0,s2,s3⟩:=hSw;go_simp;try with_reducible rfl
 refine Uo (i:=14) (v:=?vb14) [] rfl (Or.inl ⟨by rfl,?hb14⟩) HS ?rb14
 case hb14=>intro w' hSw;(try dsimp only at hSw);obtain⟨s0,s2,s3⟩:=hSw;go_simp;try with_reducible rfl
 refine Up 15 rfl (fun K hK=>?_);have hst:=aW K3.o R.1 hh;go_simp;clear hst HS;have HS:=HSP.o w3 R.1 hh B3.o;refine hK.out _ _ (fun _=>HS) ?_;clear hK K;refine Up 16 rfl (fun K hK=>?_);go_simp;refine hK.out _ _ (fun _=>HS) ?_;clear hK K;refine Up 17 rfl (fun K hK=>?_);go_simp;refine hK.out _ _ (fun _=>HS) ?_;clear hK K;refine oh (by kernel_rfl) ?_ _;go_wp2;refine av (eZ rfl _ rfl (cO K3.o R.1 hh)) rfl ?_;have BB:=HB1.o.trans (B3.o.mono HB1.o.size);exact⟨hh,by rw[HX.o];rfl,by rw[HX.o];exact I3.o.put K3.o (cJ _ _ _ _) F3.o (ch HK1.o.lt HBD.o.size),bT BB BB.size (ac _) R.1 hh,by rw[HX.o];exact F3.o.mono (aC HB1.o.size HBD.o.size)⟩
end
end Go.Proofs.YtbdgkkmbnahgiaaGreatDoor
namespace Go.Proofs.YtbdgkkmbnahgiaaGreatDoor
open Go.ChangeShapes Go.WideShapes Go.ChangeAt Go.RowKit Go.Deep
open Go.Proofs.Tryz
set_option maxRecDepth 100000
section
variable {H:Type} {enc:TypeId×Value->H} {P:Program} {w:World} {base:Nat} {spare:Nat->Bool} {held:Bool}
theorem vz{fs:Array Field}{n:Nat}{cs:List Value}{xs:List (DataW H×List MemPlace)}
  (hf:∀(i:Nat) (f:Field),fs[i]? =some f->DataW.trod enc P w base spare held n f.type ((cs.drop f.offset).take (P.cellsOf f.type))=xs[i]?)
  (i:Nat){t:TypeId}{o k:Nat}(hi:(fs[i]?.map fun f=>(f.type,f.offset,P.cellsOf f.type))=some (t,o,k)):DataW.trod enc P w base spare held n t ((cs.drop o).take k)=xs[i]? :=by
 obtain⟨f,hfi,he⟩:=Option.map_eq_some_iff.1 hi;simp only[bG]at he;obtain⟨rfl,rfl,rfl⟩:=he;exact hf i f hfi
theorem fu.field{t:TypeId}{fs:Array Field}{ds:List (DataW H)}(ht:P.underlying t=some (.struct fs))(h:fu P t (.agg ds)){i:Nat}{u:TypeId}{d:DataW H}(hu:(fs.toList.map (·.type))[i]? =some u)(hd:ds[i]? =some d):fu P u d:=fun z hz=>h z (by
 simp only[DataW.weights,ht];exact DataW.weights_mem_each hu hd z hz)
theorem fu.text{t:TypeId}{s:ByteArray}(h:fu P t (.lit (.string s.data.toList):DataW H)):s.size<=140737488351232:=by
 have:=h.str
 simpa [reachBytes]using this
end
section
variable {H:Type} {enc:TypeId×Value->H} {w:World} {base:Nat} {spare:Nat->Bool} {held:Bool}
end
end Go.Proofs.YtbdgkkmbnahgiaaGreatDoor
namespace Go.Proofs.YtbdgkkmbnahgiaaGreatDoor
open Go.RowKit Go.Proofs.Tryz
section
attribute [local go_sem ↓] bD bF bH bI bu
attribute [local go_sem] bc aD bh bg bK bJ bd aY be aO ax cI dC dB dt dj di dA dr dp dn bW co bO bZ bX cz cy cw cu ct cC cn bS bP bR
theorem uh(A A':Option Addr)(n m c c':Nat)(L M:List (Pk×Hs))(w:World)(hl:RdK w A n L)(hm:RdK w A' m M)(ol:∀x∈L,gz x.1)(om:∀x∈M,gz x.1)(hn:n<=4611686018427387904)(hn':m<=4611686018427387904):
  Calls prog 29 #[.slice A n c,.slice A' m c'] w fun e w'=>e= .returned (.bool (decide (L.map Prod.fst=M.map Prod.fst)))/\Below w.heap.size w w':=by
 have E1:=aa hl.len;have E2:=aa hm.len
 by_cases hlen:n=m
 ·subst hlen;have HL:=aa hl;have HM:=aa hm;have OL:=aa ol;have OM:=aa om
  clear hl hm ol om;go_enter func29,ntmps29;go_wp2
  go_loopw [5] (fun i wr=>∃k:Nat,k<=n/\i= .int .i64 k/\(∀j,j<k->(L.map Prod.fst)[j]? =(M.map Prod.fst)[j]?)/\Below w.heap.size w wr) (fun i _=>n- (intOf i).toNat)
  case atStart=>exact⟨0,by omega,rfl,fun j hj=>by omega,aq _ _⟩
  case round=>
   obtain⟨k,hk,rfl,hall,hbel⟩:=hrel;have HA:=aa hall;have HBL:=aa hbel
   clear hall hbel
   by_cases hlt:k<n
   ·obtain⟨bA,oA,p,h,rfl,e1,hb1,l1,i1⟩:=(HL.o.below HBL.o).at hlt;obtain⟨bB,oB,q,h',rfl,e2,hb2,l2,i2⟩:=(HM.o.below HBL.o).at hlt;have LP:Hid (gz p):=aa (OL.o (p,h) (iL e1));have LQ:Hid (gz q):=aa (OM.o (q,h') (iL e2));have HZ:Hid ((L.map Prod.fst)[k]? =some p):=aa (by rw[List.getElem?_map,e1];rfl);have HZ':Hid ((M.map Prod.fst)[k]? =some q):=aa (by rw[List.getElem?_map,e2];rfl);clear e1 e2 hb1 hb2;have b1:(0:Int)<=(k:Int):=by omega
    have b2:(k:Int)<(n:Int):=by omega
    have q0:=jw (W:=wr) (fun x hx=>ws p q h h' x (i1.next hx) (i2.next hx) LP.o LQ.o);have g1:=fun d os=>l1 _ (below_regrown wr d os);have g2:=fun d os=>l2 _ (below_regrown wr d os);have HBQ:=aa (fun d os=>HBL.o.trans ((below_regrown wr d os).mono HBL.o.size));have HPQ:=aa (show decide (p=q)=true↔p=q from cH);clear i1 i2 l1 l2;obtain⟨B,hB⟩:∃B,decide (p=q)=B:=⟨_,rfl⟩;rw[hB]at q0 HPQ;clear hB
    go_wp2_with fail
    refine wp_region_quiet_below (by as_aux_lemma=>kernel_rfl) (by as_aux_lemma=>kernel_rfl) ?_
    repeat (go_big_quiet_step (first| with_reducible exact q0 _ _))
    refine kE ?_;intro _ hw';obtain⟨⟨dq,osq⟩,hw''⟩:=hw';subst hw'';have KF:=aa (HBQ.o dq osq);clear q0 g1 g2 HBQ;generalize Sort.grow (redrawn _ dq) osq=wq at*;cases B
    ·have HNE:Hid (p≠q):=aa (fun e=>by have:=HPQ.o.2 e;cases this);go_wp2;go_ret;refine⟨?_,KF.o⟩;have:L.map Prod.fst≠M.map Prod.fst:=by
      intro e;have:=HZ.o.symm.trans ((congrArg (fun l:List Pk=>l[k]?) e).trans HZ'.o);exact HNE.o (by simpa using this)
     simp[this]
    ·have HEQ:Hid (p=q):=aa (HPQ.o.1 rfl);go_wp2
     go_roundw
     case rel=>
      refine⟨k+1,by omega,by go_num,fun j hj=>?_,KF.o⟩;rcases dx.1 hj with h| rfl
      ·exact HA.o j h
      ·rw[HZ.o,HZ'.o,HEQ.o]
     case measure=>simp[intOf];omega
   ·go_wp2;go_ret;refine⟨?_,HBL.o⟩;have:L.map Prod.fst=M.map Prod.fst:=by
     apply dM;intro j
     by_cases hj:j<k
     ·exact HA.o j hj
     ·rw[aG (by rw[eD];have:=E1.o;omega),aG (by rw[eD];have:=E2.o;omega)]
    simp[this]
 ·have h1:((n:Int) != (m:Int))=true:=by simpa using (by omega:¬(n:Int)=(m:Int))
  have HN:=aa hlen;clear hlen hl hm ol om;go_enter func29,ntmps29;go_wp2;go_ret;refine⟨?_,aq _ _⟩;have:L.map Prod.fst≠M.map Prod.fst:=by
   intro e;have:=congrArg List.length e;rw[eD,eD]at this;exact HN.o (by rw[<-E1.o,<-E2.o];exact this)
  simp[this]
end
section
attribute [local go_sem ↓] bD bF bH bI bu
attribute [local go_sem] bc aD bh bg bK bJ bd aY be aO ax cI dC dB dt dj di dA dr dp dn bW co bO bZ bX cz cy cw cu ct cC cn bS bP bR
attribute [local go_sem ↓] xS
attribute [local go_sem] um
section
variable {v:Int} {w x y:World} {L G:List (Pk×Hs)} {i:Nat} {AG:Option Addr} {cG:Nat} {ve:Value} {p:Pk} {h:Hs}
end
theorem RowK.other{w0 w y:World}{A:Option Addr}{n c:Nat}{L:List (Pk×Hs)}(h:RowK w0 w A n c L){row:Option Nat}(hm:w.grownBy y row)(hne:∀g,A=some ⟨g,0,none⟩->row≠some g):RowK w0 y A n c L:=by
 refine⟨h.len,?_⟩;rcases h.lies with h1| ⟨g,M,h1,h2,h3,h4⟩
 ·exact .inl h1
 ·exact .inr ⟨g,M,h1,h2,(hm.block g h3.lt (fun e=>hne g h1 e.symm)).trans h3,h4⟩
end
end Go.Proofs.YtbdgkkmbnahgiaaGreatDoor
