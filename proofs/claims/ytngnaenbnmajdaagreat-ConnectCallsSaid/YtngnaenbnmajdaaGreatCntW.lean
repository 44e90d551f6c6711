/- The law ConnectCalls: the walk. -/
import Derived.Test.YtngnaenbnmajdaaGreatMCns
import Derived.Test.YtngnaenbnmajdaaGreatCntS
import Derived.Test.YtngnaenbnmajdaaGreatOwnK
import Derived.Test.YtngnaenbnmajdaaGreatLex
namespace Go.Proofs.YtngnaenbnmajdaaGreat
open Go.RowKit
attribute [local go_sem ↓] to_ldPk to_bxPk to_bdPk to_alPk to_stPk
attribute [local go_sem] run_bxPk run_bxPk_agg ld_fresh run_alPk run_bd0 run_bdK run_bdKI run_bdKIC run_bdKC run_bdKICP run_stPk_fresh pkC_0 pkC_1 pkC_2 pkC_3 pkC_4 pkC_5 pkC_6 pkC_7 pkC_8 pkC_9 pkC_10 pkC_11 pkC_12 pkC_13 pkC_14 pkC_15 pkC_16 pkC_17 pkC_18 pkC_19 pkC_20 pkC_21 pkC_22 pkC_23 pkC_24

set_option maxHeartbeats 2000000 in
set_option maxRecDepth 100000 in
theorem connectCalls_any (v : Int) (p : Pk) (h : Hs) (k : Int) (s : ByteArray) (w : World) (ip : PkIn w w.heap.size p h) (ok : PkOk p) (hs : s.size ≤ 140737488351232) :
    Calls Tryz.prog 3 #[.int .i64 v, pkV p h, .int .i64 k, .string s] w fun e w' => e = .returned (.bool true) ∧ Below w.heap.size w w' := by
  have OK := Lib.hid ok
  have HS := Lib.hid hs
  have S0 := Lib.hid ((St.start w).push ip)
  clear ip ok hs
  go_enter Tryz.func3, Tryz.ntmps3
  go_wp2_with fail
  refine (lives08_any _).mono ?_
  rintro e w1 ⟨rfl, hb⟩
  have S1 := Lib.hid (S0.out.below hb); clear hb
  have hl := S1.out.ld 0 rfl
  go_wp2_with fail
  refine (lightK_any p h _ (S1.out.into 0 rfl) OK.out).mono ?_
  rintro e w2 ⟨rfl, hb⟩
  have S2 := Lib.hid (S1.out.below hb); clear hb hl
  cases hL : lightK p
  · go_wp2
    go_ret
    exact ⟨rfl, S2.out.kept⟩
  have HLL := Lib.hid (light_lens hL)
  clear hL
  by_cases hs1 : 2000 < s.size
  · have d2 : (2000 : Int) < (s.size : Int) := by omega
    clear hs1
    go_wp2
    go_ret
    exact ⟨rfl, S2.out.kept⟩
  have d2 : (s.size : Int) ≤ 2000 := by omega
  clear hs1
  have hl := S2.out.ld 0 rfl
  go_wp2_with fail
  refine (ownK_any p h _ (S2.out.into 0 rfl) HLL.out.1 HLL.out.2.1 HLL.out.2.2.1 HLL.out.2.2.2).mono ?_
  rintro e w3 ⟨k3, rfl, hi, hb⟩
  have I3 := Lib.hid hi
  have S3 := Lib.hid (S2.out.below hb); clear hb hl hi
  go_wp2_with fail
  refine (cntBody_any v p k3 _ I3.out OK.out).mono ?_
  rintro e w4 ⟨rfl, hb⟩
  have S4 := Lib.hid (S3.out.below hb); clear hb I3
  obtain ⟨B, hB⟩ : ∃ B, cntB v p = B := ⟨_, rfl⟩
  rw [hB]
  have HB := Lib.hid hB; clear hB
  obtain ⟨b1, b2⟩ := B
  simp only
  have hl := S4.out.ld 0 rfl
  go_wp2_with fail
  refine (ref8Body_any v p h _ (S4.out.into 0 rfl) OK.out).mono ?_
  rintro e w5 ⟨rfl, hb⟩
  have S5 := Lib.hid (S4.out.below hb); clear hb hl
  rw [HB.out]
  simp only
  go_wp2_with fail
  refine (cntRead_any v k s _ HS.out).mono ?_
  rintro e w6 hO
  have HOKR := Lib.hid (cntR_ok (v := v) (k := k) HS.out)
  obtain ⟨R, hR⟩ : ∃ R, cntR v k s = R := ⟨_, rfl⟩
  rw [hR] at hO HOKR
  have HR := Lib.hid hR; clear hR
  obtain ⟨c, g⟩ := R
  obtain ⟨k6, rfl, hi, hb⟩ := hO
  have S6 := Lib.hid ((S5.out.below hb).push hi)
  clear hi hb
  simp only at S6 HOKR ⊢
  go_wp2_with fail
  refine (ref8Read_any v k s _ HS.out).mono ?_
  rintro e w7 hO
  rw [HR.out] at hO
  obtain ⟨k7, rfl, hi, hb⟩ := hO
  have S7 := Lib.hid ((S6.out.below hb).push hi)
  clear hi hb
  simp only at S7 ⊢
  go_wp2_with fail
  generalize hW9 : w7.alloc (.cells (pkC c k7) PkT) = W9 at *
  have q0 := regrown (W := W9) (fun x hx => samePk_any c c k6 k7 x ((S7.out.below hx).into 1 rfl) ((S7.out.below hx).into 2 rfl) HOKR.out.len HOKR.out.len)
  rw [decide_eq_true rfl] at q0
  have q1 := regrown (W := W9) (fun x hx => cntFlags_any p h x)
  have q4 := regrown (W := W9) (fun x hx => refFlags8_any p h x)
  generalize flQ p = FQ at *
  have q2 := regrown (W := W9) (fun x hx => cntValid_any v p h x ((S7.out.below hx).into 0 rfl) OK.out)
  have q3 := regrown (W := W9) (fun x hx => refCntValid_any v p h x ((S7.out.below hx).into 0 rfl) OK.out)
  generalize cntE v p = E at *
  have l0 := ld_regrown (S7.out.bk 0 rfl)
  have l1 := ld_regrown (S7.out.bk 1 rfl)
  have l2 := ld_regrown (S7.out.bk 2 rfl)
  have HBQ := Lib.hid (fun d os => S7.out.kept.trans ((below_regrown W9 d os).mono S7.out.kept.size))
  clear hW9
  refine wp_region_quiet_below (by as_aux_lemma => kernel_rfl) (lexB_fast (by as_aux_lemma => kernel_rfl)) ?_
  repeat (go_big_quiet_step (first | with_reducible exact q0 _ _ | with_reducible exact q1 _ _ | with_reducible exact q2 _ _ | with_reducible exact q3 _ _ | with_reducible exact q4 _ _))
  refine wpQuiet_nil ?_
  intro _ hw'
  obtain ⟨⟨dq, osq⟩, hw''⟩ := hw'
  subst hw''
  have KF := Lib.hid (HBQ.out dq osq)
  clear q0 q1 q2 q3 q4 l0 l1 l2 HBQ
  generalize Sort.grow (redrawn _ dq) osq = wq at *
  go_wp2
  go_ret
  exact ⟨rfl, KF.out⟩
end Go.Proofs.YtngnaenbnmajdaaGreat
