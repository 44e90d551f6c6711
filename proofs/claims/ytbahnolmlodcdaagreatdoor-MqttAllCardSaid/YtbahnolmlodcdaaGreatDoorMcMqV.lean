/- A part of what the laws stand on: MqV, Laid. -/
import Derived.Test.YtbahnolmlodcdaaGreatDoorMcOpenK
import Derived.Test.YtbahnolmlodcdaaGreatDoorMcMPrp
import Derived.Test.YtbahnolmlodcdaaGreatDoorCards
import Derived.Test.YtbahnolmlodcdaaGreatDoorTie
import Derived.ChangeVars
import Derived.LaidLaws
import Derived.LaidHandle
import Derived.SevenTiedAt
namespace Go.Proofs.YtbahnolmlodcdaaGreatDoor
open Go.RowKit
attribute [local go_sem ↓] to_ldPk to_bxPk to_bdPk to_alPk to_stPk
attribute [local go_sem] run_bxPk run_bxPk_agg ld_fresh run_alPk run_bd0 run_bdK run_bdKI run_bdKIC run_bdKC run_bdKICP run_stPk_fresh pkC_0 pkC_1 pkC_2 pkC_3 pkC_4 pkC_5 pkC_6 pkC_7 pkC_8 pkC_9 pkC_10 pkC_11 pkC_12 pkC_13 pkC_14 pkC_15 pkC_16 pkC_17 pkC_18 pkC_19 pkC_20 pkC_21 pkC_22 pkC_23 pkC_24
set_option maxHeartbeats 1000000 in
set_option maxRecDepth 10000 in
theorem more13_any (p : Pk) (h : Hs) (w : World) : Calls Tryz.prog 26 #[pkV p h] w fun e w' => e = .returned (.int .i64 (moreN p : Nat)) ∧ Below w.heap.size w w' := by
  have HB := Lib.hid ((Below.refl w.heap.size w).alloc (Nat.le_refl _) (.cells (pkC p h) PkT))
  have c0 : (w.alloc (.cells (pkC p h) PkT)).cell? ⟨w.heap.size, 0, none⟩ = some (.int .i64 p.kind) := (Bk.fresh w PkT (pkC p h)).cell 0
  have c14 : (w.alloc (.cells (pkC p h) PkT)).cell? ⟨w.heap.size, 14, none⟩ = some (.bool p.hasWill) := (Bk.fresh w PkT (pkC p h)).cell 14
  have HE : Hid (moreN p = if p.kind = 1 then (if p.hasWill = true then 2 else 1) else if p.kind = 2 ∨ p.kind = 3 ∨ (8 ≤ p.kind ∧ p.kind ≤ 11) then 1 else 0) := Lib.hid rfl
  obtain ⟨k, hk⟩ : ∃ k, p.kind = k := ⟨_, rfl⟩
  obtain ⟨b, hb⟩ : ∃ b, p.hasWill = b := ⟨_, rfl⟩
  rw [hk] at c0 HE
  rw [hb] at c14 HE
  clear hk hb
  by_cases h1 : k = 1
  · subst h1
    cases b
    · have HX : Hid (moreN p = 1) := Lib.hid HE.out
      clear HE
      go_enter Tryz.func26, Tryz.ntmps26
      go_wp2
      go_ret
      exact ⟨by rw [HX.out]; rfl, HB.out⟩
    · have HX : Hid (moreN p = 2) := Lib.hid HE.out
      clear HE
      go_enter Tryz.func26, Tryz.ntmps26
      go_wp2
      go_ret
      exact ⟨by rw [HX.out]; rfl, HB.out⟩
  rw [if_neg h1] at HE
  by_cases h2 : k = 2 ∨ k = 3 ∨ (8 ≤ k ∧ k ≤ 11)
  · have HX : Hid (moreN p = 1) := Lib.hid (by rw [HE.out, if_pos h2])
    have h3 : k = 2 ∨ k = 3 ∨ k = 8 ∨ k = 9 ∨ k = 10 ∨ k = 11 := by omega
    clear HE h1 h2
    rcases h3 with rfl | rfl | rfl | rfl | rfl | rfl
    all_goals
      go_enter Tryz.func26, Tryz.ntmps26
      go_wp2
      go_ret
      exact ⟨by rw [HX.out]; rfl, HB.out⟩
  · have HX : Hid (moreN p = 0) := Lib.hid (by rw [HE.out, if_neg h2])
    have q1 : (k == 1) = false := beq_eq_false_iff_ne.2 h1
    have q2 : (k == 2) = false := beq_eq_false_iff_ne.2 (by omega)
    have q3 : (k == 3) = false := beq_eq_false_iff_ne.2 (by omega)
    have q8 : (k == 8) = false := beq_eq_false_iff_ne.2 (by omega)
    have q9 : (k == 9) = false := beq_eq_false_iff_ne.2 (by omega)
    have q10 : (k == 10) = false := beq_eq_false_iff_ne.2 (by omega)
    have q11 : (k == 11) = false := beq_eq_false_iff_ne.2 (by omega)
    clear HE h1 h2
    go_enter Tryz.func26, Tryz.ntmps26
    go_wp2
    go_ret
    exact ⟨by rw [HX.out]; rfl, HB.out⟩
set_option maxHeartbeats 8000000 in
set_option maxRecDepth 10000 in
theorem mqttVersions_any (p : Pk) (h : Hs) (w : World) (ip : PkIn w w.heap.size p h) (ok : PkOk p) :
    Calls Tryz.prog 4 #[pkV p h] w fun e w' => e = .returned (.bool true) ∧ Below w.heap.size w w' := by
  have OK := Lib.hid ok
  have S0 := Lib.hid ((St.start w).push ip)
  clear ip ok
  go_enter Tryz.func4, Tryz.ntmps4
  go_wp2_with fail
  refine (lives13_any _).mono ?_
  rintro e w1 ⟨rfl, hb⟩
  have S1 := Lib.hid (S0.out.below hb); clear hb
  have hl := S1.out.ld 0 rfl
  go_wp2_with fail
  refine (lightK_any p h _ (S1.out.into 0 rfl) OK.out).mono ?_
  rintro e w2 ⟨rfl, hb⟩
  have S2 := Lib.hid (S1.out.below hb); clear hb hl
  cases hL : lightK p
  · go_wp2
    go_ret
    exact ⟨rfl, S2.out.kept⟩
  have HZ4 := Lib.hid (fit_of_light 4 hL); have HZ5 := Lib.hid (fit_of_light 5 hL)
  have HV : Hid (mqE 4 p = 0 → _) := Lib.hid (ver_mq hL)
  clear hL S0 S1
  have hl := S2.out.ld 0 rfl
  go_wp2_with fail
  refine (mqBytes_any 4 p h _ (S2.out.into 0 rfl) OK.out HZ4.out).mono ?_
  rintro e w3 ⟨rfl, hb⟩
  have S3 := Lib.hid (S2.out.below hb); clear hb hl
  rw [mqB_e]
  by_cases hE : mqE 4 p = 0
  rotate_left
  · have HB0 : Hid ((mqB 4 p).1 = ⟨#[]⟩) := Lib.hid (by unfold mqB; rw [if_neg hE])
    rw [HB0.out]
    have HVA := Lib.hid (fun W (x : PkIn W W.heap.size p h) => mqValid_any 4 p h W x OK.out HZ4.out)
    generalize mqE 4 p = E at *
    have e0 : (E != 0) = true := bne_iff_ne.2 hE
    clear hE
    have hl := S3.out.ld 0 rfl
    go_wp2_with fail
    refine (HVA.out _ (S3.out.into 0 rfl)).mono ?_
    rintro e w4 ⟨rfl, hb⟩
    have S4 := Lib.hid (S3.out.below hb); clear hb hl
    go_wp2
    go_ret
    exact ⟨rfl, S4.out.kept⟩
  obtain ⟨V1, V2⟩ := HV.out hE
  have HV1 := Lib.hid V1; have HV2 := Lib.hid V2
  have hA : (mqB 4 p).1 = mqS 4 p := by unfold mqB; rw [if_pos hE]
  have HAL := Lib.hid (mqS_le hE)
  rw [hE, hA]
  clear hE hA V1 V2 HV
  have hl := S3.out.ld 0 rfl
  go_wp2_with fail
  refine (mqBytes_any 5 p h _ (S3.out.into 0 rfl) OK.out HZ5.out).mono ?_
  rintro e w4 ⟨rfl, hb⟩
  have S4 := Lib.hid (S3.out.below hb); clear hb hl
  rw [mqB_e]
  by_cases hF : mqE 5 p = 0
  rotate_left
  · have hk := HV1.out hF
    generalize mqE 5 p = E at *
    have e0 : (E != 0) = true := bne_iff_ne.2 hF
    have c0 := S4.out.cell 0 rfl 0; have c17 := S4.out.cell 0 rfl 21
    simp only [pkC_0, pkC_21] at c0 c17
    clear hF
    rcases hk with hk | ⟨hk, hc⟩
    · rw [hk] at c0
      clear hk
      go_wp2
      go_ret
      exact ⟨rfl, S4.out.kept⟩
    · rw [hk] at c0
      obtain ⟨cc, hcc⟩ : ∃ cc, p.code = cc := ⟨_, rfl⟩
      rw [hcc] at c17 hc
      have e1 : (cc != 0) = true := bne_iff_ne.2 hc
      clear hk hc hcc
      go_wp2
      go_ret
      exact ⟨rfl, S4.out.kept⟩
  obtain ⟨V3, V4, a, b, V5, V6⟩ := HV2.out hF
  have hB : (mqB 5 p).1 = mqS 5 p := by unfold mqB; rw [if_pos hF]
  have HBL := Lib.hid (mqS_le hF)
  have H4 := Lib.hid (fun W => refHdRead_any 4 (mqS 4 p) W (by have := HAL.out; omega))
  have H5 := Lib.hid (fun W => refHdRead_any 5 (mqS 5 p) W (by have := HBL.out; omega))
  have HM := Lib.hid (fun W => more13_any p h W)
  have HN4 := Lib.hid (mqE_ok hF).2.2.2
  rw [hF, hB]
  rw [V5] at H4
  rw [V6] at H5
  have HV3 := Lib.hid V3; have HV4 := Lib.hid V4
  clear hF hB V3 V4 V5 V6 HV1 HV2
  simp only [hdrV] at H4 H5
  generalize mqS 4 p = X at *
  generalize mqS 5 p = Y at *
  generalize (chB 4 p).1.size = nx at *
  generalize (chB 5 p).1.size = ny at *
  generalize moreN p = m at *
  generalize mqF p = f at *
  generalize p.kind = k at *
  have S5 : Hid (St w [(w.heap.size, p, h)] w4) := Lib.hid S4.out
  clear S2 S3 S4
  go_wp2_with fail
  refine (H4.out _).mono ?_
  rintro e w5 ⟨rfl, hb⟩
  have S6 := Lib.hid ((S5.out.below hb).alloc (.cells #[.int .i64 k, .int .i64 f, .int .i64 nx] 44))
  have K6 := Lib.hid (Bk.fresh w5 44 #[.int .i64 k, .int .i64 f, .int .i64 nx])
  clear hb H4 S5
  go_wp2_with fail
  refine (H5.out _).mono ?_
  rintro e w6 ⟨rfl, hb⟩
  obtain ⟨W, hW⟩ : ∃ W, w6.alloc (.cells #[.int .i64 k, .int .i64 f, .int .i64 ny] 44) = W := ⟨_, rfl⟩
  have S7 : Hid (St w [(w.heap.size, p, h)] W) := Lib.hid (by rw [← hW]; exact (S6.out.below hb).alloc _)
  have K7 : Hid (Bk W w5.heap.size 44 #[.int .i64 k, .int .i64 f, .int .i64 nx]) := Lib.hid (by rw [← hW]; exact (K6.out.below hb K6.out.lt).alloc _)
  obtain ⟨gy, hgy⟩ : ∃ gy, w6.heap.size = gy := ⟨_, rfl⟩
  obtain ⟨gx, hgx⟩ : ∃ gx, w5.heap.size = gx := ⟨_, rfl⟩
  have K8 : Hid (Bk W gy 44 #[.int .i64 k, .int .i64 f, .int .i64 ny]) := Lib.hid (by rw [← hW, ← hgy]; exact Bk.fresh w6 _ _)
  rw [hgx] at K7
  clear hb H5 S6 K6
  go_upto_region 13 with fail
  clear hW hgx hgy w6 w5
  have x0 := cell_regrown (show W.cell? ⟨gx, 0, none⟩ = some (.int .i64 k) from K7.out.cell 0)
  have x1 := cell_regrown (show W.cell? ⟨gx, 1, none⟩ = some (.int .i64 f) from K7.out.cell 1)
  have x2 := cell_regrown (show W.cell? ⟨gx, 2, none⟩ = some (.int .i64 nx) from K7.out.cell 2)
  have y0 := cell_regrown (show W.cell? ⟨gy, 0, none⟩ = some (.int .i64 k) from K8.out.cell 0)
  have y1 := cell_regrown (show W.cell? ⟨gy, 1, none⟩ = some (.int .i64 f) from K8.out.cell 1)
  have y2 := cell_regrown (show W.cell? ⟨gy, 2, none⟩ = some (.int .i64 ny) from K8.out.cell 2)
  have l1 := ld_regrown (S7.out.bk 0 rfl)
  have q0 := regrown (W := W) (fun x _ => HM.out x)
  have HBQ := Lib.hid (fun d os => S7.out.kept.trans ((below_regrown W d os).mono S7.out.kept.size))
  have d1 : -9223372036854775808 ≤ (ny : Int) - (nx : Int) := by have := HV3.out; omega
  have d2 : (ny : Int) - (nx : Int) ≤ 9223372036854775807 := by have := HN4.out; omega
  have hq : ((ny : Int) - (nx : Int) == (m : Int)) = true := beq_iff_eq.2 (by have := HV3.out; omega)
  rcases Nat.eq_zero_or_pos m with hm | hm
  · have dm : decide ((0 : Int) < (m : Int)) = false := decide_eq_false (by omega)
    have dm2 : decide (0 < m) = false := decide_eq_false (by omega)
    have hxy : (X.toList == Y.toList) = true := by rw [HV4.out hm]; simp
    clear hm HM HV3 HV4 HN4
    refine wp_region_quiet_below (by as_aux_lemma => kernel_rfl) (by as_aux_lemma => kernel_rfl) ?_
    repeat (go_big_quiet_step (first | with_reducible exact q0 _ _))
    refine wpQuiet_nil ?_
    intro _ hw'
    obtain ⟨⟨dq, osq⟩, hw''⟩ := hw'
    subst hw''
    have KF := Lib.hid (HBQ.out dq osq)
    clear q0 HBQ x0 x1 x2 y0 y1 y2 l1
    generalize Sort.grow (redrawn _ dq) osq = wq at *
    go_wp2
    go_ret
    exact ⟨rfl, KF.out⟩
  · have dm : decide ((0 : Int) < (m : Int)) = true := decide_eq_true (by omega)
    have dm2 : decide (0 < m) = true := decide_eq_true (by omega)
    clear hm HM HV3 HV4 HN4
    refine wp_region_quiet_below (by as_aux_lemma => kernel_rfl) (by as_aux_lemma => kernel_rfl) ?_
    repeat (go_big_quiet_step (first | with_reducible exact q0 _ _))
    refine wpQuiet_nil ?_
    intro _ hw'
    obtain ⟨⟨dq, osq⟩, hw''⟩ := hw'
    subst hw''
    have KF := Lib.hid (HBQ.out dq osq)
    clear q0 HBQ x0 x1 x2 y0 y1 y2 l1
    generalize Sort.grow (redrawn _ dq) osq = wq at *
    go_wp2
    go_ret
    exact ⟨rfl, KF.out⟩
end Go.Proofs.YtbahnolmlodcdaaGreatDoor

namespace Go.Proofs.YtbahnolmlodcdaaGreatDoor
open Go.ChangeShapes Go.WideShapes Go.ChangeAt Go.RowKit
def layCells (c : Array Value) : Obj → Obj
  | .cells _ t frozen => .cells c t frozen
  | o => o
def firstCells : Array Value := (Go.Pinned.utf8FirstZ.map fun (n : Nat) => Value.int .u8 n).toArray
def rangeCells : Array Value := #[.int .u8 128, .int .u8 191, .int .u8 160, .int .u8 191, .int .u8 128, .int .u8 159, .int .u8 144, .int .u8 191, .int .u8 128, .int .u8 143,
  .int .u8 0, .int .u8 0, .int .u8 0, .int .u8 0, .int .u8 0, .int .u8 0, .int .u8 0, .int .u8 0, .int .u8 0, .int .u8 0, .int .u8 0, .int .u8 0, .int .u8 0, .int .u8 0, .int .u8 0, .int .u8 0, .int .u8 0, .int .u8 0, .int .u8 0, .int .u8 0, .int .u8 0, .int .u8 0]
noncomputable def laidWorld (os : Os) : World :=
  { World.holding Tryz.prog os ⟨#[], #[], []⟩ with heap := ((World.holding Tryz.prog os ⟨#[], #[], []⟩).heap.modify 1 (layCells firstCells)).modify 2 (layCells rangeCells) }
theorem laid_met (os : Os) (args : Array Value) : laidMetH Tryz.prog [("unicode/utf8.acceptRanges", Rows.laid_unicode_utf8_acceptRanges), ("unicode/utf8.first", Rows.laid_unicode_utf8_first)] ((laidWorld os).forCall (fun _ _ => 0) ⟨#[], args, []⟩).memory :=
  laidMetH_of_parts (laidMet_of_run' 8 (by kernel_rfl) (by kernel_rfl)) (by kernel_rfl)
end Go.Proofs.YtbahnolmlodcdaaGreatDoor

