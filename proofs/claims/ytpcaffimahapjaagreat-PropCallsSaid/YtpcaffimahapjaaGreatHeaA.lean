/- head: the walks of known, kinds, fixed, Flags; publish.known, when. -/
import Derived.Test.YtpcaffimahapjaaGreatMAck
namespace Go.Proofs.YtpcaffimahapjaaGreat
open Go.RowKit
attribute [local go_sem ↓] to_ldPk to_bxPk to_bdPk to_alPk to_stPk
attribute [local go_sem] run_bxPk run_bxPk_agg ld_fresh run_alPk run_bd0 run_bdK run_bdKI run_bdKIC run_bdKC run_bdKICP run_stPk_fresh pkC_0 pkC_1 pkC_2 pkC_3 pkC_4 pkC_5 pkC_6 pkC_7 pkC_8 pkC_9 pkC_10 pkC_11 pkC_12 pkC_13 pkC_14 pkC_15 pkC_16 pkC_17 pkC_18 pkC_19 pkC_20 pkC_21 pkC_22 pkC_23 pkC_24
theorem emptyB_iff (s : ByteArray) : s.toList.isEmpty = decide (s.size = 0) := by
  cases hz : s.toList.isEmpty
  · exact (decide_eq_false (fun x => by
      have : s = ⟨#[]⟩ := ls_ext (by rw [show ls (⟨#[]⟩ : ByteArray) = [] from rfl]; exact List.eq_nil_of_length_eq_zero (by rw [ls_len]; exact x))
      rw [this] at hz
      exact absurd hz (by decide +kernel))).symm
  · exact (decide_eq_true (empty_size hz)).symm
def hdKnown (v : Int) : Bool := decide (v = 4 ∨ v = 5)
def hdKinds (v k : Int) : Bool := decide (1 ≤ k ∧ (k ≤ 14 ∨ (k = 15 ∧ v = 5)))
def hdFixed (k : Int) : Int := if k = 6 ∨ k = 8 ∨ k = 10 then 2 else 0
def flagsP (p : Pk) : Int := 2 * p.qos + (if p.retain = true then 1 else 0) + (if p.dup = true then 8 else 0)
def badQ (p : Pk) : Bool := decide (p.qos < 0 ∨ 2 < p.qos ∨ (p.qos = 0 ∧ p.dup = true))
def hdFlags (v : Int) (p : Pk) : Int × Int :=
  if hdKnown v = false then (0, 2) else if hdKinds v p.kind = false then (0, 8) else if p.kind ≠ 3 then (hdFixed p.kind, 0) else if badQ p = true then (0, 7) else (flagsP p, 0)
set_option maxHeartbeats 400000 in
set_option maxRecDepth 10000 in
theorem hdKnown_any (v : Int) (w : World) : Calls Tryz.prog 203 #[.int .i64 v] w fun e w' => e = .returned (.bool (hdKnown v)) ∧ w = w' := by
  go_enter Tryz.func203, Tryz.ntmps203
  go_wp2
  all_goals
    go_ret
    refine ⟨ret_bool ?_, rfl⟩
    unfold hdKnown
    by_cases h4 : v = 4 <;> by_cases h5 : v = 5 <;> simp_all
set_option maxHeartbeats 400000 in
set_option maxRecDepth 10000 in
theorem pubKnown_any (v : Int) (w : World) : Calls Tryz.prog 132 #[.int .i64 v] w fun e w' => e = .returned (.bool (hdKnown v)) ∧ w = w' := by
  go_enter Tryz.func132, Tryz.ntmps132
  go_wp2
  all_goals
    go_ret
    refine ⟨ret_bool ?_, rfl⟩
    unfold hdKnown
    by_cases h4 : v = 4 <;> by_cases h5 : v = 5 <;> simp_all
set_option maxHeartbeats 400000 in
set_option maxRecDepth 10000 in
theorem when_any (b : Bool) (x : Int) (w : World) : Calls Tryz.prog 137 #[.bool b, .int .i64 x] w fun e w' => e = .returned (.int .i64 (if b = true then x else 0)) ∧ w = w' := by
  cases b
  all_goals
    go_enter Tryz.func137, Tryz.ntmps137
    go_wp2
    go_ret
    exact ⟨rfl, rfl⟩
set_option maxHeartbeats 400000 in
set_option maxRecDepth 10000 in
theorem hdKinds_any (v k : Int) (w : World) : Calls Tryz.prog 204 #[.int .i64 v, .int .i64 k] w fun e w' => e = .returned (.bool (hdKinds v k)) ∧ w = w' := by
  by_cases h5 : v = 5
  · have e5 : (v == 5) = true := beq_iff_eq.2 h5
    have HE : Hid (hdKinds v k = (decide (1 ≤ k) && decide (k ≤ 15))) := Lib.hid (by unfold hdKinds; rw [← Bool.decide_and]; exact decide_eq_decide.2 (by omega))
    clear h5
    go_enter Tryz.func204, Tryz.ntmps204
    go_wp2
    all_goals
      go_ret
      refine ⟨ret_bool ?_, rfl⟩
      rw [HE.out]
      by_cases a : 1 ≤ k <;> by_cases b : k ≤ 15 <;> by_cases c : k ≤ 14 <;> simp_all <;> omega
  · have e5 : (v == 5) = false := beq_eq_false_iff_ne.2 h5
    have HE : Hid (hdKinds v k = (decide (1 ≤ k) && decide (k ≤ 14))) := Lib.hid (by unfold hdKinds; rw [← Bool.decide_and]; exact decide_eq_decide.2 (by omega))
    clear h5
    go_enter Tryz.func204, Tryz.ntmps204
    go_wp2
    all_goals
      go_ret
      refine ⟨ret_bool ?_, rfl⟩
      rw [HE.out]
      by_cases a : 1 ≤ k <;> by_cases b : k ≤ 15 <;> by_cases c : k ≤ 14 <;> simp_all <;> omega
set_option maxHeartbeats 400000 in
set_option maxRecDepth 10000 in
theorem hdFixed_any (k : Int) (w : World) : Calls Tryz.prog 208 #[.int .i64 k] w fun e w' => e = .returned (.int .i64 (hdFixed k)) ∧ w = w' := by
  have HE : Hid (hdFixed k = if k = 6 ∨ k = 8 ∨ k = 10 then 2 else 0) := Lib.hid rfl
  go_enter Tryz.func208, Tryz.ntmps208
  go_wp2
  all_goals
    go_ret
    refine ⟨?_, rfl⟩
    rw [HE.out]
    simp_all

theorem or_flags : bits BinOp.or IntKind.i64 0 1 = 1 ∧ bits BinOp.or IntKind.i64 2 1 = 3 ∧ bits BinOp.or IntKind.i64 4 1 = 5 ∧ bits BinOp.or IntKind.i64 0 8 = 8 ∧ bits BinOp.or IntKind.i64 1 8 = 9 ∧ bits BinOp.or IntKind.i64 2 8 = 10 ∧ bits BinOp.or IntKind.i64 3 8 = 11 ∧ bits BinOp.or IntKind.i64 4 8 = 12 ∧ bits BinOp.or IntKind.i64 5 8 = 13 := by decide +kernel
set_option maxHeartbeats 4000000 in
set_option maxRecDepth 10000 in
theorem hdFlags_any (v : Int) (p : Pk) (h : Hs) (w : World) :
    Calls Tryz.prog 139 #[.int .i64 v, pkV p h] w fun e w' => e = .returned (.tuple #[.int .i64 (hdFlags v p).1, .int .i64 (hdFlags v p).2]) ∧ Below w.heap.size w w' := by
  have HB := Lib.hid ((Below.refl w.heap.size w).alloc (Nat.le_refl _) (.cells (pkC p h) PkT))
  have k1 := fun j => (Bk.fresh w PkT (pkC p h)).cell j
  have HE : Hid (hdFlags v p = if hdKnown v = false then (0, 2) else if hdKinds v p.kind = false then (0, 8) else if p.kind ≠ 3 then (hdFixed p.kind, 0) else if badQ p = true then (0, 7) else (flagsP p, 0)) := Lib.hid rfl
  go_enter Tryz.func139, Tryz.ntmps139
  go_wp2_with fail
  refine (hdKnown_any v _).mono ?_
  rintro e w1 ⟨rfl, rfl⟩
  cases hk : hdKnown v
  · have HX : Hid (hdFlags v p = (0, 2)) := Lib.hid (by rw [HE.out, if_pos hk])
    clear hk
    go_wp2
    go_ret2
    exact ⟨by rw [HX.out]; rfl, HB.out⟩
  have HE1 : Hid (hdFlags v p = if hdKinds v p.kind = false then (0, 8) else if p.kind ≠ 3 then (hdFixed p.kind, 0) else if badQ p = true then (0, 7) else (flagsP p, 0)) := Lib.hid (by rw [HE.out, if_neg (fun x => by rw [hk] at x; cases x)])
  clear hk HE
  go_wp2_with fail
  refine (hdKinds_any v p.kind _).mono ?_
  rintro e w1 ⟨rfl, rfl⟩
  cases hk : hdKinds v p.kind
  · have HX : Hid (hdFlags v p = (0, 8)) := Lib.hid (by rw [HE1.out, if_pos hk])
    clear hk
    go_wp2
    go_ret2
    exact ⟨by rw [HX.out]; rfl, HB.out⟩
  have HE2 : Hid (hdFlags v p = if p.kind ≠ 3 then (hdFixed p.kind, 0) else if badQ p = true then (0, 7) else (flagsP p, 0)) := Lib.hid (by rw [HE1.out, if_neg (fun x => by rw [hk] at x; cases x)])
  clear hk HE1
  by_cases h3 : p.kind = 3
  rotate_left
  · have HX : Hid (hdFlags v p = (hdFixed p.kind, 0)) := Lib.hid (by rw [HE2.out, if_pos h3])
    have e3 : (p.kind != 3) = true := bne_iff_ne.2 h3
    clear h3
    go_wp2_with fail
    refine (hdFixed_any p.kind _).mono ?_
    rintro e w1 ⟨rfl, rfl⟩
    go_wp2
    go_ret2
    exact ⟨by rw [HX.out]; rfl, HB.out⟩
  have HE3 : Hid (hdFlags v p = if badQ p = true then (0, 7) else (flagsP p, 0)) := Lib.hid (by rw [HE2.out, if_neg (fun x => x h3)])
  have e3 : (p.kind != 3) = false := by simpa using h3
  clear h3 HE2
  have k1a : (w.alloc (.cells (pkC p h) PkT)).cell? ⟨w.heap.size, 3, none⟩ = some (.int .i64 p.qos) := (Bk.fresh w PkT (pkC p h)).cell 3
  have k1b : (w.alloc (.cells (pkC p h) PkT)).cell? ⟨w.heap.size, 1, none⟩ = some (.bool p.dup) := (Bk.fresh w PkT (pkC p h)).cell 1
  have k1c : (w.alloc (.cells (pkC p h) PkT)).cell? ⟨w.heap.size, 2, none⟩ = some (.bool p.retain) := (Bk.fresh w PkT (pkC p h)).cell 2
  have k1d : (w.alloc (.cells (pkC p h) PkT)).cell? ⟨w.heap.size, 0, none⟩ = some (.int .i64 p.kind) := (Bk.fresh w PkT (pkC p h)).cell 0
  have HBQ : Hid (badQ p = decide (p.qos < 0 ∨ 2 < p.qos ∨ (p.qos = 0 ∧ p.dup = true))) := Lib.hid rfl
  have HFP : Hid (flagsP p = 2 * p.qos + (if p.retain = true then 1 else 0) + (if p.dup = true then 8 else 0)) := Lib.hid rfl
  clear k1
  generalize p.qos = q at *
  generalize p.dup = d at *
  generalize p.retain = r at *
  by_cases h0 : q < 0
  · have HX : Hid (hdFlags v p = (0, 7)) := Lib.hid (by rw [HE3.out, if_pos (by rw [HBQ.out]; exact decide_eq_true (.inl h0))])
    go_wp2
    go_ret2
    exact ⟨by rw [HX.out]; rfl, HB.out⟩
  have d0 : decide (q < 0) = false := decide_eq_false h0
  by_cases h2 : 2 < q
  · have HX : Hid (hdFlags v p = (0, 7)) := Lib.hid (by rw [HE3.out, if_pos (by rw [HBQ.out]; exact decide_eq_true (.inr (.inl h2)))])
    have d0' : 0 ≤ q := by omega
    clear h0
    go_wp2
    go_ret2
    exact ⟨by rw [HX.out]; rfl, HB.out⟩
  obtain ⟨b1, b2, b3, b4, b5, b6, b7, b8, b9⟩ := or_flags
  clear d0
  obtain rfl | rfl | rfl : q = 0 ∨ q = 1 ∨ q = 2 := by omega
  all_goals cases d <;> cases r
  all_goals
    first
    | (have HX : Hid (hdFlags v p = (0, 7)) := Lib.hid (by rw [HE3.out, if_pos (by rw [HBQ.out]; decide)])
       clear h0 h2
       go_wp2
       go_ret2
       exact ⟨by rw [HX.out]; rfl, HB.out⟩)
    | (have HX : Hid (hdFlags v p = (flagsP p, 0)) := Lib.hid (by rw [HE3.out, if_neg (by rw [HBQ.out]; decide)])
       clear h0 h2
       go_wp2
       go_ret2
       exact ⟨by rw [HX.out, HFP.out]; rfl, HB.out⟩)
end Go.Proofs.YtpcaffimahapjaaGreat
