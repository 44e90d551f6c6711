/- head: the walks of flagged, Check (of a PUBLISH), varint.Size of nought. -/
import Derived.Test.YtpcaffimahapjaaGreatHeaA
namespace Go.Proofs.YtpcaffimahapjaaGreat
open Go.RowKit
theorem and_flags6 : bits BinOp.and IntKind.i64 0 6 = 0 ∧ bits BinOp.and IntKind.i64 1 6 = 0 ∧ bits BinOp.and IntKind.i64 2 6 = 2 ∧ bits BinOp.and IntKind.i64 3 6 = 2 ∧ bits BinOp.and IntKind.i64 4 6 = 4 ∧ bits BinOp.and IntKind.i64 5 6 = 4 ∧ bits BinOp.and IntKind.i64 6 6 = 6 ∧ bits BinOp.and IntKind.i64 7 6 = 6 ∧ bits BinOp.and IntKind.i64 8 6 = 0 ∧ bits BinOp.and IntKind.i64 9 6 = 0 ∧ bits BinOp.and IntKind.i64 10 6 = 2 ∧ bits BinOp.and IntKind.i64 11 6 = 2 ∧ bits BinOp.and IntKind.i64 12 6 = 4 ∧ bits BinOp.and IntKind.i64 13 6 = 4 ∧ bits BinOp.and IntKind.i64 14 6 = 6 ∧ bits BinOp.and IntKind.i64 15 6 = 6 := by decide +kernel
theorem and_flags8 : bits BinOp.and IntKind.i64 0 8 = 0 ∧ bits BinOp.and IntKind.i64 1 8 = 0 ∧ bits BinOp.and IntKind.i64 2 8 = 0 ∧ bits BinOp.and IntKind.i64 3 8 = 0 ∧ bits BinOp.and IntKind.i64 4 8 = 0 ∧ bits BinOp.and IntKind.i64 5 8 = 0 ∧ bits BinOp.and IntKind.i64 6 8 = 0 ∧ bits BinOp.and IntKind.i64 7 8 = 0 ∧ bits BinOp.and IntKind.i64 8 8 = 8 ∧ bits BinOp.and IntKind.i64 9 8 = 8 ∧ bits BinOp.and IntKind.i64 10 8 = 8 ∧ bits BinOp.and IntKind.i64 11 8 = 8 ∧ bits BinOp.and IntKind.i64 12 8 = 8 ∧ bits BinOp.and IntKind.i64 13 8 = 8 ∧ bits BinOp.and IntKind.i64 14 8 = 8 ∧ bits BinOp.and IntKind.i64 15 8 = 8 := by decide +kernel
def hdFlag3 (f : Int) : Bool := decide (f = 0 ∨ f = 1 ∨ f = 2 ∨ f = 3 ∨ f = 4 ∨ f = 5 ∨ f = 10 ∨ f = 11 ∨ f = 12 ∨ f = 13)
set_option maxHeartbeats 4000000 in
set_option maxRecDepth 10000 in
theorem hdFlag3_any (f : Int) (w : World) : Calls Tryz.prog 205 #[.int .i64 3, .int .i64 f] w fun e w' => e = .returned (.bool (hdFlag3 f)) ∧ w = w' := by
  by_cases h0 : f < 0
  · have HX : Hid (hdFlag3 f = false) := Lib.hid (decide_eq_false (by omega))
    go_enter Tryz.func205, Tryz.ntmps205
    go_wp2
    go_ret
    exact ⟨by rw [HX.out]; rfl, rfl⟩
  by_cases h1 : 15 < f
  · have HX : Hid (hdFlag3 f = false) := Lib.hid (decide_eq_false (by omega))
    have d0 : decide (f < 0) = false := decide_eq_false h0
    clear h0
    go_enter Tryz.func205, Tryz.ntmps205
    go_wp2
    go_ret
    exact ⟨by rw [HX.out]; rfl, rfl⟩
  obtain ⟨a0, a1, a2, a3, a4, a5, a6, a7, a8, a9, a10, a11, a12, a13, a14, a15⟩ := and_flags6
  obtain ⟨b0, b1, b2, b3, b4, b5, b6, b7, b8, b9, b10, b11, b12, b13, b14, b15⟩ := and_flags8
  obtain rfl | rfl | rfl | rfl | rfl | rfl | rfl | rfl | rfl | rfl | rfl | rfl | rfl | rfl | rfl | rfl : f = 0 ∨ f = 1 ∨ f = 2 ∨ f = 3 ∨ f = 4 ∨ f = 5 ∨ f = 6 ∨ f = 7 ∨ f = 8 ∨ f = 9 ∨ f = 10 ∨ f = 11 ∨ f = 12 ∨ f = 13 ∨ f = 14 ∨ f = 15 := by omega
  all_goals
    clear h0 h1
    go_enter Tryz.func205, Tryz.ntmps205
    go_wp2
    go_ret
    exact ⟨rfl, rfl⟩
set_option maxHeartbeats 400000 in
set_option maxRecDepth 10000 in
theorem size0_any (w : World) : Calls Tryz.prog 206 #[.int .i64 0] w fun e w' => e = .returned (.int .i64 1) ∧ Below w.heap.size w w' := by
  have HB := Lib.hid (Below.refl w.heap.size w)
  go_enter Tryz.func206, Tryz.ntmps206
  go_wp2_with fail
  refine (mayV_any 0 _).mono ?_
  rintro e w1 ⟨rfl, rfl⟩
  have hm : mayV 0 = true := by decide
  go_wp2
  go_loopw [0, 3] (fun v o wr => v = .int .i64 0 ∧ o = .int .i64 1 ∧ Below w.heap.size w wr) (fun _ _ _ => 0)
  case atStart => exact ⟨rfl, rfl, HB.out⟩
  case round =>
    obtain ⟨rfl, rfl, hbel⟩ := hrel
    clear hm
    go_wp2
    go_ret
    exact ⟨rfl, hbel⟩
def hdCheck3 (v f : Int) : Int := if hdKnown v = false then 2 else if hdFlag3 f = false then 7 else 0
set_option maxHeartbeats 400000 in
set_option maxRecDepth 10000 in
theorem hdCheck3_any (v f : Int) (w : World) : Calls Tryz.prog 133 #[.int .i64 v, .agg #[.int .i64 3, .int .i64 f, .int .i64 0]] w fun e w' => e = .returned (.int .i64 (hdCheck3 v f)) ∧ Below w.heap.size w w' := by
  have HE : Hid (hdCheck3 v f = if hdKnown v = false then 2 else if hdFlag3 f = false then 7 else 0) := Lib.hid rfl
  have HB := Lib.hid ((Below.refl w.heap.size w).alloc (Nat.le_refl _) (.cells #[.int .i64 3, .int .i64 f, .int .i64 0] 123))
  go_enter Tryz.func133, Tryz.ntmps133
  go_wp2_with fail
  refine (hdKnown_any v _).mono ?_
  rintro e w1 ⟨rfl, rfl⟩
  cases hk : hdKnown v
  · have HX : Hid (hdCheck3 v f = 2) := Lib.hid (by rw [HE.out, if_pos hk])
    clear hk
    go_wp2
    go_ret
    exact ⟨by rw [HX.out]; rfl, HB.out⟩
  have HE1 : Hid (hdCheck3 v f = if hdFlag3 f = false then 7 else 0) := Lib.hid (by rw [HE.out, if_neg (fun x => by rw [hk] at x; cases x)])
  have hk3 : hdKinds v 3 = true := decide_eq_true (by omega)
  clear hk HE
  have k1 : (w.alloc (.cells #[.int .i64 3, .int .i64 f, .int .i64 0] 123)).cell? ⟨w.heap.size, 0, none⟩ = some (.int .i64 3) := (Bk.fresh w 123 _).cell 0
  have k2 : (w.alloc (.cells #[.int .i64 3, .int .i64 f, .int .i64 0] 123)).cell? ⟨w.heap.size, 1, none⟩ = some (.int .i64 f) := (Bk.fresh w 123 _).cell 1
  have k3 : (w.alloc (.cells #[.int .i64 3, .int .i64 f, .int .i64 0] 123)).cell? ⟨w.heap.size, 2, none⟩ = some (.int .i64 0) := (Bk.fresh w 123 _).cell 2
  go_wp2_with fail
  refine (hdKinds_any v 3 _).mono ?_
  rintro e w1 ⟨rfl, rfl⟩
  go_wp2_with fail
  refine (hdFlag3_any f _).mono ?_
  rintro e w1 ⟨rfl, rfl⟩
  cases hk : hdFlag3 f
  · have HX : Hid (hdCheck3 v f = 7) := Lib.hid (by rw [HE1.out, if_pos hk])
    clear hk
    go_wp2
    go_ret
    exact ⟨by rw [HX.out]; rfl, HB.out⟩
  have HX : Hid (hdCheck3 v f = 0) := Lib.hid (by rw [HE1.out, if_neg (fun x => by rw [hk] at x; cases x)])
  clear hk HE1
  go_wp2_with fail
  refine (size0_any _).mono ?_
  rintro e w1 ⟨rfl, hb⟩
  have HB2 := Lib.hid (HB.out.trans (hb.mono HB.out.size)); clear hb
  go_wp2
  go_ret
  exact ⟨by rw [HX.out]; rfl, HB2.out⟩
end Go.Proofs.YtpcaffimahapjaaGreat
