/- Walks of the laws of layer 6: lives, ReasonBack. -/
import Derived.Test.YtcokgfmlkanoiaaReaE
namespace Go.Proofs.Ytcokgfmlkanoiaa
open Go.RowKit

set_option maxHeartbeats 400000 in
set_option maxRecDepth 10000 in
theorem lives6 (w : World) :
    Calls Try.prog 13 #[] w fun e w' => e = .returned (.bool true) ∧ Below w.heap.size w w' := by
  have h1 : to5 3 = (136, true) := by decide
  have h2 : may 6 146 = true := by decide +kernel
  have h3 : textL 24 = [49, 56] := by decide +kernel
  have H1 := Lib.hid h1; have H2 := Lib.hid h2; have H3 := Lib.hid h3; clear h1 h2 h3
  go_enter Try.func13, Try.ntmps13
  go_wp2_with fail
  refine (to5_any 3 _).mono ?_
  rintro e w' ⟨rfl, rfl⟩
  rw [H1.out]
  go_wp2_with fail
  refine (may_any _ _ _).mono ?_
  rintro e w1 ⟨rfl, hb1⟩
  rw [H2.out]
  go_wp2_with fail
  refine (text_any _ _).mono ?_
  rintro e w2 ⟨rfl, hb2⟩
  rw [H3.out]
  go_wp2
  go_ret
  exact ⟨rfl, hb1.trans (hb2.mono hb1.size)⟩

/-- The law's second half: what the old code of c is. -/
def oldOk (c : Int) : Prop := (to311 c = (0, false)) ∨ ∃ k, to311 c = (k, true) ∧ to5 k = (c, true)

set_option maxHeartbeats 400000 in
set_option maxRecDepth 10000 in
theorem back_yes (c a : Int) (w : World) (h5 : to5 c = (a, true)) (hr : retB c = true) (h3 : to311 a = (c, true)) (hm : may 2 a = true) (hb : badB a = (c != 0)) (ho : oldOk c) :
    Calls Try.prog 3 #[.int .i64 c] w fun e w' => e = .returned (.bool true) ∧ Below w.heap.size w w' := by
  have H5 := Lib.hid h5; have Hr := Lib.hid hr; have H3 := Lib.hid h3; have Hm := Lib.hid hm; have Hb := Lib.hid hb; clear h5 hr h3 hm hb
  go_enter Try.func3, Try.ntmps3
  go_wp2_with fail
  refine (lives6 _).mono ?_
  rintro e w1 ⟨rfl, hb1⟩
  go_wp2_with fail
  refine (to5_any _ _).mono ?_
  rintro e w' ⟨rfl, rfl⟩
  rw [H5.out]
  go_wp2_with fail
  refine (return_any _ _).mono ?_
  rintro e w' ⟨rfl, rfl⟩
  rw [Hr.out]
  go_wp2_with fail
  refine (to311_any _ _).mono ?_
  rintro e w' ⟨rfl, rfl⟩
  rw [H3.out]
  go_wp2_with fail
  refine (may_any _ _ _).mono ?_
  rintro e w2 ⟨rfl, hb2⟩
  rw [Hm.out]
  go_wp2_with fail
  refine (bad_any _ _).mono ?_
  rintro e w' ⟨rfl, rfl⟩
  rw [Hb.out]
  go_wp2_with fail
  refine (to311_any _ _).mono ?_
  rintro e w' ⟨rfl, rfl⟩
  have hbel := hb1.trans (hb2.mono hb1.size)
  rcases ho with h | ⟨k, h, h'⟩
  · rw [h]
    clear h
    go_wp2
    go_ret
    exact ⟨rfl, hbel⟩
  · have Hk := Lib.hid h'
    rw [h]
    clear h h'
    go_wp2_with fail
    refine (to5_any _ _).mono ?_
    rintro e w' ⟨rfl, rfl⟩
    rw [Hk.out]
    go_wp2
    go_ret
    exact ⟨rfl, hbel⟩

set_option maxHeartbeats 400000 in
set_option maxRecDepth 10000 in
theorem back_no (c : Int) (w : World) (h5 : to5 c = (0, false)) (hr : retB c = false) (ho : oldOk c) :
    Calls Try.prog 3 #[.int .i64 c] w fun e w' => e = .returned (.bool true) ∧ Below w.heap.size w w' := by
  have H5 := Lib.hid h5; have Hr := Lib.hid hr; clear h5 hr
  go_enter Try.func3, Try.ntmps3
  go_wp2_with fail
  refine (lives6 _).mono ?_
  rintro e w1 ⟨rfl, hb1⟩
  go_wp2_with fail
  refine (to5_any _ _).mono ?_
  rintro e w' ⟨rfl, rfl⟩
  rw [H5.out]
  go_wp2_with fail
  refine (return_any _ _).mono ?_
  rintro e w' ⟨rfl, rfl⟩
  rw [Hr.out]
  go_wp2_with fail
  refine (to311_any _ _).mono ?_
  rintro e w' ⟨rfl, rfl⟩
  rcases ho with h | ⟨k, h, h'⟩
  · rw [h]
    clear h
    go_wp2
    go_ret
    exact ⟨rfl, hb1⟩
  · have Hk := Lib.hid h'
    rw [h]
    clear h h'
    go_wp2_with fail
    refine (to5_any _ _).mono ?_
    rintro e w' ⟨rfl, rfl⟩
    rw [Hk.out]
    go_wp2
    go_ret
    exact ⟨rfl, hb1⟩

theorem oldOk_any (c : Int) : oldOk c := by
  unfold oldOk to311
  cases h : old c with
  | none => exact .inl rfl
  | some k =>
    refine .inr ⟨k, rfl, ?_⟩
    unfold old at h
    have h1 := List.find?_some h
    have h2 := List.mem_range.1 (List.mem_of_find?_eq_some h)
    simp only [beq_iff_eq] at h1
    subst h1
    obtain rfl | rfl | rfl | rfl | rfl | rfl : k = 0 ∨ k = 1 ∨ k = 2 ∨ k = 3 ∨ k = 4 ∨ k = 5 := by omega
    all_goals decide

theorem back_any (c : Int) (w : World) :
    Calls Try.prog 3 #[.int .i64 c] w fun e w' => e = .returned (.bool true) ∧ Below w.heap.size w w' := by
  by_cases h : 0 ≤ c ∧ c ≤ 5
  · obtain rfl | rfl | rfl | rfl | rfl | rfl : c = 0 ∨ c = 1 ∨ c = 2 ∨ c = 3 ∨ c = 4 ∨ c = 5 := by omega
    · exact back_yes 0 0 w rfl rfl (by decide) (by decide +kernel) rfl (oldOk_any _)
    · exact back_yes 1 132 w rfl rfl (by decide) (by decide +kernel) rfl (oldOk_any _)
    · exact back_yes 2 133 w rfl rfl (by decide) (by decide +kernel) rfl (oldOk_any _)
    · exact back_yes 3 136 w rfl rfl (by decide) (by decide +kernel) rfl (oldOk_any _)
    · exact back_yes 4 134 w rfl rfl (by decide) (by decide +kernel) rfl (oldOk_any _)
    · exact back_yes 5 135 w rfl rfl (by decide) (by decide +kernel) rfl (oldOk_any _)
  · refine back_no c w ?_ (by simp [retB]; omega) (oldOk_any _)
    unfold to5
    repeat rw [if_neg (by omega)]

end Go.Proofs.Ytcokgfmlkanoiaa
