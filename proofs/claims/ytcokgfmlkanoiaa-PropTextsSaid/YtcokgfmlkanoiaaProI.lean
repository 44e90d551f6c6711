/- The law PropTexts. -/
import Derived.Test.YtcokgfmlkanoiaaProH
import Derived.Test.YtcokgfmlkanoiaaRefC
namespace Go.Proofs.Ytcokgfmlkanoiaa
open Go.RowKit

theorem valid_nil : validB ⟨#[]⟩ = true := by decide +kernel
theorem check_text {x : Int} (hx : x = 3 ∨ x = 38) (s : ByteArray) : checkE (ruleOf x) 3 ⟨x, 0, s, ⟨#[]⟩⟩ = if validB s = true then 0 else 6 := by
  have hr : hasR (ruleOf x) 3 = true ∧ ¬ (ruleOf x).shape ≤ 4 ∧ (ruleOf x).shape ≠ 6 ∧ x ≠ 8 := by
    rcases hx with rfl | rfl
    · decide +kernel
    · decide +kernel
  obtain ⟨h1, h2, h3, h4⟩ := hr
  unfold checkE
  rw [h1, if_neg (by simp), if_neg h2, if_neg (by simp), if_neg h3]
  cases hv : validB s
  · rw [if_pos (.inl rfl)]; simp
  · rw [if_neg (by simp [valid_nil]), if_neg (by simp [h4])]; simp
theorem check_data (s : ByteArray) (h : s.size ≤ 65535) : checkE (ruleOf 9) 3 ⟨9, 0, s, ⟨#[]⟩⟩ = 0 := by
  have hr : hasR (ruleOf 9) 3 = true ∧ ¬ (ruleOf 9).shape ≤ 4 ∧ (ruleOf 9).shape = 6 := by decide +kernel
  obtain ⟨h1, h2, h3⟩ := hr
  unfold checkE
  rw [h1, if_neg (by simp), if_neg h2, if_neg (by simp), if_pos h3, if_neg (by simp only; omega)]

set_option maxHeartbeats 1000000 in
set_option maxRecDepth 10000 in
theorem propTexts_any (s : ByteArray) (id : Int) (w : World) :
    Calls Try.prog 7 #[.string s, .int .i64 id] w fun e w' => e = .returned (.bool true) ∧ Below w.heap.size w w' := by
  go_enter Try.func7, Try.ntmps7
  go_wp2_with fail
  refine (lives5_any _).mono ?_
  rintro e w1 ⟨rfl, hb⟩
  have HB := Lib.hid hb; clear hb
  by_cases hbig : 1000 < s.size
  · have d1 : decide ((1000 : Int) < (s.size : Int)) = true := decide_eq_true (by omega)
    clear hbig
    go_wp2
    go_ret
    exact ⟨rfl, HB.out⟩
  · have d1 : decide ((1000 : Int) < (s.size : Int)) = false := decide_eq_false (by omega)
    have HS : Hid (s.size ≤ 4611686018427387904) := Lib.hid (by omega)
    have HSZ := Lib.hid hbig; clear hbig
    go_wp2_with fail
    refine (pick_any id 3 _ (by omega)).mono ?_
    rintro e w2 ⟨rfl, rfl⟩
    have hk : pickN id 3 = 0 ∨ pickN id 3 = 1 ∨ pickN id 3 = 2 := by
      unfold pickN
      rw [if_neg (by omega)]
      omega
    have HB2 := Lib.hid (HB.out.alloc HB.out.size (.cells #[.int .i64 3, .int .i64 9, .int .i64 38] 3))
    rcases hk with hk | hk | hk
    · rw [hk]
      have HE := Lib.hid (check_text (.inl rfl) s : checkE (ruleOf 3) 3 ⟨3, 0, s, ⟨#[]⟩⟩ = _)
      clear hk
      go_wp2_with fail
      refine (checkP_any 3 ⟨3, 0, s, ⟨#[]⟩⟩ ⟨(show (0 : Nat) < 4294967296 by decide), HS.out, (show (⟨#[]⟩ : ByteArray).size ≤ 4611686018427387904 by decide)⟩ _).mono ?_
      rintro e w3 ⟨rfl, hb⟩
      rw [HE.out]
      have HB3 := Lib.hid ((HB2.out.alloc HB2.out.size _).trans (hb.mono (by have := HB2.out.size; simp at this ⊢; omega))); clear hb
      cases hv : validB s
      · have HV := Lib.hid hv; clear hv
        rw [if_neg (by simp)]
        go_wp2_with fail
        refine (refValid_any s _ HS.out).mono ?_
        rintro e w4 ⟨rfl, rfl⟩
        rw [HV.out]
        go_wp2
        go_ret
        exact ⟨rfl, HB3.out⟩
      · have HV := Lib.hid hv; clear hv
        rw [if_pos rfl]
        go_wp2_with fail
        refine (refValid_any s _ HS.out).mono ?_
        rintro e w4 ⟨rfl, rfl⟩
        rw [HV.out]
        go_wp2
        go_ret
        exact ⟨rfl, HB3.out⟩
    · rw [hk]
      have HE := Lib.hid (check_data s (by have := HSZ.out; omega))
      clear hk
      go_wp2_with fail
      refine (checkP_any 3 ⟨9, 0, s, ⟨#[]⟩⟩ ⟨(show (0 : Nat) < 4294967296 by decide), HS.out, (show (⟨#[]⟩ : ByteArray).size ≤ 4611686018427387904 by decide)⟩ _).mono ?_
      rintro e w3 ⟨rfl, hb⟩
      rw [HE.out]
      have HB3 := Lib.hid ((HB2.out.alloc HB2.out.size _).trans (hb.mono (by have := HB2.out.size; simp at this ⊢; omega))); clear hb
      go_wp2
      go_ret
      exact ⟨rfl, HB3.out⟩
    · rw [hk]
      have HE := Lib.hid (check_text (.inr rfl) s : checkE (ruleOf 38) 3 ⟨38, 0, s, ⟨#[]⟩⟩ = _)
      clear hk
      go_wp2_with fail
      refine (checkP_any 3 ⟨38, 0, s, ⟨#[]⟩⟩ ⟨(show (0 : Nat) < 4294967296 by decide), HS.out, (show (⟨#[]⟩ : ByteArray).size ≤ 4611686018427387904 by decide)⟩ _).mono ?_
      rintro e w3 ⟨rfl, hb⟩
      rw [HE.out]
      have HB3 := Lib.hid ((HB2.out.alloc HB2.out.size _).trans (hb.mono (by have := HB2.out.size; simp at this ⊢; omega))); clear hb
      cases hv : validB s
      · have HV := Lib.hid hv; clear hv
        rw [if_neg (by simp)]
        go_wp2_with fail
        refine (refValid_any s _ HS.out).mono ?_
        rintro e w4 ⟨rfl, rfl⟩
        rw [HV.out]
        go_wp2
        go_ret
        exact ⟨rfl, HB3.out⟩
      · have HV := Lib.hid hv; clear hv
        rw [if_pos rfl]
        go_wp2_with fail
        refine (refValid_any s _ HS.out).mono ?_
        rintro e w4 ⟨rfl, rfl⟩
        rw [HV.out]
        go_wp2
        go_ret
        exact ⟨rfl, HB3.out⟩
end Go.Proofs.Ytcokgfmlkanoiaa
