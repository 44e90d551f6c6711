/- topic.text, topic.Name. -/
import Derived.Test.YtdpeljnoaiaplaaTopB
namespace Go.Proofs.Ytdpeljnoaiaplaa
open Go.RowKit Go.Shelf

theorem indexAny_iff : ∀ l : List UInt8, decide (0 ≤ Lib.indexAny l [43, 35]) = l.any special
  | [] => rfl
  | b :: l => by
    have ih := indexAny_iff l
    have hge := Lib.indexAny_ge [43, 35] l
    rw [Lib.indexAny, List.any_cons]
    have hc : ([43, 35] : List UInt8).contains b = special b := by simp [special]; rfl
    rw [hc]
    cases hs : special b
    · rw [if_neg (by simp), Bool.false_or, ← ih]
      by_cases h : Lib.indexAny l [43, 35] = -1
      · rw [h]; rfl
      · rw [if_neg (by simpa using h)]
        rw [decide_eq_decide]
        omega
    · simp

def textB (s : ByteArray) : Bool := decide (s.size ≠ 0) && validB s
def nameB (s : ByteArray) : Bool := textB s && !anyS s

set_option maxHeartbeats 400000 in
set_option maxRecDepth 10000 in
theorem containsAny_any (s : ByteArray) (w : World) (hs : s.size ≤ 65535) :
    Calls Try.prog 127 #[.string s, .string ⟨#[43, 35]⟩] w fun e w' => e = .returned (.bool (anyS s)) ∧ Below w.heap.size w w' := by
  have c : Calls Try.prog 137 #[.string s, .string ⟨#[43, 35]⟩] w fun e w' => ∃ i : Int, e = .returned (.int .i64 i) ∧ decide (0 ≤ i) = anyS s ∧ Below w.heap.size w w' := by
    by_cases h8 : s.size ≤ 8
    · exact indexAny_short s w h8
    · refine (indexAny_long s ⟨#[43, 35]⟩ w (by decide) (by omega) (by omega) (by decide) ?_).mono fun e w' h => ⟨_, h.1, indexAny_iff _, h.2⟩
      intro j b hb
      have : b ∈ [(43 : UInt8), 35] := List.mem_of_getElem? hb
      simp at this
      rcases this with rfl | rfl <;> decide
  go_enter Try.func127, Try.ntmps127
  go_wp2_with fail
  refine c.mono ?_
  rintro e w1 ⟨i, rfl, hi, hb⟩
  have HB := Lib.hid hb; clear hb
  go_wp2
  go_ret
  exact ⟨by rw [← hi]; rfl, HB.out⟩

set_option maxHeartbeats 400000 in
set_option maxRecDepth 10000 in
theorem textT_any (s : ByteArray) (w : World) (hs : s.size ≤ 4611686018427387904) :
    Calls Try.prog 126 #[.string s] w fun e w' => e = .returned (.bool (textB s)) ∧ Below w.heap.size w w' := by
  by_cases h : s.size = 0
  · have he : s.toList.isEmpty = true := by rw [Lib.toList_data, List.length_eq_zero_iff.1 ((Lib.size_eq s).symm.trans h)]; rfl
    have HF : Hid (textB s = false) := Lib.hid (by simp [textB, h])
    clear h hs
    go_enter Try.func126, Try.ntmps126
    go_wp2
    go_ret
    exact ⟨by rw [HF.out]; rfl, Below.refl _ _⟩
  · have he : s.toList.isEmpty = false := by
      rw [Lib.toList_data]
      cases hl : s.data.toList with
      | nil => exact absurd ((Lib.size_eq s).trans (by rw [hl]; rfl)) h
      | cons _ _ => rfl
    have HF : Hid (textB s = validB s) := Lib.hid (by simp [textB, h])
    have HS := Lib.hid hs
    clear h hs
    go_enter Try.func126, Try.ntmps126
    go_wp2_with fail
    refine (valid_any s _ HS.out).mono ?_
    rintro e w1 ⟨rfl, hb⟩
    have HB := Lib.hid hb; clear hb
    go_wp2
    go_ret
    exact ⟨by rw [HF.out]; rfl, HB.out⟩

theorem valid_size {s : ByteArray} (h : validB s = true) : s.size ≤ 65535 := by
  unfold validB at h
  simp at h
  exact h.1

set_option maxHeartbeats 400000 in
set_option maxRecDepth 10000 in
theorem name_any (s : ByteArray) (w : World) (hs : s.size ≤ 4611686018427387904) :
    Calls Try.prog 97 #[.string s] w fun e w' => e = .returned (.bool (nameB s)) ∧ Below w.heap.size w w' := by
  have HS := Lib.hid hs; clear hs
  go_enter Try.func97, Try.ntmps97
  go_wp2_with fail
  refine (textT_any s _ HS.out).mono ?_
  rintro e w1 ⟨rfl, hb⟩
  have HB := Lib.hid hb; clear hb
  cases ht : textB s
  · have HF : Hid (nameB s = false) := Lib.hid (by simp [nameB, ht])
    clear ht
    go_wp2
    go_ret
    exact ⟨by rw [HF.out]; rfl, HB.out⟩
  · have HF : Hid (nameB s = !anyS s) := Lib.hid (by simp [nameB, ht])
    have HV : Hid (s.size ≤ 65535) := Lib.hid (valid_size (by simp [textB] at ht; exact ht.2))
    clear ht
    go_wp2_with fail
    refine (containsAny_any s _ HV.out).mono ?_
    rintro e w2 ⟨rfl, hb⟩
    have HB := Lib.hid (HB.out.trans (hb.mono HB.out.size)); clear hb
    go_wp2
    go_ret
    exact ⟨by rw [HF.out]; rfl, HB.out⟩
end Go.Proofs.Ytdpeljnoaiaplaa
