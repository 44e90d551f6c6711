/-
  The laws of the registry: the reference's names.
-/
import Derived.Test.YtjbpafkdbfbdlaaMRef

namespace Go.Proofs.Ytjbpafkdbfbdlaa
open Go.RowKit
theorem empty_size {s : ByteArray} (h : s.toList.isEmpty = true) : s.size = 0 := by
  rw [Lib.toList_data] at h
  rw [Lib.size_eq]
  cases hl : s.data.toList with
  | nil => rfl
  | cons a t => rw [hl] at h; simp at h
theorem emptyB_iff (s : ByteArray) : s.toList.isEmpty = decide (s.size = 0) := by
  cases hz : s.toList.isEmpty
  · exact (decide_eq_false (fun x => by
      have : s = ⟨#[]⟩ := ls_ext (by rw [show ls (⟨#[]⟩ : ByteArray) = [] from rfl]; exact List.eq_nil_of_length_eq_zero (by rw [ls_len]; exact x))
      rw [this] at hz
      exact absurd hz (by decide +kernel))).symm
  · exact (decide_eq_true (empty_size hz)).symm
def hasL (l : List UInt8) (c : UInt8) : Bool := l.contains c
theorem hasL_cons (b : UInt8) (l : List UInt8) (c : UInt8) : hasL (b :: l) c = (c == b || hasL l c) := List.contains_cons
theorem u8_ne {a b : UInt8} (h : a ≠ b) : (a.toNat : Int) ≠ (b.toNat : Int) := fun x => h (UInt8.toNat_inj.1 (by omega))
set_option maxHeartbeats 1000000 in
set_option maxRecDepth 10000 in
theorem hasS_any (s : ByteArray) (c : UInt8) (w : World) (hs : s.size ≤ 4611686018427387904) :
    Calls Try.prog 31 #[.string s, .int .u8 (c.toNat : Int)] w fun e w' => e = .returned (.bool (hasL (ls s) c)) ∧ w = w' := by
  have HS := Lib.hid hs; clear hs
  go_enter Try.func31, Try.ntmps31
  go_wp2
  go_loop [5] (fun i => ∃ k : Nat, k ≤ s.size ∧ i = .int .i64 k ∧ hasL (ls s) c = hasL ((ls s).drop k) c) (fun i => s.size - (intOf i).toNat)
  case atStart => exact ⟨0, by omega, rfl, rfl⟩
  case round =>
    obtain ⟨k, hk, rfl, hc⟩ := hrel
    have HC := Lib.hid hc; clear hc
    by_cases hlt : k < s.size
    · have hd := List.drop_eq_getElem_cons (show k < (ls s).length by rw [ls_len]; exact hlt)
      rw [ls_at s k hlt] at hd
      obtain ⟨b, hb⟩ : ∃ b, s[k]'hlt = b := ⟨_, rfl⟩
      rw [hb] at hd
      have HD := Lib.hid hd; clear hd
      have b1 : (0 : Int) ≤ (k : Int) := by omega
      have b2 : (k : Int) < (s.size : Int) := by omega
      have hsz := HS.out
      by_cases h : b = c
      · have e1 : ((b.toNat : Int) == (c.toNat : Int)) = true := beq_iff_eq.2 (by rw [h])
        have HX : Hid (hasL (ls s) c = true) := Lib.hid (by rw [HC.out, HD.out, h, hasL_cons, beq_self_eq_true, Bool.true_or])
        clear h
        go_wp2
        go_ret
        exact ⟨by rw [HX.out]; rfl, rfl⟩
      · have e1 : ((b.toNat : Int) == (c.toNat : Int)) = false := beq_eq_false_iff_ne.2 (u8_ne h)
        have HX : Hid (hasL (ls s) c = hasL ((ls s).drop (k + 1)) c) := Lib.hid (by
          rw [HC.out, HD.out, hasL_cons, beq_eq_false_iff_ne.2 (fun x => h x.symm), Bool.false_or])
        clear h
        go_wp2
        go_round
        case rel => exact ⟨k + 1, by omega, by go_num, HX.out⟩
        case measure => simp [intOf]; omega
    · have HX : Hid (hasL (ls s) c = false) := Lib.hid (by rw [HC.out, List.drop_eq_nil_of_le (by rw [ls_len]; omega)]; rfl)
      have b2 : (s.size : Int) ≤ (k : Int) := by omega
      clear hlt
      go_wp2
      go_ret
      exact ⟨by rw [HX.out]; rfl, rfl⟩
theorem anyS_has (s : ByteArray) : anyS s = (hasL (ls s) 43 || hasL (ls s) 35) := by
  unfold anyS
  generalize ls s = l
  induction l with
  | nil => rfl
  | cons b l ih =>
    rw [List.any_cons, ih, hasL_cons, hasL_cons, special_low]
    by_cases h1 : b = 43
    · subst h1; simp
    · by_cases h2 : b = 35
      · subst h2; simp
      · have e : decide (b.toNat = 43 ∨ b.toNat = 35) = false := decide_eq_false (by
          rintro (x | x)
          · exact h1 (UInt8.toNat_inj.1 x)
          · exact h2 (UInt8.toNat_inj.1 x))
        rw [e, beq_eq_false_iff_ne.2 (fun x => h1 x.symm), beq_eq_false_iff_ne.2 (fun x => h2 x.symm)]
        simp
set_option maxHeartbeats 1000000 in
set_option maxRecDepth 10000 in
theorem refName_any (s : ByteArray) (w : World) (hs : s.size ≤ 4611686018427387904) :
    Calls Try.prog 13 #[.string s] w fun e w' => e = .returned (.bool (nameB s)) ∧ w = w' := by
  have HE : Hid (nameB s = ((decide (s.size ≠ 0) && validB s) && !(hasL (ls s) 43 || hasL (ls s) 35))) := Lib.hid (by unfold nameB textB; rw [anyS_has])
  have hem := emptyB_iff s
  have HS := Lib.hid hs; clear hs
  go_enter Try.func13, Try.ntmps13
  by_cases h0 : s.size = 0
  · rw [decide_eq_true h0] at hem
    have HX : Hid (nameB s = false) := Lib.hid (by rw [HE.out, decide_eq_false (fun x => x h0)]; rfl)
    clear h0
    go_wp2
    go_ret
    exact ⟨by rw [HX.out]; rfl, rfl⟩
  rw [decide_eq_false h0] at hem
  have HE1 : Hid (nameB s = (validB s && !(hasL (ls s) 43 || hasL (ls s) 35))) := Lib.hid (by rw [HE.out, decide_eq_true h0, Bool.true_and])
  clear h0
  go_wp2_with fail
  refine (refValid_any s _ HS.out).mono ?_
  rintro e w1 ⟨rfl, rfl⟩
  cases hv : validB s
  · have HX : Hid (nameB s = false) := Lib.hid (by rw [HE1.out, hv]; rfl)
    clear hv
    go_wp2
    go_ret
    exact ⟨by rw [HX.out]; rfl, rfl⟩
  have HE2 : Hid (nameB s = !(hasL (ls s) 43 || hasL (ls s) 35)) := Lib.hid (by rw [HE1.out, hv, Bool.true_and])
  clear hv
  go_wp2_with fail
  refine (hasS_any s 43 _ HS.out).mono ?_
  rintro e w1 ⟨rfl, rfl⟩
  cases h1 : hasL (ls s) 43
  rotate_left
  · have HX : Hid (nameB s = false) := Lib.hid (by rw [HE2.out, h1]; rfl)
    clear h1
    go_wp2
    go_ret
    exact ⟨by rw [HX.out]; rfl, rfl⟩
  have HE3 : Hid (nameB s = !hasL (ls s) 35) := Lib.hid (by rw [HE2.out, h1, Bool.false_or])
  clear h1
  go_wp2_with fail
  refine (hasS_any s 35 _ HS.out).mono ?_
  rintro e w1 ⟨rfl, rfl⟩
  go_wp2
  go_ret
  exact ⟨by rw [HE3.out]; rfl, rfl⟩
end Go.Proofs.Ytjbpafkdbfbdlaa
