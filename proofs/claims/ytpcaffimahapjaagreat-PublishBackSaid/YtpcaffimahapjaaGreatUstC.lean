/- ustring: a text is read back, whatever follows (plain). -/
import Derived.Test.YtpcaffimahapjaaGreatUstB
import Derived.Test.YtpcaffimahapjaaGreatMLis
namespace Go.Proofs.YtpcaffimahapjaaGreat
open Go.RowKit
theorem ls_framed (t r : ByteArray) : ls (framedS t ++ r) = putL t.size 2 ++ (ls t ++ ls r) := by
  unfold framedS
  rw [ls_app, ls_app, ls_mk, List.append_assoc]
theorem framed_size (t r : ByteArray) : (framedS t ++ r).size = 2 + t.size + r.size := by
  rw [← ls_len, ls_framed, List.length_append, List.length_append, putL_len, ls_len, ls_len]; omega
/-- A text is read back from its bytes, whatever follows. -/
theorem readU_framed (t r : ByteArray) (h : t.size < 65536) (hv : validB t = true) : readU (framedS t ++ r) = (t, 2 + t.size, 0) := by
  have hz := framed_size t r
  have hn : numS (framedS t ++ r) 0 0 2 = t.size := by
    unfold numS
    rw [show (2 : Int) = ((2 : Nat) : Int) from rfl, take_yes (by omega), extract_ls, ls_framed, List.drop_zero, List.take_append_of_le_length (by rw [putL_len]; exact Nat.le_refl 2), List.take_of_length_le (by rw [putL_len]; exact Nat.le_refl 2), get_put2 _ h]
  have hx : (framedS t ++ r).extract 2 (2 + t.size) = t := ls_ext (by
    rw [extract_ls, ls_framed, List.drop_append_of_le_length (by rw [putL_len]; exact Nat.le_refl 2), List.drop_of_length_le (by rw [putL_len]; exact Nat.le_refl 2), List.nil_append, List.take_append_of_le_length (by rw [ls_len]; exact Nat.le_refl _), List.take_of_length_le (by rw [ls_len]; exact Nat.le_refl _)])
  have hb : readB (framedS t ++ r) = (t, 2 + t.size, 0) := by
    unfold readB
    rw [hn, hx, if_neg (by omega), if_neg (by omega)]
  unfold readU
  rw [hb]
  simp [hv]
/-- What is read stands in front. -/
theorem readU_back {s t : ByteArray} {n : Nat} (h : readU s = (t, n, 0)) : s = framedS t ++ s.extract n s.size ∧ t.size < 65536 ∧ validB t = true ∧ n = 2 + t.size ∧ n ≤ s.size := by
  have hb : readB s = (t, n, 0) ∧ validB t = true := by
    unfold readU at h
    by_cases hc : (readB s).2.2 = 0 ∧ validB (readB s).1 = false
    · rw [if_pos hc] at h; cases h
    · rw [if_neg hc] at h
      refine ⟨h, ?_⟩
      cases hv : validB t
      · exact absurd ⟨by rw [h], by rw [h]; exact hv⟩ hc
      · rfl
  obtain ⟨hb, hv⟩ := hb
  unfold readB at hb
  by_cases h1 : s.size < 2
  · rw [if_pos h1] at hb; cases hb
  rw [if_neg h1] at hb
  by_cases h2 : s.size < 2 + numS s 0 0 2
  · rw [if_pos h2] at hb; cases hb
  rw [if_neg h2] at hb
  simp only [Prod.mk.injEq] at hb
  obtain ⟨hx, rfl, -⟩ := hb
  have hnum : numS s 0 0 2 = getL ((ls s).take 2) := by
    unfold numS
    rw [show (2 : Int) = ((2 : Nat) : Int) from rfl, take_yes (by omega), extract_ls, List.drop_zero]
  have hl2 : ((ls s).take 2).length = 2 := by rw [List.length_take, ls_len]; omega
  have hlt : numS s 0 0 2 < 65536 := by
    rw [hnum]
    have := getL_lt ((ls s).take 2)
    rw [hl2] at this
    exact this
  have htz : t.size = numS s 0 0 2 := by rw [← hx, ByteArray.size_extract]; omega
  refine ⟨ls_ext ?_, by omega, hv, by omega, by omega⟩
  rw [ls_framed, rest_ls, htz, hnum, put_get2 _ hl2, ← hx, extract_ls, ← hnum, ← List.append_assoc]
  have e1 : List.drop (2 + numS s 0 0 2) (ls s) = List.drop (numS s 0 0 2) (List.drop 2 (ls s)) := by rw [List.drop_drop]
  rw [e1, List.append_assoc, List.take_append_drop, List.take_append_drop]
end Go.Proofs.YtpcaffimahapjaaGreat
