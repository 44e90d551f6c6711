/-
  The registry in plain words: what the laws on maps and clients ask of the calls.
-/
import Derived.Test.YtjbpafkdbfbdlaaRegE

namespace Go.Proofs.Ytjbpafkdbfbdlaa
open Go.RowKit
/-- Every name is one of a topic. -/
def RgNm (L : Rg) : Prop := ∀ x ∈ L, ∀ t ∈ x.2, nameB t.name = true
theorem RgNm.new : RgNm [] := fun _ h => by cases h
theorem RgNm.tops {L : Rg} (h : RgNm L) (c : ByteArray) : ∀ t ∈ rgT L c, nameB t.name = true := by
  unfold rgT
  cases e : kvAt c L with
  | none => intro t ht; cases ht
  | some l => exact h _ (kvAt_mem e)
theorem RgNm.set {L : Rg} (h : RgNm L) {c : ByteArray} {l : List Tp} (hl : ∀ t ∈ l, nameB t.name = true) : RgNm (rgSet L c l) := by
  unfold rgSet
  by_cases e : l = []
  · rw [if_pos e]
    exact fun x hx => h x (mem_kvDel.1 hx).1
  · rw [if_neg e]
    intro x hx
    rcases mem_kvPut.1 hx with rfl | hx
    · exact hl
    · exact h x hx.1
theorem RgNm.reg {L : Rg} (h : RgNm L) (c n : ByteArray) : RgNm (rfReg L c n).2 := by
  unfold rfReg
  by_cases h0 : nameB n = false
  · rw [if_pos h0]; exact h
  · rw [if_neg h0]
    cases e : tpOf (rgT L c) n with
    | some t => exact h
    | none =>
      simp only
      by_cases h1 : 65534 < frS 1 (rgT L c)
      · rw [if_pos h1]; exact h
      · rw [if_neg h1]
        refine h.set fun t ht => ?_
        rcases mem_tpIns.1 ht with rfl | ht
        · simpa using h0
        · exact h.tops c t ht
theorem RgNm.pre {L : Rg} (h : RgNm L) (c n : ByteArray) (i : Int) : RgNm (rfPre L c n i).2 := by
  unfold rfPre
  by_cases h0 : nameB n = false
  · rw [if_pos h0]; exact h
  · rw [if_neg h0]
    split
    · exact h
    · split
      · exact h
      · split
        · exact h
        · refine h.set fun t ht => ?_
          rcases mem_tpIns.1 ht with rfl | ht
          · simpa using h0
          · exact h.tops c t ht
theorem RgNm.clr {L : Rg} (h : RgNm L) (c : ByteArray) : RgNm (rfClr L c).2 := h.set fun t ht => h.tops c t (List.mem_filter.1 ht).1
/-- A call with an error changes nothing. -/
theorem rfReg_err {L : Rg} {c n : ByteArray} (h : (rfReg L c n).1.2.2 ≠ 0) : (rfReg L c n).2 = L ∧ (rfReg L c n).1.2.1 = false ∧ (rfReg L c n).1.1 = 0 := by
  unfold rfReg at h ⊢
  by_cases h0 : nameB n = false
  · rw [if_pos h0]; exact ⟨rfl, rfl, rfl⟩
  · rw [if_neg h0] at h ⊢
    cases e : tpOf (rgT L c) n with
    | some t => rw [e] at h; exact absurd rfl h
    | none =>
      rw [e] at h
      simp only at h ⊢
      by_cases h1 : 65534 < frS 1 (rgT L c)
      · rw [if_pos h1]; exact ⟨rfl, rfl, rfl⟩
      · rw [if_neg h1] at h; exact absurd rfl h
theorem rfPre_err {L : Rg} {c n : ByteArray} {i : Int} (h : (rfPre L c n i).1 ≠ 0) : (rfPre L c n i).2 = L := by
  unfold rfPre at h ⊢
  by_cases h0 : nameB n = false
  · rw [if_pos h0]
  · rw [if_neg h0] at h ⊢
    split
    · rfl
    · split
      · rfl
      · split
        · rfl
        · rename_i h1 h2 h3
          rw [if_neg h1, if_neg h2, if_neg h3] at h
          exact absurd rfl h
/-- How many topics there are at most. -/
theorem rfReg_len {L : Rg} {c n d : ByteArray} {k : Nat} (h : (rgT L d).length ≤ k) : (rgT (rfReg L c n).2 d).length ≤ k + 1 := by
  unfold rfReg
  by_cases h0 : nameB n = false
  · rw [if_pos h0]; exact Nat.le_succ_of_le h
  · rw [if_neg h0]
    cases e : tpOf (rgT L c) n with
    | some t => exact Nat.le_succ_of_le h
    | none =>
      simp only
      by_cases h1 : 65534 < frS 1 (rgT L c)
      · rw [if_pos h1]; exact Nat.le_succ_of_le h
      · rw [if_neg h1]
        by_cases hd : d = c
        · subst hd; rw [rgT_set, tpIns_length]; omega
        · rw [rgT_other hd]; omega
theorem rfPre_len {L : Rg} {c n d : ByteArray} {i : Int} {k : Nat} (h : (rgT L d).length ≤ k) : (rgT (rfPre L c n i).2 d).length ≤ k + 1 := by
  unfold rfPre
  by_cases h0 : nameB n = false
  · rw [if_pos h0]; exact Nat.le_succ_of_le h
  · rw [if_neg h0]
    split
    · exact Nat.le_succ_of_le h
    · split
      · exact Nat.le_succ_of_le h
      · split
        · exact Nat.le_succ_of_le h
        · by_cases hd : d = c
          · subst hd; rw [rgT_set, tpIns_length]; omega
          · rw [rgT_other hd]; omega
theorem rfClr_len {L : Rg} {c d : ByteArray} {k : Nat} (h : (rgT L d).length ≤ k) : (rgT (rfClr L c).2 d).length ≤ k := by
  unfold rfClr
  by_cases hd : d = c
  · subst hd
    rw [rgT_set]
    exact Nat.le_trans (List.length_filter_le _ _) h
  · rw [rgT_other hd]; exact h
/-- Other clients are not affected. -/
theorem rfReg_other {L : Rg} {c n d : ByteArray} (hd : d ≠ c) : rgT (rfReg L c n).2 d = rgT L d := by
  unfold rfReg
  by_cases h0 : nameB n = false
  · rw [if_pos h0]
  · rw [if_neg h0]
    cases e : tpOf (rgT L c) n with
    | some t => rfl
    | none =>
      simp only
      by_cases h1 : 65534 < frS 1 (rgT L c)
      · rw [if_pos h1]
      · rw [if_neg h1, rgT_other hd]
theorem rfPre_other {L : Rg} {c n d : ByteArray} {i : Int} (hd : d ≠ c) : rgT (rfPre L c n i).2 d = rgT L d := by
  unfold rfPre
  by_cases h0 : nameB n = false
  · rw [if_pos h0]
  · rw [if_neg h0]
    split
    · rfl
    · split
      · rfl
      · split
        · rfl
        · rw [rgT_other hd]
theorem rfClr_other {L : Rg} {c d : ByteArray} (hd : d ≠ c) : rgT (rfClr L c).2 d = rgT L d := by
  unfold rfClr
  rw [rgT_other hd]
/-- The answer hangs on the client's own topics alone; so does what they are then. -/
theorem rfReg_own {L M : Rg} {c n : ByteArray} (h : rgT L c = rgT M c) : (rfReg L c n).1 = (rfReg M c n).1 ∧ rgT (rfReg L c n).2 c = rgT (rfReg M c n).2 c := by
  unfold rfReg
  rw [h]
  by_cases h0 : nameB n = false
  · rw [if_pos h0, if_pos h0]; exact ⟨rfl, h⟩
  · rw [if_neg h0, if_neg h0]
    cases e : tpOf (rgT M c) n with
    | some t => exact ⟨rfl, h⟩
    | none =>
      simp only
      by_cases h1 : 65534 < frS 1 (rgT M c)
      · rw [if_pos h1, if_pos h1]; exact ⟨rfl, h⟩
      · rw [if_neg h1, if_neg h1, rgT_set, rgT_set]; exact ⟨rfl, rfl⟩
theorem rfPre_own {L M : Rg} {c n : ByteArray} {i : Int} (h : rgT L c = rgT M c) : (rfPre L c n i).1 = (rfPre M c n i).1 ∧ rgT (rfPre L c n i).2 c = rgT (rfPre M c n i).2 c := by
  unfold rfPre
  rw [h]
  by_cases h0 : nameB n = false
  · rw [if_pos h0, if_pos h0]; exact ⟨rfl, h⟩
  · rw [if_neg h0, if_neg h0]
    by_cases h1 : i < 1 ∨ 65534 < i
    · rw [if_pos h1, if_pos h1]; exact ⟨rfl, h⟩
    · rw [if_neg h1, if_neg h1]
      by_cases h2 : (rgT M c).any (fun t => decide ((t.id : Int) = i ∧ t.name = n ∧ t.fixed = true)) = true
      · rw [if_pos h2, if_pos h2]; exact ⟨rfl, h⟩
      · rw [if_neg h2, if_neg h2]
        by_cases h3 : (rgT M c).any (fun t => decide ((t.id : Int) = i ∨ t.name = n)) = true
        · rw [if_pos h3, if_pos h3]; exact ⟨rfl, h⟩
        · rw [if_neg h3, if_neg h3, rgT_set, rgT_set]; exact ⟨rfl, rfl⟩
theorem rfClr_own {L M : Rg} {c : ByteArray} (h : rgT L c = rgT M c) : (rfClr L c).1 = (rfClr M c).1 ∧ rgT (rfClr L c).2 c = rgT (rfClr M c).2 c := by
  unfold rfClr
  rw [h, rgT_set, rgT_set]
  exact ⟨rfl, rfl⟩
/-- What is there is found. -/
theorem rfName_in {L : Rg} (h : RgOk L) {c : ByteArray} {t : Tp} (ht : t ∈ rgT L c) : rfName L c (t.id : Int) = (t.name, 0) := by
  unfold rfName
  rw [tpAt_of (h.tops c).up ht]
theorem rfFix_in {L : Rg} (h : RgOk L) {c : ByteArray} {t : Tp} (ht : t ∈ rgT L c) : rfFix L c (t.id : Int) = t.fixed := by
  unfold rfFix
  rw [tpAt_of (h.tops c).up ht]
theorem rfID_in {L : Rg} (h : RgOk L) {c : ByteArray} {t : Tp} (ht : t ∈ rgT L c) : rfID L c t.name = ((t.id : Int), 0) := by
  unfold rfID
  rw [tpOf_of ht fun u hu e => (h.tops c).names t ht u hu e]
/-- Register: a name keeps its id, a new one gets the least free one. -/
theorem rfReg_name {L : Rg} (h : RgOk L) {c n : ByteArray} (hk : (rgT L c).length ≤ 1000) : ((rfReg L c n).1.2.2 = 0 ↔ nameB n = true) ∧
    (∀ t ∈ rgT L c, t.name = n → (rfReg L c n).1.2.2 = 0 → (rfReg L c n).1.2.1 = false ∧ (rfReg L c n).1.1 = t.id) ∧ ((rfReg L c n).1.2.1 = true → (rfReg L c n).1.1 = frS 1 (rgT L c)) := by
  have hf := frS_le (l := rgT L c) (f := 1)
  unfold rfReg
  by_cases h0 : nameB n = false
  · rw [if_pos h0, h0]
    exact ⟨by simp, fun t ht e => by simp, by simp⟩
  · rw [if_neg h0]
    have h1 : nameB n = true := by simpa using h0
    cases e : tpOf (rgT L c) n with
    | some t =>
      obtain ⟨a, b⟩ := tpOf_some e
      refine ⟨by simp [h1], fun u hu eu _ => ⟨rfl, ?_⟩, by simp⟩
      show t.id = u.id
      rw [(h.tops c).names u hu t a (eu.trans b.symm)]
    | none =>
      simp only
      rw [if_neg (by omega)]
      exact ⟨by simp [h1], fun u hu eu => absurd eu (tpOf_none e u hu), fun _ => rfl⟩
end Go.Proofs.Ytjbpafkdbfbdlaa
