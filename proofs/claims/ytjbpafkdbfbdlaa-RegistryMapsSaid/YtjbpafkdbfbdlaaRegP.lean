/-
  The registry in plain words: what least hands back; Register's and Predefine's ways.
-/
import Derived.Test.YtjbpafkdbfbdlaaRegO

namespace Go.Proofs.Ytjbpafkdbfbdlaa
open Go.RowKit
/-- What least hands back, and leaves. -/
def LeastOut (c : Cl) (r : Nat) (c' : Cl) : Prop :=
  c'.all = c.all ∧ ((r = 0 ∧ 65534 < frS 1 c.all ∧ ClOk c') ∨
    (r = frS 1 c.all ∧ 1 ≤ r ∧ r ≤ 65534 ∧ (∀ x ∈ c.all, x.id ≠ r) ∧ ∀ n : ByteArray, (∀ x ∈ c.all, x.name ≠ n) → ClOk { c' with all := tpIns ⟨r, n, false⟩ c'.all }))
theorem LeastOut.pop {c : Cl} (h : ClOk c) {m : Nat} {b' : List Nat} (p : Popped c.back m b') (hm : ∀ t ∈ c.all, t.id ≠ m) : LeastOut c m { c with back := b' } := by
  have hb := h.had m p.here
  have h2 := h.n2
  refine ⟨rfl, .inr ⟨?_, hb.1, by omega, hm, fun n hn => (h.take p hm hn).2.2⟩⟩
  refine (frS_eq h.up (fun t ht => (h.ids t ht).1) hb.1 hm fun i h1 hi => ?_).symm
  apply Classical.byContradiction
  intro hno
  have := p.low i (h.free i h1 (by omega) fun t ht e => hno ⟨t, ht, e⟩)
  omega
theorem LeastOut.first {c : Cl} (h : ClOk c) (hb : c.back = []) (hn : c.next ≤ 65534) (hm : ∀ t ∈ c.all, t.id ≠ c.next) : LeastOut c c.next { c with next := c.next + 1 } := by
  refine ⟨rfl, .inr ⟨?_, h.n1, hn, hm, fun n hno => (h.first hb hn hm hno).2⟩⟩
  refine (frS_eq h.up (fun t ht => (h.ids t ht).1) h.n1 hm fun i h1 hi => ?_).symm
  apply Classical.byContradiction
  intro hno
  have := h.free i h1 hi fun t ht e => hno ⟨t, ht, e⟩
  rw [hb] at this
  cases this
theorem LeastOut.full {c : Cl} (h : ClOk c) (hb : c.back = []) (hn : ¬ c.next ≤ 65534) : LeastOut c 0 c := ⟨rfl, .inl ⟨rfl, h.full hb hn, h⟩⟩
theorem LeastOut.behind {c c1 c' : Cl} {r : Nat} (e : c1.all = c.all) (h : LeastOut c1 r c') : LeastOut c r c' := by
  unfold LeastOut at *
  rw [e] at h
  exact h
/-- Register's ways. -/
theorem rfReg_bad {L : Rg} {c n : ByteArray} (h : nameB n = false) : rfReg L c n = ((0, false, 10), L) := by
  unfold rfReg
  rw [if_pos h]
theorem rfReg_hit {L : Rg} {c n : ByteArray} {t : Tp} (h : nameB n = true) (ht : tpOf (rgT L c) n = some t) : rfReg L c n = ((t.id, false, 0), L) := by
  unfold rfReg
  rw [if_neg (by rw [h]; decide), ht]
theorem rfReg_full {L : Rg} {c n : ByteArray} (h : nameB n = true) (ht : tpOf (rgT L c) n = none) (hf : 65534 < frS 1 (rgT L c)) : rfReg L c n = ((0, false, 12), L) := by
  unfold rfReg
  rw [if_neg (by rw [h]; decide), ht]
  simp only
  rw [if_pos hf]
theorem rfReg_new {L : Rg} {c n : ByteArray} (h : nameB n = true) (ht : tpOf (rgT L c) n = none) (hf : frS 1 (rgT L c) ≤ 65534) :
    rfReg L c n = ((frS 1 (rgT L c), true, 0), rgSet L c (tpIns ⟨frS 1 (rgT L c), n, false⟩ (rgT L c))) := by
  unfold rfReg
  rw [if_neg (by rw [h]; decide), ht]
  simp only
  rw [if_neg (by omega)]
/-- Predefine's ways. -/
theorem rfPre_bad {L : Rg} {c n : ByteArray} {i : Int} (h : nameB n = false) : rfPre L c n i = (10, L) := by
  unfold rfPre
  rw [if_pos h]
theorem rfPre_arg {L : Rg} {c n : ByteArray} {i : Int} (h : nameB n = true) (hi : i < 1 ∨ 65534 < i) : rfPre L c n i = (2, L) := by
  unfold rfPre
  rw [if_neg (by rw [h]; decide), if_pos hi]
theorem rfPre_had {L : Rg} {c n : ByteArray} {i : Int} (h : nameB n = true) (hi : ¬ (i < 1 ∨ 65534 < i)) {t : Tp} (ht : tpAt (rgT L c) i = some t) (hn : t.name = n) (hf : t.fixed = true) : rfPre L c n i = (0, L) := by
  obtain ⟨a, b⟩ := tpAt_some ht
  unfold rfPre
  rw [if_neg (by rw [h]; decide), if_neg hi, if_pos]
  rw [List.any_eq_true]
  exact ⟨t, a, by simpa using ⟨b, hn, hf⟩⟩
theorem rfPre_twice {L : Rg} (hL : RgOk L) {c n : ByteArray} {i : Int} (h : nameB n = true) (hi : ¬ (i < 1 ∨ 65534 < i)) (hno : ∀ t, tpAt (rgT L c) i = some t → ¬ (t.name = n ∧ t.fixed = true))
    (hx : (tpAt (rgT L c) i).isSome = true ∨ (tpOf (rgT L c) n).isSome = true) : rfPre L c n i = (16, L) := by
  unfold rfPre
  rw [if_neg (by rw [h]; decide), if_neg hi, if_neg, if_pos]
  · rw [List.any_eq_true]
    rcases hx with hx | hx
    · obtain ⟨t, ht⟩ := Option.isSome_iff_exists.1 hx
      obtain ⟨a, b⟩ := tpAt_some ht
      exact ⟨t, a, decide_eq_true (.inl b)⟩
    · obtain ⟨t, ht⟩ := Option.isSome_iff_exists.1 hx
      obtain ⟨a, b⟩ := tpOf_some ht
      exact ⟨t, a, decide_eq_true (.inr b)⟩
  · rw [List.any_eq_true]
    rintro ⟨t, a, b⟩
    simp only [decide_eq_true_eq] at b
    have h1 := tpAt_of (hL.tops c).up a
    rw [b.1] at h1
    exact hno t h1 b.2
theorem rfPre_new {L : Rg} {c n : ByteArray} {i : Int} (h : nameB n = true) (hi : ¬ (i < 1 ∨ 65534 < i)) (h1 : tpAt (rgT L c) i = none) (h2 : tpOf (rgT L c) n = none) :
    rfPre L c n i = (0, rgSet L c (tpIns ⟨i.toNat, n, true⟩ (rgT L c))) := by
  unfold rfPre
  rw [if_neg (by rw [h]; decide), if_neg hi, if_neg, if_neg]
  · rw [List.any_eq_true]
    rintro ⟨t, a, b⟩
    simp only [decide_eq_true_eq] at b
    rcases b with b | b
    · exact tpAt_none h1 t a b
    · exact tpOf_none h2 t a b
  · rw [List.any_eq_true]
    rintro ⟨t, a, b⟩
    simp only [decide_eq_true_eq] at b
    exact tpAt_none h1 t a b.1
end Go.Proofs.Ytjbpafkdbfbdlaa
