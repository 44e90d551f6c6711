/-
  The registry in plain words: a heap in a list: what Push and Pop leave.
-/
import Derived.Test.YtjbpafkdbfbdlaaRegB

namespace Go.Proofs.Ytjbpafkdbfbdlaa
open Go.RowKit
/-- Two changed over in a list. -/
def swpL (l : List Nat) (i j : Nat) : List Nat := (l.set i (l.getD j 0)).set j (l.getD i 0)
theorem swpL_len (l : List Nat) (i j : Nat) : (swpL l i j).length = l.length := by simp [swpL]
theorem bk_swpL {l : List Nat} {i j : Nat} (hi : i < l.length) (hj : j < l.length) : bk (swpL l i j) = swp (bk l) i j := by
  funext k
  unfold bk swp swpL
  simp only [List.getD_eq_getElem?_getD, List.getElem?_set, List.length_set]
  by_cases e1 : j = k
  · subst e1
    rw [if_pos rfl, if_pos hj]
    by_cases e2 : j = i
    · subst e2
      rw [if_pos rfl]
      simp
    · rw [if_neg e2, if_pos rfl]
      simp
  · rw [if_neg e1]
    by_cases e2 : i = k
    · subst e2
      rw [if_pos rfl, if_pos hi, if_pos rfl]
      simp
    · rw [if_neg e2, if_neg (Ne.symm e2), if_neg (Ne.symm e1)]
/-- The first n in another order, the others as they were. -/
structure Mix (n : Nat) (l l2 : List Nat) : Prop where
  len : l2.length = l.length
  over : ∀ k, n ≤ k → bk l2 k = bk l k
  same : ∀ x : Int, (∃ k, k < n ∧ bk l2 k = x) ↔ ∃ k, k < n ∧ bk l k = x
theorem Mix.refl (n : Nat) (l : List Nat) : Mix n l l := ⟨rfl, fun _ _ => rfl, fun _ => Iff.rfl⟩
theorem Mix.swp {n : Nat} {l l2 : List Nat} (h : Mix n l l2) {i j : Nat} (hi : i < n) (hj : j < n) (hn : n ≤ l.length) : Mix n l (swpL l2 i j) := by
  have hl := h.len
  have hb := bk_swpL (l := l2) (i := i) (j := j) (by omega) (by omega)
  refine ⟨by rw [swpL_len, hl], fun k hk => ?_, fun x => ?_⟩
  · rw [hb]
    unfold Go.Proofs.Ytjbpafkdbfbdlaa.swp
    rw [if_neg (by omega), if_neg (by omega)]
    exact h.over k hk
  · rw [hb, swp_has hi hj]
    exact h.same x
theorem bk_mem {l : List Nat} {x : Nat} : x ∈ l ↔ ∃ k, k < l.length ∧ bk l k = (x : Int) := by
  rw [List.mem_iff_getElem]
  unfold bk
  constructor
  · rintro ⟨k, hk, rfl⟩
    exact ⟨k, hk, by simp [hk]⟩
  · rintro ⟨k, hk, e⟩
    refine ⟨k, hk, ?_⟩
    rw [List.getD_eq_getElem?_getD, List.getElem?_eq_getElem hk] at e
    exact Int.ofNat_inj.1 e
theorem bk_take {l : List Nat} {n k : Nat} (h : k < n) : bk (l.take n) k = bk l k := by
  unfold bk
  rw [List.getD_eq_getElem?_getD, List.getD_eq_getElem?_getD, List.getElem?_take, if_pos h]
/-- Pop: the last one goes to the front, and is let down. -/
theorem HeapD.of_heap {b : List Nat} {n : Nat} (hb : b.length = n + 1) (hh : Heap (bk b) (n + 1)) : HeapD (bk (swpL b 0 n)) n 0 := by
  rw [bk_swpL (by omega) (by omega)]
  refine ⟨fun k k0 kn hk => ?_, fun h => absurd h (by omega)⟩
  unfold Go.Proofs.Ytjbpafkdbfbdlaa.swp
  rw [if_neg hk, if_neg (by omega), if_neg (by omega), if_neg (by omega)]
  exact hh k k0 (by omega)
theorem Popped.of {b b2 : List Nat} {n : Nat} (hb : b.length = n + 1) (hh : Heap (bk b) (n + 1)) (hm : Mix n (swpL b 0 n) b2) (h2 : Heap (bk b2) n) :
    b2.length = n + 1 ∧ b2.getD n 0 = b.getD 0 0 ∧ Popped b (b.getD 0 0) (b2.take n) := by
  have hl : b2.length = n + 1 := by rw [hm.len, swpL_len, hb]
  have hs := bk_swpL (l := b) (i := 0) (j := n) (by omega) (by omega)
  have hlast : bk b2 n = bk b 0 := by
    rw [hm.over n (Nat.le_refl _), hs]
    unfold Go.Proofs.Ytjbpafkdbfbdlaa.swp
    by_cases e : n = 0
    · rw [if_pos e, e]
    · rw [if_neg e, if_pos rfl]
  have ht : (b2.take n).length = n := by rw [List.length_take]; omega
  have hin : ∀ x : Nat, x ∈ b2.take n ↔ ∃ k, k < n ∧ swp (bk b) 0 n k = (x : Int) := by
    intro x
    rw [bk_mem, ht, ← hs, ← hm.same]
    constructor
    · rintro ⟨k, hk, e⟩
      exact ⟨k, hk, by rw [← bk_take (l := b2) hk]; exact e⟩
    · rintro ⟨k, hk, e⟩
      exact ⟨k, hk, by rw [bk_take hk]; exact e⟩
  have h0 : ((b.getD 0 0 : Nat) : Int) = bk b 0 := rfl
  refine ⟨hl, Int.ofNat_inj.1 hlast, ?_⟩
  refine ⟨by rw [ht, hb], ?_, fun x hx => ?_, fun x hx => ?_, ?_, fun x hx => ?_⟩
  · rw [ht]
    intro k k0 kn
    rw [bk_take kn, bk_take (by omega)]
    exact h2 k k0 kn
  · obtain ⟨k, hk, e⟩ := bk_mem.1 hx
    rw [hb] at hk
    by_cases e0 : k = 0
    · subst e0
      exact .inl (Int.ofNat_inj.1 e.symm)
    · refine .inr ((hin x).2 ?_)
      by_cases en : k = n
      · subst en
        exact ⟨0, by omega, by unfold Go.Proofs.Ytjbpafkdbfbdlaa.swp; rw [if_pos rfl]; exact e⟩
      · exact ⟨k, by omega, by unfold Go.Proofs.Ytjbpafkdbfbdlaa.swp; rw [if_neg e0, if_neg en]; exact e⟩
  · obtain ⟨k, hk, e⟩ := (hin x).1 hx
    rw [bk_mem, hb]
    unfold Go.Proofs.Ytjbpafkdbfbdlaa.swp at e
    by_cases e0 : k = 0
    · rw [if_pos e0] at e
      exact ⟨n, by omega, e⟩
    · rw [if_neg e0, if_neg (by omega)] at e
      exact ⟨k, by omega, e⟩
  · rw [bk_mem]
    exact ⟨0, by omega, rfl⟩
  · obtain ⟨k, hk, e⟩ := bk_mem.1 hx
    have := hh.least k (by omega)
    rw [e, ← h0] at this
    omega
/-- Push: one more behind the last, and up with it. -/
theorem bk_app {b : List Nat} {x k : Nat} : bk (b ++ [x]) k = if k = b.length then (x : Int) else bk b k := by
  unfold bk
  rw [List.getD_eq_getElem?_getD, List.getD_eq_getElem?_getD]
  by_cases e : k = b.length
  · rw [if_pos e, e, List.getElem?_concat_length]
    rfl
  · rw [if_neg e]
    by_cases h : k < b.length
    · rw [List.getElem?_append_left h]
    · rw [List.getElem?_eq_none (by rw [List.length_append, List.length_singleton]; omega), List.getElem?_eq_none (by omega)]
theorem HeapU.of_heap {b : List Nat} {x : Nat} (hh : Heap (bk b) b.length) : HeapU (bk (b ++ [x])) (b.length + 1) b.length := by
  refine ⟨fun k k0 kn hk => ?_, fun _ k k0 kn hk => by omega⟩
  rw [bk_app, bk_app, if_neg (by omega), if_neg hk]
  exact hh k k0 (by omega)
theorem Pushed.of {b b2 : List Nat} {x : Nat} (hm : Mix (b.length + 1) (b ++ [x]) b2) (h2 : Heap (bk b2) (b.length + 1)) : Pushed b x b2 := by
  have hl : b2.length = b.length + 1 := by rw [hm.len, List.length_append, List.length_singleton]
  refine ⟨hl, by rw [hl]; exact h2, fun y => ?_⟩
  rw [bk_mem, hl, hm.same]
  constructor
  · rintro ⟨k, hk, e⟩
    rw [bk_app] at e
    by_cases ek : k = b.length
    · rw [if_pos ek] at e
      exact .inl (Int.ofNat_inj.1 e.symm)
    · rw [if_neg ek] at e
      exact .inr (bk_mem.2 ⟨k, by omega, e⟩)
  · rintro (rfl | hy)
    · exact ⟨b.length, by omega, by rw [bk_app, if_pos rfl]⟩
    · obtain ⟨k, hk, e⟩ := bk_mem.1 hy
      exact ⟨k, by omega, by rw [bk_app, if_neg (by omega)]; exact e⟩
end Go.Proofs.Ytjbpafkdbfbdlaa
