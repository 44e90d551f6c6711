/-
  The registry in plain words: a client's topics by rising ids; the least free id; heaps as lists.
-/
import Derived.Test.YtjbpafkdbfbdlaaMKit

namespace Go.Proofs.Ytjbpafkdbfbdlaa
open Go.RowKit
/-- A topic that a client has. -/
structure Tp where
  id : Nat
  name : ByteArray
  fixed : Bool
/-- By rising ids. -/
def TpUp (l : List Tp) : Prop := l.Pairwise fun a b => a.id < b.id
/-- A topic put among others. -/
def tpIns (t : Tp) : List Tp → List Tp
  | [] => [t]
  | x :: l => if t.id < x.id then t :: x :: l else x :: tpIns t l
theorem mem_tpIns {t u : Tp} : ∀ {l : List Tp}, u ∈ tpIns t l ↔ u = t ∨ u ∈ l
  | [] => by simp [tpIns]
  | x :: l => by
    unfold tpIns
    split
    · simp
    · rw [List.mem_cons, mem_tpIns, List.mem_cons]
      constructor
      · rintro (h | h | h)
        · exact .inr (.inl h)
        · exact .inl h
        · exact .inr (.inr h)
      · rintro (h | h | h)
        · exact .inr (.inl h)
        · exact .inl h
        · exact .inr (.inr h)
theorem tpIns_length {t : Tp} : ∀ {l : List Tp}, (tpIns t l).length = l.length + 1
  | [] => rfl
  | x :: l => by
    unfold tpIns
    split
    · rfl
    · simp [tpIns_length]
theorem tpIns_up {t : Tp} : ∀ {l : List Tp}, TpUp l → (∀ x ∈ l, x.id ≠ t.id) → TpUp (tpIns t l)
  | [], _, _ => by simp [tpIns, TpUp]
  | x :: l, h, hn => by
    unfold TpUp at h
    rw [List.pairwise_cons] at h
    unfold tpIns
    split
    · rename_i hx
      unfold TpUp
      rw [List.pairwise_cons, List.pairwise_cons]
      refine ⟨fun y hy => ?_, h⟩
      rcases List.mem_cons.1 hy with rfl | hy
      · exact hx
      · exact Nat.lt_trans hx (h.1 y hy)
    · rename_i hx
      unfold TpUp
      rw [List.pairwise_cons]
      refine ⟨fun y hy => ?_, tpIns_up h.2 fun y hy => hn y (by simp [hy])⟩
      rcases mem_tpIns.1 hy with rfl | hy
      · have := hn x (by simp)
        omega
      · exact h.1 y hy
/-- The least id from f on that nobody has. -/
def frS : Nat → List Tp → Nat
  | f, [] => f
  | f, t :: l => frS (if t.id = f then f + 1 else f) l
theorem frS_spec : ∀ {l : List Tp} {f : Nat}, TpUp l → (∀ x ∈ l, f ≤ x.id) →
    (∀ x ∈ l, x.id ≠ frS f l) ∧ f ≤ frS f l ∧ ∀ i, f ≤ i → i < frS f l → ∃ x ∈ l, x.id = i
  | [], f, _, _ => ⟨fun x hx => absurd hx (by simp), Nat.le_refl _, fun i h1 h2 => by simp only [frS] at h2; omega⟩
  | t :: l, f, h, hf => by
    unfold TpUp at h
    rw [List.pairwise_cons] at h
    have ht := hf t (by simp)
    unfold frS
    by_cases e : t.id = f
    · rw [if_pos e]
      obtain ⟨a, b, c⟩ := frS_spec (l := l) (f := f + 1) h.2 (fun x hx => by have := h.1 x hx; omega)
      refine ⟨fun x hx => ?_, by omega, fun i h1 h2 => ?_⟩
      · rcases List.mem_cons.1 hx with rfl | hx
        · omega
        · exact a x hx
      · by_cases hi : i = f
        · exact ⟨t, by simp, by omega⟩
        · obtain ⟨x, hx, hi⟩ := c i (by omega) h2
          exact ⟨x, by simp [hx], hi⟩
    · rw [if_neg e]
      obtain ⟨a, b, c⟩ := frS_spec (l := l) (f := f) h.2 (fun x hx => by have := h.1 x hx; omega)
      have hr : frS f l = f := by
        refine Nat.le_antisymm (Nat.le_of_not_lt fun hlt => ?_) b
        obtain ⟨x, hx, hi⟩ := c f (Nat.le_refl _) hlt
        have := h.1 x hx
        omega
      rw [hr] at a ⊢
      refine ⟨fun x hx => ?_, Nat.le_refl _, fun i h1 h2 => by omega⟩
      rcases List.mem_cons.1 hx with rfl | hx
      · exact e
      · exact a x hx

/-! ### heaps -/
/-- Two places changed over. -/
def swp (f : Nat → Int) (i j : Nat) : Nat → Int := fun k => if k = i then f j else if k = j then f i else f k
/-- No one below n is less than the one above it. -/
def Heap (f : Nat → Int) (n : Nat) : Prop := ∀ k, 0 < k → k < n → f ((k - 1) / 2) ≤ f k
/-- .. but for those right below i; what is below i is no less than what is above i. -/
def HeapD (f : Nat → Int) (n i : Nat) : Prop :=
  (∀ k, 0 < k → k < n → (k - 1) / 2 ≠ i → f ((k - 1) / 2) ≤ f k) ∧ (0 < i → ∀ k, 0 < k → k < n → (k - 1) / 2 = i → f ((i - 1) / 2) ≤ f k)
/-- .. but for j itself; what is below j is no less than what is above j. -/
def HeapU (f : Nat → Int) (n j : Nat) : Prop :=
  (∀ k, 0 < k → k < n → k ≠ j → f ((k - 1) / 2) ≤ f k) ∧ (0 < j → ∀ k, 0 < k → k < n → (k - 1) / 2 = j → f ((j - 1) / 2) ≤ f k)
theorem Heap.least {f : Nat → Int} {n : Nat} (h : Heap f n) : ∀ k, k < n → f 0 ≤ f k
  | 0, _ => Int.le_refl _
  | k + 1, hk => by
    have h1 := h (k + 1) (by omega) hk
    have h2 := Heap.least h ((k + 1 - 1) / 2) (by omega)
    exact Int.le_trans h2 h1
/-- The step of 'down': c is the lesser one of those below i. -/
theorem HeapD.step {f : Nat → Int} {n i c : Nat} (h : HeapD f n i) (hc : (c - 1) / 2 = i) (c0 : 0 < c) (cn : c < n)
    (hl : ∀ k, 0 < k → k < n → (k - 1) / 2 = i → f c ≤ f k) (hi : f c < f i) : HeapD (swp f i c) n c := by
  have hic : i ≠ c := by omega
  constructor
  · intro k k0 kn hk
    by_cases e1 : (k - 1) / 2 = i
    · by_cases e2 : k = c
      · subst e2
        simp only [swp, e1, if_true, if_neg hic.symm]
        omega
      · have hki : k ≠ i := by omega
        simp only [swp, e1, if_true, if_neg hki, if_neg e2]
        exact hl k k0 kn e1
    · by_cases e2 : k = i
      · subst e2
        have hp : (k - 1) / 2 ≠ c := by omega
        simp only [swp, if_true, if_neg e1, if_neg hp]
        exact h.2 (by omega) c c0 cn hc
      · by_cases e3 : k = c
        · omega
        · simp only [swp, if_neg e1, if_neg hk, if_neg e2, if_neg e3]
          exact h.1 k k0 kn e1
  · intro _ k k0 kn hk
    have hki : k ≠ i := by omega
    have hkc : k ≠ c := by omega
    simp only [swp, hc, if_true, if_neg hki, if_neg hkc]
    have := h.1 k k0 kn (by omega)
    rw [hk] at this
    exact this
theorem HeapD.done {f : Nat → Int} {n i : Nat} (h : HeapD f n i) (hl : ∀ k, 0 < k → k < n → (k - 1) / 2 = i → f i ≤ f k) : Heap f n := by
  intro k k0 kn
  by_cases e : (k - 1) / 2 = i
  · rw [e]; exact hl k k0 kn e
  · exact h.1 k k0 kn e
/-- The step of 'up'. -/
theorem HeapU.step {f : Nat → Int} {n j : Nat} (h : HeapU f n j) (j0 : 0 < j) (jn : j < n) (hl : f j < f ((j - 1) / 2)) : HeapU (swp f ((j - 1) / 2) j) n ((j - 1) / 2) := by
  obtain ⟨i, hi⟩ : ∃ i, i = (j - 1) / 2 := ⟨_, rfl⟩
  rw [← hi] at hl ⊢
  have hij : i ≠ j := by omega
  constructor
  · intro k k0 kn hk
    by_cases e1 : (k - 1) / 2 = i
    · by_cases e2 : k = j
      · subst e2
        simp only [swp, e1, if_true, if_neg hij.symm]
        omega
      · simp only [swp, e1, if_true, if_neg hk, if_neg e2]
        have := h.1 k k0 kn e2
        rw [e1] at this
        omega
    · by_cases e2 : k = j
      · subst e2; omega
      · by_cases e3 : (k - 1) / 2 = j
        · simp only [swp, e3, if_true, if_neg hij.symm, if_neg hk, if_neg e2]
          rw [hi]
          exact h.2 j0 k k0 kn e3
        · simp only [swp, if_neg e1, if_neg e3, if_neg hk, if_neg e2]
          exact h.1 k k0 kn e2
  · intro i0 k k0 kn hk
    have hp1 : (i - 1) / 2 ≠ i := by omega
    have hp2 : (i - 1) / 2 ≠ j := by omega
    have hki : k ≠ i := by omega
    have ht := h.1 i i0 (by omega) hij
    by_cases e2 : k = j
    · subst e2
      simp only [swp, if_neg hp1, if_neg hp2, if_neg hij.symm, if_true]
      exact ht
    · simp only [swp, if_neg hp1, if_neg hp2, if_neg hki, if_neg e2]
      have := h.1 k k0 kn e2
      rw [hk] at this
      omega
theorem HeapU.done {f : Nat → Int} {n j : Nat} (h : HeapU f n j) (hl : 0 < j → j < n → f ((j - 1) / 2) ≤ f j) : Heap f n := by
  intro k k0 kn
  by_cases e : k = j
  · subst e; exact hl k0 kn
  · exact h.1 k k0 kn e
theorem swp_same {f : Nat → Int} {i : Nat} : swp f i i = f := by
  funext k
  unfold swp
  split
  · rename_i h; rw [h]
  · rfl
theorem swp_has {f : Nat → Int} {i j n : Nat} (hi : i < n) (hj : j < n) (x : Int) : (∃ k, k < n ∧ swp f i j k = x) ↔ ∃ k, k < n ∧ f k = x := by
  have key : ∀ (g : Nat → Int), (∃ k, k < n ∧ g k = x) → ∃ k, k < n ∧ swp g i j k = x := by
    rintro g ⟨k, hk, e⟩
    by_cases e1 : k = i
    · by_cases e2 : i = j
      · exact ⟨k, hk, by rw [e2, swp_same]; exact e⟩
      · exact ⟨j, hj, by unfold swp; rw [if_neg (fun h => e2 h.symm), if_pos rfl, ← e1]; exact e⟩
    · by_cases e2 : k = j
      · exact ⟨i, hi, by unfold swp; rw [if_pos rfl, ← e2]; exact e⟩
      · exact ⟨k, hk, by unfold swp; rw [if_neg e1, if_neg e2]; exact e⟩
  have twice : swp (swp f i j) i j = f := by
    funext k
    unfold swp
    by_cases e1 : k = i
    · subst e1
      by_cases e2 : j = k
      · subst e2; simp
      · simp [e2]
    · by_cases e2 : k = j
      · subst e2; simp [e1]
      · simp [e1, e2]
  exact ⟨fun h => by have := key _ h; rw [twice] at this; exact this, key f⟩
end Go.Proofs.Ytjbpafkdbfbdlaa
