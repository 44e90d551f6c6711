/- limits.Chunks, plainly: where a text is cut, what the pieces are; what LimitsChunks says of them. -/
import Derived.Test.YtmkkjiogokfnmaaDoorMKit
namespace Go.Proofs.YtmkkjiogokfnmaaDoor
open Go.RowKit

/-- Is a place within a text of n bytes? -/
def plIn (n : Nat) (z : Int) : Bool := decide (0 ≤ z) && decide (z ≤ (n : Int))
def plL (n : Nat) (l : List Int) : List Int := (l.filter (plIn n)).mergeSort fun x y => decide (x ≤ y)
theorem le_tr : ∀ a b c : Int, decide (a ≤ b) = true → decide (b ≤ c) = true → decide (a ≤ c) = true := fun a b c h1 h2 => by
  simp only [decide_eq_true_eq] at *
  omega
theorem le_to : ∀ a b : Int, (decide (a ≤ b) || decide (b ≤ a)) = true := fun a b => by
  simp only [Bool.or_eq_true, decide_eq_true_eq]
  omega
theorem plL_asc (n : Nat) (l : List Int) : (plL n l).Pairwise fun a b => decide (a ≤ b) = true := List.pairwise_mergeSort le_tr le_to _
theorem plL_is {n : Nat} {l m : List Int} (h : (l.filter (plIn n)).Perm m) (hm : m.Pairwise fun a b => decide (a ≤ b) = true) : plL n l = m := by
  refine List.Perm.eq_of_pairwise (le := fun a b => decide (a ≤ b) = true) (fun a b _ _ h1 h2 => ?_) (plL_asc n l) hm ((List.mergeSort_perm _ _).trans h)
  simp only [decide_eq_true_eq] at h1 h2
  omega
theorem plL_perm {n : Nat} {l m : List Int} (h : l.Perm m) : plL n l = plL n m :=
  plL_is ((h.filter _).trans (List.mergeSort_perm _ _).symm) (plL_asc n m)
theorem plL_mem {n : Nat} {l : List Int} {z : Int} (h : z ∈ plL n l) : z ∈ l ∧ 0 ≤ z ∧ z ≤ (n : Int) := by
  have h1 := (List.mergeSort_perm _ _).mem_iff.1 h
  obtain ⟨h2, h3⟩ := List.mem_filter.1 h1
  simp only [plIn, Bool.and_eq_true, decide_eq_true_eq] at h3
  exact ⟨h2, h3⟩
theorem plL_len (n : Nat) (l : List Int) : (plL n l).length = (l.filter (plIn n)).length := (List.mergeSort_perm _ _).length_eq
theorem plL_short (n : Nat) (l : List Int) : (plL n l).length ≤ l.length := by
  rw [plL_len]
  exact List.length_filter_le _ _

/-- Places within a text, in order. -/
structure PlOk (n : Nat) (L : List Int) : Prop where
  rng : ∀ z ∈ L, 0 ≤ z ∧ z ≤ (n : Int)
  asc : L.Pairwise fun a b => decide (a ≤ b) = true
theorem plL_ok (n : Nat) (l : List Int) : PlOk n (plL n l) := ⟨fun _ h => (plL_mem h).2, plL_asc n l⟩

/-- Where piece i begins, ends. -/
def lkA (L : List Int) (i : Nat) : Nat := if i = 0 then 0 else (L.getD (i - 1) 0).toNat
def lkZ (L : List Int) (n i : Nat) : Nat := if i < L.length then (L.getD i 0).toNat else n
theorem lkA_zero (L : List Int) : lkA L 0 = 0 := if_pos rfl
theorem lkA_succ (L : List Int) (i : Nat) : lkA L (i + 1) = (L.getD i 0).toNat := by
  unfold lkA
  rw [if_neg (by omega), Nat.add_sub_cancel]
theorem lkZ_lt {L : List Int} {n i : Nat} (h : i < L.length) : lkZ L n i = lkA L (i + 1) := by
  unfold lkZ
  rw [if_pos h, lkA_succ]
theorem lkZ_end {L : List Int} {n i : Nat} (h : ¬ i < L.length) : lkZ L n i = n := if_neg h
theorem getD_of {L : List Int} {i : Nat} (h : i < L.length) : L.getD i 0 = L[i] := by
  simp [List.getD, List.getElem?_eq_getElem h]
theorem PlOk.at {n : Nat} {L : List Int} (x : PlOk n L) {i : Nat} (h : i < L.length) : ((lkA L (i + 1) : Nat) : Int) = L[i] ∧ lkA L (i + 1) ≤ n := by
  have := x.rng _ (List.getElem_mem h)
  rw [lkA_succ, getD_of h]
  omega
theorem PlOk.le {n : Nat} {L : List Int} (x : PlOk n L) {i : Nat} (h : i ≤ L.length) : lkA L i ≤ lkZ L n i ∧ lkZ L n i ≤ n := by
  rcases Nat.lt_or_ge i L.length with hi | hi
  · rw [lkZ_lt hi]
    refine ⟨?_, (x.at hi).2⟩
    rcases Nat.eq_zero_or_pos i with rfl | hp
    · rw [lkA_zero]; exact Nat.zero_le _
    · obtain ⟨k, rfl⟩ : ∃ k, i = k + 1 := ⟨i - 1, by omega⟩
      have h1 := (x.at (show k < L.length by omega)).1
      have h2 := (x.at hi).1
      have h3 : L[k]'(by omega) ≤ L[k + 1] := by
        have := List.pairwise_iff_getElem.1 x.asc k (k + 1) (by omega) hi (by omega)
        simpa using this
      omega
  · rw [lkZ_end (by omega)]
    refine ⟨?_, Nat.le_refl _⟩
    rcases Nat.eq_zero_or_pos i with rfl | hp
    · rw [lkA_zero]; exact Nat.zero_le _
    · obtain ⟨k, rfl⟩ : ∃ k, i = k + 1 := ⟨i - 1, by omega⟩
      exact (x.at (show k < L.length by omega)).2
/-- A text's pieces. -/
def lkS (s : ByteArray) (L : List Int) (i : Nat) : ByteArray := s.extract (lkA L i) (lkZ L s.size i)
def lkL (s : ByteArray) (L : List Int) : List ByteArray := (List.range (L.length + 1)).map (lkS s L)
theorem lkL_len (s : ByteArray) (L : List Int) : (lkL s L).length = L.length + 1 := by simp [lkL]
theorem lkL_at (s : ByteArray) (L : List Int) {i : Nat} (h : i < (lkL s L).length) : (lkL s L)[i] = lkS s L i := by simp [lkL]
theorem lkL_take (s : ByteArray) (L : List Int) (i : Nat) : (List.range (i + 1)).map (lkS s L) = (List.range i).map (lkS s L) ++ [lkS s L i] := by
  rw [List.range_succ, List.map_append]
  rfl
/-- The first i pieces, one after the other. -/
def lkAll (s : ByteArray) (L : List Int) (i : Nat) : ByteArray := s.extract 0 (if i ≤ L.length then lkA L i else s.size)
theorem cut_join {s : ByteArray} {a b : Nat} (h : a ≤ b) : s.extract 0 a ++ s.extract a b = s.extract 0 b := by
  have h1 : s.extract 0 a ++ s.extract a b = s.extract (min 0 a) (max a b) := ByteArray.extract_append_extract
  rw [Nat.zero_min, Nat.max_eq_right h] at h1
  exact h1
theorem lkAll_zero (s : ByteArray) (L : List Int) : lkAll s L 0 = ⟨#[]⟩ := by
  unfold lkAll
  rw [if_pos (Nat.zero_le _), lkA_zero]
  apply ByteArray.ext
  simp
theorem lkAll_step {s : ByteArray} {L : List Int} (x : PlOk s.size L) {i : Nat} (h : i ≤ L.length) : lkAll s L i ++ lkS s L i = lkAll s L (i + 1) := by
  have h1 := x.le h
  unfold lkAll lkS
  rw [if_pos h, cut_join h1.1]
  rcases Nat.lt_or_ge i L.length with hi | hi
  · rw [if_pos (by omega), lkZ_lt hi]
  · rw [if_neg (by omega), lkZ_end (by omega)]
theorem lkAll_size {s : ByteArray} {L : List Int} (x : PlOk s.size L) {i : Nat} (h : i < L.length) : ((lkAll s L (i + 1)).size : Int) = L[i] := by
  have h1 := x.at h
  unfold lkAll
  rw [if_pos (by omega), ByteArray.size_extract, Nat.min_eq_left h1.2, Nat.sub_zero]
  exact h1.1
theorem lkAll_le (s : ByteArray) (L : List Int) (i : Nat) : (lkAll s L i).size ≤ s.size := by
  unfold lkAll
  rw [ByteArray.size_extract]
  omega
theorem lkAll_end (s : ByteArray) (L : List Int) : lkAll s L (L.length + 1) = s := by
  unfold lkAll
  rw [if_neg (by omega)]
  apply ByteArray.ext
  simp
theorem lkS_le (s : ByteArray) (L : List Int) (i : Nat) : (lkS s L i).size ≤ s.size := by
  unfold lkS
  rw [ByteArray.size_extract]
  omega
/-- A list turned has the same places. -/
theorem turn_places (n k : Nat) (l : List Int) : plL n (l.drop k ++ l.take k) = plL n l :=
  plL_perm (List.perm_append_comm.trans (by rw [List.take_append_drop]))
/-- How many places a list has. -/
theorem count_step (n : Nat) (l : List Int) {i : Nat} (h : i < l.length) : ((l.take (i + 1)).filter (plIn n)).length = ((l.take i).filter (plIn n)).length + (if plIn n l[i] = true then 1 else 0) := by
  rw [List.take_succ_eq_append_getElem h, List.filter_append, List.length_append]
  congr 1
  cases hc : plIn n l[i] <;> simp [List.filter, hc]
/-- The chapter's example. -/
theorem example_lim : lkL ⟨#[97, 98, 99]⟩ (plL 3 [2, 0]) = [⟨#[]⟩, ⟨#[97, 98]⟩, ⟨#[99]⟩] := by
  rw [show plL 3 [2, 0] = [0, 2] from plL_is (List.Perm.swap _ _ _) (by decide)]
  decide +kernel
def txv (l : List ByteArray) : List Value := l.map Value.string
theorem txv_len (l : List ByteArray) : (txv l).length = l.length := by simp [txv]
theorem txv_snoc (l : List ByteArray) (x : ByteArray) : txv (l ++ [x]) = txv l ++ [.string x] := by simp [txv]
theorem txv_one (l : List ByteArray) : ∀ u ∈ txv l, u.oneCell' = true := by
  intro u hu
  obtain ⟨c, _, rfl⟩ := List.mem_map.1 hu
  rfl
theorem Rd.atT {w : World} {B n : Nat} {A : Option Addr} {l : List ByteArray} (h : Rd w B 1 A n (txv l)) {i : Nat} (hi : i < n) : ∃ b o z, A = some ⟨b, o, none⟩ ∧ b < B ∧ l[i]? = some z ∧ w.cell? ⟨b, o + i, none⟩ = some (.string z) := by
  obtain ⟨b, o, u, e, hb, hu, hc⟩ := h.at1 hi
  have hl : i < l.length := by have := h.len; simp [txv] at this; omega
  refine ⟨b, o, l[i], e, hb, List.getElem?_eq_getElem hl, ?_⟩
  have : u = .string l[i] := by simpa [txv, hl] using hu.symm
  rw [← this]; exact hc
end Go.Proofs.YtmkkjiogokfnmaaDoor
