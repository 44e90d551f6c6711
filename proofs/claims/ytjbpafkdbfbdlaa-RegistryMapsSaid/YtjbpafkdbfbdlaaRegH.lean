/-
  The registry in plain words: as many names as there are ids.
-/
import Derived.Test.YtjbpafkdbfbdlaaRegG

namespace Go.Proofs.Ytjbpafkdbfbdlaa
open Go.RowKit
/-- The last n ids, predefined; the first k ids, registered. -/
def fixT (n : Nat) : List Tp := (List.range n).map fun j => ⟨65534 - n + 1 + j, prS (n - 1 - j), true⟩
def regT (k : Nat) : List Tp := (List.range k).map fun i => ⟨i + 1, nmS (i + 1), false⟩
def fullT (n k : Nat) : List Tp := regT k ++ fixT n
theorem mem_fixT {n : Nat} {t : Tp} : t ∈ fixT n ↔ ∃ j, j < n ∧ t = ⟨65534 - n + 1 + j, prS (n - 1 - j), true⟩ := by
  unfold fixT
  rw [List.mem_map]
  constructor
  · rintro ⟨j, hj, rfl⟩
    exact ⟨j, List.mem_range.1 hj, rfl⟩
  · rintro ⟨j, hj, rfl⟩
    exact ⟨j, List.mem_range.2 hj, rfl⟩
theorem mem_regT {k : Nat} {t : Tp} : t ∈ regT k ↔ ∃ i, i < k ∧ t = ⟨i + 1, nmS (i + 1), false⟩ := by
  unfold regT
  rw [List.mem_map]
  constructor
  · rintro ⟨j, hj, rfl⟩
    exact ⟨j, List.mem_range.1 hj, rfl⟩
  · rintro ⟨j, hj, rfl⟩
    exact ⟨j, List.mem_range.2 hj, rfl⟩
theorem fixT_succ {n : Nat} (h : n < 65534) : fixT (n + 1) = ⟨65534 - n, prS n, true⟩ :: fixT n := by
  unfold fixT
  rw [List.range_succ_eq_map, List.map_cons, List.map_map]
  congr 1
  · simp
    omega
  · apply List.map_congr_left
    intro j _
    simp only [Function.comp]
    rw [show 65534 - (n + 1) + 1 + j.succ = 65534 - n + 1 + j by omega, show n + 1 - 1 - j.succ = n - 1 - j by omega]
theorem regT_succ (k : Nat) : regT (k + 1) = regT k ++ [⟨k + 1, nmS (k + 1), false⟩] := by
  unfold regT
  rw [List.range_succ, List.map_append]
  rfl
theorem tpIns_app {t : Tp} : ∀ {a b : List Tp}, (∀ x ∈ a, ¬ t.id < x.id) → (∀ x ∈ b, t.id < x.id) → tpIns t (a ++ b) = a ++ t :: b
  | [], [], _, _ => rfl
  | [], x :: b, _, h => by
    show tpIns t (x :: b) = t :: x :: b
    rw [tpIns, if_pos (h x (by simp))]
  | x :: a, b, h, h2 => by
    show tpIns t (x :: (a ++ b)) = x :: (a ++ t :: b)
    rw [tpIns, if_neg (h x (by simp)), tpIns_app (fun y hy => h y (by simp [hy])) h2]
theorem regT_up : ∀ k, TpUp (regT k)
  | 0 => by simp [regT, TpUp]
  | k + 1 => by
    rw [regT_succ]
    unfold TpUp
    rw [List.pairwise_append]
    refine ⟨regT_up k, by simp, fun x hx y hy => ?_⟩
    obtain ⟨i, hi, rfl⟩ := mem_regT.1 hx
    rw [List.mem_singleton] at hy
    subst hy
    show i + 1 < k + 1
    omega
theorem fixT_up : ∀ n, n ≤ 20 → TpUp (fixT n)
  | 0, _ => by simp [fixT, TpUp]
  | n + 1, h => by
    rw [fixT_succ (by omega)]
    unfold TpUp
    rw [List.pairwise_cons]
    refine ⟨fun x hx => ?_, fixT_up n (by omega)⟩
    obtain ⟨j, hj, rfl⟩ := mem_fixT.1 hx
    show 65534 - n < 65534 - n + 1 + j
    omega
theorem fullT_up {n k : Nat} (hn : n ≤ 20) (hk : k ≤ 65534 - n) : TpUp (fullT n k) := by
  unfold fullT TpUp
  rw [List.pairwise_append]
  refine ⟨regT_up k, fixT_up n hn, fun x hx y hy => ?_⟩
  obtain ⟨i, hi, rfl⟩ := mem_regT.1 hx
  obtain ⟨j, hj, rfl⟩ := mem_fixT.1 hy
  show i + 1 < 65534 - n + 1 + j
  omega
theorem fullT_len (n k : Nat) : (fullT n k).length = k + n := by simp [fullT, regT, fixT]
theorem fullT_ids {n k : Nat} (hn : n ≤ 20) (hk : k ≤ 65534 - n) : ∀ t ∈ fullT n k, 1 ≤ t.id ∧ t.id ≤ 65534 := by
  intro t ht
  rcases List.mem_append.1 ht with ht | ht
  · obtain ⟨i, hi, rfl⟩ := mem_regT.1 ht
    exact ⟨by show 1 ≤ i + 1; omega, by show i + 1 ≤ 65534; omega⟩
  · obtain ⟨j, hj, rfl⟩ := mem_fixT.1 ht
    exact ⟨by show 1 ≤ 65534 - n + 1 + j; omega, by show 65534 - n + 1 + j ≤ 65534; omega⟩
/-- The least free id: the one behind those registered. -/
theorem fullT_free {n k : Nat} (hn : n ≤ 20) (hk : k < 65534 - n) : frS 1 (fullT n k) = k + 1 := by
  refine frS_eq (fullT_up hn (by omega)) (fun t ht => (fullT_ids hn (by omega) t ht).1) (by omega) (fun t ht => ?_) fun i h1 h2 => ?_
  · rcases List.mem_append.1 ht with ht | ht
    · obtain ⟨i, hi, rfl⟩ := mem_regT.1 ht
      show i + 1 ≠ k + 1
      omega
    · obtain ⟨j, hj, rfl⟩ := mem_fixT.1 ht
      show 65534 - n + 1 + j ≠ k + 1
      omega
  · exact ⟨⟨(i - 1) + 1, nmS (i - 1 + 1), false⟩, List.mem_append.2 (.inl (mem_regT.2 ⟨i - 1, by omega, rfl⟩)), by show i - 1 + 1 = i; omega⟩
/-- No id is free. -/
theorem fullT_full {n : Nat} (hn : n ≤ 20) : frS 1 (fullT n (65534 - n)) = 65535 := by
  refine frS_eq (fullT_up hn (Nat.le_refl _)) (fun t ht => (fullT_ids hn (Nat.le_refl _) t ht).1) (by omega) (fun t ht => ?_) fun i h1 h2 => ?_
  · have := (fullT_ids hn (Nat.le_refl _) t ht).2
    omega
  · by_cases h : i ≤ 65534 - n
    · exact ⟨⟨(i - 1) + 1, nmS (i - 1 + 1), false⟩, List.mem_append.2 (.inl (mem_regT.2 ⟨i - 1, by omega, rfl⟩)), by show i - 1 + 1 = i; omega⟩
    · exact ⟨⟨65534 - n + 1 + (i - (65534 - n + 1)), prS (n - 1 - (i - (65534 - n + 1))), true⟩, List.mem_append.2 (.inr (mem_fixT.2 ⟨i - (65534 - n + 1), by omega, rfl⟩)), by
        show 65534 - n + 1 + (i - (65534 - n + 1)) = i
        omega⟩
theorem fullT_put {n k : Nat} (hn : n ≤ 20) (hk : k < 65534 - n) : tpIns ⟨k + 1, nmS (k + 1), false⟩ (fullT n k) = fullT n (k + 1) := by
  unfold fullT
  rw [tpIns_app, regT_succ, List.append_assoc]
  · rfl
  · intro x hx
    obtain ⟨i, hi, rfl⟩ := mem_regT.1 hx
    show ¬ k + 1 < i + 1
    omega
  · intro x hx
    obtain ⟨j, hj, rfl⟩ := mem_fixT.1 hx
    show k + 1 < 65534 - n + 1 + j
    omega
theorem fixT_put {n : Nat} (hn : n < 65534) : tpIns ⟨65534 - n, prS n, true⟩ (fixT n) = fixT (n + 1) := by
  rw [fixT_succ hn]
  have := tpIns_app (t := ⟨65534 - n, prS n, true⟩) (a := []) (b := fixT n) (fun _ h => by cases h) fun x hx => by
    obtain ⟨j, hj, rfl⟩ := mem_fixT.1 hx
    show 65534 - n < 65534 - n + 1 + j
    omega
  exact this
theorem fullT_new {n k : Nat} {s : ByteArray} (h1 : ∀ i, i < k → s ≠ nmS (i + 1)) (h2 : ∀ j, j < n → s ≠ prS j) : tpOf (fullT n k) s = none := by
  unfold tpOf
  rw [List.find?_eq_none]
  intro t ht
  simp only [decide_eq_true_eq]
  rcases List.mem_append.1 ht with ht | ht
  · obtain ⟨i, hi, rfl⟩ := mem_regT.1 ht
    exact fun e => h1 i hi e.symm
  · obtain ⟨j, hj, rfl⟩ := mem_fixT.1 ht
    exact fun e => h2 (n - 1 - j) (by omega) e.symm
theorem fullT_at {n k i : Nat} (hi : i < k) : tpOf (fullT n k) (nmS (i + 1)) = some ⟨i + 1, nmS (i + 1), false⟩ := by
  have hm : (⟨i + 1, nmS (i + 1), false⟩ : Tp) ∈ fullT n k := List.mem_append.2 (.inl (mem_regT.2 ⟨i, hi, rfl⟩))
  refine tpOf_of hm fun u hu e => ?_
  rcases List.mem_append.1 hu with hu | hu
  · obtain ⟨a, ha, rfl⟩ := mem_regT.1 hu
    have := nmS_inj e
    rw [this]
  · obtain ⟨j, hj, rfl⟩ := mem_fixT.1 hu
    exact absurd e.symm (prS_ne _ _)
theorem fullT_fixed (n k : Nat) : (fullT n k).filter (·.fixed) = fixT n := by
  unfold fullT
  rw [List.filter_append]
  have h1 : (regT k).filter (·.fixed) = [] := by
    rw [List.filter_eq_nil_iff]
    intro t ht
    obtain ⟨i, hi, rfl⟩ := mem_regT.1 ht
    simp
  have h2 : (fixT n).filter (·.fixed) = fixT n := by
    rw [List.filter_eq_self]
    intro t ht
    obtain ⟨j, hj, rfl⟩ := mem_fixT.1 ht
    rfl
  rw [h1, h2]
  rfl
/-- One client alone. -/
theorem rgSet_set (c : ByteArray) (l m : List Tp) : rgSet (rgSet [] c l) c m = rgSet [] c m := by
  have h0 : ∀ l : List Tp, rgSet [] c l = if l = [] then [] else [(c, l)] := fun _ => rfl
  rw [h0 l, h0 m]
  by_cases e : l = []
  · rw [if_pos e, h0 m]
  · rw [if_neg e]
    unfold rgSet kvPut kvDel
    simp [kvIns]
/-- A name more is predefined. -/
theorem pre_full {c : ByteArray} {n : Nat} (hn : n < 20) : rfPre (rgSet [] c (fullT n 0)) c (prS n) (65534 - (n : Int)) = (0, rgSet [] c (fullT (n + 1) 0)) := by
  have hno : ∀ t ∈ fullT n 0, (t.id : Int) ≠ 65534 - (n : Int) ∧ t.name ≠ prS n := by
    intro t ht
    rcases List.mem_append.1 ht with ht | ht
    · obtain ⟨i, hi, rfl⟩ := mem_regT.1 ht
      omega
    · obtain ⟨j, hj, rfl⟩ := mem_fixT.1 ht
      refine ⟨?_, fun e => ?_⟩
      · show ((65534 - n + 1 + j : Nat) : Int) ≠ _
        omega
      · have := prS_inj e
        omega
  unfold rfPre
  rw [rgT_set, if_neg (by rw [prS_name (by omega)]; decide), if_neg (by omega), if_neg, if_neg, rgSet_set]
  · rw [show (65534 - (n : Int)).toNat = 65534 - n by omega]
    have := fixT_put (n := n) (by omega)
    unfold fullT regT
    simp only [List.range_zero, List.map_nil, List.nil_append]
    rw [this]
  · rw [Bool.not_eq_true, List.any_eq_false]
    intro t ht
    have := hno t ht
    simp only [decide_eq_true_eq, not_or]
    exact this
  · rw [Bool.not_eq_true, List.any_eq_false]
    intro t ht
    have := hno t ht
    simp only [decide_eq_true_eq]
    exact fun h => this.1 h.1
/-- A name more is registered, by the next id. -/
theorem reg_full {c : ByteArray} {n k : Nat} (hn : n ≤ 20) (hk : k < 65534 - n) : rfReg (rgSet [] c (fullT n k)) c (nmS (k + 1)) = ((k + 1, true, 0), rgSet [] c (fullT n (k + 1))) := by
  unfold rfReg
  rw [rgT_set, if_neg (by rw [nmS_name (by omega)]; decide), fullT_new (fun i hi e => by have := nmS_inj e; omega) (fun j _ e => prS_ne _ _ e.symm)]
  simp only
  rw [fullT_free hn hk, if_neg (by omega), fullT_put hn hk, rgSet_set]
/-- The last calls of the law. -/
theorem full_more {c : ByteArray} {n : Nat} (hn : n ≤ 20) : rfReg (rgSet [] c (fullT n (65534 - n))) c moreS = ((0, false, 12), rgSet [] c (fullT n (65534 - n))) := by
  unfold rfReg
  rw [rgT_set, if_neg (by rw [more_name]; decide), fullT_new (fun i hi => more_ne (by omega)) (fun j _ => more_pr j)]
  simp only
  rw [fullT_full hn, if_pos (by decide)]
theorem new_more {L : Rg} {d : ByteArray} (h : rgT L d = []) : rfReg L d moreS = ((1, true, 0), rgSet L d [⟨1, moreS, false⟩]) := by
  unfold rfReg
  rw [h, if_neg (by rw [more_name]; decide)]
  rfl
theorem full_seven {L : Rg} {c : ByteArray} {n : Nat} (hn : n ≤ 20) (h : rgT L c = fullT n (65534 - n)) : rfReg L c (nmS 7) = ((7, false, 0), L) := by
  unfold rfReg
  rw [h, if_neg (by rw [nmS_name (by decide)]; decide), fullT_at (i := 6) (by omega)]
theorem full_clear {L : Rg} {c : ByteArray} {n : Nat} (hn : n ≤ 20) (h : rgT L c = fullT n (65534 - n)) : rfClr L c = ((65534 : Int) - (n : Int), rgSet L c (fixT n)) := by
  unfold rfClr
  rw [h, fullT_fixed, fullT_len]
  congr 1
  have : (fixT n).length = n := by simp [fixT]
  omega
theorem fix_more {L : Rg} {c : ByteArray} {n : Nat} (hn : n ≤ 20) (h : rgT L c = fixT n) : (rfReg L c moreS).1 = (1, true, 0) ∧ (rgT (rfReg L c moreS).2 c).length = n + 1 := by
  have hz : fullT n 0 = fixT n := rfl
  have hf := fullT_free (n := n) (k := 0) hn (by omega)
  have hno := fullT_new (n := n) (k := 0) (s := moreS) (fun i hi => by omega) (fun j _ => more_pr j)
  rw [hz] at hf hno
  unfold rfReg
  rw [h, if_neg (by rw [more_name]; decide), hno]
  simp only
  rw [hf, if_neg (by decide), rgT_set, tpIns_length]
  exact ⟨rfl, by simp [fixT]⟩
end Go.Proofs.Ytjbpafkdbfbdlaa
