/-
  The registry in plain words: the reference's loops.
-/
import Derived.Test.YtjbpafkdbfbdlaaRegE

namespace Go.Proofs.Ytjbpafkdbfbdlaa
open Go.RowKit
section
variable {α : Type}
/-- What 'set' still lays behind what it has. -/
def setL (c : ByteArray) (v : α) : Bool → List (ByteArray × α) → List (ByteArray × α)
  | b, [] => if b = true then [] else [(c, v)]
  | b, x :: r => (if b = false ∧ nmLt c x.1 = true then [(c, v)] else []) ++ ((if x.1 = c then [] else [x]) ++ setL c v (b || nmLt c x.1) r)
theorem setL_true {c : ByteArray} {v : α} : ∀ {l : List (ByteArray × α)}, setL c v true l = kvDel c l
  | [] => rfl
  | x :: r => by
    rw [setL, if_neg (by simp), Bool.true_or, setL_true]
    unfold kvDel
    by_cases h : x.1 = c
    · simp [h]
    · simp [h]
theorem setL_false {c : ByteArray} {v : α} : ∀ {l : List (ByteArray × α)}, setL c v false l = kvPut c v l
  | [] => rfl
  | x :: r => by
    rw [setL, Bool.false_or]
    by_cases h : nmLt c x.1 = true
    · have hx : x.1 ≠ c := fun e => by rw [e, nmLt_irrefl] at h; cases h
      rw [if_pos ⟨rfl, h⟩, if_neg hx, h, setL_true]
      unfold kvPut kvDel
      simp [hx, kvIns, h]
    · rw [if_neg (fun a => h a.2)]
      have h' : nmLt c x.1 = false := by simpa using h
      rw [h', setL_false]
      by_cases hx : x.1 = c
      · unfold kvPut kvDel
        simp [hx]
      · unfold kvPut kvDel
        simp [hx, kvIns, h']
end
/-- What 'put' still lays behind what it has. -/
def putL' (t : Tp) : Bool → List Tp → List Tp
  | b, [] => if b = true then [] else [t]
  | b, x :: r => (if b = false ∧ t.id < x.id then [t] else []) ++ (x :: putL' t (b || decide (t.id < x.id)) r)
theorem putL'_true {t : Tp} : ∀ {l : List Tp}, putL' t true l = l
  | [] => rfl
  | x :: r => by
    rw [putL', if_neg (by simp), Bool.true_or, putL'_true]
    rfl
theorem putL'_false {t : Tp} : ∀ {l : List Tp}, putL' t false l = tpIns t l
  | [] => rfl
  | x :: r => by
    rw [putL', Bool.false_or, tpIns]
    by_cases h : t.id < x.id
    · rw [if_pos ⟨rfl, h⟩, if_pos h, decide_eq_true h, putL'_true]
      rfl
    · rw [if_neg (fun a => h a.2), if_neg h, decide_eq_false h, putL'_false]
      rfl
theorem frS_app : ∀ {a b : List Tp} {f : Nat}, frS f (a ++ b) = frS (frS f a) b
  | [], _, _ => rfl
  | t :: a, b, f => by
    show frS _ (a ++ b) = _
    rw [frS_app]
    rfl
theorem tpOf_drop {l : List Tp} {n : ByteArray} {i : Nat} (h : i < l.length) : tpOf (l.drop i) n = if l[i].name = n then some l[i] else tpOf (l.drop (i + 1)) n := by
  rw [List.drop_eq_getElem_cons h]
  unfold tpOf
  rw [List.find?_cons]
  by_cases e : l[i].name = n
  · rw [if_pos e, decide_eq_true e]
  · rw [if_neg e, decide_eq_false e]
theorem tpAt_drop {l : List Tp} {a : Int} {i : Nat} (h : i < l.length) : tpAt (l.drop i) a = if (l[i].id : Int) = a then some l[i] else tpAt (l.drop (i + 1)) a := by
  rw [List.drop_eq_getElem_cons h]
  unfold tpAt
  rw [List.find?_cons]
  by_cases e : (l[i].id : Int) = a
  · rw [if_pos e, decide_eq_true e]
  · rw [if_neg e, decide_eq_false e]
theorem kvAt_drop {α : Type} {l : List (ByteArray × α)} {n : ByteArray} {i : Nat} (h : i < l.length) : kvAt n (l.drop i) = if l[i].1 = n then some l[i].2 else kvAt n (l.drop (i + 1)) := by
  rw [List.drop_eq_getElem_cons h]
  unfold kvAt
  rw [List.find?_cons]
  by_cases e : l[i].1 = n
  · rw [if_pos e, decide_eq_true e]
    rfl
  · rw [if_neg e, decide_eq_false e]
theorem frS_take {l : List Tp} {i f : Nat} (h : i < l.length) : frS f (l.take (i + 1)) = if l[i].id = frS f (l.take i) then frS f (l.take i) + 1 else frS f (l.take i) := by
  rw [List.take_succ_eq_append_getElem h, frS_app]
  rfl
theorem any_drop {l : List Tp} {p : Tp → Bool} {i : Nat} (h : i < l.length) : (l.drop i).any p = (p l[i] || (l.drop (i + 1)).any p) := by
  rw [List.drop_eq_getElem_cons h, List.any_cons]
theorem filter_take {l : List Tp} {i : Nat} (h : i < l.length) : (l.take (i + 1)).filter (·.fixed) = if l[i].fixed = true then (l.take i).filter (·.fixed) ++ [l[i]] else (l.take i).filter (·.fixed) := by
  rw [List.take_succ_eq_append_getElem h, List.filter_append]
  by_cases e : l[i].fixed = true
  · rw [if_pos e]
    simp [e]
  · rw [if_neg e]
    simp [e]
/-- Clearing one by one: what is left behind the first i of them. -/
def clrAt (l : List Tp) (i : Nat) : List Tp := (l.take i).filter (·.fixed) ++ l.drop i
theorem clrAt_zero (l : List Tp) : clrAt l 0 = l := rfl
theorem clrAt_end (l : List Tp) : clrAt l l.length = l.filter (·.fixed) := by simp [clrAt]
theorem clrAt_keep {l : List Tp} {i : Nat} (h : i < l.length) (hf : l[i].fixed = true) : clrAt l (i + 1) = clrAt l i := by
  unfold clrAt
  rw [filter_take h, if_pos hf, List.drop_eq_getElem_cons h]
  simp
theorem clrAt_sub {l : List Tp} {i : Nat} : (clrAt l i).Sublist l := by
  unfold clrAt
  have := (List.filter_sublist (l := l.take i) (p := (·.fixed))).append (List.Sublist.refl (l.drop i))
  rw [List.take_append_drop] at this
  exact this
theorem clrAt_mem {l : List Tp} {i : Nat} (h : i < l.length) : l[i] ∈ clrAt l i := by
  unfold clrAt
  rw [List.drop_eq_getElem_cons h]
  exact List.mem_append.2 (.inr List.mem_cons_self)
theorem clrAt_step {l : List Tp} (hu : TpUp l) {i : Nat} (h : i < l.length) (hf : l[i].fixed = false) : clrAt l (i + 1) = tpDel l[i].id (clrAt l i) := by
  have hs : TpUp (clrAt l i) := hu.sublist clrAt_sub
  unfold clrAt at hs ⊢
  rw [filter_take h, if_neg (by rw [hf]; decide)]
  rw [List.drop_eq_getElem_cons h] at hs ⊢
  unfold TpUp at hs
  rw [List.pairwise_append, List.pairwise_cons] at hs
  unfold tpDel
  rw [List.filter_append, List.filter_cons]
  have e1 : ((l.take i).filter (·.fixed)).filter (fun x => !decide (x.id = l[i].id)) = (l.take i).filter (·.fixed) := by
    rw [List.filter_eq_self]
    intro x hx
    have := hs.2.2 x hx l[i] List.mem_cons_self
    have h2 : x.id ≠ l[i].id := by omega
    simp [h2]
  have e2 : (l.drop (i + 1)).filter (fun x => !decide (x.id = l[i].id)) = l.drop (i + 1) := by
    rw [List.filter_eq_self]
    intro x hx
    have := hs.2.1.1 x hx
    have h2 : x.id ≠ l[i].id := by omega
    simp [h2]
  rw [e1, e2]
  simp
end Go.Proofs.Ytjbpafkdbfbdlaa
