/-
  The registry in plain words: the clients' names, sorted and counted.
-/
import Derived.Test.YtjbpafkdbfbdlaaRegP
import Derived.Sort.KeysCollected

namespace Go.Proofs.Ytjbpafkdbfbdlaa
open Go.RowKit Go.Maps Go.WideShapes
theorem bb_lt : ∀ {a b : List UInt8}, bytesBefore a b = true ↔ a < b
  | [], [] => by simp [bytesBefore]
  | [], _ :: _ => by simp [bytesBefore]
  | _ :: _, [] => by simp [bytesBefore]
  | x :: a, y :: b => by
    rw [List.cons_lt_cons_iff, ← bb_lt (a := a) (b := b)]
    simp [bytesBefore]
theorem nmLt_iff {a b : ByteArray} : nmLt a b = true ↔ a.data.toList < b.data.toList := bb_lt
/-- The names of those that are there, rising. -/
def kvNames {α : Type} (l : List (ByteArray × α)) : List ByteArray := l.map (·.1)
theorem kvNames_map {α β : Type} {f : α → β} {l : List (ByteArray × α)} : kvNames (kvMap f l) = kvNames l := by
  unfold kvNames kvMap
  rw [List.map_map]
  rfl
theorem kvNames_up {α : Type} {l : List (ByteArray × α)} (h : KvUp l) : (kvNames l).Pairwise fun a b => nmLt a b = true := by
  unfold kvNames
  rw [List.pairwise_map]
  exact h
theorem strKeys_kvD {H α : Type} {f : α → DataW H} {l : List (ByteArray × α)} : strKeys (kvD f l) = (kvNames l).map fun n => n.data.toList := by
  have h : ∀ es : List (Lit × DataW H), strKeys (.map es) = es.map fun p => strOf p.1 := fun _ => rfl
  unfold kvD kvNames
  rw [h, List.map_map, List.map_map]
  rfl
theorem names_sorted {α : Type} {l : List (ByteArray × α)} (h : KvUp l) : ((kvNames l).map fun n => n.data.toList).mergeSort leB = (kvNames l).map fun n => n.data.toList := by
  apply List.mergeSort_of_pairwise
  rw [List.pairwise_map]
  exact (kvNames_up h).imp fun {a b} hab => decide_eq_true (List.le_of_lt (nmLt_iff.1 hab))
/-- How often a name is among them. -/
def cntN (c : ByteArray) (l : List ByteArray) : Nat := (l.filter fun x => decide (x = c)).length
theorem cntN_none {c : ByteArray} {l : List ByteArray} (h : c ∉ l) : cntN c l = 0 := by
  unfold cntN
  rw [List.length_eq_zero_iff, List.filter_eq_nil_iff]
  intro x hx
  simp only [decide_eq_true_eq]
  exact fun e => h (by rw [← e]; exact hx)
theorem kvAt_names {α : Type} {c : ByteArray} {l : List (ByteArray × α)} : c ∈ kvNames l ↔ (kvAt c l).isSome = true := by
  unfold kvNames kvAt
  rw [List.mem_map, Option.isSome_map, List.find?_isSome]
  simp
theorem cntN_up {α : Type} {c : ByteArray} : ∀ {l : List (ByteArray × α)}, KvUp l → cntN c (kvNames l) = if (kvAt c l).isSome = true then 1 else 0
  | [], _ => rfl
  | x :: l, h => by
    have hn := h.ne
    unfold KvUp at h
    rw [List.pairwise_cons] at h
    have ih := cntN_up (c := c) (l := l) h.2
    show ((x.1 :: kvNames l).filter fun y => decide (y = c)).length = _
    unfold kvAt
    rw [List.filter_cons, List.find?_cons]
    by_cases e : x.1 = c
    · have h0 : cntN c (kvNames l) = 0 := cntN_none fun hc => by
        unfold kvNames at hc
        obtain ⟨y, hy, e2⟩ := List.mem_map.1 hc
        exact hn y hy (e2.trans e.symm)
      unfold cntN at h0
      rw [decide_eq_true e, if_pos rfl, List.length_cons, h0]
      rfl
    · rw [decide_eq_false e, if_neg (by decide)]
      unfold cntN kvAt at ih
      exact ih
theorem cntN_take {c : ByteArray} {l : List ByteArray} {i : Nat} (h : i < l.length) : cntN c (l.take (i + 1)) = cntN c (l.take i) + if l[i] = c then 1 else 0 := by
  unfold cntN
  rw [List.take_succ_eq_append_getElem h, List.filter_append, List.length_append]
  by_cases e : l[i] = c
  · simp [e]
  · simp [e]
end Go.Proofs.Ytjbpafkdbfbdlaa
