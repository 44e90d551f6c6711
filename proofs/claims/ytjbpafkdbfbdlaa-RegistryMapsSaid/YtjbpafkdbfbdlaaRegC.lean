/-
  The registry in plain words: lists by rising keys, and the data that maps read as.
-/
import Derived.Test.YtjbpafkdbfbdlaaRegB
import Derived.Maps.Views
import Derived.Maps.OwnSet

namespace Go.Proofs.Ytjbpafkdbfbdlaa
open Go.RowKit Go.Maps Go.WideShapes
section
variable {α : Type}
/-- Which of two names comes first. -/
def nmLt (a b : ByteArray) : Bool := bytesBefore a.data.toList b.data.toList
/-- A list of names with what they have: put in, taken out, found. -/
def kvIns (n : ByteArray) (v : α) : List (ByteArray × α) → List (ByteArray × α)
  | [] => [(n, v)]
  | x :: l => if nmLt n x.1 = true then (n, v) :: x :: l else x :: kvIns n v l
def kvDel (n : ByteArray) (l : List (ByteArray × α)) : List (ByteArray × α) := l.filter fun x => !decide (x.1 = n)
def kvPut (n : ByteArray) (v : α) (l : List (ByteArray × α)) : List (ByteArray × α) := kvIns n v (kvDel n l)
def kvAt (n : ByteArray) (l : List (ByteArray × α)) : Option α := (l.find? fun x => decide (x.1 = n)).map (·.2)
theorem mem_kvIns {n : ByteArray} {v : α} {x : ByteArray × α} : ∀ {l : List (ByteArray × α)}, x ∈ kvIns n v l ↔ x = (n, v) ∨ x ∈ l
  | [] => by simp [kvIns]
  | y :: l => by
    unfold kvIns
    split
    · simp
    · rw [List.mem_cons, mem_kvIns, List.mem_cons]
      constructor
      · rintro (h | h | h)
        · exact .inr (.inl h)
        · exact .inl h
        · exact .inr (.inr h)
      · rintro (h | h | h)
        · exact .inr (.inl h)
        · exact .inl h
        · exact .inr (.inr h)
theorem mem_kvDel {n : ByteArray} {x : ByteArray × α} {l : List (ByteArray × α)} : x ∈ kvDel n l ↔ x ∈ l ∧ x.1 ≠ n := by
  unfold kvDel
  rw [List.mem_filter]
  simp
theorem mem_kvPut {n : ByteArray} {v : α} {x : ByteArray × α} {l : List (ByteArray × α)} : x ∈ kvPut n v l ↔ x = (n, v) ∨ (x ∈ l ∧ x.1 ≠ n) := by
  unfold kvPut
  rw [mem_kvIns, mem_kvDel]
theorem kvDel_none {n : ByteArray} {l : List (ByteArray × α)} (h : kvAt n l = none) : kvDel n l = l := by
  unfold kvAt at h
  rw [Option.map_eq_none_iff, List.find?_eq_none] at h
  unfold kvDel
  rw [List.filter_eq_self]
  intro x hx
  have := h x hx
  simpa using this
theorem find_kvIns {n m : ByteArray} {v : α} (hm : m ≠ n) : ∀ {l : List (ByteArray × α)}, (kvIns n v l).find? (fun x => decide (x.1 = m)) = l.find? fun x => decide (x.1 = m)
  | [] => by simp [kvIns, Ne.symm hm]
  | y :: l => by
    unfold kvIns
    split
    · simp [Ne.symm hm]
    · rw [List.find?_cons, List.find?_cons, find_kvIns hm]
theorem find_kvIns_same {n : ByteArray} {v : α} : ∀ {l : List (ByteArray × α)}, (∀ x ∈ l, x.1 ≠ n) → (kvIns n v l).find? (fun x => decide (x.1 = n)) = some (n, v)
  | [], _ => by simp [kvIns]
  | y :: l, h => by
    unfold kvIns
    split
    · simp
    · have := h y (by simp)
      rw [List.find?_cons, find_kvIns_same fun x hx => h x (by simp [hx])]
      simp [this]
theorem kvAt_put {n : ByteArray} {v : α} {l : List (ByteArray × α)} : kvAt n (kvPut n v l) = some v := by
  unfold kvAt kvPut
  rw [find_kvIns_same fun x hx => (mem_kvDel.1 hx).2]
  rfl
theorem kvAt_del_other {n m : ByteArray} {l : List (ByteArray × α)} (hm : m ≠ n) : kvAt m (kvDel n l) = kvAt m l := by
  unfold kvAt kvDel
  rw [Maps.find_filter_keep]
  intro p hp
  have : p.1 = m := by simpa using hp
  simp [this, hm]
theorem kvAt_del {n : ByteArray} {l : List (ByteArray × α)} : kvAt n (kvDel n l) = none := by
  unfold kvAt
  rw [Option.map_eq_none_iff, List.find?_eq_none]
  intro x hx
  simpa using (mem_kvDel.1 hx).2
theorem kvAt_put_other {n m : ByteArray} {v : α} {l : List (ByteArray × α)} (hm : m ≠ n) : kvAt m (kvPut n v l) = kvAt m l := by
  have : kvAt m (kvPut n v l) = kvAt m (kvDel n l) := by
    unfold kvAt kvPut
    rw [find_kvIns hm]
  rw [this, kvAt_del_other hm]
theorem kvAt_mem {n : ByteArray} {v : α} {l : List (ByteArray × α)} (h : kvAt n l = some v) : (n, v) ∈ l := by
  unfold kvAt at h
  rw [Option.map_eq_some_iff] at h
  obtain ⟨x, hx, rfl⟩ := h
  have h1 := List.mem_of_find?_eq_some hx
  have h2 : x.1 = n := by simpa using List.find?_some hx
  rw [← h2]
  exact h1
/-- By rising names. -/
def KvUp (l : List (ByteArray × α)) : Prop := l.Pairwise fun a b => nmLt a.1 b.1 = true
end

/-! ### the order of names -/
theorem bb_irrefl : ∀ l : List UInt8, bytesBefore l l = false
  | [] => rfl
  | a :: l => by
    have h : ¬ a < a := UInt8.lt_irrefl a
    simp [bytesBefore, bb_irrefl l, h]
theorem bb_trans : ∀ {a b c : List UInt8}, bytesBefore a b = true → bytesBefore b c = true → bytesBefore a c = true
  | [], [], _, h, _ => by cases h
  | [], _ :: _, [], _, h => by cases h
  | [], _ :: _, _ :: _, _, _ => rfl
  | _ :: _, [], _, h, _ => by cases h
  | _ :: _, _ :: _, [], _, h => by cases h
  | x :: a, y :: b, z :: c, h1, h2 => by
    simp only [bytesBefore, Bool.or_eq_true, Bool.and_eq_true, decide_eq_true_eq, beq_iff_eq] at h1 h2 ⊢
    rcases h1 with h1 | ⟨rfl, h1⟩
    · rcases h2 with h2 | ⟨rfl, h2⟩
      · exact .inl (UInt8.lt_trans h1 h2)
      · exact .inl h1
    · rcases h2 with h2 | ⟨rfl, h2⟩
      · exact .inl h2
      · exact .inr ⟨rfl, bb_trans h1 h2⟩
theorem bb_total : ∀ {a b : List UInt8}, a ≠ b → bytesBefore a b = false → bytesBefore b a = true
  | [], [], h, _ => absurd rfl h
  | [], _ :: _, _, h => by cases h
  | _ :: _, [], _, _ => rfl
  | x :: a, y :: b, hn, h => by
    simp only [bytesBefore, Bool.or_eq_false_iff, Bool.and_eq_false_iff, decide_eq_false_iff_not, beq_eq_false_iff_ne] at h
    simp only [bytesBefore, Bool.or_eq_true, Bool.and_eq_true, decide_eq_true_eq, beq_iff_eq]
    by_cases e : x = y
    · subst e
      refine .inr ⟨rfl, bb_total (fun e => hn (by rw [e])) ?_⟩
      rcases h.2 with h | h
      · exact absurd rfl h
      · exact h
    · refine .inl ?_
      have h1 := h.1
      rw [UInt8.lt_iff_toNat_lt] at h1 ⊢
      have : x.toNat ≠ y.toNat := fun e2 => e (UInt8.toNat_inj.1 e2)
      omega
theorem nm_ext {a b : ByteArray} (h : a.data.toList = b.data.toList) : a = b := by
  have : a.data = b.data := by rw [← Array.toArray_toList (xs := a.data), h, Array.toArray_toList]
  exact ByteArray.ext this
theorem nmLt_irrefl (a : ByteArray) : nmLt a a = false := bb_irrefl _
theorem nmLt_trans {a b c : ByteArray} (h : nmLt a b = true) (h' : nmLt b c = true) : nmLt a c = true := bb_trans h h'
theorem nmLt_total {a b : ByteArray} (h : a ≠ b) (hl : nmLt a b = false) : nmLt b a = true := bb_total (fun e => h (nm_ext e)) hl
section
variable {α : Type}
theorem kvIns_up {n : ByteArray} {v : α} : ∀ {l : List (ByteArray × α)}, KvUp l → (∀ x ∈ l, x.1 ≠ n) → KvUp (kvIns n v l)
  | [], _, _ => by simp [kvIns, KvUp]
  | x :: l, h, hn => by
    unfold KvUp at h
    rw [List.pairwise_cons] at h
    unfold kvIns
    split
    · rename_i hx
      unfold KvUp
      rw [List.pairwise_cons, List.pairwise_cons]
      refine ⟨fun y hy => ?_, h⟩
      rcases List.mem_cons.1 hy with rfl | hy
      · exact hx
      · exact nmLt_trans hx (h.1 y hy)
    · rename_i hx
      unfold KvUp
      rw [List.pairwise_cons]
      refine ⟨fun y hy => ?_, kvIns_up h.2 fun y hy => hn y (by simp [hy])⟩
      rcases mem_kvIns.1 hy with rfl | hy
      · exact nmLt_total (Ne.symm (hn x (by simp))) (by simpa using hx)
      · exact h.1 y hy
theorem kvDel_up {n : ByteArray} {l : List (ByteArray × α)} (h : KvUp l) : KvUp (kvDel n l) := h.sublist List.filter_sublist
theorem kvPut_up {n : ByteArray} {v : α} {l : List (ByteArray × α)} (h : KvUp l) : KvUp (kvPut n v l) := kvIns_up (kvDel_up h) fun _ hx => (mem_kvDel.1 hx).2
end

/-! ### what maps read as -/
section
variable {H α : Type} (f : α → DataW H)
/-- A map by names. -/
def kvD (l : List (ByteArray × α)) : DataW H := .map (l.map fun x => (.string x.1.data.toList, f x.2))
theorem sameKey_nm {a b : ByteArray} : (Lit.string a.data.toList).sameKey (.string b.data.toList) = decide (a = b) := by
  by_cases e : a = b
  · subst e; simp [Lit.sameKey]
  · have h : a.data.toList ≠ b.data.toList := fun h => e (nm_ext h)
    rw [decide_eq_false e]
    exact Maps.sameKey_ne fun h2 => h (by injection h2)
theorem kvD_has {l : List (ByteArray × α)} {n : ByteArray} : Maps.has (kvD f l) (.string n.data.toList) = (kvAt n l).isSome := by
  unfold kvD kvAt
  rw [Maps.has_eq, Option.isSome_map, List.any_map, Bool.eq_iff_iff]
  simp [sameKey_nm]
theorem kvD_at {l : List (ByteArray × α)} {n : ByteArray} {z : DataW H} : (kvD f l).atKey (.string n.data.toList) z = ((kvAt n l).map f).getD z := by
  unfold kvD DataW.atKey kvAt
  simp only [List.find?_map]
  have : ((fun p : Lit × DataW H => p.1.sameKey (.string n.data.toList)) ∘ fun x : ByteArray × α => (Lit.string x.1.data.toList, f x.2)) = fun x => decide (x.1 = n) := by
    funext x
    simp [sameKey_nm]
  rw [this]
  cases l.find? fun x => decide (x.1 = n) <;> rfl
theorem kvD_size {l : List (ByteArray × α)} : Maps.size (kvD f l) = l.length := by simp [kvD, Maps.size]
theorem kvD_del {l : List (ByteArray × α)} {n : ByteArray} : (kvD f l).del (.string n.data.toList) = kvD f (kvDel n l) := by
  unfold kvD DataW.del kvDel
  simp only [List.filter_map]
  have : ((fun p : Lit × DataW H => !p.1.sameKey (.string n.data.toList)) ∘ fun x : ByteArray × α => (Lit.string x.1.data.toList, f x.2)) = fun x => !decide (x.1 = n) := by
    funext x
    simp [sameKey_nm]
  rw [this]
theorem insert_map {n : ByteArray} {v : α} : ∀ {l : List (ByteArray × α)}, DataW.insert (Lit.string n.data.toList, f v) (l.map fun x => (.string x.1.data.toList, f x.2)) = (kvIns n v l).map fun x => (.string x.1.data.toList, f x.2)
  | [] => rfl
  | x :: l => by
    rw [List.map_cons, DataW.insert, kvIns]
    by_cases h : nmLt n x.1 = true
    · rw [if_pos h, if_pos (show (Lit.string n.data.toList).before (.string x.1.data.toList) = true from h)]
      rfl
    · rw [if_neg h, if_neg (show ¬ (Lit.string n.data.toList).before (.string x.1.data.toList) = true from h), insert_map]
      rfl
theorem kvD_put {l : List (ByteArray × α)} {n : ByteArray} {v : α} : (kvD f l).put (.string n.data.toList) (f v) = kvD f (kvPut n v l) := by
  unfold kvPut
  have := kvD_del f (l := l) (n := n)
  unfold kvD DataW.del at this
  unfold kvD DataW.put
  simp only at this ⊢
  rw [DataW.map.injEq] at this
  rw [this, insert_map]
end
end Go.Proofs.Ytjbpafkdbfbdlaa
