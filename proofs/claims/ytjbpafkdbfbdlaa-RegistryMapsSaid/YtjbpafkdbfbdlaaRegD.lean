/-
  The registry in plain words: maps by ids; what calls do to lists of topics.
-/
import Derived.Test.YtjbpafkdbfbdlaaRegC

namespace Go.Proofs.Ytjbpafkdbfbdlaa
open Go.RowKit Go.Maps Go.WideShapes
section
variable {H : Type} (e : Tp → DataW H)
/-- A map of topics by ids. -/
def tpD (l : List Tp) : DataW H := .map (l.map fun t => (.int .i64 (t.id : Int), e t))
theorem sameKey_id {a : Nat} {b : Int} : (Lit.int .i64 (a : Int)).sameKey (.int .i64 b) = decide ((a : Int) = b) := by
  simp [Lit.sameKey]
theorem tpD_has {l : List Tp} {i : Int} : Maps.has (tpD e l) (.int .i64 i) = (tpAt l i).isSome := by
  unfold tpD tpAt
  rw [Maps.has_eq, List.any_map, Bool.eq_iff_iff]
  simp [sameKey_id]
theorem tpD_at {l : List Tp} {i : Int} {z : DataW H} : (tpD e l).atKey (.int .i64 i) z = ((tpAt l i).map e).getD z := by
  unfold tpD DataW.atKey tpAt
  simp only [List.find?_map]
  have : ((fun p : Lit × DataW H => p.1.sameKey (.int .i64 i)) ∘ fun t : Tp => (Lit.int .i64 (t.id : Int), e t)) = fun t => decide ((t.id : Int) = i) := by
    funext x
    simp [sameKey_id]
  rw [this]
  cases l.find? fun t => decide ((t.id : Int) = i) <;> rfl
theorem tpD_size {l : List Tp} : Maps.size (tpD e l) = l.length := by simp [tpD, Maps.size]
/-- An id taken out. -/
def tpDel (i : Nat) (l : List Tp) : List Tp := l.filter fun x => !decide (x.id = i)
theorem mem_tpDel {i : Nat} {x : Tp} {l : List Tp} : x ∈ tpDel i l ↔ x ∈ l ∧ x.id ≠ i := by
  unfold tpDel
  rw [List.mem_filter]
  simp
theorem tpD_del {l : List Tp} {i : Nat} : (tpD e l).del (.int .i64 (i : Int)) = tpD e (tpDel i l) := by
  unfold tpD DataW.del tpDel
  simp only [List.filter_map]
  have : ((fun p : Lit × DataW H => !p.1.sameKey (.int .i64 (i : Int))) ∘ fun t : Tp => (Lit.int .i64 (t.id : Int), e t)) = fun t => !decide (t.id = i) := by
    funext x
    have hs := sameKey_id (a := x.id) (b := (i : Int))
    simp only [Function.comp, hs]
    by_cases hx : x.id = i
    · simp [hx]
    · have : (x.id : Int) ≠ (i : Int) := by omega
      simp [hx, this]
  rw [this]
theorem insert_id {t : Tp} : ∀ {l : List Tp}, DataW.insert (Lit.int .i64 (t.id : Int), e t) (l.map fun t => (.int .i64 (t.id : Int), e t)) = (tpIns t l).map fun t => (.int .i64 (t.id : Int), e t)
  | [] => rfl
  | x :: l => by
    rw [List.map_cons, DataW.insert, tpIns]
    by_cases h : t.id < x.id
    · rw [if_pos h, if_pos (show (Lit.int .i64 (t.id : Int)).before (.int .i64 (x.id : Int)) = true from by
        simp only [Lit.before, decide_eq_true_eq]; omega)]
      rfl
    · rw [if_neg h, if_neg (show ¬ (Lit.int .i64 (t.id : Int)).before (.int .i64 (x.id : Int)) = true from by
        simp only [Lit.before, decide_eq_true_eq]; omega), insert_id]
      rfl
theorem tpDel_none {l : List Tp} {i : Nat} (h : ∀ x ∈ l, x.id ≠ i) : tpDel i l = l := by
  unfold tpDel
  rw [List.filter_eq_self]
  intro x hx
  simpa using h x hx
theorem tpD_put {l : List Tp} {t : Tp} (h : ∀ x ∈ l, x.id ≠ t.id) : (tpD e l).put (.int .i64 (t.id : Int)) (e t) = tpD e (tpIns t l) := by
  have := tpD_del e (l := l) (i := t.id)
  rw [tpDel_none h] at this
  unfold tpD DataW.del at this
  unfold tpD DataW.put
  simp only at this ⊢
  rw [DataW.map.injEq] at this
  rw [this, insert_id]
theorem tpDel_length {l : List Tp} (hu : TpUp l) {t : Tp} (ht : t ∈ l) : (tpDel t.id l).length + 1 = l.length := by
  induction l with
  | nil => cases ht
  | cons x l ih =>
    unfold TpUp at hu
    rw [List.pairwise_cons] at hu
    rcases List.mem_cons.1 ht with a | a
    · have h2 : tpDel t.id l = l := tpDel_none fun y hy => by
        have := hu.1 y hy
        rw [a]
        omega
      unfold tpDel at h2 ⊢
      rw [List.filter_cons, a, if_neg (by simp), ← a, h2]
      rfl
    · have := ih hu.2 a
      have hx := hu.1 t a
      unfold tpDel at this ⊢
      have h3 : x.id ≠ t.id := by omega
      rw [List.filter_cons, if_pos (by simp [h3]), List.length_cons, List.length_cons, this]
/-- A map of ids by names. -/
def IdsD (D : DataW H) (l : List Tp) : Prop :=
  Maps.IsMap D ∧ Maps.size D = l.length ∧ ∀ n : ByteArray, Maps.has D (.string n.data.toList) = (tpOf l n).isSome ∧ ∀ z, D.atKey (.string n.data.toList) z = ((tpOf l n).map fun t => DataW.lit (.int .i64 (t.id : Int))).getD z
theorem IdsD.new : IdsD (.map [] : DataW H) [] := ⟨Maps.isMap_empty, rfl, fun _ => ⟨rfl, fun _ => rfl⟩⟩
theorem tpOf_of {l : List Tp} {t : Tp} (ht : t ∈ l) (hn : ∀ u ∈ l, t.name = u.name → t = u) : tpOf l t.name = some t := by
  cases h : tpOf l t.name with
  | none => exact absurd rfl (tpOf_none h t ht)
  | some u =>
    obtain ⟨a, b⟩ := tpOf_some h
    rw [hn u a b.symm]
theorem tpAt_of {l : List Tp} (h : TpUp l) {t : Tp} (ht : t ∈ l) : tpAt l (t.id : Int) = some t := by
  cases h2 : tpAt l (t.id : Int) with
  | none => exact absurd rfl (tpAt_none h2 t ht)
  | some u =>
    obtain ⟨a, b⟩ := tpAt_some h2
    rw [h.inj a ht (by omega)]
theorem tpOf_ins {l : List Tp} {t : Tp} {n : ByteArray} (hn : ∀ x ∈ l, x.name ≠ t.name) : tpOf (tpIns t l) n = if n = t.name then some t else tpOf l n := by
  induction l with
  | nil =>
    unfold tpIns tpOf
    by_cases h : n = t.name
    · simp [h]
    · simp [h, Ne.symm h]
  | cons x l ih =>
    have ih := ih fun y hy => hn y (by simp [hy])
    have hx := hn x (by simp)
    unfold tpIns
    split
    · unfold tpOf
      by_cases h : n = t.name
      · simp [h]
      · rw [List.find?_cons, if_neg h, decide_eq_false (fun e => h e.symm)]
    · unfold tpOf at ih ⊢
      rw [List.find?_cons, List.find?_cons, ih]
      by_cases h : n = t.name
      · rw [if_pos h, if_pos h, decide_eq_false (fun e => hx (e.trans h))]
      · rw [if_neg h, if_neg h]
theorem tpOf_del {l : List Tp} (hu : TpUp l) (hnm : ∀ t ∈ l, ∀ u ∈ l, t.name = u.name → t = u) {t : Tp} (ht : t ∈ l) {n : ByteArray} : tpOf (tpDel t.id l) n = if n = t.name then none else tpOf l n := by
  by_cases h : n = t.name
  · rw [if_pos h]
    unfold tpOf
    rw [List.find?_eq_none]
    intro x hx
    obtain ⟨a, b⟩ := mem_tpDel.1 hx
    simp only [decide_eq_true_eq]
    intro e
    exact b (by rw [hnm x a t ht (e.trans h)])
  · rw [if_neg h]
    cases h2 : tpOf l n with
    | none =>
      unfold tpOf
      rw [List.find?_eq_none]
      intro x hx
      have := tpOf_none h2 x (mem_tpDel.1 hx).1
      simpa using this
    | some u =>
      obtain ⟨a, rfl⟩ := tpOf_some h2
      refine tpOf_of (mem_tpDel.2 ⟨a, fun e => h (by rw [hu.inj a ht e])⟩) fun v hv ev => hnm u a v (mem_tpDel.1 hv).1 ev
theorem IdsD.put {D : DataW H} {l : List Tp} (h : IdsD D l) (hy : Maps.Tidy D) {t : Tp} (hn : ∀ x ∈ l, x.name ≠ t.name) : IdsD (D.put (.string t.name.data.toList) (.lit (.int .i64 (t.id : Int)))) (tpIns t l) := by
  refine ⟨h.1.put _ _, ?_, fun n => ?_⟩
  · have : tpOf l t.name = none := by
      unfold tpOf
      rw [List.find?_eq_none]
      intro x hx
      simpa using hn x hx
    rw [Maps.size_put hy, (h.2.2 _).1, this, tpIns_length, h.2.1]
    rfl
  rw [tpOf_ins hn]
  by_cases e : n = t.name
  · subst e
    rw [if_pos rfl]
    have hk : WideAt.IsKeyLit (.string t.name.data.toList) := trivial
    exact ⟨Maps.has_put_same h.1 hk _, fun z => Maps.atKey_put_same h.1 hk _ _⟩
  · have hne : Lit.string n.data.toList ≠ .string t.name.data.toList := fun h => e (nm_ext (by injection h))
    rw [if_neg e]
    exact ⟨(Maps.has_put_other hne _).trans (h.2.2 n).1, fun z => (Maps.atKey_put_other hne _ _).trans ((h.2.2 n).2 z)⟩
theorem IdsD.del {D : DataW H} {l : List Tp} (h : IdsD D l) (hy : Maps.Tidy D) (hu : TpUp l) (hnm : ∀ t ∈ l, ∀ u ∈ l, t.name = u.name → t = u) {t : Tp} (ht : t ∈ l) : IdsD (D.del (.string t.name.data.toList)) (tpDel t.id l) := by
  refine ⟨h.1.del _, ?_, fun n => ?_⟩
  · have h1 := Maps.size_del hy (k := .string t.name.data.toList)
    rw [(h.2.2 _).1, tpOf_of ht fun u hum e => hnm t ht u hum e, h.2.1] at h1
    have h2 := tpDel_length hu ht
    simp only [Option.isSome_some, if_true] at h1
    omega
  rw [tpOf_del hu hnm ht]
  by_cases e : n = t.name
  · subst e
    rw [if_pos rfl]
    exact ⟨Maps.has_del_same, fun z => Maps.atKey_del_same _⟩
  · have hne : Lit.string n.data.toList ≠ .string t.name.data.toList := fun h => e (nm_ext (by injection h))
    rw [if_neg e]
    exact ⟨(Maps.has_del_other hne).trans (h.2.2 n).1, fun z => (Maps.atKey_del_other hne _).trans ((h.2.2 n).2 z)⟩
end
end Go.Proofs.Ytjbpafkdbfbdlaa
