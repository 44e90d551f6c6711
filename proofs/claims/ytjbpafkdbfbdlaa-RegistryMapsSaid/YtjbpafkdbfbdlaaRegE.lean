/-
  The registry in plain words: what the reference's calls answer and leave.
-/
import Derived.Test.YtjbpafkdbfbdlaaRegD
import Derived.Test.YtjbpafkdbfbdlaaMTop

namespace Go.Proofs.Ytjbpafkdbfbdlaa
open Go.RowKit
section
variable {α β : Type} (f : α → β)
/-- The values turned, the names kept. -/
def kvMap (l : List (ByteArray × α)) : List (ByteArray × β) := l.map fun x => (x.1, f x.2)
theorem kvMap_at {l : List (ByteArray × α)} {n : ByteArray} : kvAt n (kvMap f l) = (kvAt n l).map f := by
  unfold kvAt kvMap
  rw [List.find?_map]
  have : ((fun x : ByteArray × β => decide (x.1 = n)) ∘ fun x : ByteArray × α => (x.1, f x.2)) = fun x => decide (x.1 = n) := rfl
  rw [this]
  cases l.find? fun x => decide (x.1 = n) <;> rfl
theorem kvMap_del {l : List (ByteArray × α)} {n : ByteArray} : kvMap f (kvDel n l) = kvDel n (kvMap f l) := by
  unfold kvMap kvDel
  rw [List.filter_map]
  rfl
theorem kvMap_ins {n : ByteArray} {v : α} : ∀ {l : List (ByteArray × α)}, kvMap f (kvIns n v l) = kvIns n (f v) (kvMap f l)
  | [] => rfl
  | x :: l => by
    have ih := kvMap_ins (n := n) (v := v) (l := l)
    unfold kvMap at ih ⊢
    rw [List.map_cons, kvIns, kvIns]
    by_cases h : nmLt n x.1 = true
    · rw [if_pos h, if_pos h]; rfl
    · rw [if_neg h, if_neg h, List.map_cons, ih]
theorem kvMap_put {l : List (ByteArray × α)} {n : ByteArray} {v : α} : kvMap f (kvPut n v l) = kvPut n (f v) (kvMap f l) := by
  unfold kvPut
  rw [kvMap_ins, kvMap_del]
end
/-- What the reference keeps; a client's topics. -/
abbrev Rg := List (ByteArray × List Tp)
def rgT (L : Rg) (c : ByteArray) : List Tp := (kvAt c L).getD []
def rgSet (L : Rg) (c : ByteArray) (l : List Tp) : Rg := if l = [] then kvDel c L else kvPut c l L
structure RgOk (L : Rg) : Prop where
  up : KvUp L
  each : ∀ x ∈ L, TpsOk x.2 ∧ x.2 ≠ []
theorem RgOk.new : RgOk [] := ⟨by simp [KvUp], by simp⟩
theorem TpsOk.nil : TpsOk [] := ⟨by simp [TpUp], by simp, by simp⟩
theorem RgOk.tops {L : Rg} (h : RgOk L) (c : ByteArray) : TpsOk (rgT L c) := by
  unfold rgT
  cases e : kvAt c L with
  | none => exact TpsOk.nil
  | some l => exact (h.each _ (kvAt_mem e)).1
theorem RgOk.set {L : Rg} (h : RgOk L) {c : ByteArray} {l : List Tp} (hl : TpsOk l) : RgOk (rgSet L c l) := by
  unfold rgSet
  by_cases e : l = []
  · rw [if_pos e]
    exact ⟨kvDel_up h.up, fun x hx => h.each x (mem_kvDel.1 hx).1⟩
  · rw [if_neg e]
    refine ⟨kvPut_up h.up, fun x hx => ?_⟩
    rcases mem_kvPut.1 hx with rfl | hx
    · exact ⟨hl, e⟩
    · exact h.each x hx.1
theorem rgT_set {L : Rg} {c : ByteArray} {l : List Tp} : rgT (rgSet L c l) c = l := by
  unfold rgT rgSet
  by_cases e : l = []
  · rw [if_pos e, kvAt_del, e]; rfl
  · rw [if_neg e, kvAt_put]; rfl
theorem rgT_other {L : Rg} {c d : ByteArray} {l : List Tp} (h : d ≠ c) : rgT (rgSet L c l) d = rgT L d := by
  unfold rgT rgSet
  by_cases e : l = []
  · rw [if_pos e, kvAt_del_other h]
  · rw [if_neg e, kvAt_put_other h]
theorem rgT_nil {L : Rg} (h : RgOk L) {c : ByteArray} : rgT L c = [] ↔ kvAt c L = none := by
  unfold rgT
  cases e : kvAt c L with
  | none => simp
  | some l =>
    have := (h.each _ (kvAt_mem e)).2
    simp [this]
/-- Register. -/
def rfReg (L : Rg) (c n : ByteArray) : (Nat × Bool × Int) × Rg :=
  if nameB n = false then ((0, false, 10), L) else
  match tpOf (rgT L c) n with
  | some t => ((t.id, false, 0), L)
  | none => if 65534 < frS 1 (rgT L c) then ((0, false, 12), L) else ((frS 1 (rgT L c), true, 0), rgSet L c (tpIns ⟨frS 1 (rgT L c), n, false⟩ (rgT L c)))
/-- Predefine. -/
def rfPre (L : Rg) (c n : ByteArray) (i : Int) : Int × Rg :=
  if nameB n = false then (10, L) else
  if i < 1 ∨ 65534 < i then (2, L) else
  if (rgT L c).any (fun t => decide ((t.id : Int) = i ∧ t.name = n ∧ t.fixed = true)) = true then (0, L) else
  if (rgT L c).any (fun t => decide ((t.id : Int) = i ∨ t.name = n)) = true then (16, L) else
  (0, rgSet L c (tpIns ⟨i.toNat, n, true⟩ (rgT L c)))
/-- Clear. -/
def rfClr (L : Rg) (c : ByteArray) : Int × Rg :=
  (((rgT L c).length - ((rgT L c).filter (·.fixed)).length : Int), rgSet L c ((rgT L c).filter (·.fixed)))
def rfName (L : Rg) (c : ByteArray) (i : Int) : ByteArray × Int := match tpAt (rgT L c) i with | some t => (t.name, 0) | none => (.empty, 11)
def rfID (L : Rg) (c n : ByteArray) : Int × Int := match tpOf (rgT L c) n with | some t => (t.id, 0) | none => (0, 11)
def rfFix (L : Rg) (c : ByteArray) (i : Int) : Bool := match tpAt (rgT L c) i with | some t => t.fixed | none => false
theorem tpIns_ne {t : Tp} {l : List Tp} : tpIns t l ≠ [] := by
  cases l with
  | nil => simp [tpIns]
  | cons x l => unfold tpIns; split <;> simp
theorem frS_le : ∀ {l : List Tp} {f : Nat}, frS f l ≤ f + l.length
  | [], _ => Nat.le_refl _
  | t :: l, f => by
    unfold frS
    have := frS_le (l := l) (f := if t.id = f then f + 1 else f)
    rw [List.length_cons]
    split at this
    · rw [if_pos (by assumption)]; omega
    · rw [if_neg (by assumption)]; omega
theorem rfReg_ok {L : Rg} (h : RgOk L) (c n : ByteArray) : RgOk (rfReg L c n).2 := by
  unfold rfReg
  by_cases h0 : nameB n = false
  · rw [if_pos h0]; exact h
  · rw [if_neg h0]
    cases e : tpOf (rgT L c) n with
    | some t => exact h
    | none =>
      simp only
      by_cases h1 : 65534 < frS 1 (rgT L c)
      · rw [if_pos h1]; exact h
      · rw [if_neg h1]
        obtain ⟨a, b, -⟩ := frS_spec (h.tops c).up fun t ht => ((h.tops c).ids t ht).1
        exact h.set ((h.tops c).put b (Nat.le_of_not_lt h1) a fun x hx => tpOf_none e x hx)
theorem rfPre_ok {L : Rg} (h : RgOk L) (c n : ByteArray) (i : Int) : RgOk (rfPre L c n i).2 := by
  unfold rfPre
  by_cases h0 : nameB n = false
  · rw [if_pos h0]; exact h
  · rw [if_neg h0]
    by_cases h1 : i < 1 ∨ 65534 < i
    · rw [if_pos h1]; exact h
    · rw [if_neg h1]
      split
      · exact h
      · split
        · exact h
        · rename_i h2
          rw [Bool.not_eq_true, List.any_eq_false] at h2
          have key : ∀ x ∈ rgT L c, (x.id : Int) ≠ i ∧ x.name ≠ n := fun x hx => by
            have := h2 x hx
            simp only [decide_eq_true_eq] at this
            exact ⟨fun e => this (.inl e), fun e => this (.inr e)⟩
          exact h.set ((h.tops c).put (by show 1 ≤ i.toNat; omega) (by show i.toNat ≤ _; omega) (fun x hx => by have := (key x hx).1; show x.id ≠ i.toNat; omega) fun x hx => (key x hx).2)
theorem rfClr_ok {L : Rg} (h : RgOk L) (c : ByteArray) : RgOk (rfClr L c).2 := h.set ((h.tops c).sub List.filter_sublist)
end Go.Proofs.Ytjbpafkdbfbdlaa
