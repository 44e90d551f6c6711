/- Lists of properties, plain: when they are valid, in whatever order, and what their bytes are. -/
import Derived.Test.YtdpeljnoaiaplaaProH
namespace Go.Proofs.Ytdpeljnoaiaplaa
open Go.RowKit

/-- How often an id comes. -/
def cnt (k : Nat) (l : List Pr) : Nat := l.countP fun p => p.id.toNat == k
theorem cnt_cons (k : Nat) (p : Pr) (l : List Pr) : cnt k (p :: l) = cnt k l + if p.id.toNat = k then 1 else 0 := by
  simp [cnt, List.countP_cons]
theorem cnt_append (k : Nat) (a b : List Pr) : cnt k (a ++ b) = cnt k a + cnt k b := by simp [cnt]
theorem cnt_perm {a b : List Pr} (h : a.Perm b) (k : Nat) : cnt k a = cnt k b := h.countP_eq _
theorem cnt_pos {k : Nat} {l : List Pr} : 0 < cnt k l ↔ ∃ p ∈ l, p.id.toNat = k := by
  simp [cnt, List.countP_pos_iff]
def ckL (kind : Int) (l : List Pr) : Prop := ∀ p ∈ l, checkE (ruleOf p.id) kind p = 0
def onceL (kind : Int) (f : Nat → Nat) (l : List Pr) : Prop := ∀ p ∈ l, oftenP kind p.id.toNat = false → f p.id.toNat + cnt p.id.toNat l ≤ 1

theorem againB_iff (f : Nat → Nat) (kind : Int) (k : Nat) : againB f kind k = true ↔ 1 ≤ f k ∧ oftenP kind k = false := by
  unfold againB
  simp
  omega

theorem once_cons (kind : Int) (f : Nat → Nat) (p : Pr) (l : List Pr) (h : ¬ (1 ≤ f p.id.toNat ∧ oftenP kind p.id.toNat = false)) :
    onceL kind (upd f p.id.toNat (f p.id.toNat + 1)) l ↔ onceL kind f (p :: l) := by
  have e : ∀ j, upd f p.id.toNat (f p.id.toNat + 1) j + cnt j l = f j + cnt j (p :: l) := by
    intro j
    rw [cnt_cons]
    unfold upd
    by_cases hj : j = p.id.toNat
    · subst hj; simp; omega
    · rw [if_neg hj, if_neg (fun x => hj x.symm)]; rfl
  unfold onceL
  simp only [e]
  constructor
  · intro ho q hq hoft
    rcases List.mem_cons.1 hq with rfl | hq
    · have hf : f q.id.toNat = 0 := by
        rcases Nat.eq_zero_or_pos (f q.id.toNat) with h0 | h0
        · exact h0
        · exact absurd ⟨h0, hoft⟩ h
      rcases Nat.eq_zero_or_pos (cnt q.id.toNat l) with h0 | h0
      · rw [cnt_cons]; simp; omega
      · obtain ⟨x, hx, hxe⟩ := cnt_pos.1 h0
        have := ho x hx (by rw [hxe]; exact hoft)
        rw [hxe] at this
        exact this
    · exact ho q hq hoft
  · intro ho q hq hoft
    exact ho q (List.mem_cons_of_mem _ hq) hoft

theorem bytesGo_ok (kind : Int) : ∀ (l : List Pr) (f : Nat → Nat) (out : List UInt8), (bytesGo kind l f out).2 = 0 ↔ (ckL kind l ∧ onceL kind f l ∧ loneB (fun k => f k + cnt k l) = false)
  | [], f, out => by
    simp only [bytesGo, ckL, onceL, cnt, List.countP_nil, Nat.add_zero]
    cases h : loneB f <;> simp
  | p :: l, f, out => by
    have e : (fun j => upd f p.id.toNat (f p.id.toNat + 1) j + cnt j l) = fun j => f j + cnt j (p :: l) := by
      funext j
      rw [cnt_cons]
      unfold upd
      by_cases hj : j = p.id.toNat
      · subst hj; simp; omega
      · rw [if_neg hj, if_neg (fun x => hj x.symm)]; rfl
    rw [bytesGo]
    by_cases hc : checkE (ruleOf p.id) kind p = 0
    · rw [if_neg (by simpa using hc)]
      by_cases ha : againB f kind p.id.toNat = true
      · rw [if_pos ha]
        constructor
        · intro h; exact absurd h (by decide)
        · rintro ⟨_, h, _⟩
          have h1 := h p (by simp) ((againB_iff _ _ _).1 ha).2
          have h2 := ((againB_iff _ _ _).1 ha).1
          rw [cnt_cons] at h1
          simp at h1
          omega
      · rw [if_neg ha, bytesGo_ok kind l, e, once_cons kind f p l (fun h => ha ((againB_iff _ _ _).2 h))]
        constructor
        · rintro ⟨h1, h2, h3⟩
          refine ⟨fun q hq => ?_, h2, h3⟩
          rcases List.mem_cons.1 hq with rfl | hq
          · exact hc
          · exact h1 q hq
        · rintro ⟨h1, h2, h3⟩
          exact ⟨fun q hq => h1 q (List.mem_cons_of_mem _ hq), h2, h3⟩
    · rw [if_pos hc]
      constructor
      · intro h; exact absurd h hc
      · rintro ⟨h, _⟩; exact absurd (h p (by simp)) hc
theorem bytesGo_bytes (kind : Int) : ∀ (l : List Pr) (f : Nat → Nat) (out : List UInt8), (bytesGo kind l f out).2 = 0 → bytesGo kind l f out = (varL (out ++ l.flatMap propL).length ++ (out ++ l.flatMap propL), 0)
  | [], f, out => by
    rw [bytesGo]
    cases h : loneB f <;> simp
  | p :: l, f, out => by
    rw [bytesGo]
    by_cases hc : checkE (ruleOf p.id) kind p = 0
    · rw [if_neg (by simpa using hc)]
      by_cases ha : againB f kind p.id.toNat = true
      · rw [if_pos ha]; intro h; exact absurd h (by decide)
      · rw [if_neg ha]
        intro h
        rw [bytesGo_bytes kind l _ _ h]
        simp
    · rw [if_pos hc]; intro h; exact absurd h hc
theorem bytesGo_bad (kind : Int) : ∀ (l : List Pr) (f : Nat → Nat) (out : List UInt8), (bytesGo kind l f out).2 ≠ 0 → (bytesGo kind l f out).1 = []
  | [], f, out => by
    rw [bytesGo]
    cases h : loneB f <;> simp
  | p :: l, f, out => by
    rw [bytesGo]
    by_cases hc : checkE (ruleOf p.id) kind p = 0
    · rw [if_neg (by simpa using hc)]
      by_cases ha : againB f kind p.id.toNat = true
      · rw [if_pos ha]; intro _; rfl
      · rw [if_neg ha]
        exact bytesGo_bad kind l _ _
    · rw [if_pos hc]; intro _; rfl
theorem bytesGo_nine (kind : Int) : ∀ (l : List Pr) (f : Nat → Nat) (out : List UInt8), ckL kind l → (bytesGo kind l f out).2 = 0 ∨ (bytesGo kind l f out).2 = 9
  | [], f, out => by
    intro _
    rw [bytesGo]
    cases h : loneB f <;> simp
  | p :: l, f, out => by
    intro hk
    rw [bytesGo, if_neg (by simpa using hk p (by simp))]
    by_cases ha : againB f kind p.id.toNat = true
    · rw [if_pos ha]; exact .inr rfl
    · rw [if_neg ha]
      exact bytesGo_nine kind l _ _ fun q hq => hk q (List.mem_cons_of_mem _ hq)

/-- A list that is valid. -/
def okL (kind : Int) (l : List Pr) : Prop := ckL kind l ∧ (∀ p ∈ l, oftenP kind p.id.toNat = false → cnt p.id.toNat l ≤ 1) ∧ ¬ (0 < cnt 22 l ∧ cnt 21 l = 0)
theorem lone_iff (f : Nat → Nat) : loneB f = false ↔ ¬ (0 < f 22 ∧ f 21 = 0) := by
  unfold loneB
  rw [← Bool.not_eq_true]
  simp
theorem okL_iff (kind : Int) (l : List Pr) : okL kind l ↔ (ckL kind l ∧ onceL kind (fun _ => 0) l ∧ loneB (fun k => 0 + cnt k l) = false) := by
  unfold okL onceL
  rw [lone_iff]
  simp only [Nat.zero_add]
theorem bytesS_ok (kind : Int) (l : List Pr) : (bytesS kind l).2 = 0 ↔ l.length ≤ 1000 ∧ okL kind l := by
  unfold bytesS
  by_cases h : 1000 < l.length
  · rw [if_pos h]
    constructor
    · intro h; exact absurd h (by decide)
    · rintro ⟨h1, _⟩; omega
  · rw [if_neg h, bytesGo_ok, okL_iff]
    constructor
    · intro h1; exact ⟨by omega, h1⟩
    · rintro ⟨_, h1⟩; exact h1
theorem bytesS_bytes (kind : Int) (l : List Pr) (h : (bytesS kind l).2 = 0) : bytesS kind l = (varL (l.flatMap propL).length ++ l.flatMap propL, 0) := by
  unfold bytesS at h ⊢
  by_cases hl : 1000 < l.length
  · rw [if_pos hl] at h; exact absurd h (by decide)
  · rw [if_neg hl] at h ⊢
    rw [bytesGo_bytes kind l _ _ h]
    simp
theorem bytesS_bad (kind : Int) (l : List Pr) (h : (bytesS kind l).2 ≠ 0) : (bytesS kind l).1 = [] := by
  unfold bytesS at h ⊢
  by_cases hl : 1000 < l.length
  · rw [if_pos hl]
  · rw [if_neg hl] at h ⊢
    exact bytesGo_bad kind l _ _ h
theorem bytesS_nine (kind : Int) (l : List Pr) (hl : l.length ≤ 1000) (h : ckL kind l) : (bytesS kind l).2 = 0 ∨ (bytesS kind l).2 = 9 := by
  unfold bytesS
  rw [if_neg (by omega)]
  exact bytesGo_nine kind l _ _ h

theorem okL_perm {kind : Int} {a b : List Pr} (hp : a.Perm b) (h : okL kind a) : okL kind b := by
  obtain ⟨h1, h2, h3⟩ := h
  refine ⟨fun p hm => h1 p (hp.mem_iff.2 hm), fun p hm ho => ?_, ?_⟩
  · rw [← cnt_perm hp]; exact h2 p (hp.mem_iff.2 hm) ho
  · rw [← cnt_perm hp, ← cnt_perm hp]; exact h3
theorem propL_perm {a b : List Pr} (hp : a.Perm b) : (a.flatMap propL).length = (b.flatMap propL).length := (hp.flatMap_right propL).length_eq
theorem perm_at (l : List Pr) (k : Nat) (h : k < l.length) : l.Perm (l[k] :: (l.take k ++ l.drop (k + 1))) := by
  have e : l.take k ++ (l[k] :: l.drop (k + 1)) = l := by rw [← List.drop_eq_getElem_cons h, List.take_append_drop]
  exact (List.Perm.of_eq e.symm).trans List.perm_middle
theorem okL_less {kind : Int} {p : Pr} {l : List Pr} (h : okL kind (p :: l)) (hp : p.id ≠ 21) : okL kind l := by
  obtain ⟨h1, h2, h3⟩ := h
  have hc := h1 p (by simp)
  have hid := (check_ok hc).1
  refine ⟨fun q hq => h1 q (List.mem_cons_of_mem _ hq), fun q hq ho => ?_, ?_⟩
  · have := h2 q (List.mem_cons_of_mem _ hq) ho
    rw [cnt_cons] at this
    omega
  · rw [cnt_cons, cnt_cons] at h3
    rw [if_neg (show ¬ p.id.toNat = 21 by omega)] at h3
    omega
/-- One more that is there already: valid just if it may come often. -/
theorem okL_more {kind : Int} {p : Pr} {l : List Pr} (h : okL kind l) (hp : p ∈ l) : okL kind (l ++ [p]) ↔ oftenP kind p.id.toNat = true := by
  obtain ⟨h1, h2, h3⟩ := h
  have e : ∀ k, cnt k (l ++ [p]) = cnt k l + if p.id.toNat = k then 1 else 0 := fun k => by rw [cnt_append, cnt_cons]; simp [cnt]
  constructor
  · rintro ⟨_, h5, _⟩
    rcases ho : oftenP kind p.id.toNat with _ | _
    · have := h5 p (by simp) ho
      rw [e] at this
      have h0 := cnt_pos.2 ⟨p, hp, rfl⟩
      simp at this
      omega
    · rfl
  · intro ho
    refine ⟨fun q hq => ?_, fun q hq hoq => ?_, ?_⟩
    · rcases List.mem_append.1 hq with hq | hq
      · exact h1 q hq
      · rw [List.mem_singleton.1 hq]; exact h1 p hp
    · rcases List.mem_append.1 hq with hq | hq
      · rw [e]
        by_cases he : p.id.toNat = q.id.toNat
        · rw [he, hoq] at ho; cases ho
        · rw [if_neg he]; exact h2 q hq hoq
      · rw [List.mem_singleton.1 hq, ho] at hoq; cases hoq
    · rw [e, e]
      rintro ⟨h4, h5⟩
      apply h3
      refine ⟨?_, by omega⟩
      by_cases he : p.id.toNat = 22
      · exact cnt_pos.2 ⟨p, hp, he⟩
      · rw [if_neg he] at h4; exact h4
theorem many_of_often {kind : Int} {p : Pr} (h : checkE (ruleOf p.id) kind p = 0) : manyP kind p.id = oftenP kind p.id.toNat := by
  have hid := (check_ok h).1
  have hm : mayP kind p.id = true := by
    unfold mayP
    rcases hh : hasR (ruleOf p.id) kind with _ | _
    · unfold checkE at h
      rw [if_pos hh] at h
      exact absurd h (by decide)
    · rfl
  have e : ((p.id.toNat : Nat) : Int) = p.id := by omega
  unfold manyP
  rw [hm, Bool.and_true, e]

/-- A part of a valid list: valid, or it has data. -/
theorem okL_part {kind : Int} {a b : List Pr} (h : okL kind (a ++ b)) : (okL kind a ∨ ∃ p ∈ a, p.id = 22) ∧ (okL kind b ∨ ∃ p ∈ b, p.id = 22) := by
  obtain ⟨h1, h2, h3⟩ := h
  have key : ∀ x : List Pr, (∀ p ∈ x, p ∈ a ++ b) → (∀ k, cnt k x ≤ cnt k (a ++ b)) → okL kind x ∨ ∃ p ∈ x, p.id = 22 := by
    intro x hx hc
    by_cases h22 : 0 < cnt 22 x
    · obtain ⟨p, hp, he⟩ := cnt_pos.1 h22
      right
      refine ⟨p, hp, ?_⟩
      omega
    · left
      exact ⟨fun p hp => h1 p (hx p hp), fun p hp ho => Nat.le_trans (hc _) (h2 p (hx p hp) ho), fun h => h22 h.1⟩
  exact ⟨key a (fun p hp => List.mem_append.2 (.inl hp)) (fun k => by rw [cnt_append]; omega), key b (fun p hp => List.mem_append.2 (.inr hp)) (fun k => by rw [cnt_append]; omega)⟩
theorem ckL_append {kind : Int} {a b : List Pr} : ckL kind (a ++ b) ↔ ckL kind a ∧ ckL kind b := by
  unfold ckL
  constructor
  · intro h; exact ⟨fun p hp => h p (List.mem_append.2 (.inl hp)), fun p hp => h p (List.mem_append.2 (.inr hp))⟩
  · rintro ⟨h1, h2⟩ p hp
    rcases List.mem_append.1 hp with hp | hp
    · exact h1 p hp
    · exact h2 p hp
/-- The first of an id. -/
def getP (l : List Pr) (id : Int) : Option Pr := l.find? fun p => p.id == id
theorem getP_some {l : List Pr} {id : Int} (h : ∃ p ∈ l, p.id = id) : (getP l id).isSome = true := by
  obtain ⟨p, hp, he⟩ := h
  unfold getP
  rw [List.find?_isSome]
  exact ⟨p, hp, by simpa using he⟩
end Go.Proofs.Ytdpeljnoaiaplaa
