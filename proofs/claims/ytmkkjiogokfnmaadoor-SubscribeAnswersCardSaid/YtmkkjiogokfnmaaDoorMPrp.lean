/-
  Lists of properties, plain: when they are valid, in whatever order, and what their bytes are.
  Lists of properties: the walks of Own, weight, LightProps, Get.
  Reference 02: Read.
  The laws PropHalves, PropTurns: words that both share.
  The law PropHalves.
  Lists of properties compared: the walks of polyglotkit.Same and prop.Same.
-/
import Derived.Test.YtmkkjiogokfnmaaDoorMPro
import Derived.Test.YtmkkjiogokfnmaaDoorMKit
import Derived.Test.YtmkkjiogokfnmaaDoorMVar
import Derived.Deep.RegionHeld3
import Derived.Laws.StructEq

namespace Go.Proofs.YtmkkjiogokfnmaaDoor
open Go.RowKit

/-- How often an id comes. -/
def cnt (k : Nat) (l : List Pr) : Nat := l.countP fun p => p.id.toNat == k
theorem cnt_cons (k : Nat) (p : Pr) (l : List Pr) : cnt k (p :: l) = cnt k l + if p.id.toNat = k then 1 else 0 := by
  simp [cnt, List.countP_cons]
theorem cnt_append (k : Nat) (a b : List Pr) : cnt k (a ++ b) = cnt k a + cnt k b := by simp [cnt]
theorem cnt_perm {a b : List Pr} (h : a.Perm b) (k : Nat) : cnt k a = cnt k b := h.countP_eq _
theorem cnt_pos {k : Nat} {l : List Pr} : 0 < cnt k l ↔ ∃ p ∈ l, p.id.toNat = k := by
  simp [cnt, List.countP_pos_iff]
def ckL (kind : Int) (l : List Pr) : Prop := ∀ p ∈ l, checkE (ruleOf p.id) kind p = 0
def onceL (kind : Int) (f : Nat → Nat) (l : List Pr) : Prop := ∀ p ∈ l, oftenP kind p.id.toNat = false → f p.id.toNat + cnt p.id.toNat l ≤ 1

theorem againB_iff (f : Nat → Nat) (kind : Int) (k : Nat) : againB f kind k = true ↔ 1 ≤ f k ∧ oftenP kind k = false := by
  unfold againB
  simp
  omega

theorem once_cons (kind : Int) (f : Nat → Nat) (p : Pr) (l : List Pr) (h : ¬ (1 ≤ f p.id.toNat ∧ oftenP kind p.id.toNat = false)) :
    onceL kind (upd f p.id.toNat (f p.id.toNat + 1)) l ↔ onceL kind f (p :: l) := by
  have e : ∀ j, upd f p.id.toNat (f p.id.toNat + 1) j + cnt j l = f j + cnt j (p :: l) := by
    intro j
    rw [cnt_cons]
    unfold upd
    by_cases hj : j = p.id.toNat
    · subst hj; simp; omega
    · rw [if_neg hj, if_neg (fun x => hj x.symm)]; rfl
  unfold onceL
  simp only [e]
  constructor
  · intro ho q hq hoft
    rcases List.mem_cons.1 hq with rfl | hq
    · have hf : f q.id.toNat = 0 := by
        rcases Nat.eq_zero_or_pos (f q.id.toNat) with h0 | h0
        · exact h0
        · exact absurd ⟨h0, hoft⟩ h
      rcases Nat.eq_zero_or_pos (cnt q.id.toNat l) with h0 | h0
      · rw [cnt_cons]; simp; omega
      · obtain ⟨x, hx, hxe⟩ := cnt_pos.1 h0
        have := ho x hx (by rw [hxe]; exact hoft)
        rw [hxe] at this
        exact this
    · exact ho q hq hoft
  · intro ho q hq hoft
    exact ho q (List.mem_cons_of_mem _ hq) hoft

theorem bytesGo_ok (kind : Int) : ∀ (l : List Pr) (f : Nat → Nat) (out : List UInt8), (bytesGo kind l f out).2 = 0 ↔ (ckL kind l ∧ onceL kind f l ∧ loneB (fun k => f k + cnt k l) = false)
  | [], f, out => by
    simp only [bytesGo, ckL, onceL, cnt, List.countP_nil, Nat.add_zero]
    cases h : loneB f <;> simp
  | p :: l, f, out => by
    have e : (fun j => upd f p.id.toNat (f p.id.toNat + 1) j + cnt j l) = fun j => f j + cnt j (p :: l) := by
      funext j
      rw [cnt_cons]
      unfold upd
      by_cases hj : j = p.id.toNat
      · subst hj; simp; omega
      · rw [if_neg hj, if_neg (fun x => hj x.symm)]; rfl
    rw [bytesGo]
    by_cases hc : checkE (ruleOf p.id) kind p = 0
    · rw [if_neg (by simpa using hc)]
      by_cases ha : againB f kind p.id.toNat = true
      · rw [if_pos ha]
        constructor
        · intro h; exact absurd h (by decide)
        · rintro ⟨_, h, _⟩
          have h1 := h p (by simp) ((againB_iff _ _ _).1 ha).2
          have h2 := ((againB_iff _ _ _).1 ha).1
          rw [cnt_cons] at h1
          simp at h1
          omega
      · rw [if_neg ha, bytesGo_ok kind l, e, once_cons kind f p l (fun h => ha ((againB_iff _ _ _).2 h))]
        constructor
        · rintro ⟨h1, h2, h3⟩
          refine ⟨fun q hq => ?_, h2, h3⟩
          rcases List.mem_cons.1 hq with rfl | hq
          · exact hc
          · exact h1 q hq
        · rintro ⟨h1, h2, h3⟩
          exact ⟨fun q hq => h1 q (List.mem_cons_of_mem _ hq), h2, h3⟩
    · rw [if_pos hc]
      constructor
      · intro h; exact absurd h hc
      · rintro ⟨h, _⟩; exact absurd (h p (by simp)) hc
theorem bytesGo_bytes (kind : Int) : ∀ (l : List Pr) (f : Nat → Nat) (out : List UInt8), (bytesGo kind l f out).2 = 0 → bytesGo kind l f out = (varL (out ++ l.flatMap propL).length ++ (out ++ l.flatMap propL), 0)
  | [], f, out => by
    rw [bytesGo]
    cases h : loneB f <;> simp
  | p :: l, f, out => by
    rw [bytesGo]
    by_cases hc : checkE (ruleOf p.id) kind p = 0
    · rw [if_neg (by simpa using hc)]
      by_cases ha : againB f kind p.id.toNat = true
      · rw [if_pos ha]; intro h; exact absurd h (by decide)
      · rw [if_neg ha]
        intro h
        rw [bytesGo_bytes kind l _ _ h]
        simp
    · rw [if_pos hc]; intro h; exact absurd h hc
theorem bytesGo_bad (kind : Int) : ∀ (l : List Pr) (f : Nat → Nat) (out : List UInt8), (bytesGo kind l f out).2 ≠ 0 → (bytesGo kind l f out).1 = []
  | [], f, out => by
    rw [bytesGo]
    cases h : loneB f <;> simp
  | p :: l, f, out => by
    rw [bytesGo]
    by_cases hc : checkE (ruleOf p.id) kind p = 0
    · rw [if_neg (by simpa using hc)]
      by_cases ha : againB f kind p.id.toNat = true
      · rw [if_pos ha]; intro _; rfl
      · rw [if_neg ha]
        exact bytesGo_bad kind l _ _
    · rw [if_pos hc]; intro _; rfl
theorem bytesGo_nine (kind : Int) : ∀ (l : List Pr) (f : Nat → Nat) (out : List UInt8), ckL kind l → (bytesGo kind l f out).2 = 0 ∨ (bytesGo kind l f out).2 = 9
  | [], f, out => by
    intro _
    rw [bytesGo]
    cases h : loneB f <;> simp
  | p :: l, f, out => by
    intro hk
    rw [bytesGo, if_neg (by simpa using hk p (by simp))]
    by_cases ha : againB f kind p.id.toNat = true
    · rw [if_pos ha]; exact .inr rfl
    · rw [if_neg ha]
      exact bytesGo_nine kind l _ _ fun q hq => hk q (List.mem_cons_of_mem _ hq)

/-- A list that is valid. -/
def okL (kind : Int) (l : List Pr) : Prop := ckL kind l ∧ (∀ p ∈ l, oftenP kind p.id.toNat = false → cnt p.id.toNat l ≤ 1) ∧ ¬ (0 < cnt 22 l ∧ cnt 21 l = 0)
theorem lone_iff (f : Nat → Nat) : loneB f = false ↔ ¬ (0 < f 22 ∧ f 21 = 0) := by
  unfold loneB
  rw [← Bool.not_eq_true]
  simp
theorem okL_iff (kind : Int) (l : List Pr) : okL kind l ↔ (ckL kind l ∧ onceL kind (fun _ => 0) l ∧ loneB (fun k => 0 + cnt k l) = false) := by
  unfold okL onceL
  rw [lone_iff]
  simp only [Nat.zero_add]
theorem bytesS_ok (kind : Int) (l : List Pr) : (bytesS kind l).2 = 0 ↔ l.length ≤ 1000 ∧ okL kind l := by
  unfold bytesS
  by_cases h : 1000 < l.length
  · rw [if_pos h]
    constructor
    · intro h; exact absurd h (by decide)
    · rintro ⟨h1, _⟩; omega
  · rw [if_neg h, bytesGo_ok, okL_iff]
    constructor
    · intro h1; exact ⟨by omega, h1⟩
    · rintro ⟨_, h1⟩; exact h1
theorem bytesS_bytes (kind : Int) (l : List Pr) (h : (bytesS kind l).2 = 0) : bytesS kind l = (varL (l.flatMap propL).length ++ l.flatMap propL, 0) := by
  unfold bytesS at h ⊢
  by_cases hl : 1000 < l.length
  · rw [if_pos hl] at h; exact absurd h (by decide)
  · rw [if_neg hl] at h ⊢
    rw [bytesGo_bytes kind l _ _ h]
    simp
theorem bytesS_bad (kind : Int) (l : List Pr) (h : (bytesS kind l).2 ≠ 0) : (bytesS kind l).1 = [] := by
  unfold bytesS at h ⊢
  by_cases hl : 1000 < l.length
  · rw [if_pos hl]
  · rw [if_neg hl] at h ⊢
    exact bytesGo_bad kind l _ _ h
theorem bytesS_nine (kind : Int) (l : List Pr) (hl : l.length ≤ 1000) (h : ckL kind l) : (bytesS kind l).2 = 0 ∨ (bytesS kind l).2 = 9 := by
  unfold bytesS
  rw [if_neg (by omega)]
  exact bytesGo_nine kind l _ _ h

theorem okL_perm {kind : Int} {a b : List Pr} (hp : a.Perm b) (h : okL kind a) : okL kind b := by
  obtain ⟨h1, h2, h3⟩ := h
  refine ⟨fun p hm => h1 p (hp.mem_iff.2 hm), fun p hm ho => ?_, ?_⟩
  · rw [← cnt_perm hp]; exact h2 p (hp.mem_iff.2 hm) ho
  · rw [← cnt_perm hp, ← cnt_perm hp]; exact h3
theorem propL_perm {a b : List Pr} (hp : a.Perm b) : (a.flatMap propL).length = (b.flatMap propL).length := (hp.flatMap_right propL).length_eq
theorem perm_at (l : List Pr) (k : Nat) (h : k < l.length) : l.Perm (l[k] :: (l.take k ++ l.drop (k + 1))) := by
  have e : l.take k ++ (l[k] :: l.drop (k + 1)) = l := by rw [← List.drop_eq_getElem_cons h, List.take_append_drop]
  exact (List.Perm.of_eq e.symm).trans List.perm_middle
theorem okL_less {kind : Int} {p : Pr} {l : List Pr} (h : okL kind (p :: l)) (hp : p.id ≠ 21) : okL kind l := by
  obtain ⟨h1, h2, h3⟩ := h
  have hc := h1 p (by simp)
  have hid := (check_ok hc).1
  refine ⟨fun q hq => h1 q (List.mem_cons_of_mem _ hq), fun q hq ho => ?_, ?_⟩
  · have := h2 q (List.mem_cons_of_mem _ hq) ho
    rw [cnt_cons] at this
    omega
  · rw [cnt_cons, cnt_cons] at h3
    rw [if_neg (show ¬ p.id.toNat = 21 by omega)] at h3
    omega
/-- One more that is there already: valid just if it may come often. -/
theorem okL_more {kind : Int} {p : Pr} {l : List Pr} (h : okL kind l) (hp : p ∈ l) : okL kind (l ++ [p]) ↔ oftenP kind p.id.toNat = true := by
  obtain ⟨h1, h2, h3⟩ := h
  have e : ∀ k, cnt k (l ++ [p]) = cnt k l + if p.id.toNat = k then 1 else 0 := fun k => by rw [cnt_append, cnt_cons]; simp [cnt]
  constructor
  · rintro ⟨_, h5, _⟩
    rcases ho : oftenP kind p.id.toNat with _ | _
    · have := h5 p (by simp) ho
      rw [e] at this
      have h0 := cnt_pos.2 ⟨p, hp, rfl⟩
      simp at this
      omega
    · rfl
  · intro ho
    refine ⟨fun q hq => ?_, fun q hq hoq => ?_, ?_⟩
    · rcases List.mem_append.1 hq with hq | hq
      · exact h1 q hq
      · rw [List.mem_singleton.1 hq]; exact h1 p hp
    · rcases List.mem_append.1 hq with hq | hq
      · rw [e]
        by_cases he : p.id.toNat = q.id.toNat
        · rw [he, hoq] at ho; cases ho
        · rw [if_neg he]; exact h2 q hq hoq
      · rw [List.mem_singleton.1 hq, ho] at hoq; cases hoq
    · rw [e, e]
      rintro ⟨h4, h5⟩
      apply h3
      refine ⟨?_, by omega⟩
      by_cases he : p.id.toNat = 22
      · exact cnt_pos.2 ⟨p, hp, he⟩
      · rw [if_neg he] at h4; exact h4
theorem many_of_often {kind : Int} {p : Pr} (h : checkE (ruleOf p.id) kind p = 0) : manyP kind p.id = oftenP kind p.id.toNat := by
  have hid := (check_ok h).1
  have hm : mayP kind p.id = true := by
    unfold mayP
    rcases hh : hasR (ruleOf p.id) kind with _ | _
    · unfold checkE at h
      rw [if_pos hh] at h
      exact absurd h (by decide)
    · rfl
  have e : ((p.id.toNat : Nat) : Int) = p.id := by omega
  unfold manyP
  rw [hm, Bool.and_true, e]

/-- A part of a valid list: valid, or it has data. -/
theorem okL_part {kind : Int} {a b : List Pr} (h : okL kind (a ++ b)) : (okL kind a ∨ ∃ p ∈ a, p.id = 22) ∧ (okL kind b ∨ ∃ p ∈ b, p.id = 22) := by
  obtain ⟨h1, h2, h3⟩ := h
  have key : ∀ x : List Pr, (∀ p ∈ x, p ∈ a ++ b) → (∀ k, cnt k x ≤ cnt k (a ++ b)) → okL kind x ∨ ∃ p ∈ x, p.id = 22 := by
    intro x hx hc
    by_cases h22 : 0 < cnt 22 x
    · obtain ⟨p, hp, he⟩ := cnt_pos.1 h22
      right
      refine ⟨p, hp, ?_⟩
      omega
    · left
      exact ⟨fun p hp => h1 p (hx p hp), fun p hp ho => Nat.le_trans (hc _) (h2 p (hx p hp) ho), fun h => h22 h.1⟩
  exact ⟨key a (fun p hp => List.mem_append.2 (.inl hp)) (fun k => by rw [cnt_append]; omega), key b (fun p hp => List.mem_append.2 (.inr hp)) (fun k => by rw [cnt_append]; omega)⟩
theorem ckL_append {kind : Int} {a b : List Pr} : ckL kind (a ++ b) ↔ ckL kind a ∧ ckL kind b := by
  unfold ckL
  constructor
  · intro h; exact ⟨fun p hp => h p (List.mem_append.2 (.inl hp)), fun p hp => h p (List.mem_append.2 (.inr hp))⟩
  · rintro ⟨h1, h2⟩ p hp
    rcases List.mem_append.1 hp with hp | hp
    · exact h1 p hp
    · exact h2 p hp
/-- The first of an id. -/
def getP (l : List Pr) (id : Int) : Option Pr := l.find? fun p => p.id == id
theorem getP_some {l : List Pr} {id : Int} (h : ∃ p ∈ l, p.id = id) : (getP l id).isSome = true := by
  obtain ⟨p, hp, he⟩ := h
  unfold getP
  rw [List.find?_isSome]
  exact ⟨p, hp, by simpa using he⟩
end Go.Proofs.YtmkkjiogokfnmaaDoor

namespace Go.Proofs.YtmkkjiogokfnmaaDoor
open Go.RowKit

theorem info_prop : (Tryd.prog.info? 68).map (fun i => (i.zero, i.size, i.bytes)) = some (some (.agg #[.int .i64 0, .int .u32 0, .string ⟨#[]⟩, .string ⟨#[]⟩]), 4, 48) := by kernel_rfl
theorem size_prop (w : World) : (sizeOf 68).run Tryd.prog w = .ok 4 w := by kernel_rfl
theorem prs_one (l : List Pr) : ∀ u ∈ prs l, u.oneCell' = true := by
  intro u hu
  obtain ⟨p, _, hp⟩ := List.mem_flatMap.1 hu
  simp [prC] at hp
  rcases hp with rfl | rfl | rfl | rfl <;> rfl
theorem prs_drop (l : List Pr) (k : Nat) : (prs l).drop (k * 4) = prs (l.drop k) := by
  induction k generalizing l with
  | zero => simp
  | succ k ih =>
    cases l with
    | nil => simp [prs]
    | cons p l =>
      rw [show (k + 1) * 4 = 4 + k * 4 by omega, ← List.drop_drop]
      simpa [prs, prC] using ih l
theorem prs_take (l : List Pr) (k : Nat) : (prs l).take (k * 4) = prs (l.take k) := by
  induction k generalizing l with
  | zero => simp [prs]
  | succ k ih =>
    cases l with
    | nil => simp [prs]
    | cons p l =>
      rw [show (k + 1) * 4 = 4 + k * 4 by omega]
      have := ih l
      simp [prs, prC] at this ⊢
      rw [show 4 + k * 4 = k * 4 + 1 + 1 + 1 + 1 by omega]
      simpa using this
theorem prs_append (a b : List Pr) : prs (a ++ b) = prs a ++ prs b := by simp [prs]

/-- How many bytes the texts have. -/
def wt (l : List Pr) : Nat := (l.map fun p => p.text.size + p.value.size).sum
theorem wt_snoc (l : List Pr) (k : Nat) (h : k < l.length) : wt (l.take (k + 1)) = wt (l.take k) + l[k].text.size + l[k].value.size := by
  unfold wt
  rw [List.take_succ_eq_append_getElem h, List.map_append, List.sum_append]
  simp only [List.map_cons, List.map_nil, List.sum_cons, List.sum_nil]
  omega
/-- A property within the form's reach. -/
def prGood (p : Pr) : Prop := p.n < 4294967296 ∧ p.text.size ≤ 140737488351232 ∧ p.value.size ≤ 140737488351232
theorem prGood_ok {p : Pr} (h : prGood p) : p.Ok := ⟨h.1, by have := h.2.1; omega, by have := h.2.2; omega⟩
def small (l : List Pr) : Prop := ∀ p ∈ l, p.text.size ≤ 140737488351232 ∧ p.value.size ≤ 140737488351232
theorem small_of_good {l : List Pr} (h : ∀ p ∈ l, prGood p) : small l := fun p hp => (h p hp).2
theorem wt_le : ∀ (l : List Pr), small l → wt l ≤ l.length * 281474976702464
  | [], _ => by simp [wt]
  | p :: l, h => by
    have h1 := wt_le l (fun q hq => h q (List.mem_cons_of_mem _ hq))
    have h2 := h p (by simp)
    simp [wt] at h1 ⊢
    omega
theorem small_take {l : List Pr} (h : small l) (k : Nat) : small (l.take k) := fun p hp => h p (List.mem_of_mem_take hp)

def lightB (l : List Pr) : Bool := decide (l.length ≤ 1010) && decide (wt l ≤ 140000)
def getR (l : List Pr) (id : Int) : Pr := (getP l id).getD ⟨0, 0, ⟨#[]⟩, ⟨#[]⟩⟩
end Go.Proofs.YtmkkjiogokfnmaaDoor

namespace Go.Proofs.YtmkkjiogokfnmaaDoor
open Go.RowKit

theorem ret3 {a b c a' b' c' : Int} (h1 : a = a') (h2 : b = b') (h3 : c = c') : Ending.returned (.tuple #[.int .i64 a, .int .i64 b, .int .i64 c]) = .returned (.tuple #[.int .i64 a', .int .i64 b', .int .i64 c']) := by rw [h1, h2, h3]
end Go.Proofs.YtmkkjiogokfnmaaDoor

namespace Go.Proofs.YtmkkjiogokfnmaaDoor
open Go.RowKit
attribute [local go_sem ↓] Go.wp_at_zero Go.wp_at_succ

/-- Nothing that was there has turned. -/
def Kept (w0 x : World) : Prop := Below w0.heap.size w0 x
section
variable {w0 x y : World}
theorem Kept.refl (w : World) : Kept w w := Below.refl _ _
theorem Kept.below (h : Kept w0 x) (hb : Below x.heap.size x y) : Kept w0 y := Below.trans h (hb.mono (Below.size h))
theorem Kept.drewN (h : Kept w0 x) (n : Nat) : Kept w0 (x.drewN n) := below_drawn h n
theorem Kept.drew (h : Kept w0 x) : Kept w0 x.drew := below_drawn h 1
theorem Kept.alloc (h : Kept w0 x) (o : Obj) : Kept w0 (x.alloc o) := Below.alloc h (Below.size h) o
theorem Kept.app {v : Value} (h : Kept w0 x) (hg : x.grownBy y v.ownBlock) (hv : ∀ k, v.ownBlock = some k → w0.heap.size ≤ k) : Kept w0 y := Below.grown h hg (Below.size h) hv
theorem Kept.rd {k n : Nat} {A : Option Addr} {xs : List Value} (hk : Kept w0 x) (h : Rd w0 w0.heap.size k A n xs) : Rd x x.heap.size k A n xs := (h.below hk).wider (Below.size hk)
theorem Kept.to (h : Kept w0 x) : Below w0.heap.size w0 x := h
theorem Kept.size (h : Kept w0 x) : w0.heap.size ≤ x.heap.size := Below.size h
theorem Kept.own {e : TypeId} {k n : Nat} {v : Value} {xs : List Value} (_ : Kept w0 x) (h : y.ownsRow x.heap.size e k v n xs) (hk : w0.heap.size ≤ x.heap.size) : ∀ g, v.ownBlock = some g → w0.heap.size ≤ g := fun g hg => Nat.le_trans hk (own_block h g hg).1
end

theorem bytesP_n (kind : Int) (l : List Pr) (n : Nat) (hn : l.length = n) (hok : ∀ p ∈ l, prGood p) (A : Option Addr) (cap : Nat) (w : World) (h : Rd w w.heap.size 4 A n (prs l)) (hl : n ≤ 4611686018427387904) :
    Calls Tryd.prog 21 #[.int .i64 kind, .slice A n cap] w fun e w' => e = .returned (.tuple #[.string ⟨(bytesS kind l).1.toArray⟩, .int .i64 (bytesS kind l).2]) ∧ Below w.heap.size w w' := by
  subst hn
  exact bytesP_any kind l (fun p hp => prGood_ok (hok p hp)) A cap w h hl
theorem validP_n (kind : Int) (l : List Pr) (n : Nat) (hn : l.length = n) (hok : ∀ p ∈ l, prGood p) (A : Option Addr) (cap : Nat) (w : World) (h : Rd w w.heap.size 4 A n (prs l)) (hl : n ≤ 4611686018427387904) :
    Calls Tryd.prog 28 #[.int .i64 kind, .slice A n cap] w fun e w' => e = .returned (.int .i64 (bytesS kind l).2) ∧ Below w.heap.size w w' := by
  subst hn
  exact validP_any kind l (fun p hp => prGood_ok (hok p hp)) A cap w h hl
theorem Rd.one4 (w : World) (p : Pr) : Rd (w.alloc (.cells #[.int .i64 p.id, .int .u32 p.n, .string p.text, .string p.value] 68)) (w.heap.size + 1) 4 (some ⟨w.heap.size, 0, none⟩) 1 (prs [p]) := by
  have := Rd.lit4 w #[.int .i64 p.id, .int .u32 p.n, .string p.text, .string p.value] 68 [p] rfl
  simpa using this
theorem rest_at (t : ByteArray) (a : Nat) : ls (t.extract a t.size) = (ls t).drop a := by
  unfold ls
  rw [Lib.extract_data, List.take_of_length_le]
  simp
end Go.Proofs.YtmkkjiogokfnmaaDoor

namespace Go.Proofs.YtmkkjiogokfnmaaDoor
open Go.RowKit

theorem pick_nat (n : Int) (m : Nat) (hm : 0 < m) : ∃ k : Nat, pickN n m = k ∧ k < m := by
  unfold pickN
  rw [if_neg (by omega)]
  have h1 := Int.emod_nonneg n (show (m : Int) ≠ 0 by omega)
  have h2 := Int.emod_lt_of_pos n (show (0 : Int) < (m : Int) by omega)
  exact ⟨(n % (m : Int)).toNat, by omega, by omega⟩
theorem flat_total {kind : Int} : ∀ {l : List Pr}, ckL kind l → (l.flatMap propL).length ≤ l.length * 131075
  | [], _ => by simp
  | p :: l, h => by
    have h1 := propL_len (h p (by simp))
    have h2 := flat_total (fun q hq => h q (List.mem_cons_of_mem _ hq))
    rw [List.flatMap_cons, List.length_append, List.length_cons]
    omega
theorem bytesS_size (kind : Int) (l : List Pr) (h : (bytesS kind l).2 = 0) : (l.flatMap propL).length ≤ 131075000 ∧ (bytesS kind l).1.length ≤ 131075004 := by
  have hb := bytesS_bytes kind l h
  obtain ⟨h1, h2, _⟩ := (bytesS_ok kind l).1 h
  have h3 := flat_total h2
  refine ⟨by omega, ?_⟩
  rw [hb]
  have := varF_len 3 (l.flatMap propL).length
  simp only [varL, List.length_append]
  omega
theorem mk_size (l : List UInt8) : (⟨l.toArray⟩ : ByteArray).size = l.length := by show l.toArray.size = _; simp
theorem behind_bytes (kind : Int) (l : List Pr) (h : (bytesS kind l).2 = 0) :
    (⟨(bytesS kind l).1.toArray⟩ : ByteArray).extract (readV (ls ⟨(bytesS kind l).1.toArray⟩)).2.1 (⟨(bytesS kind l).1.toArray⟩ : ByteArray).size = ⟨(l.flatMap propL).toArray⟩ := by
  have hs := (bytesS_size kind l h).1
  have hb := bytesS_bytes kind l h
  rw [ls_mk, hb]
  simp only
  rw [readV_varL _ (by omega)]
  apply ls_ext
  rw [rest_at, ls_mk, ls_mk]
  simp
theorem mk_cat (a b : List UInt8) : (⟨(a ++ b).toArray⟩ : ByteArray) = ⟨a.toArray⟩ ++ ⟨b.toArray⟩ := (mk_app a b).symm

end Go.Proofs.YtmkkjiogokfnmaaDoor

namespace Go.Proofs.YtmkkjiogokfnmaaDoor
open Go.RowKit

instance : DecidableEq Pr := fun a b => decidable_of_iff (a.id = b.id ∧ a.n = b.n ∧ a.text = b.text ∧ a.value = b.value) (by cases a; cases b; simp)
theorem pr_eq_iff (a b : Pr) : a = b ↔ a.id = b.id ∧ a.n = b.n ∧ a.text = b.text ∧ a.value = b.value := by cases a; cases b; simp
theorem guard_prop : Tryd.prog.eqGuardType Tryd.prog.depth 68 = false := by kernel_rfl
theorem toList_inj (a b : ByteArray) : a.toList = b.toList ↔ a = b := by
  rw [ByteArray.toList_eq, ByteArray.toList_eq]
  exact ⟨fun h => ls_ext h, fun h => by rw [h]⟩
theorem eql_prop (p q : Pr) (w : World) : (binOp .eql 68 (.agg #[.int .i64 p.id, .int .u32 p.n, .string p.text, .string p.value]) (.agg #[.int .i64 q.id, .int .u32 q.n, .string q.text, .string q.value])).run Tryd.prog w = .ok (.bool (decide (p = q))) w := by
  have u1 := Tryd.underlying3
  have u2 := Tryd.underlying66
  have u3 := Tryd.underlying9
  have hS : Tryd.prog.underlying 68 = some (.struct (Tryd.prog.fieldsOf 68)) := by kernel_rfl
  have hp : Tryd.prog.stoodInHeld 68 = false := by kernel_rfl
  rw [run_eql_struct, show (10000 : Nat) = 9999 + 1 from rfl, run_equalIn_agg w 9999 68 _ _ hS hp]
  simp only [Program.fieldsOf, Tryd.underlying68]
  go_simp
  by_cases h1 : p.id = q.id <;> by_cases h2 : p.n = q.n <;> by_cases h3 : p.text = q.text <;> by_cases h4 : p.value = q.value <;> simp [pr_eq_iff, h1, h2, h3, h4, toList_inj] <;> omega
theorem neq_prop (p q : Pr) (w : World) : (binOp .neq 68 (.agg #[.int .i64 p.id, .int .u32 p.n, .string p.text, .string p.value]) (.agg #[.int .i64 q.id, .int .u32 q.n, .string q.text, .string q.value])).run Tryd.prog w = .ok (.bool (!decide (p = q))) w := by
  have h := eql_prop p q w
  rw [run_eql_struct] at h
  rw [run_neq_struct]
  generalize (Op.equalIn 10000 _ _ _).run Tryd.prog w = r at h ⊢
  cases r with
  | ok b w' => simp [Result.andThen] at h ⊢; obtain ⟨rfl, rfl⟩ := h; simp
  | halt x w' => simp [Result.andThen] at h
end Go.Proofs.YtmkkjiogokfnmaaDoor
