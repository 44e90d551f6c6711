/-
  The registry in plain words: a client, its free ids, what its calls do.
-/
import Derived.Test.YtjbpafkdbfbdlaaRegA

namespace Go.Proofs.Ytjbpafkdbfbdlaa
open Go.RowKit
theorem frS_eq {l : List Tp} {r : Nat} (hl : TpUp l) (h1 : ∀ x ∈ l, 1 ≤ x.id) (r1 : 1 ≤ r) (hn : ∀ x ∈ l, x.id ≠ r) (hb : ∀ i, 1 ≤ i → i < r → ∃ x ∈ l, x.id = i) : frS 1 l = r := by
  obtain ⟨a, b, c⟩ := frS_spec hl h1
  rcases Nat.lt_trichotomy (frS 1 l) r with h | h | h
  · obtain ⟨x, hx, e⟩ := hb _ b h
    exact absurd e (a x hx)
  · exact h
  · obtain ⟨x, hx, e⟩ := c r r1 h
    exact absurd e (hn x hx)
/-- What is there by an id, by a name. -/
def tpAt (l : List Tp) (i : Int) : Option Tp := l.find? fun t => decide ((t.id : Int) = i)
def tpOf (l : List Tp) (n : ByteArray) : Option Tp := l.find? fun t => decide (t.name = n)
theorem tpAt_some {l : List Tp} {i : Int} {t : Tp} (h : tpAt l i = some t) : t ∈ l ∧ (t.id : Int) = i :=
  ⟨List.mem_of_find?_eq_some h, by simpa using List.find?_some h⟩
theorem tpAt_none {l : List Tp} {i : Int} (h : tpAt l i = none) (t : Tp) (ht : t ∈ l) : (t.id : Int) ≠ i := by
  have := List.find?_eq_none.1 h t ht
  simpa using this
theorem tpOf_some {l : List Tp} {n : ByteArray} {t : Tp} (h : tpOf l n = some t) : t ∈ l ∧ t.name = n :=
  ⟨List.mem_of_find?_eq_some h, by simpa using List.find?_some h⟩
theorem tpOf_none {l : List Tp} {n : ByteArray} (h : tpOf l n = none) (t : Tp) (ht : t ∈ l) : t.name ≠ n := by
  have := List.find?_eq_none.1 h t ht
  simpa using this
/-- A client: its topics, the ids that were had, the next one never had. -/
structure Cl where
  all : List Tp
  back : List Nat
  next : Nat
def bk (l : List Nat) (k : Nat) : Int := ((l.getD k 0 : Nat) : Int)
/-- What holds of a client's topics. -/
structure TpsOk (l : List Tp) : Prop where
  up : TpUp l
  ids : ∀ t ∈ l, 1 ≤ t.id ∧ t.id ≤ 65534
  names : ∀ t ∈ l, ∀ u ∈ l, t.name = u.name → t = u
/-- What holds of a client. -/
structure ClOk (c : Cl) : Prop extends TpsOk c.all where
  n1 : 1 ≤ c.next
  n2 : c.next ≤ 65535
  heap : Heap (bk c.back) c.back.length
  had : ∀ i ∈ c.back, 1 ≤ i ∧ i < c.next
  free : ∀ i, 1 ≤ i → i < c.next → (∀ t ∈ c.all, t.id ≠ i) → i ∈ c.back
  own : ∀ t ∈ c.all, t.fixed = false → t.id < c.next
theorem ClOk.new : ClOk ⟨[], [], 1⟩ where
  up := by simp [TpUp]
  ids := by simp
  names := by simp
  n1 := Nat.le_refl _
  n2 := by decide
  heap := fun k _ h => by simp at h
  had := by simp
  free := fun i h1 h2 => by simp only at h2; omega
  own := by simp
theorem TpUp.inj {l : List Tp} (h : TpUp l) {t u : Tp} (ht : t ∈ l) (hu : u ∈ l) (e : t.id = u.id) : t = u := by
  induction l with
  | nil => cases ht
  | cons x l ih =>
    unfold TpUp at h
    rw [List.pairwise_cons] at h
    rcases List.mem_cons.1 ht with a | a
    · rcases List.mem_cons.1 hu with b | b
      · rw [a, b]
      · have := h.1 u b
        rw [a] at e
        omega
    · rcases List.mem_cons.1 hu with b | b
      · have := h.1 t a
        rw [b] at e
        omega
      · exact ih h.2 a b
theorem TpsOk.put {l : List Tp} (h : TpsOk l) {t : Tp} (h1 : 1 ≤ t.id) (h2 : t.id ≤ 65534) (hi : ∀ x ∈ l, x.id ≠ t.id) (hn : ∀ x ∈ l, x.name ≠ t.name) : TpsOk (tpIns t l) where
  up := tpIns_up h.up hi
  ids := fun x hx => by
    rcases mem_tpIns.1 hx with rfl | hx
    · exact ⟨h1, h2⟩
    · exact h.ids x hx
  names := fun x hx y hy e => by
    rcases mem_tpIns.1 hx with a | a
    · rcases mem_tpIns.1 hy with b | b
      · rw [a, b]
      · exact absurd (by rw [← e, a]) (hn y b)
    · rcases mem_tpIns.1 hy with b | b
      · exact absurd (by rw [e, b]) (hn x a)
      · exact h.names x a y b e
theorem TpsOk.sub {l m : List Tp} (h : TpsOk l) (hs : m.Sublist l) : TpsOk m :=
  ⟨h.up.sublist hs, fun t ht => h.ids t (hs.subset ht), fun t ht u hu => h.names t (hs.subset ht) u (hs.subset hu)⟩
/-- Predefined: the id may be among those had. -/
theorem ClOk.fix {c : Cl} (h : ClOk c) {t : Tp} (h1 : 1 ≤ t.id) (h2 : t.id ≤ 65534) (hi : ∀ x ∈ c.all, x.id ≠ t.id) (hn : ∀ x ∈ c.all, x.name ≠ t.name) (hf : t.fixed = true) : ClOk { c with all := tpIns t c.all } where
  toTpsOk := h.toTpsOk.put h1 h2 hi hn
  n1 := h.n1
  n2 := h.n2
  heap := h.heap
  had := h.had
  free := fun i a b hx => h.free i a b fun x hxm => hx x (mem_tpIns.2 (.inr hxm))
  own := fun x hx hxf => by
    rcases mem_tpIns.1 hx with rfl | hx
    · rw [hf] at hxf; cases hxf
    · exact h.own x hx hxf
/-- What one taken from those had leaves. -/
structure Popped (b : List Nat) (m : Nat) (b' : List Nat) : Prop where
  len : b'.length + 1 = b.length
  heap : Heap (bk b') b'.length
  mem : ∀ x, x ∈ b → x = m ∨ x ∈ b'
  sub : ∀ x, x ∈ b' → x ∈ b
  here : m ∈ b
  low : ∀ x ∈ b, m ≤ x
theorem ClOk.pop {c : Cl} (h : ClOk c) {m : Nat} {b' : List Nat} (p : Popped c.back m b') (hm : ∃ t ∈ c.all, t.id = m) : ClOk { c with back := b' } where
  toTpsOk := h.toTpsOk
  n1 := h.n1
  n2 := h.n2
  heap := p.heap
  had := fun i hi => h.had i (p.sub i hi)
  free := fun i a b hx => by
    rcases p.mem i (h.free i a b hx) with e | e
    · obtain ⟨t, ht, e2⟩ := hm
      exact absurd (e2.trans e.symm) (hx t ht)
    · exact e
  own := h.own
/-- The one taken is free: it is the least free one. -/
theorem ClOk.take {c : Cl} (h : ClOk c) {m : Nat} {b' : List Nat} (p : Popped c.back m b') (hm : ∀ t ∈ c.all, t.id ≠ m) {n : ByteArray} (hn : ∀ t ∈ c.all, t.name ≠ n) :
    frS 1 c.all = m ∧ m ≤ 65534 ∧ ClOk { c with all := tpIns ⟨m, n, false⟩ c.all, back := b' } := by
  have hb := h.had m p.here
  have h2 := h.n2
  have hm2 : m ≤ 65534 := by omega
  refine ⟨frS_eq h.up (fun t ht => (h.ids t ht).1) hb.1 hm fun i h1 hi => ?_, hm2, ?_⟩
  · apply Classical.byContradiction
    intro hno
    have := p.low i (h.free i h1 (by omega) fun t ht e => hno ⟨t, ht, e⟩)
    omega
  · exact {
      toTpsOk := h.toTpsOk.put hb.1 hm2 hm hn
      n1 := h.n1
      n2 := h.n2
      heap := p.heap
      had := fun i hi => h.had i (p.sub i hi)
      free := fun i a b hx => by
        rcases p.mem i (h.free i a b fun t ht => hx t (mem_tpIns.2 (.inr ht))) with e | e
        · exact absurd e.symm (hx ⟨m, n, false⟩ (mem_tpIns.2 (.inl rfl)))
        · exact e
      own := fun x hx hxf => by
        rcases mem_tpIns.1 hx with rfl | hx
        · exact hb.2
        · exact h.own x hx hxf }
/-- No id is had: the next one, if it is had by a predefined one. -/
theorem ClOk.over {c : Cl} (h : ClOk c) (hn : c.next ≤ 65534) (hm : ∃ t ∈ c.all, t.id = c.next) : ClOk { c with next := c.next + 1 } where
  toTpsOk := h.toTpsOk
  n1 := by have := h.n1; show 1 ≤ c.next + 1; omega
  n2 := by show c.next + 1 ≤ 65535; omega
  heap := h.heap
  had := fun i hi => by have := h.had i hi; exact ⟨this.1, by show i < c.next + 1; omega⟩
  free := fun i a b hx => by
    have hb' : i < c.next + 1 := b
    by_cases e : i = c.next
    · obtain ⟨t, ht, e2⟩ := hm
      exact absurd (e2.trans e.symm) (hx t ht)
    · exact h.free i a (by omega) hx
  own := fun x hx hxf => by have := h.own x hx hxf; show x.id < c.next + 1; omega
theorem ClOk.first {c : Cl} (h : ClOk c) (hb : c.back = []) (hn : c.next ≤ 65534) (hm : ∀ t ∈ c.all, t.id ≠ c.next) {n : ByteArray} (hno : ∀ t ∈ c.all, t.name ≠ n) :
    frS 1 c.all = c.next ∧ ClOk { c with all := tpIns ⟨c.next, n, false⟩ c.all, next := c.next + 1 } := by
  refine ⟨frS_eq h.up (fun t ht => (h.ids t ht).1) h.n1 hm fun i h1 hi => ?_, ?_⟩
  · apply Classical.byContradiction
    intro hno
    have := h.free i h1 hi fun t ht e => hno ⟨t, ht, e⟩
    rw [hb] at this
    cases this
  · exact {
      toTpsOk := h.toTpsOk.put h.n1 hn hm hno
      n1 := by have := h.n1; show 1 ≤ c.next + 1; omega
      n2 := by show c.next + 1 ≤ 65535; omega
      heap := h.heap
      had := fun i hi => by have := h.had i hi; exact ⟨this.1, by show i < c.next + 1; omega⟩
      free := fun i a b hx => by
        have hb' : i < c.next + 1 := b
        by_cases e : i = c.next
        · exact absurd e.symm (hx ⟨c.next, n, false⟩ (mem_tpIns.2 (.inl rfl)))
        · exact h.free i a (by omega) fun t ht => hx t (mem_tpIns.2 (.inr ht))
      own := fun x hx hxf => by
        rcases mem_tpIns.1 hx with rfl | hx
        · exact Nat.lt_succ_self _
        · have := h.own x hx hxf
          show x.id < c.next + 1
          omega }
/-- Nothing is free. -/
theorem ClOk.full {c : Cl} (h : ClOk c) (hb : c.back = []) (hn : ¬ c.next ≤ 65534) : 65534 < frS 1 c.all := by
  obtain ⟨a, b, -⟩ := frS_spec h.up fun t ht => (h.ids t ht).1
  apply Classical.byContradiction
  intro hlt
  have := h.free _ b (by omega) a
  rw [hb] at this
  cases this
/-- An id given back. -/
structure Pushed (b : List Nat) (m : Nat) (b' : List Nat) : Prop where
  len : b'.length = b.length + 1
  heap : Heap (bk b') b'.length
  mem : ∀ x, x ∈ b' ↔ x = m ∨ x ∈ b
theorem ClOk.strike {c : Cl} (h : ClOk c) {t : Tp} (ht : t ∈ c.all) (hf : t.fixed = false) {b' : List Nat} (p : Pushed c.back t.id b') : ClOk { c with all := c.all.filter fun x => !decide (x.id = t.id), back := b' } where
  toTpsOk := h.toTpsOk.sub List.filter_sublist
  n1 := h.n1
  n2 := h.n2
  heap := p.heap
  had := fun i hi => by
    rcases (p.mem i).1 hi with rfl | hi
    · exact ⟨(h.ids t ht).1, h.own t ht hf⟩
    · exact h.had i hi
  free := fun i a b hx => by
    refine (p.mem i).2 ?_
    by_cases e : i = t.id
    · exact .inl e
    · refine .inr (h.free i a b fun x hxm ex => hx x (List.mem_filter.2 ⟨hxm, ?_⟩) ex)
      simp only [Bool.not_eq_true', decide_eq_false_iff_not]
      omega
  own := fun x hx hxf => h.own x (List.mem_filter.1 hx).1 hxf
end Go.Proofs.Ytjbpafkdbfbdlaa
