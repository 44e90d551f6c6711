/-
  The registry in memory: a client's block, its two maps, its row of ids; the map of clients.
-/
import Derived.Test.YtjbpafkdbfbdlaaRegE
import Derived.Test.YtjbpafkdbfbdlaaRegJ
import Derived.Maps.Own

namespace Go.Proofs.Ytjbpafkdbfbdlaa
open Go.RowKit Go.Maps Go.WideShapes
/-- What a topic in a map reads as. -/
def tpE (t : Tp) : DataW Nat := .agg [.lit (.int .i64 (t.id : Int)), .lit (.string t.name.data.toList), .lit (.bool t.fixed)]
def tpV (t : Tp) : Value := .agg #[.int .i64 (t.id : Int), .string t.name, .bool t.fixed]
def tpR (v : Value) : Option (DataW Nat × List MemPlace) :=
  match v with
  | .agg cs => match cs.toList with
    | [.int .i64 i, .string s, .bool f] => some (.agg [.lit (.int .i64 i), .lit (.string s.data.toList), .lit (.bool f)], [])
    | _ => none
  | _ => none
theorem tpR_mk (t : Tp) : tpR (tpV t) = some (tpE t, []) := rfl
theorem tpR_inv {v : Value} {t : Tp} {ps : List MemPlace} (h : tpR v = some (tpE t, ps)) : v = tpV t := by
  unfold tpR at h
  split at h
  · rename_i cs
    split at h
    · rename_i i s f hc
      injection h with h
      injection h with h _
      unfold tpE at h
      simp only [DataW.agg.injEq, List.cons.injEq, DataW.lit.injEq, Lit.int.injEq, Lit.string.injEq, Lit.bool.injEq, true_and, and_true] at h
      obtain ⟨rfl, h2, rfl⟩ := h
      unfold tpV
      rw [← nm_ext h2, ← Array.toArray_toList (xs := cs), hc]
    · cases h
  · cases h
/-- What a client in the map of clients reads as: its block. -/
def enR (v : Value) : Option (DataW Nat × List MemPlace) :=
  match v with
  | .pointer none => some (.nil, [])
  | .pointer (some ⟨g, 0, none⟩) => some (.held g, [])
  | _ => none
theorem enR_mk (g : Nat) : enR (.pointer (some ⟨g, 0, none⟩)) = some (.held g, []) := rfl
theorem enR_nil : enR (.pointer none) = some (.nil, []) := rfl
theorem enR_inv {v : Value} {g : Nat} {ps : List MemPlace} (h : enR v = some (.held g, ps)) : v = .pointer (some ⟨g, 0, none⟩) := by
  unfold enR at h
  split at h
  · injection h with h
    injection h with h _
    cases h
  · injection h with h
    injection h with h _
    injection h with h
    rw [h]
  · cases h
theorem enR_none {v : Value} {ps : List MemPlace} (h : enR v = some (.nil, ps)) : v = .pointer none := by
  unfold enR at h
  split at h
  · rfl
  · injection h with h
    injection h with h _
    cases h
  · cases h
/-- Ids as they lie in a row. -/
def idV (l : List Nat) : List Value := l.map fun (i : Nat) => Value.int .i64 (i : Int)
section
variable (P : Program) (tS tI tC tR : TypeId)
theorem ownsMap_exact {H : Type} {R : Value → Option (DataW H × List MemPlace)} {w : World} {k : TypeId} {b n : Nat} {D : DataW H} (h : w.ownsMap P k R b n D) : w.ownsMap P k R b (Maps.size D) D := by
  obtain ⟨es, clock, hb, F, _, rfl⟩ := h
  refine ⟨es, clock, hb, F, ?_, rfl⟩
  rw [Maps.size_eq, length_sorted]
  simp
theorem ownsMap_keep {H : Type} {R : Value → Option (DataW H × List MemPlace)} {w w' : World} {k : TypeId} {b n : Nat} {D : DataW H} (h : w.ownsMap P k R b n D) (hk : w'.heap[b]? = w.heap[b]?) : w'.ownsMap P k R b n D := by
  obtain ⟨es, clock, hb, F, hs, hD⟩ := h
  exact ⟨es, clock, hk.trans hb, F, hs, hD⟩
theorem ownsRow_keep {w w' : World} {base size n : Nat} {e : TypeId} {v : Value} {xs : List Value} (h : w.ownsRow base e size v n xs) (hk : ∀ g, v.ownBlock = some g → w'.heap[g]? = w.heap[g]?) : w'.ownsRow base e size v n xs := by
  obtain ⟨h1, h2⟩ := h
  refine ⟨h1, ?_⟩
  rcases h2 with h2 | ⟨g, cap, cur, rfl, a, b, c⟩
  · exact .inl h2
  · exact .inr ⟨g, cap, cur, rfl, a, (hk g rfl).trans b, c⟩
/-- A client in memory: F: its blocks. -/
structure ClIn (w : World) (F : Nat → Prop) (g : Nat) (c : Cl) (bi ba : Nat) (v : Value) (D : DataW Nat) : Prop where
  blk : Bk w g tC #[.map (some bi), .map (some ba), v, .int .i64 (c.next : Int)]
  ids : w.ownsMap P tS (plainElem P tI) bi c.all.length D
  idd : IdsD D c.all
  all : w.ownsMap P tI tpR ba c.all.length (tpD tpE c.all)
  row : w.ownsRow 0 tI 1 v c.back.length (idV c.back)
  fg : F g
  fi : F bi
  fa : F ba
  fr : ∀ k, v.ownBlock = some k → F k
  ne : bi ≠ ba ∧ bi ≠ g ∧ ba ≠ g ∧ ∀ k, v.ownBlock = some k → k ≠ g ∧ k ≠ bi ∧ k ≠ ba
  lt : ∀ i, F i → i < w.heap.size
theorem ClIn.keep {w w' : World} {F : Nat → Prop} {g : Nat} {c : Cl} {bi ba : Nat} {v : Value} {D : DataW Nat} (h : ClIn P tS tI tC w F g c bi ba v D) (hs : w.heap.size ≤ w'.heap.size) (hk : ∀ i, F i → w'.heap[i]? = w.heap[i]?) : ClIn P tS tI tC w' F g c bi ba v D where
  blk := (hk g h.fg).trans h.blk
  ids := ownsMap_keep P h.ids (hk bi h.fi)
  idd := h.idd
  all := ownsMap_keep P h.all (hk ba h.fa)
  row := ownsRow_keep h.row fun k e => hk k (h.fr k e)
  fg := h.fg
  fi := h.fi
  fa := h.fa
  fr := h.fr
  ne := h.ne
  lt := fun i hi => Nat.lt_of_lt_of_le (h.lt i hi) hs
/-- A client in the map of clients. -/
structure En where
  g : Nat
  cl : Cl
  F : Nat → Prop
def enE (x : En) : DataW Nat := .held x.g
/-- The registry in memory: F: all its blocks. -/
structure RgIn (w : World) (F : Nat → Prop) (gp bm : Nat) (M : List (ByteArray × En)) : Prop where
  blk : Bk w gp tR #[.map (some bm)]
  own : w.ownsMap P tS enR bm M.length (kvD enE M)
  up : KvUp M
  each : ∀ x ∈ M, (∃ bi ba v D, ClIn P tS tI tC w x.2.F x.2.g x.2.cl bi ba v D) ∧ ClOk x.2.cl ∧ x.2.cl.all ≠ [] ∧ ∀ i, x.2.F i → F i ∧ i ≠ gp ∧ i ≠ bm
  apart : M.Pairwise fun x y => ∀ i, x.2.F i → ¬ y.2.F i
  fp : F gp
  fm : F bm
  ne : gp ≠ bm
  lt : ∀ i, F i → i < w.heap.size
theorem RgIn.keep {w w' : World} {F : Nat → Prop} {gp bm : Nat} {M : List (ByteArray × En)} (h : RgIn P tS tI tC tR w F gp bm M) (hs : w.heap.size ≤ w'.heap.size) (hk : ∀ i, F i → w'.heap[i]? = w.heap[i]?) : RgIn P tS tI tC tR w' F gp bm M where
  blk := (hk gp h.fp).trans h.blk
  own := ownsMap_keep P h.own (hk bm h.fm)
  up := h.up
  each := fun x hx => by
    obtain ⟨⟨bi, ba, v, D, a⟩, b, c, d⟩ := h.each x hx
    exact ⟨⟨bi, ba, v, D, a.keep P tS tI tC hs fun i hi => hk i (d i hi).1⟩, b, c, d⟩
  apart := h.apart
  fp := h.fp
  fm := h.fm
  ne := h.ne
  lt := fun i hi => Nat.lt_of_lt_of_le (h.lt i hi) hs
/-- The reference's list of what the registry has. -/
def rgOf (M : List (ByteArray × En)) : Rg := kvMap (fun x => x.cl.all) M
end
theorem kvMap_up {α β : Type} {f : α → β} {l : List (ByteArray × α)} (h : KvUp l) : KvUp (kvMap f l) := by
  unfold KvUp kvMap at *
  rw [List.pairwise_map]
  exact h
theorem kvIns_pair {α : Type} {R : ByteArray × α → ByteArray × α → Prop} {n : ByteArray} {v : α} : ∀ {l : List (ByteArray × α)}, l.Pairwise R → (∀ x ∈ l, R (n, v) x ∧ R x (n, v)) → (kvIns n v l).Pairwise R
  | [], _, _ => by simp [kvIns]
  | x :: l, h, hr => by
    rw [List.pairwise_cons] at h
    unfold kvIns
    split
    · rw [List.pairwise_cons, List.pairwise_cons]
      exact ⟨fun y hy => (hr y hy).1, h⟩
    · rw [List.pairwise_cons]
      refine ⟨fun y hy => ?_, kvIns_pair h.2 fun y hy => hr y (by simp [hy])⟩
      rcases mem_kvIns.1 hy with rfl | hy
      · exact (hr x (by simp)).2
      · exact h.1 y hy
end Go.Proofs.Ytjbpafkdbfbdlaa
