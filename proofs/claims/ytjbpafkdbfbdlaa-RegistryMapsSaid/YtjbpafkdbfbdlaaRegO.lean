/-
  The registry in memory: what a client's own calls turn.
-/
import Derived.Test.YtjbpafkdbfbdlaaRegN
import Derived.Maps.OwnSet
import Derived.Maps.Keyed

namespace Go.Proofs.Ytjbpafkdbfbdlaa
open Go.RowKit Go.Maps Go.WideShapes
section
variable {P : Program} {tS tI tC tR : TypeId} {w w1 w2 : World} {F : Nat → Prop} {g : Nat} {c : Cl} {bi ba : Nat} {v : Value} {D : DataW Nat}
theorem grown_at {row : Option Nat} (hg : w.grownBy w1 row) {i : Nat} (hi : i < w.heap.size) (hne : some i ≠ row) : w1.heap[i]? = w.heap[i]? := hg.block i hi hne
/-- A topic is put into both maps. -/
theorem ClIn.put (h : ClIn P tS tI tC w F g c bi ba v D) (K : Keyed P tS) {t : Tp} (hi : ∀ x ∈ c.all, x.id ≠ t.id) (hn : ∀ x ∈ c.all, x.name ≠ t.name)
    (h1 : w1.ownsMap P tS (plainElem P tI) bi (c.all.length + 1) (D.put (.string t.name.data.toList) (.lit (.int .i64 (t.id : Int))))) (g1 : w.grownBy w1 (some bi))
    (h2 : w2.ownsMap P tI tpR ba (c.all.length + 1) ((tpD tpE c.all).put (.int .i64 (t.id : Int)) (tpE t))) (g2 : w1.grownBy w2 (some ba)) :
    ClIn P tS tI tC w2 F g { c with all := tpIns t c.all } bi ba v (D.put (.string t.name.data.toList) (.lit (.int .i64 (t.id : Int)))) := by
  have hk : ∀ i, F i → i ≠ bi → i ≠ ba → w2.heap[i]? = w.heap[i]? := fun i hf e1 e2 => by
    have hl := h.lt i hf
    rw [grown_at g2 (Nat.lt_of_lt_of_le hl g1.size) (fun e => e2 (by injection e)), grown_at g1 hl (fun e => e1 (by injection e))]
  obtain ⟨n1, n2, n3, n4⟩ := h.ne
  refine ⟨(hk g h.fg n2.symm n3.symm).trans h.blk, ?_, h.idd.put (h.ids.tidy K) hn, ?_, ownsRow_keep h.row fun k e => hk k (h.fr k e) (n4 k e).2.1 (n4 k e).2.2, h.fg, h.fi, h.fa, h.fr, h.ne, fun i hf => ?_⟩
  · show w2.ownsMap P tS (plainElem P tI) bi (tpIns t c.all).length _
    rw [tpIns_length]
    exact ownsMap_keep P h1 (grown_at g2 (Nat.lt_of_lt_of_le (h.lt bi h.fi) g1.size) (fun e => n1 (by injection e)))
  · show w2.ownsMap P tI tpR ba (tpIns t c.all).length _
    rw [tpIns_length]
    rw [tpD_put tpE hi] at h2
    exact h2
  · exact Nat.lt_of_lt_of_le (h.lt i hf) (Nat.le_trans g1.size g2.size)
/-- A topic is taken out of both maps. -/
theorem ClIn.strike (h : ClIn P tS tI tC w F g c bi ba v D) (K : Keyed P tS) (ok : TpsOk c.all) {t : Tp} (ht : t ∈ c.all) {n1 n2 : Nat}
    (h1 : w1.ownsMap P tS (plainElem P tI) bi n1 (D.del (.string t.name.data.toList))) (g1 : w.grownBy w1 (some bi))
    (h2 : w2.ownsMap P tI tpR ba n2 ((tpD tpE c.all).del (.int .i64 (t.id : Int)))) (g2 : w1.grownBy w2 (some ba)) :
    ClIn P tS tI tC w2 F g { c with all := tpDel t.id c.all } bi ba v (D.del (.string t.name.data.toList)) := by
  have hk : ∀ i, F i → i ≠ bi → i ≠ ba → w2.heap[i]? = w.heap[i]? := fun i hf e1 e2 => by
    have hl := h.lt i hf
    rw [grown_at g2 (Nat.lt_of_lt_of_le hl g1.size) (fun e => e2 (by injection e)), grown_at g1 hl (fun e => e1 (by injection e))]
  have hd : IdsD (D.del (.string t.name.data.toList)) (tpDel t.id c.all) := h.idd.del (h.ids.tidy K) ok.up ok.names ht
  obtain ⟨n1, n2, n3, n4⟩ := h.ne
  refine ⟨(hk g h.fg n2.symm n3.symm).trans h.blk, ?_, hd, ?_, ownsRow_keep h.row fun k e => hk k (h.fr k e) (n4 k e).2.1 (n4 k e).2.2, h.fg, h.fi, h.fa, h.fr, h.ne, fun i hf => ?_⟩
  · have := ownsMap_exact P h1
    rw [hd.2.1] at this
    exact ownsMap_keep P this (grown_at g2 (Nat.lt_of_lt_of_le (h.lt bi h.fi) g1.size) (fun e => n1 (by injection e)))
  · have := ownsMap_exact P h2
    rw [tpD_del, tpD_size] at this
    exact this
  · exact Nat.lt_of_lt_of_le (h.lt i hf) (Nat.le_trans g1.size g2.size)
/-- The next id. -/
theorem ClIn.next (h : ClIn P tS tI tC w F g c bi ba v D) (n : Nat) : ClIn P tS tI tC (w.setCell ⟨g, 3, none⟩ (.int .i64 (n : Int))) F g { c with next := n } bi ba v D := by
  have hg := mod_set w g 3 (.int .i64 (n : Int))
  obtain ⟨n1, n2, n3, n4⟩ := h.ne
  have hk : ∀ i, F i → i ≠ g → (w.setCell ⟨g, 3, none⟩ (.int .i64 (n : Int))).heap[i]? = w.heap[i]? := fun i hf e => grown_at hg (h.lt i hf) fun e2 => e (by injection e2)
  exact ⟨h.blk.upd 3 _ rfl, ownsMap_keep P h.ids (hk bi h.fi n2), h.idd, ownsMap_keep P h.all (hk ba h.fa n3), ownsRow_keep h.row fun k e => hk k (h.fr k e) (n4 k e).1, h.fg, h.fi, h.fa, h.fr, h.ne,
    fun i hf => Nat.lt_of_lt_of_le (h.lt i hf) hg.size⟩
/-- The ids that were had: another row, in the old block or in a new one. -/
theorem ClIn.back (h : ClIn P tS tI tC w F g c bi ba v D) {v' : Value} {b' : List Nat} (hb : Bk w1 g tC #[.map (some bi), .map (some ba), v', .int .i64 (c.next : Int)]) (hr : w1.ownsRow 0 tI 1 v' b'.length (idV b')) (hs : w.heap.size ≤ w1.heap.size)
    (hv : ∀ k, v'.ownBlock = some k → v.ownBlock = some k ∨ (w.heap.size ≤ k ∧ k < w1.heap.size)) (hk : ∀ i, i < w.heap.size → i ≠ g → v.ownBlock ≠ some i → w1.heap[i]? = w.heap[i]?) :
    ClIn P tS tI tC w1 (fun i => F i ∨ v'.ownBlock = some i) g { c with back := b' } bi ba v' D := by
  obtain ⟨n1, n2, n3, n4⟩ := h.ne
  refine ⟨hb, ownsMap_keep P h.ids (hk bi (h.lt bi h.fi) n2 fun e => (n4 bi e).2.1 rfl), h.idd, ownsMap_keep P h.all (hk ba (h.lt ba h.fa) n3 fun e => (n4 ba e).2.2 rfl), hr, .inl h.fg, .inl h.fi, .inl h.fa, fun k e => .inr e, ⟨n1, n2, n3, fun k e => ?_⟩, fun i hi => ?_⟩
  · rcases hv k e with e1 | e1
    · exact n4 k e1
    · have a := h.lt g h.fg
      have b := h.lt bi h.fi
      have c := h.lt ba h.fa
      exact ⟨by omega, by omega, by omega⟩
  · rcases hi with hi | hi
    · exact Nat.lt_of_lt_of_le (h.lt i hi) hs
    · rcases hv i hi with e1 | e1
      · exact Nat.lt_of_lt_of_le (h.lt i (h.fr i e1)) hs
      · exact e1.2
/-- What stands at an id, at a name. -/
theorem ClIn.name (h : ClIn P tS tI tC w F g c bi ba v D) (n : ByteArray) : Maps.has D (.string n.data.toList) = (tpOf c.all n).isSome := (h.idd.2.2 n).1
end
end Go.Proofs.Ytjbpafkdbfbdlaa
