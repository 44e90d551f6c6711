/-
  connect: the walks of the reader's methods unless, binary, text, props, flags.
  connect: the walks of the reader's connect, connack.
  connect: the walks of the reader's connack, of Read.
  connect, plain: a body is read back, whatever follows; what is read is written as the same.
  connect, plain: a CONNACK's body read back; what Read hands back, whole.
  connect, plain: the flags' byte alone decides on ErrFlags.
-/
import Derived.Test.YtmkkjiogokfnmaaGreatDoorScMCnp
import Derived.Deep.RegionHeld3
namespace Go.Proofs.YtmkkjiogokfnmaaGreatDoor
open Go.RowKit

abbrev RdrT : TypeId := 213
/-- What stands while a method of the reader goes: its own copy of the reader, the cursor. -/
structure BX (w : World) (gr gc : Nat) (v : Int) (t : ByteArray) (a : Nat) (e : Int) (x : World) : Prop where
  mods : w.grownBy x (some gc)
  box : Bk x gr RdrT #[.pointer (some ⟨gc, 0, none⟩), .int .i64 v]
  cur : Cur x gc t a e
  ne : gr ≠ gc
section
variable {w x y : World} {gr gc : Nat} {v : Int} {t : ByteArray} {a a' : Nat} {e e' : Int}
theorem BX.start (h : Cur w gc t a e) (v : Int) : BX w w.heap.size gc v t a e (w.alloc (.cells #[.pointer (some ⟨gc, 0, none⟩), .int .i64 v] RdrT)) :=
  ⟨mod_below ((Below.refl _ _).alloc (Nat.le_refl _) _) _, Bk.fresh _ _ _, h.below ((Below.refl _ _).alloc (Nat.le_refl _) _), by have := h.lt; omega⟩
theorem BX.below (h : BX w gr gc v t a e x) (hb : Below x.heap.size x y) : BX w gr gc v t a e y :=
  ⟨h.mods.trans (mod_below hb _), h.box.below hb h.box.lt, h.cur.below hb, h.ne⟩
theorem BX.turn (h : BX w gr gc v t a e x) (hc : Cur y gc t a' e') (hm : x.grownBy y (some gc)) : BX w gr gc v t a' e' y :=
  ⟨h.mods.trans hm, h.box.mods (S := fun z => z = gc) (Mods.of_grown hm rfl) h.ne, hc, h.ne⟩
theorem BX.drewN (h : BX w gr gc v t a e x) (n : Nat) : BX w gr gc v t a e (x.drewN n) := h.below (below_drawn (Below.refl _ _) n)
end
/-- The reader's copy, in a drawn statement. -/
abbrev SB (gr gc : Nat) (v : Int) (w0 x : World) : Prop := x.cell? ⟨gr, 0, none⟩ = some (.pointer (some ⟨gc, 0, none⟩)) ∧ x.cell? ⟨gr, 1, none⟩ = some (.int .i64 v) ∧ w0.grownBy x (some gc)
theorem SB.below {gr gc : Nat} {v : Int} {w0 x y : World} (h : SB gr gc v w0 x) (hb : Below x.heap.size x y) : SB gr gc v w0 y :=
  ⟨(hb.cell (p := ⟨gr, 0, none⟩) (World.block_lt_of_cell? _ _ h.1)).trans h.1, (hb.cell (p := ⟨gr, 1, none⟩) (World.block_lt_of_cell? _ _ h.2.1)).trans h.2.1, h.2.2.trans (mod_below hb _)⟩
theorem SB.turn {gr gc : Nat} {v : Int} {w0 x y : World} (h : SB gr gc v w0 x) (hm : x.grownBy y (some gc)) (hne : gr ≠ gc) : SB gr gc v w0 y := by
  have hl := World.block_lt_of_cell? _ _ h.1
  have hb : y.heap[gr]? = x.heap[gr]? := (Mods.of_grown (S := fun z => z = gc) hm rfl).block gr hl hne
  exact ⟨(World.cell?_of_block (a := ⟨gr, 0, none⟩) hb).trans h.1, (World.cell?_of_block (a := ⟨gr, 1, none⟩) hb).trans h.2.1, h.2.2.trans hm⟩
theorem BX.sb {w x : World} {gr gc : Nat} {v : Int} {t : ByteArray} {a : Nat} {e : Int} (h : BX w gr gc v t a e x) : SB gr gc v x x := ⟨h.box.cell 0, h.box.cell 1, mod_refl _ _⟩

end Go.Proofs.YtmkkjiogokfnmaaGreatDoor

namespace Go.Proofs.YtmkkjiogokfnmaaGreatDoor
open Go.RowKit
attribute [local go_sem ↓] to_ldPk to_bxPk to_bdPk to_alPk to_stPk
attribute [local go_sem] run_bxPk run_bxPk_agg ld_fresh run_alPk run_bd0 run_bdK run_bdKI run_bdKIC run_bdKC run_bdKICP run_stPk_fresh pkC_0 pkC_1 pkC_2 pkC_3 pkC_4 pkC_5 pkC_6 pkC_7 pkC_8 pkC_9 pkC_10 pkC_11 pkC_12 pkC_13 pkC_14 pkC_15 pkC_16 pkC_17 pkC_18 pkC_19 pkC_20 pkC_21 pkC_22 pkC_23 pkC_24

theorem grown_mods {w x : World} {g : Nat} (h : Mods (fun z => z = g) w x) : w.grownBy x (some g) := ⟨h.os, h.tape, h.output, h.size, fun i hi hn => h.block i hi (fun e => hn (by rw [e]))⟩
theorem grown_set {w x : World} {g : Nat} (h : w.grownBy x (some g)) {b : Nat} (hb : w.heap.size ≤ b) (i : Nat) (u : Value) : w.grownBy (x.setCell ⟨b, i, none⟩ u) (some g) :=
  grown_mods ((Mods.of_grown (S := fun z => z = g) h rfl).set b i (.inr hb) u)
/-- A packet stays while a block without numbers of 32 bits goes. -/
theorem PkIn.blk {w w' : World} {g : Nat} {p : Pk} {h : Hs} {t : TypeId} {cs : Array Value} (hi : PkIn w w.heap.size p h) (h1 : p.codes = []) (h2 : p.filters = []) (hb : Bk w g t cs) (hcs : ∀ (i : Nat) (n : Int), cs[i]? ≠ some (Value.int IntKind.u32 n)) (hm : w.grownBy w' (some g)) : PkIn w' w'.heap.size p h :=
  ⟨(hi.wp.other hb hcs hm (Nat.le_refl _)).wider hm.size, (hi.codes.grown hm (Nat.le_refl _) (fun _ _ _ hx => absurd (by rw [h1]; rfl) hx)).wider hm.size,
    (hi.filters.grown hm (Nat.le_refl _) (fun _ _ _ hx => absurd (by rw [h2]; rfl) hx)).wider hm.size, (hi.props.other hb hcs hm (Nat.le_refl _)).wider hm.size, hi.caps⟩
/-- What stands while a packet is read by the reader: its copy, the result's block, the packet's, the cursor. -/
structure CR (w : World) (gc : Nat) (v : Int) (p : Pk) (h : Hs) (t : ByteArray) (a : Nat) (e : Int) (x : World) : Prop where
  bx : BX w w.heap.size gc v t a e x
  res : Bk x (w.heap.size + 1) PkT (pkC pk0 hs0)
  pk : Bk x (w.heap.size + 1 + 1) PkT (pkC p h)
  into : PkIn x x.heap.size p h
  flat : p.codes = [] ∧ p.filters = []
  lt : gc < w.heap.size
section
variable {w x y : World} {gc : Nat} {v : Int} {p p' : Pk} {h h' : Hs} {t : ByteArray} {a a' : Nat} {e e' : Int}
theorem CR.below (c : CR w gc v p h t a e x) (hb : Below x.heap.size x y) : CR w gc v p h t a e y :=
  ⟨c.bx.below hb, c.res.below hb c.res.lt, c.pk.below hb c.pk.lt, c.into.next hb, c.flat, c.lt⟩
theorem CR.drewN (c : CR w gc v p h t a e x) (n : Nat) : CR w gc v p h t a e (x.drewN n) := c.below (below_drawn (Below.refl _ _) n)
theorem CR.turn (c : CR w gc v p h t a e x) (hc : Cur y gc t a' e') (hm : x.grownBy y (some gc)) : CR w gc v p h t a' e' y :=
  ⟨c.bx.turn hc hm, c.res.mods (S := fun z => z = gc) (Mods.of_grown hm rfl) (by have := c.lt; omega), c.pk.mods (S := fun z => z = gc) (Mods.of_grown hm rfl) (by have := c.lt; omega),
    c.into.blk c.flat.1 c.flat.2 c.bx.cur.1 (cur_no32 _ _ _) hm, c.flat, c.lt⟩
theorem CR.put (c : CR w gc v p h t a e x) (i : Nat) (u : Value) (he : (pkC p h).setIfInBounds i u = pkC p' h') (hf : p'.codes = [] ∧ p'.filters = [])
    (hi : PkIn (x.setCell ⟨w.heap.size + 1 + 1, i, none⟩ u) (x.setCell ⟨w.heap.size + 1 + 1, i, none⟩ u).heap.size p' h') : CR w gc v p' h' t a e (x.setCell ⟨w.heap.size + 1 + 1, i, none⟩ u) :=
  ⟨⟨grown_set c.bx.mods (by omega) i u, c.bx.box.other (by simp; omega) u, ⟨c.bx.cur.1.other (by have := c.lt; simp; omega) u, c.bx.cur.2⟩, c.bx.ne⟩, c.res.other (by simp) u, c.pk.upd i u he, hi, hf, c.lt⟩
/-- A field that is no list. -/
theorem CR.set (c : CR w gc v p h t a e x) (i : Nat) (u : Value) (he : (pkC p h).setIfInBounds i u = pkC p' h) (hl : p'.will.props = p.will.props ∧ p'.codes = p.codes ∧ p'.filters = p.filters ∧ p'.props = p.props) :
    CR w gc v p' h t a e (x.setCell ⟨w.heap.size + 1 + 1, i, none⟩ u) := by
  refine c.put i u he ⟨hl.2.1.trans c.flat.1, hl.2.2.1.trans c.flat.2⟩ ?_
  have := c.into.blk c.flat.1 c.flat.2 c.pk (pk_no32 _ _) (mod_set x (w.heap.size + 1 + 1) i u)
  obtain ⟨h1, h2, h3, h4⟩ := hl
  exact ⟨by rw [h1]; exact this.wp, by rw [h2]; exact this.codes, by rw [h3]; exact this.filters, by rw [h4]; exact this.props, by rw [h1, h2, h3, h4]; exact this.caps⟩
end
theorem results_c1 {fn : Func} {p : Tmp} (hr : fn.results = #[.cell p PkT]) (tmps : Array Value) {w : World} {g : Nat} {q : Pk} {h : Hs} (hp : tmps.getD p undef = .pointer (some ⟨g, 0, none⟩)) (hb : Bk w g PkT (pkC q h)) :
    (results fn tmps).run Tryz.prog w = .ok (pkV q h) w := by
  have hl := lv_bk hb
  have e : (results fn tmps).run Tryz.prog w = ((asAddr (tmps.getD p undef)).run Tryz.prog w).andThen fun a w₁ => (loadVar PkT a).run Tryz.prog w₁ := by
    simp only [results, hr]
    simp [Sem.run_bind, Result.andThen]
  rw [e, hp]
  generalize pkV q h = V at hl ⊢
  exact then_ok _ (⟨g, 0, none⟩ : Addr) w _ rfl |>.trans hl
end Go.Proofs.YtmkkjiogokfnmaaGreatDoor

namespace Go.Proofs.YtmkkjiogokfnmaaGreatDoor
open Go.RowKit
attribute [local go_sem ↓] to_ldPk to_bxPk to_bdPk to_alPk to_stPk
attribute [local go_sem] run_bxPk run_bxPk_agg ld_fresh run_alPk run_bd0 run_bdK run_bdKI run_bdKIC run_bdKC run_bdKICP run_stPk_fresh pkC_0 pkC_1 pkC_2 pkC_3 pkC_4 pkC_5 pkC_6 pkC_7 pkC_8 pkC_9 pkC_10 pkC_11 pkC_12 pkC_13 pkC_14 pkC_15 pkC_16 pkC_17 pkC_18 pkC_19 pkC_20 pkC_21 pkC_22 pkC_23 pkC_24

/-- What stands while Read goes: the result's block, the cursor, the reader, the packet. -/
structure RS (w : World) (gc gr gp : Nat) (v : Int) (p : Pk) (h : Hs) (t : ByteArray) (a : Nat) (e : Int) (x : World) : Prop where
  kept : Below w.heap.size w x
  res : Bk x w.heap.size PkT (pkC pk0 hs0)
  box : Bk x gr RdrT #[.pointer (some ⟨gc, 0, none⟩), .int .i64 v]
  pk : Bk x gp PkT (pkC p h)
  into : PkIn x x.heap.size p h
  flat : p.codes = [] ∧ p.filters = []
  cur : Cur x gc t a e
  ne : w.heap.size < gc ∧ gc < gr ∧ gr < gp
section
variable {w x y : World} {gc gr gp : Nat} {v : Int} {p p' : Pk} {h h' : Hs} {t : ByteArray} {a a' : Nat} {e e' : Int}
theorem RS.below (c : RS w gc gr gp v p h t a e x) (hb : Below x.heap.size x y) : RS w gc gr gp v p h t a e y :=
  ⟨c.kept.trans (hb.mono c.kept.size), c.res.below hb c.res.lt, c.box.below hb c.box.lt, c.pk.below hb c.pk.lt, c.into.next hb, c.flat, c.cur.below hb, c.ne⟩
theorem RS.drewN (c : RS w gc gr gp v p h t a e x) (n : Nat) : RS w gc gr gp v p h t a e (x.drewN n) := c.below (below_drawn (Below.refl _ _) n)
theorem RS.turn (c : RS w gc gr gp v p h t a e x) (hc : Cur y gc t a' e') (hm : x.grownBy y (some gc)) : RS w gc gr gp v p h t a' e' y :=
  ⟨below_mod c.kept hm c.kept.size (Nat.le_of_lt c.ne.1), c.res.mods (S := fun z => z = gc) (Mods.of_grown hm rfl) (by have := c.ne; omega), c.box.mods (S := fun z => z = gc) (Mods.of_grown hm rfl) (by have := c.ne; omega),
    c.pk.mods (S := fun z => z = gc) (Mods.of_grown hm rfl) (by have := c.ne; omega), c.into.blk c.flat.1 c.flat.2 c.cur.1 (cur_no32 _ _ _) hm, c.flat, hc, c.ne⟩
/-- The packet that was read, stored. -/
theorem RS.put (c : RS w gc gr gp v p h t a e x) (hi : PkIn x x.heap.size p' h') (hf : p'.codes = [] ∧ p'.filters = []) : RS w gc gr gp v p' h' t a e (putPk x gp p' h') := by
  have hm := putPk_mods x gp p' h'
  exact ⟨below_put c.kept c.kept.size (by have := c.ne; omega) _ _, c.res.mods (S := fun z => z = gp) (Mods.of_grown hm rfl) (by have := c.ne; omega), c.box.mods (S := fun z => z = gp) (Mods.of_grown hm rfl) (by have := c.ne; omega),
    put_bk c.pk _ _, hi.blk hf.1 hf.2 c.pk (pk_no32 _ _) hm, hf, ⟨c.cur.1.mods (S := fun z => z = gp) (Mods.of_grown hm rfl) (by have := c.ne; omega), c.cur.2⟩, c.ne⟩
theorem RS.bad (c : RS w gc gr gp v p h t a e x) {r : Pk × Int} {n : Int} (hr : r = (pk0, n)) : PkOut r w (.returned (.tuple #[pkV pk0 hs0, .int .i64 n])) (putPk x w.heap.size pk0 hs0) :=
  pkOut_bad hr (below_put c.kept c.kept.size (Nat.le_refl _) _ _)
theorem RS.good (c : RS w gc gr gp v p h t a e x) {r : Pk × Int} (hr : r = (p, 0)) : PkOut r w (.returned (.tuple #[pkV p h, .int .i64 0])) (putPk x w.heap.size p h) :=
  pkOut_ok hr (c.into.blk c.flat.1 c.flat.2 c.res (pk_no32 _ _) (putPk_mods _ _ _ _)) (below_put c.kept c.kept.size (Nat.le_refl _) _ _)
end
end Go.Proofs.YtmkkjiogokfnmaaGreatDoor

