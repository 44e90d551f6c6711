/- A part of what the laws stand on: MCnu. -/
import Derived.Test.YtbdgkkmbnahgiaaGreatDoorMsG0MCnt
namespace Go.Proofs.YtbdgkkmbnahgiaaGreatDoor
open Go.RowKit

abbrev RdrT : TypeId := 230
/-- What stands while a method of the reader goes: its own copy of the reader, the cursor. -/
structure BX (w : World) (gr gc : Nat) (v : Int) (t : ByteArray) (a : Nat) (e : Int) (x : World) : Prop where
  mods : w.grownBy x (some gc)
  box : Bk x gr RdrT #[.pointer (some ⟨gc, 0, none⟩), .int .i64 v]
  cur : Cur x gc t a e
  ne : gr ≠ gc
section
variable {w x y : World} {gr gc : Nat} {v : Int} {t : ByteArray} {a a' : Nat} {e e' : Int}
theorem BX.start (h : Cur w gc t a e) (v : Int) : BX w w.heap.size gc v t a e (w.alloc (.cells #[.pointer (some ⟨gc, 0, none⟩), .int .i64 v] RdrT)) :=
  ⟨mod_below ((Below.refl _ _).alloc (Nat.le_refl _) _) _, Bk.fresh _ _ _, h.below ((Below.refl _ _).alloc (Nat.le_refl _) _), by have := h.lt; omega⟩
theorem BX.below (h : BX w gr gc v t a e x) (hb : Below x.heap.size x y) : BX w gr gc v t a e y :=
  ⟨h.mods.trans (mod_below hb _), h.box.below hb h.box.lt, h.cur.below hb, h.ne⟩
theorem BX.turn (h : BX w gr gc v t a e x) (hc : Cur y gc t a' e') (hm : x.grownBy y (some gc)) : BX w gr gc v t a' e' y :=
  ⟨h.mods.trans hm, h.box.mods (S := fun z => z = gc) (Mods.of_grown hm rfl) h.ne, hc, h.ne⟩
theorem BX.drewN (h : BX w gr gc v t a e x) (n : Nat) : BX w gr gc v t a e (x.drewN n) := h.below (below_drawn (Below.refl _ _) n)
end
/-- The reader's copy, in a drawn statement. -/
abbrev SB (gr gc : Nat) (v : Int) (w0 x : World) : Prop := x.cell? ⟨gr, 0, none⟩ = some (.pointer (some ⟨gc, 0, none⟩)) ∧ x.cell? ⟨gr, 1, none⟩ = some (.int .i64 v) ∧ w0.grownBy x (some gc)
theorem SB.below {gr gc : Nat} {v : Int} {w0 x y : World} (h : SB gr gc v w0 x) (hb : Below x.heap.size x y) : SB gr gc v w0 y :=
  ⟨(hb.cell (p := ⟨gr, 0, none⟩) (World.block_lt_of_cell? _ _ h.1)).trans h.1, (hb.cell (p := ⟨gr, 1, none⟩) (World.block_lt_of_cell? _ _ h.2.1)).trans h.2.1, h.2.2.trans (mod_below hb _)⟩
theorem SB.turn {gr gc : Nat} {v : Int} {w0 x y : World} (h : SB gr gc v w0 x) (hm : x.grownBy y (some gc)) (hne : gr ≠ gc) : SB gr gc v w0 y := by
  have hl := World.block_lt_of_cell? _ _ h.1
  have hb : y.heap[gr]? = x.heap[gr]? := (Mods.of_grown (S := fun z => z = gc) hm rfl).block gr hl hne
  exact ⟨(World.cell?_of_block (a := ⟨gr, 0, none⟩) hb).trans h.1, (World.cell?_of_block (a := ⟨gr, 1, none⟩) hb).trans h.2.1, h.2.2.trans hm⟩
theorem BX.sb {w x : World} {gr gc : Nat} {v : Int} {t : ByteArray} {a : Nat} {e : Int} (h : BX w gr gc v t a e x) : SB gr gc v x x := ⟨h.box.cell 0, h.box.cell 1, mod_refl _ _⟩

set_option maxHeartbeats 400000 in
set_option maxRecDepth 10000 in
theorem unless_any (gc a : Nat) (t : ByteArray) (e v : Int) (b : Bool) (n : Int) (w : World) (h : Cur w gc t a e) :
    Calls Tryz.prog 268 #[.agg #[.pointer (some ⟨gc, 0, none⟩), .int .i64 v], .bool b, .int .i64 n] w fun e' w' => e' = .returned (.tuple #[]) ∧ Cur w' gc t a (if b = true then e else failE e n) ∧ w.grownBy w' (some gc) := by
  have HX := Lib.hid (BX.start h v)
  clear h
  go_enter Tryz.func268, Tryz.ntmps268
  cases b
  · go_wp2_with fail
    refine (fail_any gc a t e n _ HX.out.cur).mono ?_
    rintro e' w2 ⟨rfl, hc, hm⟩
    have HY := Lib.hid (HX.out.turn hc hm)
    clear hc hm
    go_wp2
    go_end0
    exact ⟨rfl, HY.out.cur, HY.out.mods⟩
  · go_wp2
    go_end0
    exact ⟨rfl, HX.out.cur, HX.out.mods⟩

set_option maxHeartbeats 400000 in
set_option maxRecDepth 10000 in
theorem binary_rd (gc a : Nat) (t : ByteArray) (e v : Int) (w : World) (h : Cur w gc t a e) :
    Calls Tryz.prog 332 #[.agg #[.pointer (some ⟨gc, 0, none⟩), .int .i64 v]] w fun e' w' => e' = .returned (.string (binC t a e).1) ∧ Cur w' gc t (binC t a e).2.1 (binC t a e).2.2 ∧ w.grownBy w' (some gc) := by
  have HX := Lib.hid (BX.start h v)
  have hlt := num_two_lt t a e h.at_most.1
  have HE : Hid (binC t a e = takeS t (takeS t a e 2).2.1 (takeS t a e 2).2.2 (numS t a e 2 : Nat)) := Lib.hid rfl
  clear h
  go_enter Tryz.func332, Tryz.ntmps332
  go_wp2_with fail
  refine (number_any gc a t e 2 _ HX.out.cur (by decide)).mono ?_
  rintro e' w2 ⟨rfl, hc, hm⟩
  have HY := Lib.hid (HX.out.turn hc hm)
  clear hc hm
  generalize numS t a e 2 = n at *
  generalize (takeS t a e 2).2.1 = a1 at *
  generalize (takeS t a e 2).2.2 = e1 at *
  have hw : IntKind.i64.wrap (n : Int) = (n : Int) := by rw [IntKind.wrap_i64]; omega
  have k0 : w2.cell? ⟨w.heap.size, 0, none⟩ = some (.pointer (some ⟨gc, 0, none⟩)) := HY.out.box.cell 0
  clear hlt
  go_wp2_with fail
  refine (take_any gc a1 t e1 n _ HY.out.cur).mono ?_
  rintro e' w3 ⟨rfl, hc, hm⟩
  have HZ := Lib.hid (HY.out.turn hc hm)
  clear hc hm
  go_wp2
  go_ret
  rw [HE.out]
  exact ⟨rfl, HZ.out.cur, HZ.out.mods⟩

set_option maxHeartbeats 400000 in
set_option maxRecDepth 10000 in
theorem text_rd (gc a : Nat) (t : ByteArray) (e v : Int) (w : World) (h : Cur w gc t a e) :
    Calls Tryz.prog 331 #[.agg #[.pointer (some ⟨gc, 0, none⟩), .int .i64 v]] w fun e' w' => e' = .returned (.string (txtC t a e).1) ∧ Cur w' gc t (txtC t a e).2.1 (txtC t a e).2.2 ∧ w.grownBy w' (some gc) := by
  have HX := Lib.hid (BX.start h v)
  have HL := Lib.hid (binC_lt t a e h.at_most.1)
  have HE : Hid (txtC t a e = ((binC t a e).1, (binC t a e).2.1, if validB (binC t a e).1 = true then (binC t a e).2.2 else failE (binC t a e).2.2 6)) := Lib.hid rfl
  clear h
  go_enter Tryz.func331, Tryz.ntmps331
  go_wp2_with fail
  refine (binary_rd gc a t e v _ HX.out.cur).mono ?_
  rintro e' w2 ⟨rfl, hc, hm⟩
  have HY := Lib.hid (HX.out.turn hc hm)
  clear hc hm
  generalize binC t a e = r at *
  obtain ⟨s, a1, e1⟩ := r
  simp only at HY HL HE ⊢
  have hne : w.heap.size ≠ gc := HY.out.ne
  have hsb := HY.out.sb
  go_wp2_with fail
  go_region_held3 (fun x => x.cell? ⟨w.heap.size, 0, none⟩ = some (.pointer (some ⟨gc, 0, none⟩)) ∧ x.cell? ⟨w.heap.size, 1, none⟩ = some (.int .i64 v) ∧ w2.grownBy x (some gc))
    (first | exact (SB.below hsb (below_drawn (Below.refl _ _) _)) | exact SB.below (by assumption) hbv | exact SB.turn (by assumption) hmu hne | go_keep)
    (first | (go_at_call 107; refine (valid_any s _ (by have := HL.out; omega)).mono ?_; rintro e x1 ⟨rfl, hbv⟩)
           | (go_at_call 268; refine (unless_any gc a1 t e1 v _ 6 _ ((HY.out.drewN 1).cur.below hbv)).mono ?_; rintro e x2 ⟨rfl, hcu, hmu⟩))
  have HM : w2.grownBy x2 (some gc) := (show SB w.heap.size gc v w2 x2 by assumption).2.2
  have HF := Lib.hid (And.intro hcu (HY.out.mods.trans HM))
  clear hcu HM hmu hbv hsb hne
  go_wp2
  go_ret
  rw [HE.out]
  exact ⟨rfl, HF.out.1, HF.out.2⟩

/-- What a reading of properties at a cursor leaves. -/
def PropsRd (g : Nat) (t : ByteArray) (r : List Pr × Nat × Int) (w : World) (e : Ending) (w' : World) : Prop :=
  ∃ A c, e = .returned (.slice A r.1.length c) ∧ r.1.length ≤ c ∧ Rd w' w'.heap.size 4 A r.1.length (prs r.1) ∧ Cur w' g t r.2.1 r.2.2 ∧ w.grownBy w' (some g)
theorem readP_le (k : Int) (s : ByteArray) : (readP k s).2.1 ≤ s.size := by
  by_cases h0 : (readP k s).2.2 = 0
  · exact (readP_back (kind := k) (s := s) (l := (readP k s).1) (n := (readP k s).2.1) (by rw [← h0])).2.2
  · rw [readP_bad h0]; exact Nat.zero_le _
set_option maxHeartbeats 1000000 in
set_option maxRecDepth 10000 in
theorem props_rd (gc a : Nat) (t : ByteArray) (e v kind : Int) (w : World) (h : Cur w gc t a e) (ht : t.size ≤ 140737488351232) :
    Calls Tryz.prog 330 #[.agg #[.pointer (some ⟨gc, 0, none⟩), .int .i64 v], .int .i64 kind] w (PropsRd gc t (prpC v kind t a e) w) := by
  have HX := Lib.hid (BX.start h v)
  have HT := Lib.hid ht
  have HE : Hid (prpC v kind t a e = if v = 4 ∨ e ≠ 0 then ([], a, e) else ((readP kind (t.extract a t.size)).1, a + (readP kind (t.extract a t.size)).2.1, (readP kind (t.extract a t.size)).2.2)) := Lib.hid rfl
  have HAT := Lib.hid h.at_most
  clear h ht
  go_enter Tryz.func330, Tryz.ntmps330
  by_cases h4 : v = 4
  · have e4 : (v == 4) = true := beq_iff_eq.2 h4
    have HF : Hid (prpC v kind t a e = ([], a, e)) := Lib.hid (by rw [HE.out, if_pos (.inl h4)])
    clear h4
    go_wp2
    go_ret
    rw [HF.out]
    exact ⟨none, 0, rfl, Nat.le_refl _, Rd.nil _ _ _ _, HX.out.cur, HX.out.mods⟩
  have e4 : (v == 4) = false := beq_eq_false_iff_ne.2 h4
  go_wp2_with fail
  refine (err_any gc a t e _ HX.out.cur).mono ?_
  rintro e' w2 ⟨rfl, rfl⟩
  by_cases he : e = 0
  rotate_left
  · have e5 : (e != 0) = true := bne_iff_ne.2 he
    have HF : Hid (prpC v kind t a e = ([], a, e)) := Lib.hid (by rw [HE.out, if_pos (.inr he)])
    clear h4 he
    go_wp2
    go_ret
    rw [HF.out]
    exact ⟨none, 0, rfl, Nat.le_refl _, Rd.nil _ _ _ _, HX.out.cur, HX.out.mods⟩
  have HF : Hid (prpC v kind t a e = ((readP kind (t.extract a t.size)).1, a + (readP kind (t.extract a t.size)).2.1, (readP kind (t.extract a t.size)).2.2)) := Lib.hid (by rw [HE.out, if_neg (fun x => x.elim h4 (fun y => y he))])
  subst he
  clear h4
  go_wp2_with fail
  refine (rest_any gc a t 0 _ HX.out.cur).mono ?_
  rintro e' w2 ⟨rfl, hb⟩
  have HY := Lib.hid (HX.out.below hb); clear hb
  have HZ : Hid ((t.extract a t.size).size ≤ 140737488351232) := Lib.hid (by rw [ByteArray.size_extract]; have := HT.out; omega)
  go_wp2_with fail
  refine (readP_any kind _ _ HZ.out).mono ?_
  rintro e' w3 ⟨A, c, rfl, hcap, hrd, hb⟩
  have HU := Lib.hid (HY.out.below hb); clear hb
  have HLE := Lib.hid (readP_le kind (t.extract a t.size))
  have HBAD : Hid ((readP kind (t.extract a t.size)).2.2 ≠ 0 → (readP kind (t.extract a t.size)).2.1 = 0) := Lib.hid fun h0 => by rw [readP_bad h0]
  have HSX : Hid ((t.extract a t.size).size = t.size - a) := Lib.hid (by rw [ByteArray.size_extract]; omega)
  rw [HSX.out] at HLE
  have HCAP := Lib.hid hcap; have HRD := Lib.hid hrd
  clear hcap hrd HZ HSX
  generalize readP kind (t.extract a t.size) = r at *
  obtain ⟨l, n, x⟩ := r
  simp only at HF HLE HBAD HCAP HRD ⊢
  have k0 : w3.cell? ⟨w.heap.size, 0, none⟩ = some (.pointer (some ⟨gc, 0, none⟩)) := HU.out.box.cell 0
  go_wp2_with fail
  refine (fail_any gc a t 0 x _ HU.out.cur).mono ?_
  rintro e' w4 ⟨rfl, hc, hm⟩
  rw [if_pos rfl] at hc
  have HV := Lib.hid (HU.out.turn hc hm)
  have HRD2 := Lib.hid ((HRD.out.other HU.out.cur.1 (cur_no32 _ _ _) hm (Nat.le_refl _)).wider hm.size)
  clear hc hm k0
  have k0 : w4.cell? ⟨w.heap.size, 0, none⟩ = some (.pointer (some ⟨gc, 0, none⟩)) := HV.out.box.cell 0
  go_wp2_with fail
  refine (take_any gc a t x n _ HV.out.cur).mono ?_
  rintro e' w5 ⟨rfl, hc, hm⟩
  have HTK : Hid ((takeS t a x n).2 = (a + n, x)) := Lib.hid (by
    by_cases hx : x = 0
    · subst hx
      rw [take_yes (by have := HLE.out; have := HAT.out; omega)]
    · rw [takeS_bad hx, HBAD.out hx]; rfl)
  rw [HTK.out] at hc
  have HW := Lib.hid (HV.out.turn hc hm)
  have HRD3 := Lib.hid ((HRD2.out.other HV.out.cur.1 (cur_no32 _ _ _) hm (Nat.le_refl _)).wider hm.size)
  clear hc hm k0
  go_wp2
  go_ret
  rw [HF.out]
  exact ⟨A, c, rfl, HCAP.out, HRD3.out, HW.out.cur, HW.out.mods⟩

theorem flag_ops : ∀ f : Fin 256, (bits BinOp.and IntKind.i64 (f.1 : Int) 1 != 0) = decide (f.1 % 2 = 1) ∧ (bits BinOp.and IntKind.i64 (f.1 : Int) 2 != 0) = decide (f.1 / 2 % 2 = 1) ∧
    (bits BinOp.and IntKind.i64 (f.1 : Int) 4 != 0) = decide (f.1 / 4 % 2 = 1) ∧ (bits BinOp.and IntKind.i64 (f.1 : Int) 4 == 0) = !decide (f.1 / 4 % 2 = 1) ∧
    (bits BinOp.and IntKind.i64 ((f.1 : Int) / 8) 3 == 3) = decide (f.1 / 8 % 4 = 3) ∧ bits BinOp.and IntKind.i64 ((f.1 : Int) / 8) 3 = ((f.1 / 8 % 4 : Nat) : Int) ∧ (bits BinOp.and IntKind.i64 ((f.1 : Int) / 8) 7 != 0) = decide (f.1 / 8 % 8 ≠ 0) ∧
    (bits BinOp.and IntKind.i64 (f.1 : Int) 32 != 0) = decide (f.1 / 32 % 2 = 1) ∧ (bits BinOp.and IntKind.i64 (f.1 : Int) 64 != 0) = decide (f.1 / 64 % 2 = 1) ∧ (bits BinOp.and IntKind.i64 (f.1 : Int) 64 == 0) = !decide (f.1 / 64 % 2 = 1) ∧
    (bits BinOp.and IntKind.i64 (f.1 : Int) 128 != 0) = decide (f.1 / 128 % 2 = 1) := by decide +kernel

set_option maxHeartbeats 4000000 in
set_option maxRecDepth 10000 in
theorem flags_rd (gc : Nat) (v : Int) (f : Nat) (hf : f < 256) (w : World) :
    Calls Tryz.prog 329 #[.agg #[.pointer (some ⟨gc, 0, none⟩), .int .i64 v], .int .i64 f] w fun e w' => e = .returned (.bool (flOk v f)) ∧ Below w.heap.size w w' := by
  obtain ⟨g1, g2, g3, g4, g5, g6, g7, g8, g9, g10, g11⟩ := flag_ops ⟨f, hf⟩
  simp only at g1 g2 g3 g4 g5 g6 g7 g8 g9 g10 g11
  have HE : Hid (flOk v f = (!(decide (f % 2 = 1) || decide (f / 8 % 4 = 3) || (!decide (f / 4 % 2 = 1) && decide (f / 8 % 8 ≠ 0))) && (decide (v = 5) || !decide (f / 64 % 2 = 1) || decide (f / 128 % 2 = 1)))) := Lib.hid rfl
  have HB := Lib.hid ((Below.refl w.heap.size w).alloc (Nat.le_refl _) (.cells #[.pointer (some ⟨gc, 0, none⟩), .int .i64 v] 230))
  clear g2 g3 g6 g8 g9
  have e5 : (v == 5) = decide (v = 5) := rfl
  generalize decide (f % 2 = 1) = b1 at *
  generalize decide (f / 8 % 4 = 3) = b2 at *
  generalize decide (f / 4 % 2 = 1) = b3 at *
  generalize decide (f / 8 % 8 ≠ 0) = b4 at *
  generalize decide (v = 5) = b5 at *
  generalize decide (f / 64 % 2 = 1) = b6 at *
  generalize decide (f / 128 % 2 = 1) = b7 at *
  generalize flOk v f = R at *
  have hf0 : (0 : Int) ≤ (f : Int) := by omega
  go_enter Tryz.func329, Tryz.ntmps329
  cases b1
  · cases b2
    · cases b3
      · cases b4
        · cases b5
          · cases b6
            · go_wp2
              go_ret
              exact ⟨by rw [HE.out]; rfl, HB.out⟩
            · go_wp2
              go_ret
              exact ⟨by rw [HE.out]; rfl, HB.out⟩
          · go_wp2
            go_ret
            exact ⟨by rw [HE.out]; rfl, HB.out⟩
        · go_wp2
          go_ret
          exact ⟨by rw [HE.out]; rfl, HB.out⟩
      · cases b5
        · cases b6
          · go_wp2
            go_ret
            exact ⟨by rw [HE.out]; rfl, HB.out⟩
          · go_wp2
            go_ret
            exact ⟨by rw [HE.out]; rfl, HB.out⟩
        · go_wp2
          go_ret
          exact ⟨by rw [HE.out]; rfl, HB.out⟩
    · go_wp2
      go_ret
      exact ⟨by rw [HE.out]; rfl, HB.out⟩
  · go_wp2
    go_ret
    exact ⟨by rw [HE.out]; rfl, HB.out⟩
end Go.Proofs.YtbdgkkmbnahgiaaGreatDoor

namespace Go.Proofs.YtbdgkkmbnahgiaaGreatDoor
open Go.RowKit
attribute [local go_sem ↓] to_ldPk to_bxPk to_bdPk to_alPk to_stPk
attribute [local go_sem] run_bxPk run_bxPk_agg ld_fresh run_alPk run_bd0 run_bdK run_bdKI run_bdKIC run_bdKC run_bdKICP run_stPk_fresh pkC_0 pkC_1 pkC_2 pkC_3 pkC_4 pkC_5 pkC_6 pkC_7 pkC_8 pkC_9 pkC_10 pkC_11 pkC_12 pkC_13 pkC_14 pkC_15 pkC_16 pkC_17 pkC_18 pkC_19 pkC_20 pkC_21 pkC_22 pkC_23 pkC_24

theorem grown_mods {w x : World} {g : Nat} (h : Mods (fun z => z = g) w x) : w.grownBy x (some g) := ⟨h.os, h.tape, h.output, h.size, fun i hi hn => h.block i hi (fun e => hn (by rw [e]))⟩
theorem grown_set {w x : World} {g : Nat} (h : w.grownBy x (some g)) {b : Nat} (hb : w.heap.size ≤ b) (i : Nat) (u : Value) : w.grownBy (x.setCell ⟨b, i, none⟩ u) (some g) :=
  grown_mods ((Mods.of_grown (S := fun z => z = g) h rfl).set b i (.inr hb) u)
/-- A packet stays while a block without numbers of 32 bits goes. -/
theorem PkIn.blk {w w' : World} {g : Nat} {p : Pk} {h : Hs} {t : TypeId} {cs : Array Value} (hi : PkIn w w.heap.size p h) (h1 : p.codes = []) (h2 : p.filters = []) (hb : Bk w g t cs) (hcs : ∀ (i : Nat) (n : Int), cs[i]? ≠ some (Value.int IntKind.u32 n)) (hm : w.grownBy w' (some g)) : PkIn w' w'.heap.size p h :=
  ⟨(hi.wp.other hb hcs hm (Nat.le_refl _)).wider hm.size, (hi.codes.grown hm (Nat.le_refl _) (fun _ _ _ hx => absurd (by rw [h1]; rfl) hx)).wider hm.size,
    (hi.filters.grown hm (Nat.le_refl _) (fun _ _ _ hx => absurd (by rw [h2]; rfl) hx)).wider hm.size, (hi.props.other hb hcs hm (Nat.le_refl _)).wider hm.size, hi.caps⟩
/-- What stands while a packet is read by the reader: its copy, the result's block, the packet's, the cursor. -/
structure CR (w : World) (gc : Nat) (v : Int) (p : Pk) (h : Hs) (t : ByteArray) (a : Nat) (e : Int) (x : World) : Prop where
  bx : BX w w.heap.size gc v t a e x
  res : Bk x (w.heap.size + 1) PkT (pkC pk0 hs0)
  pk : Bk x (w.heap.size + 1 + 1) PkT (pkC p h)
  into : PkIn x x.heap.size p h
  flat : p.codes = [] ∧ p.filters = []
  lt : gc < w.heap.size
section
variable {w x y : World} {gc : Nat} {v : Int} {p p' : Pk} {h h' : Hs} {t : ByteArray} {a a' : Nat} {e e' : Int}
theorem CR.below (c : CR w gc v p h t a e x) (hb : Below x.heap.size x y) : CR w gc v p h t a e y :=
  ⟨c.bx.below hb, c.res.below hb c.res.lt, c.pk.below hb c.pk.lt, c.into.next hb, c.flat, c.lt⟩
theorem CR.drewN (c : CR w gc v p h t a e x) (n : Nat) : CR w gc v p h t a e (x.drewN n) := c.below (below_drawn (Below.refl _ _) n)
theorem CR.turn (c : CR w gc v p h t a e x) (hc : Cur y gc t a' e') (hm : x.grownBy y (some gc)) : CR w gc v p h t a' e' y :=
  ⟨c.bx.turn hc hm, c.res.mods (S := fun z => z = gc) (Mods.of_grown hm rfl) (by have := c.lt; omega), c.pk.mods (S := fun z => z = gc) (Mods.of_grown hm rfl) (by have := c.lt; omega),
    c.into.blk c.flat.1 c.flat.2 c.bx.cur.1 (cur_no32 _ _ _) hm, c.flat, c.lt⟩
theorem CR.put (c : CR w gc v p h t a e x) (i : Nat) (u : Value) (he : (pkC p h).setIfInBounds i u = pkC p' h') (hf : p'.codes = [] ∧ p'.filters = [])
    (hi : PkIn (x.setCell ⟨w.heap.size + 1 + 1, i, none⟩ u) (x.setCell ⟨w.heap.size + 1 + 1, i, none⟩ u).heap.size p' h') : CR w gc v p' h' t a e (x.setCell ⟨w.heap.size + 1 + 1, i, none⟩ u) :=
  ⟨⟨grown_set c.bx.mods (by omega) i u, c.bx.box.other (by simp; omega) u, ⟨c.bx.cur.1.other (by have := c.lt; simp; omega) u, c.bx.cur.2⟩, c.bx.ne⟩, c.res.other (by simp) u, c.pk.upd i u he, hi, hf, c.lt⟩
/-- A field that is no list. -/
theorem CR.set (c : CR w gc v p h t a e x) (i : Nat) (u : Value) (he : (pkC p h).setIfInBounds i u = pkC p' h) (hl : p'.will.props = p.will.props ∧ p'.codes = p.codes ∧ p'.filters = p.filters ∧ p'.props = p.props) :
    CR w gc v p' h t a e (x.setCell ⟨w.heap.size + 1 + 1, i, none⟩ u) := by
  refine c.put i u he ⟨hl.2.1.trans c.flat.1, hl.2.2.1.trans c.flat.2⟩ ?_
  have := c.into.blk c.flat.1 c.flat.2 c.pk (pk_no32 _ _) (mod_set x (w.heap.size + 1 + 1) i u)
  obtain ⟨h1, h2, h3, h4⟩ := hl
  exact ⟨by rw [h1]; exact this.wp, by rw [h2]; exact this.codes, by rw [h3]; exact this.filters, by rw [h4]; exact this.props, by rw [h1, h2, h3, h4]; exact this.caps⟩
theorem CR.setP (c : CR w gc v p h t a e x) {A : Option Addr} {n : Nat} {l : List Pr} (hr : Rd x x.heap.size 4 A l.length (prs l)) (hn : l.length ≤ n) :
    CR w gc v { p with props := l } { h with props := ⟨A, n⟩ } t a e (x.setCell ⟨w.heap.size + 1 + 1, 24, none⟩ (.slice A l.length n)) := by
  refine c.put 24 _ rfl c.flat ?_
  have hm := mod_set x (w.heap.size + 1 + 1) 24 (.slice A l.length n)
  have := c.into.blk c.flat.1 c.flat.2 c.pk (pk_no32 _ _) hm
  exact ⟨this.wp, this.codes, this.filters, (hr.other c.pk (pk_no32 _ _) hm (Nat.le_refl _)).wider hm.size, this.caps.1, this.caps.2.1, this.caps.2.2.1, hn⟩
theorem CR.setW (c : CR w gc v p h t a e x) {A : Option Addr} {n : Nat} {l : List Pr} (hr : Rd x x.heap.size 4 A l.length (prs l)) (hn : l.length ≤ n) :
    CR w gc v { p with will := { p.will with props := l } } { h with wp := ⟨A, n⟩ } t a e (x.setCell ⟨w.heap.size + 1 + 1, 19, none⟩ (.slice A l.length n)) := by
  refine c.put 19 _ rfl c.flat ?_
  have hm := mod_set x (w.heap.size + 1 + 1) 19 (.slice A l.length n)
  have := c.into.blk c.flat.1 c.flat.2 c.pk (pk_no32 _ _) hm
  exact ⟨(hr.other c.pk (pk_no32 _ _) hm (Nat.le_refl _)).wider hm.size, this.codes, this.filters, this.props, hn, this.caps.2⟩
end
theorem results_c1 {fn : Func} {p : Tmp} (hr : fn.results = #[.cell p PkT]) (tmps : Array Value) {w : World} {g : Nat} {q : Pk} {h : Hs} (hp : tmps.getD p undef = .pointer (some ⟨g, 0, none⟩)) (hb : Bk w g PkT (pkC q h)) :
    (results fn tmps).run Tryz.prog w = .ok (pkV q h) w := by
  have hl := lv_bk hb
  have e : (results fn tmps).run Tryz.prog w = ((asAddr (tmps.getD p undef)).run Tryz.prog w).andThen fun a w₁ => (loadVar PkT a).run Tryz.prog w₁ := by
    simp only [results, hr]
    simp [Sem.run_bind, Result.andThen]
  rw [e, hp]
  generalize pkV q h = V at hl ⊢
  exact then_ok _ (⟨g, 0, none⟩ : Addr) w _ rfl |>.trans hl
/-- What connect hands back. -/
def ConOut (g : Nat) (t : ByteArray) (r : Pk × Nat × Int) (w : World) (e : Ending) (w' : World) : Prop :=
  ∃ k, e = .returned (pkV r.1 k) ∧ PkIn w' w'.heap.size r.1 k ∧ (r.1.codes = [] ∧ r.1.filters = []) ∧ Cur w' g t r.2.1 r.2.2 ∧ w.grownBy w' (some g)
theorem CR.fin {w x : World} {gc : Nat} {v : Int} {p : Pk} {h : Hs} {t : ByteArray} {a : Nat} {e : Int} (c : CR w gc v p h t a e x) : ConOut gc t (p, a, e) w (.returned (pkV p h)) (putPk x (w.heap.size + 1) p h) := by
  have hm := putPk_mods x (w.heap.size + 1) p h
  exact ⟨h, rfl, c.into.blk c.flat.1 c.flat.2 c.res (pk_no32 _ _) hm, c.flat, ⟨c.bx.cur.1.mods (S := fun z => z = w.heap.size + 1) (Mods.of_grown hm rfl) (by have := c.lt; omega), c.bx.cur.2⟩,
    ⟨hm.os.trans c.bx.mods.os, hm.tape.trans c.bx.mods.tape, hm.output.trans c.bx.mods.output, Nat.le_trans c.bx.mods.size hm.size, fun i hi hn => (hm.block i (by have := c.bx.mods.size; omega) (fun e => by cases e; omega)).trans (c.bx.mods.block i hi hn)⟩⟩
set_option maxHeartbeats 8000000 in
set_option maxRecDepth 10000 in
theorem connect_rd (gc : Nat) (t : ByteArray) (v : Int) (w : World) (h : Cur w gc t 0 0) (ht : t.size ≤ 140737488351232) (hv : v = 4 ∨ v = 5) :
    Calls Tryz.prog 266 #[.agg #[.pointer (some ⟨gc, 0, none⟩), .int .i64 v]] w (ConOut gc t (cnRd v t) w) := by
  have HX := Lib.hid (BX.start h v)
  have HT := Lib.hid ht
  have HV := Lib.hid hv
  have HLT := Lib.hid h.lt
  have hne : w.heap.size ≠ gc := by have := h.lt; omega
  have HN0 : Hid (stN t = ((takeS t 0 0 6).2.1, if (takeS t 0 0 6).1 = cntName then (takeS t 0 0 6).2.2 else failE (takeS t 0 0 6).2.2 5)) := Lib.hid rfl
  have HcV : Hid (cnV v t = stV v t (stN t).1 (stN t).2) := Lib.hid rfl
  have HcF : Hid (cnF v t = stG v t (cnV v t).1 (cnV v t).2) := Lib.hid rfl
  have HcK : Hid (cnK v t = stK t (cnF v t).2.1 (cnF v t).2.2) := Lib.hid rfl
  have HcP : Hid (cnP v t = prpC v 1 t (cnK v t).2.1 (cnK v t).2.2) := Lib.hid rfl
  have HcT : Hid (cnT v t = txtC t (cnP v t).2.1 (cnP v t).2.2) := Lib.hid rfl
  have Hc1 : Hid (cn1 v t = (cnPk (cnF v t).1 (cnK v t).1 (cnT v t).1 (cnP v t).1, (cnT v t).2.1, (cnT v t).2.2)) := Lib.hid rfl
  have HcR : Hid (cnRd v t = cn4 t (cn3 t (cn2 v t (cn1 v t)))) := Lib.hid rfl
  generalize cnRd v t = RR at *
  have hst0 : ∀ q k, (stPk (.pointer (some ⟨w.heap.size + 1 + 1, 0, none⟩)) (pkV q k)).run Tryz.prog (((w.alloc (.cells #[.pointer (some ⟨gc, 0, none⟩), .int .i64 v] RdrT)).alloc (.cells (pkC pk0 hs0) PkT)).alloc (.cells (pkC pk0 hs0) PkT)) =
      .ok () (((w.alloc (.cells #[.pointer (some ⟨gc, 0, none⟩), .int .i64 v] RdrT)).alloc (.cells (pkC pk0 hs0) PkT)).alloc (.cells (pkC q k) PkT)) := fun q k => by
    have h2 : ((w.alloc (.cells #[.pointer (some ⟨gc, 0, none⟩), .int .i64 v] RdrT)).alloc (.cells (pkC pk0 hs0) PkT)).heap.size = w.heap.size + 1 + 1 := by simp
    have := run_stPk_fresh ((w.alloc (.cells #[.pointer (some ⟨gc, 0, none⟩), .int .i64 v] RdrT)).alloc (.cells (pkC pk0 hs0) PkT)) pk0 q hs0 k
    rw [h2] at this
    exact this
  clear h ht hv
  go_enter Tryz.func266, Tryz.ntmps266
  have C0 : Hid (CR w gc v { pk0 with kind := 1 } hs0 t 0 0 (((w.alloc (.cells #[.pointer (some ⟨gc, 0, none⟩), .int .i64 v] RdrT)).alloc (.cells (pkC pk0 hs0) PkT)).alloc (.cells (pkC { pk0 with kind := 1 } hs0) PkT))) := Lib.hid
    ⟨(HX.out.below ((Below.refl _ _).alloc (Nat.le_refl _) _)).below ((Below.refl _ _).alloc (Nat.le_refl _) _), (by simpa using Bk.fresh (w.alloc (.cells #[.pointer (some ⟨gc, 0, none⟩), .int .i64 v] RdrT)) PkT (pkC pk0 hs0) : Bk _ (w.heap.size + 1) PkT (pkC pk0 hs0)).alloc _,
      by simpa using Bk.fresh ((w.alloc (.cells #[.pointer (some ⟨gc, 0, none⟩), .int .i64 v] RdrT)).alloc (.cells (pkC pk0 hs0) PkT)) PkT (pkC { pk0 with kind := 1 } hs0), PkIn.zero _ _ 1 0 0, ⟨rfl, rfl⟩, HLT.out⟩
  go_wp2_with fail
  clear hst0 HX
  generalize (((w.alloc (.cells #[.pointer (some ⟨gc, 0, none⟩), .int .i64 v] RdrT)).alloc (.cells (pkC pk0 hs0) PkT)).alloc (.cells (pkC { pk0 with kind := 1 } hs0) PkT)) = x0 at *
  obtain ⟨q0, hq0⟩ : ∃ q, { pk0 with kind := 1 } = q := ⟨_, rfl⟩
  have HQ0 := Lib.hid hq0.symm
  rw [hq0] at C0
  clear hq0
  have K0 := Lib.hid (fun (x : World) (hc : Cur x gc t 0 0) => take_any gc 0 t 0 6 x hc)
  generalize takeS t 0 0 6 = T0 at *
  obtain ⟨b6, a6, e6⟩ := T0
  simp only at HN0 K0
  obtain ⟨bn, hbn⟩ : ∃ bn, (b6.toList == [0, 4, 77, 81, 84, 84]) = bn := ⟨_, rfl⟩
  have HN : Hid (stN t = (a6, if bn = true then e6 else failE e6 5)) := Lib.hid (by
    rw [HN0.out]
    have hname : cntName.toList = [0, 4, 77, 81, 84, 84] := by decide +kernel
    by_cases hb : b6 = cntName
    · have : bn = true := by rw [← hbn, hb, hname]; rfl
      rw [if_pos hb, this, if_pos rfl]
    · have : bn = false := by
        rw [← hbn]
        refine beq_eq_false_iff_ne.2 fun x => hb ?_
        rw [← hname] at x
        exact (toList_inj _ _).1 x
      rw [if_neg hb, this, if_neg (by decide)])
  clear HN0
  have hsb := C0.out.bx.sb
  go_wp2_with fail
  go_region_held3 (fun x => x.cell? ⟨w.heap.size, 0, none⟩ = some (.pointer (some ⟨gc, 0, none⟩)) ∧ x.cell? ⟨w.heap.size, 1, none⟩ = some (.int .i64 v) ∧ x0.grownBy x (some gc))
    (first | exact SB.below hsb (below_drawn (Below.refl _ _) _) | exact SB.turn (by assumption) hm1 hne | exact SB.turn (by assumption) hmu hne | go_keep)
    (first | (go_at_call 66; refine (K0.out _ (C0.out.drewN 1).bx.cur).mono ?_; rintro e x1 ⟨rfl, hc1, hm1⟩)
           | (go_at_call 268; refine (unless_any gc _ t _ v _ 5 _ hc1).mono ?_; rintro e x2 ⟨rfl, hcu, hmu⟩))
  have HM := Lib.hid (show SB w.heap.size gc v x0 x2 by assumption).2.2
  clear hsb hmu hm1 hc1
  have C1 := Lib.hid (C0.out.turn hcu HM.out)
  clear hcu HM hbn K0 C0
  generalize (if bn = true then e6 else failE e6 5) = e0 at *
  have hwv : IntKind.u64.wrap v = v := by rw [IntKind.wrap_u64]; have := HV.out; omega
  have K1 := Lib.hid (fun (x : World) (hc : Cur x gc t a6 e0) => number_any gc a6 t e0 1 x hc (by decide))
  obtain ⟨bv, hbv⟩ : ∃ bv, (((numS t a6 e0 1 : Nat) : Int) == v) = bv := ⟨_, rfl⟩
  have HW : Hid (cnV v t = ((takeS t a6 e0 1).2.1, if bv = true then (takeS t a6 e0 1).2.2 else failE (takeS t a6 e0 1).2.2 5)) := Lib.hid (by
    rw [HcV.out, HN.out]
    unfold stV
    by_cases hb : ((numS t a6 e0 1 : Nat) : Int) = v
    · have : bv = true := by rw [← hbv]; exact beq_iff_eq.2 hb
      simp only
      rw [if_pos hb, this, if_pos rfl]
    · have : bv = false := by rw [← hbv]; exact beq_eq_false_iff_ne.2 hb
      simp only
      rw [if_neg hb, this, if_neg (by decide)])
  generalize numS t a6 e0 1 = n1 at *
  generalize (takeS t a6 e0 1).2.1 = a1 at *
  generalize (takeS t a6 e0 1).2.2 = f1 at *
  clear HcV HN
  have hsb := C1.out.bx.sb
  go_wp2_with fail
  go_region_held3 (fun x => x.cell? ⟨w.heap.size, 0, none⟩ = some (.pointer (some ⟨gc, 0, none⟩)) ∧ x.cell? ⟨w.heap.size, 1, none⟩ = some (.int .i64 v) ∧ x2.grownBy x (some gc))
    (first | exact SB.below hsb (below_drawn (Below.refl _ _) _) | exact SB.turn (by assumption) hm1 hne | exact SB.turn (by assumption) hmu hne | go_keep)
    (first | (go_at_call 61; refine (K1.out _ (C1.out.drewN 1).bx.cur).mono ?_; rintro e x3 ⟨rfl, hc1, hm1⟩)
           | (go_at_call 268; refine (unless_any gc _ t _ v _ 5 _ hc1).mono ?_; rintro e x4 ⟨rfl, hcu, hmu⟩))
  have HM := Lib.hid (show SB w.heap.size gc v x2 x4 by assumption).2.2
  clear hsb hmu hm1 hc1
  have C2 := Lib.hid (C1.out.turn hcu HM.out)
  clear hcu HM hbv K1 C1 hwv
  generalize (if bv = true then f1 else failE f1 5) = e1 at *
  have k0 : x4.cell? ⟨w.heap.size, 0, none⟩ = some (.pointer (some ⟨gc, 0, none⟩)) := C2.out.bx.box.cell 0
  go_wp2_with fail
  refine (number_any gc a1 t e1 1 _ C2.out.bx.cur (by decide)).mono ?_
  rintro e x5 ⟨rfl, hc, hm⟩
  have C3 := Lib.hid (C2.out.turn hc hm); clear hc hm k0
  have HFL := Lib.hid (num_one_lt t a1 e1)
  have HF0 : Hid (cnF v t = (numS t a1 e1 1, (takeS t a1 e1 1).2.1, if flOk v (numS t a1 e1 1) = true then (takeS t a1 e1 1).2.2 else failE (takeS t a1 e1 1).2.2 7)) := Lib.hid (by rw [HcF.out, HW.out]; rfl)
  generalize numS t a1 e1 1 = fn at *
  generalize (takeS t a1 e1 1).2.1 = a2 at *
  generalize (takeS t a1 e1 1).2.2 = f2 at *
  have hwf : IntKind.i64.wrap (fn : Int) = (fn : Int) := by rw [IntKind.wrap_i64]; have := HFL.out; omega
  clear C2 HcF HW
  have KF := Lib.hid (fun x : World => flags_rd gc v fn HFL.out x)
  obtain ⟨bf, hbf⟩ : ∃ bf, flOk v fn = bf := ⟨_, rfl⟩
  rw [hbf] at HF0 KF
  clear hbf
  have hsb := C3.out.bx.sb
  go_wp2_with fail
  go_region_held3 (fun x => x.cell? ⟨w.heap.size, 0, none⟩ = some (.pointer (some ⟨gc, 0, none⟩)) ∧ x.cell? ⟨w.heap.size, 1, none⟩ = some (.int .i64 v) ∧ x5.grownBy x (some gc))
    (first | exact SB.below hsb (below_drawn (Below.refl _ _) _) | exact SB.below (by assumption) hm1 | exact SB.turn (by assumption) hmu hne | go_keep)
    (first | (go_at_call 329; refine (KF.out _).mono ?_; rintro e x6 ⟨rfl, hm1⟩)
           | (go_at_call 268; refine (unless_any gc a2 t f2 v _ 7 _ ((C3.out.drewN 1).below hm1).bx.cur).mono ?_; rintro e x7 ⟨rfl, hcu, hmu⟩))
  have HM := Lib.hid (show SB w.heap.size gc v x5 x7 by assumption).2.2
  clear hsb hmu hm1 
  have C4 := Lib.hid (C3.out.turn hcu HM.out)
  clear hcu HM KF C3 hwf
  generalize (if bf = true then f2 else failE f2 7) = e2 at *
  have f7 := C4.out.pk.free 7; have p7 := (C4.out.pk.cell 7).trans (pkC_7 _ _)
  have f14 := C4.out.pk.free 14; have p14 := (C4.out.pk.cell 14).trans (pkC_14 _ _)
  have f12 := C4.out.pk.free 12; have p12 := (C4.out.pk.cell 12).trans (pkC_12 _ _)
  have f10 := C4.out.pk.free 10; have p10 := (C4.out.pk.cell 10).trans (pkC_10 _ _)
  have f18 := C4.out.pk.free 18; have p18 := (C4.out.pk.cell 18).trans (pkC_18 _ _)
  have f17 := C4.out.pk.free 17; have p17 := (C4.out.pk.cell 17).trans (pkC_17 _ _)
  have k0 : x7.cell? ⟨w.heap.size, 0, none⟩ = some (.pointer (some ⟨gc, 0, none⟩)) := C4.out.bx.box.cell 0
  obtain ⟨-, g2, g4, -, -, g8, -, g32, g64, -, g128⟩ := flag_ops ⟨fn, HFL.out⟩
  simp only at g2 g4 g8 g32 g64 g128
  obtain ⟨b2, hb2⟩ : ∃ b, decide (fn / 2 % 2 = 1) = b := ⟨_, rfl⟩
  obtain ⟨b4, hb4⟩ : ∃ b, decide (fn / 4 % 2 = 1) = b := ⟨_, rfl⟩
  obtain ⟨b32, hb32⟩ : ∃ b, decide (fn / 32 % 2 = 1) = b := ⟨_, rfl⟩
  obtain ⟨b64, hb64⟩ : ∃ b, decide (fn / 64 % 2 = 1) = b := ⟨_, rfl⟩
  obtain ⟨b128, hb128⟩ : ∃ b, decide (fn / 128 % 2 = 1) = b := ⟨_, rfl⟩
  obtain ⟨qq, hqq⟩ : ∃ q : Int, ((fn / 8 % 4 : Nat) : Int) = q := ⟨_, rfl⟩
  rw [hb2] at g2
  rw [hb4] at g4
  rw [hb32] at g32
  rw [hb64] at g64
  rw [hb128] at g128
  rw [hqq] at g8
  have HPK : Hid (∀ (k : Nat) c l, ({ q0 with clean := b2, hasWill := b4, hasPass := b64, hasUser := b128, will := { q0.will with retain := b32, qos := qq }, alive := ((k : Nat) : Int), props := l, client := c } : Pk) = cnPk fn k c l) := Lib.hid (by
    intro k c l
    rw [← hb2, ← hb4, ← hb32, ← hb64, ← hb128, ← hqq, HQ0.out]
    rfl)
  clear hb2 hb4 hb32 hb64 hb128 hqq
  have hf0 : (0 : Int) ≤ (fn : Int) := by omega
  have HKL := Lib.hid (num_two_lt t a2 e2 C4.out.bx.cur.at_most.1)
  have C5 := Lib.hid ((((((C4.out.set 7 (.bool b2) (p' := { q0 with clean := b2 }) rfl ⟨rfl, rfl, rfl, rfl⟩).set 14 (.bool b4) (p' := { q0 with clean := b2, hasWill := b4 }) rfl ⟨rfl, rfl, rfl, rfl⟩).set 12 (.bool b64) (p' := { q0 with clean := b2, hasWill := b4, hasPass := b64 }) rfl ⟨rfl, rfl, rfl, rfl⟩).set 10 (.bool b128) (p' := { q0 with clean := b2, hasWill := b4, hasPass := b64, hasUser := b128 }) rfl ⟨rfl, rfl, rfl, rfl⟩).set 18 (.bool b32) (p' := { q0 with clean := b2, hasWill := b4, hasPass := b64, hasUser := b128, will := { q0.will with retain := b32 } }) rfl ⟨rfl, rfl, rfl, rfl⟩).set 17 (.int .i64 qq) (p' := { q0 with clean := b2, hasWill := b4, hasPass := b64, hasUser := b128, will := { q0.will with retain := b32, qos := qq } }) rfl ⟨rfl, rfl, rfl, rfl⟩)
  clear C4
  go_wp2_with fail
  refine (number_any gc a2 t e2 2 _ C5.out.bx.cur (by decide)).mono ?_
  rintro e x8 ⟨rfl, hc, hm⟩
  have C6 := Lib.hid (C5.out.turn hc hm)
  clear hc hm C5 f7 p7 f14 p14 f12 p12 f10 p10 f18 p18 f17 p17 g2 g4 g8 g32 g64 g128 hf0 k0
  have HKK : Hid (cnK v t = (numS t a2 e2 2, (takeS t a2 e2 2).2.1, (takeS t a2 e2 2).2.2)) := Lib.hid (by rw [HcK.out, HF0.out]; rfl)
  generalize numS t a2 e2 2 = kn at *
  generalize (takeS t a2 e2 2).2.1 = a3 at *
  generalize (takeS t a2 e2 2).2.2 = e3 at *
  have hwk : IntKind.i64.wrap (kn : Int) = (kn : Int) := by rw [IntKind.wrap_i64]; have := HKL.out; omega
  have f8 := C6.out.pk.free 8; have p8 := (C6.out.pk.cell 8).trans (pkC_8 _ _)
  have p0 : x8.cell? ⟨w.heap.size + 1 + 1, 0, none⟩ = some (.int .i64 1) := ((C6.out.pk.cell 0).trans (pkC_0 _ _)).trans (by rw [HQ0.out])
  have k0 : x8.cell? ⟨w.heap.size, 0, none⟩ = some (.pointer (some ⟨gc, 0, none⟩)) := C6.out.bx.box.cell 0
  have k1 : x8.cell? ⟨w.heap.size, 1, none⟩ = some (.int .i64 v) := C6.out.bx.box.cell 1
  have C7 := Lib.hid (C6.out.set 8 (.int .i64 (kn : Int)) (p' := { q0 with clean := b2, hasWill := b4, hasPass := b64, hasUser := b128, will := { q0.will with retain := b32, qos := qq }, alive := (kn : Int) }) rfl ⟨rfl, rfl, rfl, rfl⟩)
  have HPP : Hid (cnP v t = prpC v 1 t a3 e3) := Lib.hid (by rw [HcP.out, HKK.out])
  clear C6 HcK HcP
  go_wp2_with fail
  refine (props_rd gc a3 t e3 v 1 _ C7.out.bx.cur HT.out).mono ?_
  rintro e x9 ⟨A, c, rfl, hlc, hr, hc, hm⟩
  rw [← HPP.out] at hlc hr hc ⊢
  clear HPP f8 p8 p0 k0 k1 hwk
  generalize cnP v t = r at *
  obtain ⟨l, a4, e4⟩ := r
  simp only at hlc hr hc HcT Hc1 ⊢
  have C8 := Lib.hid (C7.out.turn hc hm)
  have C9 := Lib.hid (C8.out.setP hr hlc)
  have f24 := C8.out.pk.free 24; have p24 := (C8.out.pk.cell 24).trans (pkC_24 _ _)
  have k0 : x9.cell? ⟨w.heap.size, 0, none⟩ = some (.pointer (some ⟨gc, 0, none⟩)) := C8.out.bx.box.cell 0
  have k1 : x9.cell? ⟨w.heap.size, 1, none⟩ = some (.int .i64 v) := C8.out.bx.box.cell 1
  clear hlc hr hc hm C7
  go_wp2_with fail
  refine (text_rd gc a4 t e4 v _ C9.out.bx.cur).mono ?_
  rintro e y0 ⟨rfl, hc, hm⟩
  rw [← HcT.out] at hc ⊢
  clear HcT f24 p24 k0 k1 C8
  generalize cnT v t = r at *
  obtain ⟨cl, a5, e5⟩ := r
  simp only at hc Hc1 ⊢
  rw [HF0.out, HKK.out] at Hc1
  simp only at Hc1
  have C10 := Lib.hid (C9.out.turn hc hm)
  clear hc hm C9 HF0 HKK
  have C11' := Lib.hid (C10.out.set 9 (.string cl) (p' := { q0 with clean := b2, hasWill := b4, hasPass := b64, hasUser := b128, will := { q0.will with retain := b32, qos := qq }, alive := (kn : Int), props := l, client := cl }) rfl ⟨rfl, rfl, rfl, rfl⟩)
  have f9 := C10.out.pk.free 9; have p9 := (C10.out.pk.cell 9).trans (pkC_9 _ _)
  have p14 : y0.cell? ⟨w.heap.size + 1 + 1, 14, none⟩ = some (.bool b4) := (C10.out.pk.cell 14).trans (pkC_14 _ _)
  have HB4 : Hid ((cnPk fn kn cl l).hasWill = b4) := Lib.hid (by rw [← HPK.out])
  rw [HPK.out] at C11'
  generalize cnPk fn kn cl l = P1 at *
  clear C10 HPK HQ0 HKL HFL
  obtain ⟨H1, hH1⟩ : ∃ H : Hs, { hs0 with props := ⟨A, c⟩ } = H := ⟨_, rfl⟩
  rw [hH1] at C11'
  clear hH1
  obtain ⟨Y1, hY1⟩ : ∃ Y, y0.setCell ⟨w.heap.size + 1 + 1, 9, none⟩ (.string cl) = Y := ⟨_, rfl⟩
  have C11 := C11'
  rw [hY1] at C11
  have k0 : Y1.cell? ⟨w.heap.size, 0, none⟩ = some (.pointer (some ⟨gc, 0, none⟩)) := C11.out.bx.box.cell 0
  have k1 : Y1.cell? ⟨w.heap.size, 1, none⟩ = some (.int .i64 v) := C11.out.bx.box.cell 1
  have HR2 : Hid (RR = cn4 t (cn3 t (cn2 v t (P1, a5, e5)))) := Lib.hid (by rw [HcR.out, Hc1.out])
  clear C11' HcR Hc1
  cases b4
  · have p14 := ((C11.out.pk.cell 14).trans (pkC_14 _ _)).trans (show _ = some (Value.bool false) by rw [HB4.out])
    have HR3 : Hid (RR = cn4 t (cn3 t (P1, a5, e5))) := Lib.hid (by rw [HR2.out]; unfold cn2; rw [if_neg (by rw [HB4.out]; decide)])
    clear k0 k1
    cases hb1 : (P1 : Pk).hasUser
    · have hb1p := ((C11.out.pk.cell 10).trans (pkC_10 _ _)).trans (show _ = some (Value.bool false) by rw [hb1])
      have HQ2 : Hid (RR = cn4 t (P1, a5, e5)) := Lib.hid (by rw [HR3.out]; unfold cn3; rw [if_neg (by rw [hb1]; decide)])
      cases hb4 : (P1 : Pk).hasPass
      · have hb4p := ((C11.out.pk.cell 12).trans (pkC_12 _ _)).trans (show _ = some (Value.bool false) by rw [hb4])
        have HZ : Hid (RR = (P1, a5, e5)) := Lib.hid (by rw [HQ2.out]; unfold cn4; rw [if_neg (by rw [hb4]; decide)])
        have hl := ld_bk C11.out.pk
        have hst := run_stPk C11.out.res
        go_wp2
        refine bodyPost_ret (results_c1 rfl _ rfl (put_bk C11.out.res _ _)) rfl ?_
        rw [HZ.out]
        exact C11.out.fin
      · have hb4p := ((C11.out.pk.cell 12).trans (pkC_12 _ _)).trans (show _ = some (Value.bool true) by rw [hb4])
        have k0 : Y1.cell? ⟨w.heap.size, 0, none⟩ = some (.pointer (some ⟨gc, 0, none⟩)) := C11.out.bx.box.cell 0
        have k1 : Y1.cell? ⟨w.heap.size, 1, none⟩ = some (.int .i64 v) := C11.out.bx.box.cell 1
        go_wp2_with fail
        refine (binary_rd gc a5 t e5 v _ C11.out.bx.cur).mono ?_
        rintro e y5 ⟨rfl, hc, hm⟩
        obtain ⟨S6, a7, e8, HS13⟩ : ∃ (S : ByteArray) (a : Nat) (e : Int), binC t a5 e5 = (S, a, e) := ⟨_, _, _, rfl⟩
        rw [HS13] at hc ⊢
        simp only at hc ⊢
        replace HS13 := Lib.hid HS13
        have C9 := Lib.hid (C11.out.turn hc hm)
        have C10 := Lib.hid (C9.out.set 13 (.string S6) (p' := { (P1 : Pk) with pass := S6 }) rfl ⟨rfl, rfl, rfl, rfl⟩)
        have fx := C9.out.pk.free 13; have px := (C9.out.pk.cell 13).trans (pkC_13 _ _)
        clear hc hm k0 k1
        obtain ⟨Y11, hY12⟩ : ∃ Y, y5.setCell ⟨w.heap.size + 1 + 1, 13, none⟩ (.string S6) = Y := ⟨_, rfl⟩
        rw [hY12] at C10
        obtain ⟨PV14, hPV15⟩ : ∃ P : Pk, { (P1 : Pk) with pass := S6 } = P := ⟨_, rfl⟩
        rw [hPV15] at C10
        replace hPV15 := Lib.hid hPV15
        have HZ : Hid (RR = (PV14, a7, e8)) := Lib.hid (by rw [HQ2.out]; unfold cn4; rw [if_pos hb4]; simp only; rw [HS13.out, ← hPV15.out])
        have hl := ld_bk C10.out.pk
        have hst := run_stPk C10.out.res
        go_wp2
        refine bodyPost_ret (results_c1 rfl _ rfl (put_bk C10.out.res _ _)) rfl ?_
        rw [HZ.out]
        exact C10.out.fin
    · have hb1p := ((C11.out.pk.cell 10).trans (pkC_10 _ _)).trans (show _ = some (Value.bool true) by rw [hb1])
      have k0 : Y1.cell? ⟨w.heap.size, 0, none⟩ = some (.pointer (some ⟨gc, 0, none⟩)) := C11.out.bx.box.cell 0
      have k1 : Y1.cell? ⟨w.heap.size, 1, none⟩ = some (.int .i64 v) := C11.out.bx.box.cell 1
      go_wp2_with fail
      refine (text_rd gc a5 t e5 v _ C11.out.bx.cur).mono ?_
      rintro e y16 ⟨rfl, hc, hm⟩
      obtain ⟨S17, a18, e19, HS24⟩ : ∃ (S : ByteArray) (a : Nat) (e : Int), txtC t a5 e5 = (S, a, e) := ⟨_, _, _, rfl⟩
      rw [HS24] at hc ⊢
      simp only at hc ⊢
      replace HS24 := Lib.hid HS24
      have C20 := Lib.hid (C11.out.turn hc hm)
      have C21 := Lib.hid (C20.out.set 11 (.string S17) (p' := { (P1 : Pk) with user := S17 }) rfl ⟨rfl, rfl, rfl, rfl⟩)
      have fx := C20.out.pk.free 11; have px := (C20.out.pk.cell 11).trans (pkC_11 _ _)
      clear hc hm k0 k1
      obtain ⟨Y22, hY23⟩ : ∃ Y, y16.setCell ⟨w.heap.size + 1 + 1, 11, none⟩ (.string S17) = Y := ⟨_, rfl⟩
      rw [hY23] at C21
      obtain ⟨PV25, hPV26⟩ : ∃ P : Pk, { (P1 : Pk) with user := S17 } = P := ⟨_, rfl⟩
      rw [hPV26] at C21
      replace hPV26 := Lib.hid hPV26
      have HQ3 : Hid (RR = cn4 t (PV25, a18, e19)) := Lib.hid (by rw [HR3.out]; unfold cn3; rw [if_pos hb1]; simp only; rw [HS24.out, ← hPV26.out])
      cases hb27 : (PV25 : Pk).hasPass
      · have hb27p := ((C21.out.pk.cell 12).trans (pkC_12 _ _)).trans (show _ = some (Value.bool false) by rw [hb27])
        have HZ : Hid (RR = (PV25, a18, e19)) := Lib.hid (by rw [HQ3.out]; unfold cn4; rw [if_neg (by rw [hb27]; decide)])
        have hl := ld_bk C21.out.pk
        have hst := run_stPk C21.out.res
        go_wp2
        refine bodyPost_ret (results_c1 rfl _ rfl (put_bk C21.out.res _ _)) rfl ?_
        rw [HZ.out]
        exact C21.out.fin
      · have hb27p := ((C21.out.pk.cell 12).trans (pkC_12 _ _)).trans (show _ = some (Value.bool true) by rw [hb27])
        have k0 : Y22.cell? ⟨w.heap.size, 0, none⟩ = some (.pointer (some ⟨gc, 0, none⟩)) := C21.out.bx.box.cell 0
        have k1 : Y22.cell? ⟨w.heap.size, 1, none⟩ = some (.int .i64 v) := C21.out.bx.box.cell 1
        go_wp2_with fail
        refine (binary_rd gc a18 t e19 v _ C21.out.bx.cur).mono ?_
        rintro e y28 ⟨rfl, hc, hm⟩
        obtain ⟨S29, a30, e31, HS36⟩ : ∃ (S : ByteArray) (a : Nat) (e : Int), binC t a18 e19 = (S, a, e) := ⟨_, _, _, rfl⟩
        rw [HS36] at hc ⊢
        simp only at hc ⊢
        replace HS36 := Lib.hid HS36
        have C32 := Lib.hid (C21.out.turn hc hm)
        have C33 := Lib.hid (C32.out.set 13 (.string S29) (p' := { (PV25 : Pk) with pass := S29 }) rfl ⟨rfl, rfl, rfl, rfl⟩)
        have fx := C32.out.pk.free 13; have px := (C32.out.pk.cell 13).trans (pkC_13 _ _)
        clear hc hm k0 k1
        obtain ⟨Y34, hY35⟩ : ∃ Y, y28.setCell ⟨w.heap.size + 1 + 1, 13, none⟩ (.string S29) = Y := ⟨_, rfl⟩
        rw [hY35] at C33
        obtain ⟨PV37, hPV38⟩ : ∃ P : Pk, { (PV25 : Pk) with pass := S29 } = P := ⟨_, rfl⟩
        rw [hPV38] at C33
        replace hPV38 := Lib.hid hPV38
        have HZ : Hid (RR = (PV37, a30, e31)) := Lib.hid (by rw [HQ3.out]; unfold cn4; rw [if_pos hb27]; simp only; rw [HS36.out, ← hPV38.out])
        have hl := ld_bk C33.out.pk
        have hst := run_stPk C33.out.res
        go_wp2
        refine bodyPost_ret (results_c1 rfl _ rfl (put_bk C33.out.res _ _)) rfl ?_
        rw [HZ.out]
        exact C33.out.fin
  · have p14 := ((C11.out.pk.cell 14).trans (pkC_14 _ _)).trans (show _ = some (Value.bool true) by rw [HB4.out])
    go_wp2_with fail
    refine (props_rd gc a5 t e5 v 16 _ C11.out.bx.cur HT.out).mono ?_
    rintro e yw ⟨A', c', rfl, hlc, hr, hc, hm⟩
    obtain ⟨wl, aw, ew, hWP⟩ : ∃ (l : List Pr) (a : Nat) (e : Int), prpC v 16 t a5 e5 = (l, a, e) := ⟨_, _, _, rfl⟩
    rw [hWP] at hlc hr hc ⊢
    simp only at hlc hr hc ⊢
    replace hWP := Lib.hid hWP
    have CW8 := Lib.hid (C11.out.turn hc hm)
    have CW9 := Lib.hid (CW8.out.setW hr hlc)
    have fx := CW8.out.pk.free 19; have px := (CW8.out.pk.cell 19).trans (pkC_19 _ _)
    clear hlc hr hc hm k0 k1 p14 f9 p9 hY1
    obtain ⟨Yw, hYw⟩ : ∃ Y, yw.setCell ⟨w.heap.size + 1 + 1, 19, none⟩ (.slice A' wl.length c') = Y := ⟨_, rfl⟩
    rw [hYw] at CW9
    obtain ⟨HW, hHW⟩ : ∃ H : Hs, { H1 with wp := ⟨A', c'⟩ } = H := ⟨_, rfl⟩
    rw [hHW] at CW9
    obtain ⟨PW, hPW⟩ : ∃ P : Pk, { P1 with will := { P1.will with props := wl } } = P := ⟨_, rfl⟩
    rw [hPW] at CW9
    replace hPW := Lib.hid hPW
    clear hHW
    have k0 : Yw.cell? ⟨w.heap.size, 0, none⟩ = some (.pointer (some ⟨gc, 0, none⟩)) := CW9.out.bx.box.cell 0
    have k1 : Yw.cell? ⟨w.heap.size, 1, none⟩ = some (.int .i64 v) := CW9.out.bx.box.cell 1
    go_wp2_with fail
    clear fx px hYw
    refine (text_rd gc aw t ew v _ CW9.out.bx.cur).mono ?_
    rintro e y39 ⟨rfl, hc, hm⟩
    obtain ⟨S40, a41, e42, HS47⟩ : ∃ (S : ByteArray) (a : Nat) (e : Int), txtC t aw ew = (S, a, e) := ⟨_, _, _, rfl⟩
    rw [HS47] at hc ⊢
    simp only at hc ⊢
    replace HS47 := Lib.hid HS47
    have C43 := Lib.hid (CW9.out.turn hc hm)
    have C44 := Lib.hid (C43.out.set 15 (.string S40) (p' := { (PW : Pk) with will := { (PW : Pk).will with topic := S40 } }) rfl ⟨rfl, rfl, rfl, rfl⟩)
    have fx := C43.out.pk.free 15; have px := (C43.out.pk.cell 15).trans (pkC_15 _ _)
    clear hc hm k0 k1
    obtain ⟨Y45, hY46⟩ : ∃ Y, y39.setCell ⟨w.heap.size + 1 + 1, 15, none⟩ (.string S40) = Y := ⟨_, rfl⟩
    rw [hY46] at C44
    obtain ⟨PV48, hPV49⟩ : ∃ P : Pk, { (PW : Pk) with will := { (PW : Pk).will with topic := S40 } } = P := ⟨_, rfl⟩
    rw [hPV49] at C44
    replace hPV49 := Lib.hid hPV49
    have k0 : Y45.cell? ⟨w.heap.size, 0, none⟩ = some (.pointer (some ⟨gc, 0, none⟩)) := C44.out.bx.box.cell 0
    have k1 : Y45.cell? ⟨w.heap.size, 1, none⟩ = some (.int .i64 v) := C44.out.bx.box.cell 1
    go_wp2_with fail
    clear fx px hY46
    refine (binary_rd gc a41 t e42 v _ C44.out.bx.cur).mono ?_
    rintro e y50 ⟨rfl, hc, hm⟩
    obtain ⟨S51, a52, e53, HS58⟩ : ∃ (S : ByteArray) (a : Nat) (e : Int), binC t a41 e42 = (S, a, e) := ⟨_, _, _, rfl⟩
    rw [HS58] at hc ⊢
    simp only at hc ⊢
    replace HS58 := Lib.hid HS58
    have C54 := Lib.hid (C44.out.turn hc hm)
    have C55 := Lib.hid (C54.out.set 16 (.string S51) (p' := { (PV48 : Pk) with will := { (PV48 : Pk).will with payload := S51 } }) rfl ⟨rfl, rfl, rfl, rfl⟩)
    have fx := C54.out.pk.free 16; have px := (C54.out.pk.cell 16).trans (pkC_16 _ _)
    clear hc hm k0 k1
    obtain ⟨Y56, hY57⟩ : ∃ Y, y50.setCell ⟨w.heap.size + 1 + 1, 16, none⟩ (.string S51) = Y := ⟨_, rfl⟩
    rw [hY57] at C55
    obtain ⟨PV59, hPV60⟩ : ∃ P : Pk, { (PV48 : Pk) with will := { (PV48 : Pk).will with payload := S51 } } = P := ⟨_, rfl⟩
    rw [hPV60] at C55
    replace hPV60 := Lib.hid hPV60
    have HR3 : Hid (RR = cn4 t (cn3 t (PV59, a52, e53))) := Lib.hid (by
      rw [HR2.out]; unfold cn2; rw [if_pos HB4.out]
      unfold cnWB cnWT cnWP
      simp only
      rw [hWP.out]; simp only; rw [HS47.out]; simp only; rw [HS58.out, ← hPV60.out, ← hPV49.out, ← hPW.out])
    cases hb61 : (PV59 : Pk).hasUser
    · have hb61p := ((C55.out.pk.cell 10).trans (pkC_10 _ _)).trans (show _ = some (Value.bool false) by rw [hb61])
      have HQ62 : Hid (RR = cn4 t (PV59, a52, e53)) := Lib.hid (by rw [HR3.out]; unfold cn3; rw [if_neg (by rw [hb61]; decide)])
      cases hb64 : (PV59 : Pk).hasPass
      · have hb64p := ((C55.out.pk.cell 12).trans (pkC_12 _ _)).trans (show _ = some (Value.bool false) by rw [hb64])
        have HZ : Hid (RR = (PV59, a52, e53)) := Lib.hid (by rw [HQ62.out]; unfold cn4; rw [if_neg (by rw [hb64]; decide)])
        have hl := ld_bk C55.out.pk
        have hst := run_stPk C55.out.res
        go_wp2
        refine bodyPost_ret (results_c1 rfl _ rfl (put_bk C55.out.res _ _)) rfl ?_
        rw [HZ.out]
        exact C55.out.fin
      · have hb64p := ((C55.out.pk.cell 12).trans (pkC_12 _ _)).trans (show _ = some (Value.bool true) by rw [hb64])
        have k0 : Y56.cell? ⟨w.heap.size, 0, none⟩ = some (.pointer (some ⟨gc, 0, none⟩)) := C55.out.bx.box.cell 0
        have k1 : Y56.cell? ⟨w.heap.size, 1, none⟩ = some (.int .i64 v) := C55.out.bx.box.cell 1
        go_wp2_with fail
        refine (binary_rd gc a52 t e53 v _ C55.out.bx.cur).mono ?_
        rintro e y65 ⟨rfl, hc, hm⟩
        obtain ⟨S66, a67, e68, HS73⟩ : ∃ (S : ByteArray) (a : Nat) (e : Int), binC t a52 e53 = (S, a, e) := ⟨_, _, _, rfl⟩
        rw [HS73] at hc ⊢
        simp only at hc ⊢
        replace HS73 := Lib.hid HS73
        have C69 := Lib.hid (C55.out.turn hc hm)
        have C70 := Lib.hid (C69.out.set 13 (.string S66) (p' := { (PV59 : Pk) with pass := S66 }) rfl ⟨rfl, rfl, rfl, rfl⟩)
        have fx := C69.out.pk.free 13; have px := (C69.out.pk.cell 13).trans (pkC_13 _ _)
        clear hc hm k0 k1
        obtain ⟨Y71, hY72⟩ : ∃ Y, y65.setCell ⟨w.heap.size + 1 + 1, 13, none⟩ (.string S66) = Y := ⟨_, rfl⟩
        rw [hY72] at C70
        obtain ⟨PV74, hPV75⟩ : ∃ P : Pk, { (PV59 : Pk) with pass := S66 } = P := ⟨_, rfl⟩
        rw [hPV75] at C70
        replace hPV75 := Lib.hid hPV75
        have HZ : Hid (RR = (PV74, a67, e68)) := Lib.hid (by rw [HQ62.out]; unfold cn4; rw [if_pos hb64]; simp only; rw [HS73.out, ← hPV75.out])
        have hl := ld_bk C70.out.pk
        have hst := run_stPk C70.out.res
        go_wp2
        refine bodyPost_ret (results_c1 rfl _ rfl (put_bk C70.out.res _ _)) rfl ?_
        rw [HZ.out]
        exact C70.out.fin
    · have hb61p := ((C55.out.pk.cell 10).trans (pkC_10 _ _)).trans (show _ = some (Value.bool true) by rw [hb61])
      have k0 : Y56.cell? ⟨w.heap.size, 0, none⟩ = some (.pointer (some ⟨gc, 0, none⟩)) := C55.out.bx.box.cell 0
      have k1 : Y56.cell? ⟨w.heap.size, 1, none⟩ = some (.int .i64 v) := C55.out.bx.box.cell 1
      go_wp2_with fail
      refine (text_rd gc a52 t e53 v _ C55.out.bx.cur).mono ?_
      rintro e y76 ⟨rfl, hc, hm⟩
      obtain ⟨S77, a78, e79, HS84⟩ : ∃ (S : ByteArray) (a : Nat) (e : Int), txtC t a52 e53 = (S, a, e) := ⟨_, _, _, rfl⟩
      rw [HS84] at hc ⊢
      simp only at hc ⊢
      replace HS84 := Lib.hid HS84
      have C80 := Lib.hid (C55.out.turn hc hm)
      have C81 := Lib.hid (C80.out.set 11 (.string S77) (p' := { (PV59 : Pk) with user := S77 }) rfl ⟨rfl, rfl, rfl, rfl⟩)
      have fx := C80.out.pk.free 11; have px := (C80.out.pk.cell 11).trans (pkC_11 _ _)
      clear hc hm k0 k1
      obtain ⟨Y82, hY83⟩ : ∃ Y, y76.setCell ⟨w.heap.size + 1 + 1, 11, none⟩ (.string S77) = Y := ⟨_, rfl⟩
      rw [hY83] at C81
      obtain ⟨PV85, hPV86⟩ : ∃ P : Pk, { (PV59 : Pk) with user := S77 } = P := ⟨_, rfl⟩
      rw [hPV86] at C81
      replace hPV86 := Lib.hid hPV86
      have HQ63 : Hid (RR = cn4 t (PV85, a78, e79)) := Lib.hid (by rw [HR3.out]; unfold cn3; rw [if_pos hb61]; simp only; rw [HS84.out, ← hPV86.out])
      cases hb87 : (PV85 : Pk).hasPass
      · have hb87p := ((C81.out.pk.cell 12).trans (pkC_12 _ _)).trans (show _ = some (Value.bool false) by rw [hb87])
        have HZ : Hid (RR = (PV85, a78, e79)) := Lib.hid (by rw [HQ63.out]; unfold cn4; rw [if_neg (by rw [hb87]; decide)])
        have hl := ld_bk C81.out.pk
        have hst := run_stPk C81.out.res
        go_wp2
        refine bodyPost_ret (results_c1 rfl _ rfl (put_bk C81.out.res _ _)) rfl ?_
        rw [HZ.out]
        exact C81.out.fin
      · have hb87p := ((C81.out.pk.cell 12).trans (pkC_12 _ _)).trans (show _ = some (Value.bool true) by rw [hb87])
        have k0 : Y82.cell? ⟨w.heap.size, 0, none⟩ = some (.pointer (some ⟨gc, 0, none⟩)) := C81.out.bx.box.cell 0
        have k1 : Y82.cell? ⟨w.heap.size, 1, none⟩ = some (.int .i64 v) := C81.out.bx.box.cell 1
        go_wp2_with fail
        refine (binary_rd gc a78 t e79 v _ C81.out.bx.cur).mono ?_
        rintro e y88 ⟨rfl, hc, hm⟩
        obtain ⟨S89, a90, e91, HS96⟩ : ∃ (S : ByteArray) (a : Nat) (e : Int), binC t a78 e79 = (S, a, e) := ⟨_, _, _, rfl⟩
        rw [HS96] at hc ⊢
        simp only at hc ⊢
        replace HS96 := Lib.hid HS96
        have C92 := Lib.hid (C81.out.turn hc hm)
        have C93 := Lib.hid (C92.out.set 13 (.string S89) (p' := { (PV85 : Pk) with pass := S89 }) rfl ⟨rfl, rfl, rfl, rfl⟩)
        have fx := C92.out.pk.free 13; have px := (C92.out.pk.cell 13).trans (pkC_13 _ _)
        clear hc hm k0 k1
        obtain ⟨Y94, hY95⟩ : ∃ Y, y88.setCell ⟨w.heap.size + 1 + 1, 13, none⟩ (.string S89) = Y := ⟨_, rfl⟩
        rw [hY95] at C93
        obtain ⟨PV97, hPV98⟩ : ∃ P : Pk, { (PV85 : Pk) with pass := S89 } = P := ⟨_, rfl⟩
        rw [hPV98] at C93
        replace hPV98 := Lib.hid hPV98
        have HZ : Hid (RR = (PV97, a90, e91)) := Lib.hid (by rw [HQ63.out]; unfold cn4; rw [if_pos hb87]; simp only; rw [HS96.out, ← hPV98.out])
        have hl := ld_bk C93.out.pk
        have hst := run_stPk C93.out.res
        go_wp2
        refine bodyPost_ret (results_c1 rfl _ rfl (put_bk C93.out.res _ _)) rfl ?_
        rw [HZ.out]
        exact C93.out.fin
end Go.Proofs.YtbdgkkmbnahgiaaGreatDoor

namespace Go.Proofs.YtbdgkkmbnahgiaaGreatDoor
open Go.RowKit
attribute [local go_sem ↓] to_ldPk to_bxPk to_bdPk to_alPk to_stPk
attribute [local go_sem] run_bxPk run_bxPk_agg ld_fresh run_alPk run_bd0 run_bdK run_bdKI run_bdKIC run_bdKC run_bdKICP run_stPk_fresh pkC_0 pkC_1 pkC_2 pkC_3 pkC_4 pkC_5 pkC_6 pkC_7 pkC_8 pkC_9 pkC_10 pkC_11 pkC_12 pkC_13 pkC_14 pkC_15 pkC_16 pkC_17 pkC_18 pkC_19 pkC_20 pkC_21 pkC_22 pkC_23 pkC_24

theorem run_bdCA (b : Bool) (c : Int) (l : List Pr) (A : Option Addr) (n : Nat) (w : World) : (bdPk #[(0, .int .i64 2), (16, .bool b), (17, .int .i64 c), (20, .slice A l.length n)]).run Tryz.prog w = .ok (pkV { pk0 with kind := 2, session := b, code := c, props := l } { hs0 with props := ⟨A, n⟩ }) w := by kernel_rfl
set_option maxHeartbeats 4000000 in
set_option maxRecDepth 10000 in
theorem connack_rd (gc : Nat) (t : ByteArray) (v : Int) (w : World) (h : Cur w gc t 0 0) (ht : t.size ≤ 140737488351232) :
    Calls Tryz.prog 267 #[.agg #[.pointer (some ⟨gc, 0, none⟩), .int .i64 v]] w (ConOut gc t (caRd v t) w) := by
  have HX := Lib.hid (BX.start h v)
  have HT := Lib.hid ht
  have HLT := Lib.hid h.lt
  have hne : w.heap.size ≠ gc := by have := h.lt; omega
  have HcF : Hid (caF t = (numS t 0 0 1, (takeS t 0 0 1).2.1, if numS t 0 0 1 ≤ 1 then (takeS t 0 0 1).2.2 else failE (takeS t 0 0 1).2.2 7)) := Lib.hid rfl
  have HcC : Hid (caC t = (numS t (caF t).2.1 (caF t).2.2 1, (takeS t (caF t).2.1 (caF t).2.2 1).2.1, (takeS t (caF t).2.1 (caF t).2.2 1).2.2)) := Lib.hid rfl
  have HcP : Hid (caP v t = prpC v 2 t (caC t).2.1 (caC t).2.2) := Lib.hid rfl
  have HcR : Hid (caRd v t = (caPk (caF t).1 (caC t).1 (caP v t).1, (caP v t).2.1, (caP v t).2.2)) := Lib.hid rfl
  generalize caRd v t = RR at *
  clear h ht
  go_enter Tryz.func267, Tryz.ntmps267
  have C0 := Lib.hid (HX.out.below ((Below.refl _ _).alloc (Nat.le_refl _) (.cells (pkC pk0 hs0) PkT)))
  have R0 : Hid (Bk ((w.alloc (.cells #[.pointer (some ⟨gc, 0, none⟩), .int .i64 v] RdrT)).alloc (.cells (pkC pk0 hs0) PkT)) (w.heap.size + 1) PkT (pkC pk0 hs0)) := Lib.hid (by simpa using Bk.fresh (w.alloc (.cells #[.pointer (some ⟨gc, 0, none⟩), .int .i64 v] RdrT)) PkT (pkC pk0 hs0))
  go_wp2_with fail
  refine (number_any gc 0 t 0 1 _ C0.out.cur (by decide)).mono ?_
  rintro e x0 ⟨rfl, hc, hm⟩
  have C1 := Lib.hid (C0.out.turn hc hm)
  have R1 := Lib.hid (R0.out.mods (S := fun z => z = gc) (Mods.of_grown hm rfl) (by have := HLT.out; omega))
  have HN1 := Lib.hid (num_one_lt t 0 0)
  clear hc hm HX C0 R0
  generalize numS t 0 0 1 = n1 at *
  generalize (takeS t 0 0 1).2.1 = a1 at *
  generalize (takeS t 0 0 1).2.2 = f1 at *
  obtain ⟨bl, hbl⟩ : ∃ b, decide ((n1 : Int) ≤ 1) = b := ⟨_, rfl⟩
  have HF : Hid (caF t = (n1, a1, if bl = true then f1 else failE f1 7)) := Lib.hid (by
    rw [HcF.out]
    by_cases hb : n1 ≤ 1
    · rw [if_pos hb, ← hbl, if_pos (decide_eq_true (by omega))]
    · rw [if_neg hb, ← hbl, if_neg (by rw [decide_eq_false (by omega)]; decide)])
  clear HcF
  have k0 : x0.cell? ⟨w.heap.size, 0, none⟩ = some (.pointer (some ⟨gc, 0, none⟩)) := C1.out.box.cell 0
  have k1 : x0.cell? ⟨w.heap.size, 1, none⟩ = some (.int .i64 v) := C1.out.box.cell 1
  go_wp2_with fail
  refine (unless_any gc _ t _ v _ 7 _ C1.out.cur).mono ?_
  rintro e x2 ⟨rfl, hcu, hmu⟩
  have HM := Lib.hid hmu
  clear hmu k0 k1
  have C2 := Lib.hid (C1.out.turn hcu HM.out)
  have R2 := Lib.hid (R1.out.mods (S := fun z => z = gc) (Mods.of_grown HM.out rfl) (by have := HLT.out; omega))
  clear hcu HM C1 R1 hbl
  generalize (if bl = true then f1 else failE f1 7) = e1 at *
  have k0 : x2.cell? ⟨w.heap.size, 0, none⟩ = some (.pointer (some ⟨gc, 0, none⟩)) := C2.out.box.cell 0
  go_wp2_with fail
  refine (number_any gc a1 t e1 1 _ C2.out.cur (by decide)).mono ?_
  rintro e x3 ⟨rfl, hc, hm⟩
  have C3 := Lib.hid (C2.out.turn hc hm)
  have R3 := Lib.hid (R2.out.mods (S := fun z => z = gc) (Mods.of_grown hm rfl) (by have := HLT.out; omega))
  have HN2 := Lib.hid (num_one_lt t a1 e1)
  have HC : Hid (caC t = (numS t a1 e1 1, (takeS t a1 e1 1).2.1, (takeS t a1 e1 1).2.2)) := Lib.hid (by rw [HcC.out, HF.out])
  clear hc hm C2 R2 HcC k0
  generalize numS t a1 e1 1 = n2 at *
  generalize (takeS t a1 e1 1).2.1 = a2 at *
  generalize (takeS t a1 e1 1).2.2 = e2 at *
  have hw2 : IntKind.i64.wrap (n2 : Int) = (n2 : Int) := by rw [IntKind.wrap_i64]; have := HN2.out; omega
  have k0 : x3.cell? ⟨w.heap.size, 0, none⟩ = some (.pointer (some ⟨gc, 0, none⟩)) := C3.out.box.cell 0
  have k1 : x3.cell? ⟨w.heap.size, 1, none⟩ = some (.int .i64 v) := C3.out.box.cell 1
  obtain ⟨b1, hb1⟩ : ∃ b, ((n1 : Int) == 1) = b := ⟨_, rfl⟩
  have HB1 : Hid (decide (n1 = 1) = b1) := Lib.hid (by rw [← hb1]; rw [Bool.eq_iff_iff, decide_eq_true_iff, beq_iff_eq]; omega)
  have HPP : Hid (caP v t = prpC v 2 t a2 e2) := Lib.hid (by rw [HcP.out, HC.out])
  go_wp2_with fail
  refine (props_rd gc a2 t e2 v 2 _ C3.out.cur HT.out).mono ?_
  rintro e x4 ⟨A, c, rfl, hlc, hr, hc, hm⟩
  rw [← HPP.out] at hlc hr hc ⊢
  generalize caP v t = r at *
  obtain ⟨l, a3, e3⟩ := r
  simp only at hlc hr hc HcR ⊢
  have C4 := Lib.hid (C3.out.turn hc hm)
  have R4 := Lib.hid (R3.out.mods (S := fun z => z = gc) (Mods.of_grown hm rfl) (by have := HLT.out; omega))
  have HLC := Lib.hid hlc; have HRD := Lib.hid hr
  clear hlc hr hc hm C3 R3 HcP HPP hb1 k0 k1
  have hbd := run_bdCA b1 (n2 : Int) l A c
  have hst := run_stPk R4.out
  obtain ⟨P, hP⟩ : ∃ P : Pk, { pk0 with kind := 2, session := b1, code := (n2 : Int), props := l } = P := ⟨_, rfl⟩
  obtain ⟨H, hH⟩ : ∃ H : Hs, { hs0 with props := ⟨A, c⟩ } = H := ⟨_, rfl⟩
  rw [hP, hH] at hbd
  have HZ : Hid (RR = (P, a3, e3)) := Lib.hid (by
    rw [HcR.out, HF.out, HC.out, ← hP]
    unfold caPk
    simp only
    rw [HB1.out])
  have HI : Hid (PkIn x4 x4.heap.size P H) := Lib.hid (by
    rw [← hP, ← hH]
    exact ⟨Rd.nil _ _ _ _, Rd.nil _ _ _ _, Rd.nil _ _ _ _, HRD.out, Nat.zero_le _, Nat.zero_le _, Nat.zero_le _, HLC.out⟩)
  have HFL : Hid (P.codes = [] ∧ P.filters = []) := Lib.hid (by rw [← hP]; exact ⟨rfl, rfl⟩)
  clear hP hH HcR HF HC HB1 HRD HLC
  go_wp2
  refine bodyPost_ret (results_c1 rfl _ rfl (put_bk R4.out _ _)) rfl ?_
  rw [HZ.out]
  have hm := putPk_mods x4 (w.heap.size + 1) P H
  have hg := C4.out.mods
  exact ⟨H, rfl, HI.out.blk HFL.out.1 HFL.out.2 R4.out (pk_no32 _ _) hm, HFL.out, ⟨C4.out.cur.1.mods (S := fun z => z = w.heap.size + 1) (Mods.of_grown hm rfl) (by have := HLT.out; omega), C4.out.cur.2⟩,
    ⟨hm.os.trans hg.os, hm.tape.trans hg.tape, hm.output.trans hg.output, Nat.le_trans hg.size hm.size, fun i hi hn => (hm.block i (by have := hg.size; omega) (fun e => by cases e; omega)).trans (hg.block i hi hn)⟩⟩

theorem prp_good {v k : Int} {t : ByteArray} {a : Nat} {e : Int} (ht : t.size ≤ 140737488351232) : (∀ p ∈ (prpC v k t a e).1, prGood p) ∧ (prpC v k t a e).1.length ≤ 1000 := by
  unfold prpC
  split
  · exact ⟨fun _ h => (nomatch h), Nat.zero_le _⟩
  · refine ⟨readP_good (by rw [ByteArray.size_extract]; omega), ?_⟩
    show (readP k (t.extract a t.size)).1.length ≤ 1000
    by_cases h : (readP k (t.extract a t.size)).2.2 = 0
    · exact readP_len h
    · rw [readP_bad h]; exact Nat.zero_le _
theorem prp_le {v k : Int} {t : ByteArray} {a : Nat} {e : Int} (h : a ≤ t.size) : (prpC v k t a e).2.1 ≤ t.size := by
  unfold prpC
  split
  · exact h
  · have := readP_le k (t.extract a t.size)
    rw [ByteArray.size_extract] at this
    show a + (readP k (t.extract a t.size)).2.1 ≤ t.size
    omega
theorem txt_lt (t : ByteArray) (a : Nat) (e : Int) (ha : a ≤ t.size) : (txtC t a e).1.size ≤ 65535 ∧ (txtC t a e).2.1 ≤ t.size := ⟨binC_lt t a e ha, binC_le t a e ha⟩
/-- A packet that is read may be looked at. -/
structure RdOk (t : ByteArray) (r : Pk × Nat × Int) : Prop where
  ok : PkOk r.1
  le : r.2.1 ≤ t.size
theorem cn1_ok {v : Int} {t : ByteArray} (ht : t.size ≤ 140737488351232) : RdOk t (cn1 v t) := by
  have h0 : (takeS t 0 0 6).2.1 ≤ t.size := takeS_le (Nat.zero_le _) _ _
  have h1 : (cnV v t).1 ≤ t.size := takeS_le h0 _ _
  have h2 : (cnF v t).2.1 ≤ t.size := takeS_le h1 _ _
  have h3 : (cnK v t).2.1 ≤ t.size := takeS_le h2 _ _
  have h4 : (cnP v t).2.1 ≤ t.size := prp_le h3
  have h5 := txt_lt t (cnP v t).2.1 (cnP v t).2.2 h4
  have h6 : (∀ p ∈ (cnP v t).1, prGood p) ∧ (cnP v t).1.length ≤ 1000 := prp_good ht
  have hc : (cnT v t).1.size ≤ 65535 := h5.1
  exact ⟨⟨fun _ h => (nomatch h), h6.1, fun _ h => (nomatch h), ⟨Nat.zero_le _, Nat.zero_le _, Nat.le_trans hc (by decide), Nat.zero_le _, Nat.zero_le _, Nat.zero_le _, Nat.zero_le _⟩, Nat.zero_le _, Nat.zero_le _, Nat.zero_le _, Nat.le_trans h6.2 (by decide)⟩, h5.2⟩
theorem cn2_ok {v : Int} {t : ByteArray} (ht : t.size ≤ 140737488351232) {r : Pk × Nat × Int} (g : RdOk t r) : RdOk t (cn2 v t r) := by
  unfold cn2
  split
  · have h1 : (cnWP v t r.2.1 r.2.2).2.1 ≤ t.size := prp_le g.le
    have h2 := txt_lt t _ (cnWP v t r.2.1 r.2.2).2.2 h1
    have h3 : (cnWB v t r.2.1 r.2.2).1.size ≤ 65535 := binC_lt t _ _ h2.2
    have h4 : (cnWB v t r.2.1 r.2.2).2.1 ≤ t.size := binC_le t _ _ h2.2
    have h5 : (∀ p ∈ (cnWP v t r.2.1 r.2.2).1, prGood p) ∧ (cnWP v t r.2.1 r.2.2).1.length ≤ 1000 := prp_good ht
    have hc : (cnWT v t r.2.1 r.2.2).1.size ≤ 65535 := h2.1
    have hg := g.ok.texts
    exact ⟨⟨h5.1, g.ok.props, g.ok.topics, ⟨hg.1, hg.2.1, hg.2.2.1, hg.2.2.2.1, hg.2.2.2.2.1, Nat.le_trans hc (by decide), Nat.le_trans h3 (by decide)⟩, Nat.le_trans h5.2 (by decide), g.ok.lens.2⟩, h4⟩
  · exact g
theorem cn3_ok {t : ByteArray} {r : Pk × Nat × Int} (g : RdOk t r) : RdOk t (cn3 t r) := by
  unfold cn3
  split
  · have h2 := txt_lt t r.2.1 r.2.2 g.le
    have hg := g.ok.texts
    exact ⟨⟨g.ok.wp, g.ok.props, g.ok.topics, ⟨hg.1, hg.2.1, hg.2.2.1, Nat.le_trans h2.1 (by decide), hg.2.2.2.2.1, hg.2.2.2.2.2⟩, g.ok.lens⟩, h2.2⟩
  · exact g
theorem cn4_ok {t : ByteArray} {r : Pk × Nat × Int} (g : RdOk t r) : RdOk t (cn4 t r) := by
  unfold cn4
  split
  · have h2 := binC_lt t r.2.1 r.2.2 g.le
    have hg := g.ok.texts
    exact ⟨⟨g.ok.wp, g.ok.props, g.ok.topics, ⟨hg.1, hg.2.1, hg.2.2.1, hg.2.2.2.1, Nat.le_trans h2 (by decide), hg.2.2.2.2.2⟩, g.ok.lens⟩, binC_le t _ _ g.le⟩
  · exact g
theorem cnRd_ok {v : Int} {t : ByteArray} (ht : t.size ≤ 140737488351232) : RdOk t (cnRd v t) := cn4_ok (cn3_ok (cn2_ok ht (cn1_ok ht)))
theorem caRd_ok {v : Int} {t : ByteArray} (ht : t.size ≤ 140737488351232) : RdOk t (caRd v t) := by
  have h1 : (caF t).2.1 ≤ t.size := takeS_le (Nat.zero_le _) _ _
  have h2 : (caC t).2.1 ≤ t.size := takeS_le h1 _ _
  have h6 : (∀ p ∈ (caP v t).1, prGood p) ∧ (caP v t).1.length ≤ 1000 := prp_good ht
  exact ⟨⟨fun _ h => (nomatch h), h6.1, fun _ h => (nomatch h), ⟨Nat.zero_le _, Nat.zero_le _, Nat.zero_le _, Nat.zero_le _, Nat.zero_le _, Nat.zero_le _, Nat.zero_le _⟩, Nat.zero_le _, Nat.zero_le _, Nat.zero_le _, Nat.le_trans h6.2 (by decide)⟩, prp_le h2⟩

/-- What stands while Read goes: the result's block, the cursor, the reader, the packet. -/
structure RS (w : World) (gc gr gp : Nat) (v : Int) (p : Pk) (h : Hs) (t : ByteArray) (a : Nat) (e : Int) (x : World) : Prop where
  kept : Below w.heap.size w x
  res : Bk x w.heap.size PkT (pkC pk0 hs0)
  box : Bk x gr RdrT #[.pointer (some ⟨gc, 0, none⟩), .int .i64 v]
  pk : Bk x gp PkT (pkC p h)
  into : PkIn x x.heap.size p h
  flat : p.codes = [] ∧ p.filters = []
  cur : Cur x gc t a e
  ne : w.heap.size < gc ∧ gc < gr ∧ gr < gp
section
variable {w x y : World} {gc gr gp : Nat} {v : Int} {p p' : Pk} {h h' : Hs} {t : ByteArray} {a a' : Nat} {e e' : Int}
theorem RS.below (c : RS w gc gr gp v p h t a e x) (hb : Below x.heap.size x y) : RS w gc gr gp v p h t a e y :=
  ⟨c.kept.trans (hb.mono c.kept.size), c.res.below hb c.res.lt, c.box.below hb c.box.lt, c.pk.below hb c.pk.lt, c.into.next hb, c.flat, c.cur.below hb, c.ne⟩
theorem RS.drewN (c : RS w gc gr gp v p h t a e x) (n : Nat) : RS w gc gr gp v p h t a e (x.drewN n) := c.below (below_drawn (Below.refl _ _) n)
theorem RS.turn (c : RS w gc gr gp v p h t a e x) (hc : Cur y gc t a' e') (hm : x.grownBy y (some gc)) : RS w gc gr gp v p h t a' e' y :=
  ⟨below_mod c.kept hm c.kept.size (Nat.le_of_lt c.ne.1), c.res.mods (S := fun z => z = gc) (Mods.of_grown hm rfl) (by have := c.ne; omega), c.box.mods (S := fun z => z = gc) (Mods.of_grown hm rfl) (by have := c.ne; omega),
    c.pk.mods (S := fun z => z = gc) (Mods.of_grown hm rfl) (by have := c.ne; omega), c.into.blk c.flat.1 c.flat.2 c.cur.1 (cur_no32 _ _ _) hm, c.flat, hc, c.ne⟩
/-- The packet that was read, stored. -/
theorem RS.put (c : RS w gc gr gp v p h t a e x) (hi : PkIn x x.heap.size p' h') (hf : p'.codes = [] ∧ p'.filters = []) : RS w gc gr gp v p' h' t a e (putPk x gp p' h') := by
  have hm := putPk_mods x gp p' h'
  exact ⟨below_put c.kept c.kept.size (by have := c.ne; omega) _ _, c.res.mods (S := fun z => z = gp) (Mods.of_grown hm rfl) (by have := c.ne; omega), c.box.mods (S := fun z => z = gp) (Mods.of_grown hm rfl) (by have := c.ne; omega),
    put_bk c.pk _ _, hi.blk hf.1 hf.2 c.pk (pk_no32 _ _) hm, hf, ⟨c.cur.1.mods (S := fun z => z = gp) (Mods.of_grown hm rfl) (by have := c.ne; omega), c.cur.2⟩, c.ne⟩
theorem RS.bad (c : RS w gc gr gp v p h t a e x) {r : Pk × Int} {n : Int} (hr : r = (pk0, n)) : PkOut r w (.returned (.tuple #[pkV pk0 hs0, .int .i64 n])) (putPk x w.heap.size pk0 hs0) :=
  pkOut_bad hr (below_put c.kept c.kept.size (Nat.le_refl _) _ _)
theorem RS.good (c : RS w gc gr gp v p h t a e x) {r : Pk × Int} (hr : r = (p, 0)) : PkOut r w (.returned (.tuple #[pkV p h, .int .i64 0])) (putPk x w.heap.size p h) :=
  pkOut_ok hr (c.into.blk c.flat.1 c.flat.2 c.res (pk_no32 _ _) (putPk_mods _ _ _ _)) (below_put c.kept c.kept.size (Nat.le_refl _) _ _)
end
set_option maxHeartbeats 8000000 in
set_option maxRecDepth 10000 in
theorem cntRead_any (v k : Int) (s : ByteArray) (w : World) (hs : s.size ≤ 140737488351232) :
    Calls Tryz.prog 194 #[.int .i64 v, .int .i64 k, .string s] w (PkOut (cntR v k s) w) := by
  have HS := Lib.hid hs
  have HB0 := Lib.hid ((Below.refl w.heap.size w).alloc (Nat.le_refl _) (.cells (pkC pk0 hs0) PkT))
  have HR0 := Lib.hid (Bk.fresh w PkT (pkC pk0 hs0))
  have hst0 := run_stPk HR0.out
  have HE : Hid (cntR v k s = if hdKnown v = false ∨ cntOurs k = false then (pk0, 2) else cnDone v s (if k = 1 then cnRd v s else caRd v s)) := Lib.hid rfl
  clear hs
  go_enter Tryz.func194, Tryz.ntmps194
  go_wp2_with fail
  refine (cntKnown_any v _).mono ?_
  rintro e w1 ⟨rfl, rfl⟩
  cases hk : hdKnown v
  · have HX : Hid (cntR v k s = (pk0, 2)) := Lib.hid (by rw [HE.out, if_pos (.inl hk)])
    clear hk
    go_wp2
    refine bodyPost_ret (results_pk rfl _ rfl (put_bk HR0.out _ _)) rfl ?_
    exact pkOut_bad HX.out (below_put HB0.out HB0.out.size (Nat.le_refl _) _ _)
  go_wp2_with fail
  refine (cntOurs_any k _).mono ?_
  rintro e w1 ⟨rfl, rfl⟩
  cases ho : cntOurs k
  · have HX : Hid (cntR v k s = (pk0, 2)) := Lib.hid (by rw [HE.out, if_pos (.inr ho)])
    clear hk ho
    go_wp2
    refine bodyPost_ret (results_pk rfl _ rfl (put_bk HR0.out _ _)) rfl ?_
    exact pkOut_bad HX.out (below_put HB0.out HB0.out.size (Nat.le_refl _) _ _)
  have HV : Hid (v = 4 ∨ v = 5) := Lib.hid (of_decide_eq_true (show decide (v = 4 ∨ v = 5) = true from hk))
  have HF : Hid (cntR v k s = cnDone v s (if k = 1 then cnRd v s else caRd v s)) := Lib.hid (by rw [HE.out, if_neg (fun x => x.elim (fun y => by rw [hk] at y; cases y) (fun y => by rw [ho] at y; cases y))])
  clear hk ho hst0 HE
  go_wp2_with fail
  refine (newCur_any s _ (by have := HS.out; omega)).mono ?_
  rintro e w1 ⟨rfl, hcu, hb⟩
  have hgc : (w.alloc (.cells (pkC pk0 hs0) PkT)).heap.size = w.heap.size + 1 := by simp
  rw [hgc] at hcu ⊢
  have HZ := Lib.hid hcu.lt
  have I0 : Hid (RS w (w.heap.size + 1) w1.heap.size (w1.heap.size + 1) v pk0 hs0 s 0 0 ((w1.alloc (.cells #[.pointer (some ⟨w.heap.size + 1, 0, none⟩), .int .i64 v] RdrT)).alloc (.cells (pkC pk0 hs0) PkT))) := Lib.hid
    ⟨((HB0.out.trans (hb.mono HB0.out.size)).alloc (HB0.out.trans (hb.mono HB0.out.size)).size _).alloc (by have := (HB0.out.trans (hb.mono HB0.out.size)).size; simp; omega) _, ((HR0.out.below hb HR0.out.lt).alloc _).alloc _, (Bk.fresh w1 RdrT _).alloc _,
      (by simpa using Bk.fresh (w1.alloc (.cells #[.pointer (some ⟨w.heap.size + 1, 0, none⟩), .int .i64 v] RdrT)) PkT (pkC pk0 hs0)), pk0_in _ _, ⟨rfl, rfl⟩, ⟨(hcu.1.alloc _).alloc _, hcu.2⟩, by omega, HZ.out, by omega⟩
  have hbox := Bk.fresh w1 RdrT #[.pointer (some ⟨w.heap.size + 1, 0, none⟩), .int .i64 v]
  clear hcu hb hgc HB0 HR0 HZ
  by_cases hk1 : k = 1
  · have e1 : (k == 1) = true := beq_iff_eq.2 hk1
    have HG : Hid (cntR v k s = cnDone v s (cnRd v s)) := Lib.hid (by rw [HF.out, if_pos hk1])
    have HOK := Lib.hid (cnRd_ok (v := v) HS.out).ok
    clear hk1
    go_wp2_with fail
    refine (connect_rd (w.heap.size + 1) s v _ I0.out.cur HS.out HV.out).mono ?_
    rintro e y ⟨kk, rfl, hi, hf, hc, hm⟩
    generalize cnRd v s = r at *
    obtain ⟨P, a, e⟩ := r
    simp only at hi hf hc HOK ⊢
    have I1 := Lib.hid (I0.out.turn hc hm)
    have I2 := Lib.hid (I1.out.put hi hf)
    have hst := run_stPk I1.out.pk
    clear hi hf hc hm hbox
    obtain ⟨Y, hY⟩ : ∃ Y, putPk y (w1.heap.size + 1) P kk = Y := ⟨_, rfl⟩
    rw [hY] at I2
    obtain ⟨bz, hbz⟩ : ∃ b, (((s.size - a : Nat) : Int) == 0) = b := ⟨_, rfl⟩
    have HEN : Hid (cnEnd s (P, a, e) = if bz = true then e else failE e 5) := Lib.hid (by
      unfold cnEnd
      simp only
      by_cases hz : s.size - a = 0
      · rw [if_pos hz, ← hbz, if_pos (by rw [hz]; rfl)]
      · rw [if_neg hz, ← hbz, if_neg (by intro x; exact hz (by have := beq_iff_eq.1 x; omega))])
    have hsb : SB w1.heap.size (w.heap.size + 1) v Y Y := ⟨I2.out.box.cell 0, I2.out.box.cell 1, mod_refl _ _⟩
    have hne : w1.heap.size ≠ w.heap.size + 1 := by have := I2.out.ne; omega
    go_wp2_with fail
    clear hst hY
    go_region_held3 (fun x => x.cell? ⟨w1.heap.size, 0, none⟩ = some (.pointer (some ⟨w.heap.size + 1, 0, none⟩)) ∧ x.cell? ⟨w1.heap.size, 1, none⟩ = some (.int .i64 v) ∧ Y.grownBy x (some (w.heap.size + 1)))
      (first | exact SB.below hsb (below_drawn (Below.refl _ _) _) | exact SB.below (by assumption) hm1 | exact SB.turn (by assumption) hmu hne | go_keep)
      (first | (go_at_call 114; refine (left_any (w.heap.size + 1) a s e _ (I2.out.drewN 1).cur).mono ?_; rintro e x1 ⟨rfl, hm1⟩)
             | (go_at_call 268; refine (unless_any (w.heap.size + 1) a s e v _ 5 _ ((I2.out.drewN 1).below hm1).cur).mono ?_; rintro e x2 ⟨rfl, hcu, hmu⟩))
    have HM := Lib.hid (show SB w1.heap.size (w.heap.size + 1) v Y x2 by assumption).2.2
    clear hsb hmu hm1 hne hbz
    have I3 := Lib.hid (I2.out.turn hcu HM.out)
    clear hcu HM I2 I1 I0
    generalize (if bz = true then e else failE e 5) = e3 at *
    have k0 : x2.cell? ⟨w1.heap.size, 0, none⟩ = some (.pointer (some ⟨w.heap.size + 1, 0, none⟩)) := I3.out.box.cell 0
    go_wp2_with fail
    refine (err_any (w.heap.size + 1) a s e3 _ I3.out.cur).mono ?_
    rintro e' w2 ⟨rfl, rfl⟩
    have hst := run_stPk I3.out.res
    by_cases h3 : e3 = 0
    rotate_left
    · have b3 : (e3 != 0) = true := bne_iff_ne.2 h3
      have HX : Hid (cntR v k s = (pk0, e3)) := Lib.hid (by rw [HG.out]; unfold cnDone; rw [HEN.out, if_pos h3])
      clear h3
      go_wp2
      refine bodyPost_ret (results_pk rfl _ rfl (put_bk I3.out.res _ _)) rfl ?_
      exact I3.out.bad HX.out
    have HG2 : Hid (cntR v k s = if cntE v P ≠ 0 then (pk0, cntE v P) else (P, 0)) := Lib.hid (by rw [HG.out]; unfold cnDone; rw [HEN.out, if_neg (fun x => x h3)])
    have b3 : (e3 != 0) = false := by rw [h3]; rfl
    have hl := ld_bk I3.out.pk
    clear h3 hst
    go_wp2_with fail
    refine (cntValid_any v P kk _ I3.out.into HOK.out).mono ?_
    rintro e' x3 ⟨rfl, hb⟩
    have I4 := Lib.hid (I3.out.below hb)
    have hst := run_stPk I4.out.res
    have hl := ld_bk I4.out.pk
    clear hb k0
    generalize cntE v P = E at *
    by_cases hE : E = 0
    · have HX : Hid (cntR v k s = (P, 0)) := Lib.hid (by rw [HG2.out, if_neg (fun x => x hE)])
      have bE : (E != 0) = false := by rw [hE]; rfl
      clear hE
      go_wp2
      refine bodyPost_ret (results_pk rfl _ rfl (put_bk I4.out.res _ _)) rfl ?_
      exact I4.out.good HX.out
    · have HX : Hid (cntR v k s = (pk0, E)) := Lib.hid (by rw [HG2.out, if_pos hE])
      have bE : (E != 0) = true := bne_iff_ne.2 hE
      clear hE
      go_wp2
      refine bodyPost_ret (results_pk rfl _ rfl (put_bk I4.out.res _ _)) rfl ?_
      exact I4.out.bad HX.out
  · have e1 : (k == 1) = false := beq_eq_false_iff_ne.2 hk1
    have HG : Hid (cntR v k s = cnDone v s (caRd v s)) := Lib.hid (by rw [HF.out, if_neg hk1])
    have HOK := Lib.hid (caRd_ok (v := v) HS.out).ok
    clear hk1
    go_wp2_with fail
    refine (connack_rd (w.heap.size + 1) s v _ I0.out.cur HS.out).mono ?_
    rintro e y ⟨kk, rfl, hi, hf, hc, hm⟩
    generalize caRd v s = r at *
    obtain ⟨P, a, e⟩ := r
    simp only at hi hf hc HOK ⊢
    have I1 := Lib.hid (I0.out.turn hc hm)
    have I2 := Lib.hid (I1.out.put hi hf)
    have hst := run_stPk I1.out.pk
    clear hi hf hc hm hbox
    obtain ⟨Y, hY⟩ : ∃ Y, putPk y (w1.heap.size + 1) P kk = Y := ⟨_, rfl⟩
    rw [hY] at I2
    obtain ⟨bz, hbz⟩ : ∃ b, (((s.size - a : Nat) : Int) == 0) = b := ⟨_, rfl⟩
    have HEN : Hid (cnEnd s (P, a, e) = if bz = true then e else failE e 5) := Lib.hid (by
      unfold cnEnd
      simp only
      by_cases hz : s.size - a = 0
      · rw [if_pos hz, ← hbz, if_pos (by rw [hz]; rfl)]
      · rw [if_neg hz, ← hbz, if_neg (by intro x; exact hz (by have := beq_iff_eq.1 x; omega))])
    have hsb : SB w1.heap.size (w.heap.size + 1) v Y Y := ⟨I2.out.box.cell 0, I2.out.box.cell 1, mod_refl _ _⟩
    have hne : w1.heap.size ≠ w.heap.size + 1 := by have := I2.out.ne; omega
    go_wp2_with fail
    clear hst hY
    go_region_held3 (fun x => x.cell? ⟨w1.heap.size, 0, none⟩ = some (.pointer (some ⟨w.heap.size + 1, 0, none⟩)) ∧ x.cell? ⟨w1.heap.size, 1, none⟩ = some (.int .i64 v) ∧ Y.grownBy x (some (w.heap.size + 1)))
      (first | exact SB.below hsb (below_drawn (Below.refl _ _) _) | exact SB.below (by assumption) hm1 | exact SB.turn (by assumption) hmu hne | go_keep)
      (first | (go_at_call 114; refine (left_any (w.heap.size + 1) a s e _ (I2.out.drewN 1).cur).mono ?_; rintro e x1 ⟨rfl, hm1⟩)
             | (go_at_call 268; refine (unless_any (w.heap.size + 1) a s e v _ 5 _ ((I2.out.drewN 1).below hm1).cur).mono ?_; rintro e x2 ⟨rfl, hcu, hmu⟩))
    have HM := Lib.hid (show SB w1.heap.size (w.heap.size + 1) v Y x2 by assumption).2.2
    clear hsb hmu hm1 hne hbz
    have I3 := Lib.hid (I2.out.turn hcu HM.out)
    clear hcu HM I2 I1 I0
    generalize (if bz = true then e else failE e 5) = e3 at *
    have k0 : x2.cell? ⟨w1.heap.size, 0, none⟩ = some (.pointer (some ⟨w.heap.size + 1, 0, none⟩)) := I3.out.box.cell 0
    go_wp2_with fail
    refine (err_any (w.heap.size + 1) a s e3 _ I3.out.cur).mono ?_
    rintro e' w2 ⟨rfl, rfl⟩
    have hst := run_stPk I3.out.res
    by_cases h3 : e3 = 0
    rotate_left
    · have b3 : (e3 != 0) = true := bne_iff_ne.2 h3
      have HX : Hid (cntR v k s = (pk0, e3)) := Lib.hid (by rw [HG.out]; unfold cnDone; rw [HEN.out, if_pos h3])
      clear h3
      go_wp2
      refine bodyPost_ret (results_pk rfl _ rfl (put_bk I3.out.res _ _)) rfl ?_
      exact I3.out.bad HX.out
    have HG2 : Hid (cntR v k s = if cntE v P ≠ 0 then (pk0, cntE v P) else (P, 0)) := Lib.hid (by rw [HG.out]; unfold cnDone; rw [HEN.out, if_neg (fun x => x h3)])
    have b3 : (e3 != 0) = false := by rw [h3]; rfl
    have hl := ld_bk I3.out.pk
    clear h3 hst
    go_wp2_with fail
    refine (cntValid_any v P kk _ I3.out.into HOK.out).mono ?_
    rintro e' x3 ⟨rfl, hb⟩
    have I4 := Lib.hid (I3.out.below hb)
    have hst := run_stPk I4.out.res
    have hl := ld_bk I4.out.pk
    clear hb k0
    generalize cntE v P = E at *
    by_cases hE : E = 0
    · have HX : Hid (cntR v k s = (P, 0)) := Lib.hid (by rw [HG2.out, if_neg (fun x => x hE)])
      have bE : (E != 0) = false := by rw [hE]; rfl
      clear hE
      go_wp2
      refine bodyPost_ret (results_pk rfl _ rfl (put_bk I4.out.res _ _)) rfl ?_
      exact I4.out.good HX.out
    · have HX : Hid (cntR v k s = (pk0, E)) := Lib.hid (by rw [HG2.out, if_pos hE])
      have bE : (E != 0) = true := bne_iff_ne.2 hE
      clear hE
      go_wp2
      refine bodyPost_ret (results_pk rfl _ rfl (put_bk I4.out.res _ _)) rfl ?_
      exact I4.out.bad HX.out
end Go.Proofs.YtbdgkkmbnahgiaaGreatDoor

namespace Go.Proofs.YtbdgkkmbnahgiaaGreatDoor
open Go.RowKit

theorem fl_back : ∀ f : Fin 256, f.1 % 2 = 0 → bitN (decide (f.1 / 128 % 2 = 1)) 128 + bitN (decide (f.1 / 64 % 2 = 1)) 64 + bitN (decide (f.1 / 32 % 2 = 1)) 32 + ((f.1 / 8 % 4 : Nat) : Int) % 4 * 8 + bitN (decide (f.1 / 4 % 2 = 1)) 4 + bitN (decide (f.1 / 2 % 2 = 1)) 2 = (f.1 : Int) := by decide +kernel

theorem cnGood_of {v : Int} {p : Pk} (x : cntE v p = 0) (h1 : p.kind = 1) : CnGood v p := by
  obtain ⟨g1, -, g3, g4⟩ := cntE_rng x
  obtain ⟨-, ⟨c1, c2⟩, c3, ⟨c4, c5⟩, c6, c7⟩ := cntE_parts x
  have hv : v = 4 ∨ v = 5 := of_decide_eq_true (show decide (v = 4 ∨ v = 5) = true from g1)
  unfold cntRng at g4
  split at g4
  · cases g4
  · next hp =>
    rw [if_neg (by omega)] at g4
    split at g4
    · cases g4
    · next hq =>
      have hr := of_decide_eq_true g4
      refine ⟨hv, h1, g3, fun h4 => ?_, ⟨hr.1, hr.2.1⟩, ⟨hr.2.2.1, hr.2.2.2⟩, fun h4 hpw => ?_, c1, c2, fun hw => nameB_valid (c3 hw), c4, c5, by rw [← h1]; exact c6, c7⟩
      · have : ¬ 0 < p.props.length + p.will.props.length := fun y => hp ⟨h4, y⟩
        exact ⟨List.eq_nil_of_length_eq_zero (by omega), List.eq_nil_of_length_eq_zero (by omega)⟩
      · cases hu : p.hasUser
        · exact absurd ⟨h4, .inr ⟨hpw, hu⟩⟩ hq
        · rfl
theorem cn4_back {t : ByteArray} {r : Pk × Nat × Int} (hr : r.2.1 ≤ t.size) (h : (cn4 t r).2.2 = 0) : r.2.2 = 0 ∧ (cn4 t r).2.1 ≤ t.size ∧ (∃ x, (cn4 t r).1 = { r.1 with pass := x }) ∧ (ls t).drop r.2.1 = fS (cn4 t r).1 ((ls t).drop (cn4 t r).2.1) := by
  unfold cn4 at h ⊢
  cases hw : r.1.hasPass
  · rw [hw, if_neg (by decide)] at h
    rw [if_neg (by decide)]
    refine ⟨h, hr, ⟨r.1.pass, rfl⟩, ?_⟩
    unfold fS
    rw [hw, if_neg (by decide)]
  · rw [hw, if_pos rfl] at h
    rw [if_pos rfl]
    obtain ⟨h1, h2, -, h4⟩ := bin_ok h
    refine ⟨h1, h2, ⟨_, rfl⟩, ?_⟩
    unfold fS
    simp only
    rw [hw, if_pos rfl]
    exact h4
theorem cn3_back {t : ByteArray} {r : Pk × Nat × Int} (hr : r.2.1 ≤ t.size) (h : (cn3 t r).2.2 = 0) : r.2.2 = 0 ∧ (cn3 t r).2.1 ≤ t.size ∧ (∃ x, (cn3 t r).1 = { r.1 with user := x }) ∧ (ls t).drop r.2.1 = fU (cn3 t r).1 ((ls t).drop (cn3 t r).2.1) := by
  unfold cn3 at h ⊢
  cases hw : r.1.hasUser
  · rw [hw, if_neg (by decide)] at h
    rw [if_neg (by decide)]
    refine ⟨h, hr, ⟨r.1.user, rfl⟩, ?_⟩
    unfold fU
    rw [hw, if_neg (by decide)]
  · rw [hw, if_pos rfl] at h
    rw [if_pos rfl]
    obtain ⟨h1, h2, -, -, h4⟩ := txt_ok h
    refine ⟨h1, h2, ⟨_, rfl⟩, ?_⟩
    unfold fU
    simp only
    rw [hw, if_pos rfl]
    exact h4
theorem cn2_back {v : Int} {t : ByteArray} {r : Pk × Nat × Int} (hr : r.2.1 ≤ t.size) (h : (cn2 v t r).2.2 = 0) :
    r.2.2 = 0 ∧ (cn2 v t r).2.1 ≤ t.size ∧ (∃ x y z, (cn2 v t r).1 = { r.1 with will := { r.1.will with props := x, topic := y, payload := z } }) ∧ (ls t).drop r.2.1 = fW v (cn2 v t r).1 ((ls t).drop (cn2 v t r).2.1) := by
  unfold cn2 at h ⊢
  cases hw : r.1.hasWill
  · rw [hw, if_neg (by decide)] at h
    rw [if_neg (by decide)]
    refine ⟨h, hr, ⟨r.1.will.props, r.1.will.topic, r.1.will.payload, rfl⟩, ?_⟩
    unfold fW
    rw [hw, if_neg (by decide)]
  · rw [hw, if_pos rfl] at h
    rw [if_pos rfl]
    obtain ⟨b1, b2, -, b4⟩ := bin_ok (t := t) (a := (cnWT v t r.2.1 r.2.2).2.1) (e := (cnWT v t r.2.1 r.2.2).2.2) h
    obtain ⟨c1, -, -, -, c4⟩ := txt_ok (t := t) (a := (cnWP v t r.2.1 r.2.2).2.1) (e := (cnWP v t r.2.1 r.2.2).2.2) b1
    obtain ⟨d1, -, -, -, d4⟩ := pr_ok (v := v) (k := 16) hr c1
    refine ⟨d1, b2, ⟨_, _, _, rfl⟩, ?_⟩
    unfold fW
    simp only
    rw [hw, if_pos rfl]
    refine d4.trans ?_
    congr 1
    refine c4.trans ?_
    show putL (cnWT v t r.2.1 r.2.2).1.size 2 ++ (ls (cnWT v t r.2.1 r.2.2).1 ++ (ls t).drop (cnWT v t r.2.1 r.2.2).2.1) = _
    rw [b4]
    rfl
theorem cn1_back {v : Int} {t : ByteArray} (h : (cn1 v t).2.2 = 0) : (cn1 v t).2.1 ≤ t.size ∧ (∃ f k l c, f < 256 ∧ k < 65536 ∧ flOk v f = true ∧ (cn1 v t).1 = cnPk f k c l) ∧ ls t = f1 v (cn1 v t).1 ((ls t).drop (cn1 v t).2.1) := by
  have l0 : (stN t).1 ≤ t.size := takeS_le (Nat.zero_le _) _ _
  have l1 : (cnV v t).1 ≤ t.size := takeS_le l0 _ _
  have l2 : (cnF v t).2.1 ≤ t.size := takeS_le l1 _ _
  have l3 : (cnK v t).2.1 ≤ t.size := takeS_le l2 _ _
  obtain ⟨t1, t2, -, -, t5⟩ := txt_ok (t := t) (a := (cnP v t).2.1) (e := (cnP v t).2.2) h
  obtain ⟨p1, -, -, -, p5⟩ := pr_ok (v := v) (k := 1) l3 t1
  -- the time
  obtain ⟨k1, k2, k3⟩ := take_ok (t := t) (a := (cnF v t).2.1) (e := (cnF v t).2.2) (k := 2) p1
  -- the flags
  have hF : (cnF v t).2.2 = 0 := k1
  unfold cnF stG at hF
  simp only at hF
  by_cases hfl : flOk v (numS t (cnV v t).1 (cnV v t).2 1) = true
  rotate_left
  · rw [if_neg hfl] at hF; exact (failE_zero hF (by decide)).elim
  rw [if_pos hfl] at hF
  obtain ⟨f1', f2', f3'⟩ := take_ok (k := 1) hF
  -- the version
  have hV : (cnV v t).2 = 0 := f1'
  unfold cnV stV at hV
  simp only at hV
  by_cases hvv : ((numS t (stN t).1 (stN t).2 1 : Nat) : Int) = v
  rotate_left
  · rw [if_neg hvv] at hV; exact (failE_zero hV (by decide)).elim
  rw [if_pos hvv] at hV
  obtain ⟨v1, v2, v3⟩ := take_ok (k := 1) hV
  -- the name
  have hN : (stN t).2 = 0 := v1
  unfold stN at hN
  simp only at hN
  by_cases hnn : (takeS t 0 0 6).1 = cntName
  rotate_left
  · rw [if_neg hnn] at hN; exact (failE_zero hN (by decide)).elim
  rw [if_pos hnn] at hN
  obtain ⟨-, n2, n3⟩ := take_ok (k := 6) hN
  have e0 : stN t = (6, 0) := by
    have h6 : takeS t 0 0 6 = (t.extract 0 (0 + 6), 0 + 6, 0) := n3
    unfold stN
    rw [if_pos hnn, h6]
  have e1 : cnV v t = (7, 0) := by
    rw [e0] at hvv v2 v3
    have h7 : takeS t 6 0 1 = (t.extract 6 (6 + 1), 6 + 1, 0) := v3
    unfold cnV stV
    rw [e0]
    simp only at hvv ⊢
    rw [if_pos hvv, h7]
  have e2 : cnF v t = (numS t 7 0 1, 8, 0) := by
    rw [e1] at hfl f2' f3'
    have h8 : takeS t 7 0 1 = (t.extract 7 (7 + 1), 7 + 1, 0) := f3'
    unfold cnF stG
    rw [e1]
    simp only at hfl ⊢
    rw [if_pos hfl, h8]
  have e3 : cnK v t = (numS t 8 0 2, 10, 0) := by
    rw [e2] at k2 k3
    have h8 : takeS t 8 0 2 = (t.extract 8 (8 + 2), 8 + 2, 0) := k3
    unfold cnK stK
    rw [e2]
    simp only
    rw [h8]
  rw [e2] at k2
  rw [e1] at hfl f2'
  rw [e0] at hvv v2
  simp only at k2 hfl f2' hvv v2
  have hfn : numS t 7 0 1 < 256 := num_one_lt _ _ _
  have hkn : numS t 8 0 2 < 65536 := num_two_lt _ _ _ (by omega)
  have hP : (cn1 v t).1 = cnPk (numS t 7 0 1) (numS t 8 0 2) (cnT v t).1 (cnP v t).1 := by unfold cn1; rw [e2, e3]
  refine ⟨t2, ⟨_, _, _, _, hfn, hkn, hfl, hP⟩, ?_⟩
  have hflN : flN (cn1 v t).1 = ((numS t 7 0 1 : Nat) : Int) := by
    rw [hP]
    refine fl_back ⟨_, hfn⟩ ?_
    have hodd : decide (numS t 7 0 1 % 2 = 1) = false := by
      cases hd : decide (numS t 7 0 1 % 2 = 1)
      · rfl
      · unfold flOk at hfl; rw [hd] at hfl; simp at hfl
    have := of_decide_eq_false hodd
    show numS t 7 0 1 % 2 = 0
    omega
  have d6 : ls t = ls cntName ++ (ls t).drop 6 := by
    have h6 : takeS t 0 0 6 = (t.extract 0 (0 + 6), 0 + 6, 0) := n3
    rw [h6] at hnn
    have := take_ls (t := t) (a := 0) (k := 6) n2
    rw [show t.extract 0 (0 + 6) = cntName from hnn] at this
    exact this
  have d7 := num_back (t := t) (a := 6) v2
  have d8 := num_back (t := t) (a := 7) f2'
  have d10 := num_back2 (t := t) (a := 8) k2
  have dP : (ls t).drop 10 = tailL8 v 1 (cnP v t).1 ++ (ls t).drop (cnP v t).2.1 := by
    have := p5
    rw [e3] at this
    exact this.trans (by show _ = tailL8 v 1 (prpC v 1 t (cnK v t).2.1 (cnK v t).2.2).1 ++ (ls t).drop (prpC v 1 t (cnK v t).2.1 (cnK v t).2.2).2.1; rw [e3])
  unfold f1
  rw [hflN, hP]
  show ls t = ls cntName ++ (putL v.toNat 1 ++ (putL ((numS t 7 0 1 : Nat) : Int).toNat 1 ++ (putL ((numS t 8 0 2 : Nat) : Int).toNat 2 ++ (tailL8 v 1 (cnP v t).1 ++ (putL (cnT v t).1.size 2 ++ (ls (cnT v t).1 ++ (ls t).drop (cnT v t).2.1))))))
  rw [Int.toNat_natCast, Int.toNat_natCast, ← show numS t 6 0 1 = v.toNat from by have : ((numS t 6 0 1 : Nat) : Int) = v := hvv; omega]
  have t5' : (ls t).drop (cnP v t).2.1 = putL (cnT v t).1.size 2 ++ (ls (cnT v t).1 ++ (ls t).drop (cnT v t).2.1) := t5
  rw [← t5', ← dP, ← d10, ← d8, ← d7]
  exact d6
theorem cnRd_back {v : Int} {t : ByteArray} (h : (cnRd v t).2.2 = 0) : (cnRd v t).2.1 ≤ t.size ∧ (cnRd v t).1.kind = 1 ∧ ls t = f1 v (cnRd v t).1 (fW v (cnRd v t).1 (fU (cnRd v t).1 (fS (cnRd v t).1 ((ls t).drop (cnRd v t).2.1)))) := by
  have o1 : (cn1 v t).2.1 ≤ t.size → (cn2 v t (cn1 v t)).2.2 = 0 → (cn2 v t (cn1 v t)).2.1 ≤ t.size := fun a b => (cn2_back a b).2.1
  have h4 : (cn4 t (cn3 t (cn2 v t (cn1 v t)))).2.2 = 0 := h
  have l1 : (cn1 v t).2.1 ≤ t.size := by
    have l0 : (stN t).1 ≤ t.size := takeS_le (Nat.zero_le _) _ _
    have l1 : (cnV v t).1 ≤ t.size := takeS_le l0 _ _
    have l2 : (cnF v t).2.1 ≤ t.size := takeS_le l1 _ _
    have l3 : (cnK v t).2.1 ≤ t.size := takeS_le l2 _ _
    exact (txt_lt t _ _ (prp_le l3)).2
  have l2 : (cn2 v t (cn1 v t)).2.1 ≤ t.size := by
    unfold cn2
    split
    · exact binC_le _ _ _ (txt_lt t _ _ (prp_le l1)).2
    · exact l1
  have l3 : (cn3 t (cn2 v t (cn1 v t))).2.1 ≤ t.size := by
    unfold cn3
    split
    · exact (txt_lt t _ _ l2).2
    · exact l2
  obtain ⟨z3, m4, ⟨x4, q4⟩, d4⟩ := cn4_back l3 h4
  obtain ⟨z2, m3, ⟨x3, q3⟩, d3⟩ := cn3_back l2 z3
  obtain ⟨z1, m2, ⟨x2, y2, w2, q2⟩, d2⟩ := cn2_back l1 z2
  obtain ⟨m1, ⟨f, k, l, c, hf, hk, hfl, q1⟩, d1⟩ := cn1_back z1
  have hq : (cnRd v t).1 = { (cn1 v t).1 with will := { (cn1 v t).1.will with props := x2, topic := y2, payload := w2 }, user := x3, pass := x4 } := by
    show (cn4 t (cn3 t (cn2 v t (cn1 v t)))).1 = _
    rw [q4, q3, q2]
  refine ⟨m4, ?_, ?_⟩
  · rw [hq, q1]; rfl
  have e4 : fS (cn4 t (cn3 t (cn2 v t (cn1 v t)))).1 = fS (cnRd v t).1 := rfl
  have e3 : ∀ R, fU (cn3 t (cn2 v t (cn1 v t))).1 R = fU (cnRd v t).1 R := fun R => by
    rw [hq, q3, q2]; rfl
  have e2 : ∀ R, fW v (cn2 v t (cn1 v t)).1 R = fW v (cnRd v t).1 R := fun R => by
    rw [hq, q2]; rfl
  have e1 : ∀ R, f1 v (cn1 v t).1 R = f1 v (cnRd v t).1 R := fun R => by
    rw [hq]; rfl
  refine d1.trans ?_
  rw [e1, d2, e2, d3, e3, d4]
  rfl
end Go.Proofs.YtbdgkkmbnahgiaaGreatDoor

namespace Go.Proofs.YtbdgkkmbnahgiaaGreatDoor
open Go.RowKit

/-- What holds of a CONNACK that may be. -/
structure CaGood (v : Int) (p : Pk) : Prop where
  ver : v = 4 ∨ v = 5
  kind : p.kind = 2
  same : p = { pk0 with kind := p.kind, props := p.props, session := p.session, code := p.code }
  old : v = 4 → p.props = []
  code : 0 ≤ p.code ∧ p.code < 256
  props : (bytesS 2 p.props).2 = 0
theorem caGood_of {v : Int} {p : Pk} (x : cntE v p = 0) (h2 : p.kind = 2) : CaGood v p := by
  obtain ⟨g1, -, g3, g4⟩ := cntE_rng x
  obtain ⟨-, -, -, -, c6, -⟩ := cntE_parts x
  have hv : v = 4 ∨ v = 5 := of_decide_eq_true (show decide (v = 4 ∨ v = 5) = true from g1)
  refine ⟨hv, h2, by rw [← cntQ_two h2]; exact g3, fun h4 => ?_, cntE_code x h2, by rw [← h2]; exact c6⟩
  unfold cntRng at g4
  split at g4
  · cases g4
  · next hp =>
    have : ¬ 0 < p.props.length + p.will.props.length := fun y => hp ⟨h4, y⟩
    exact List.eq_nil_of_length_eq_zero (by omega)
theorem ca_ls (v : Int) (p : Pk) (h : p.kind = 2) (R : List UInt8) : ls (ackS8 v p) ++ R = [(if p.session = true then (1 : UInt8) else 0)] ++ (putL p.code.toNat 1 ++ (tailL8 v 2 p.props ++ R)) := by
  unfold ackS8
  rw [h]
  simp only [cat_cons, cat_nil, ls_mk, tail8_ls, List.append_assoc, List.nil_append]
theorem caRd_back {v : Int} {t : ByteArray} (h : (caRd v t).2.2 = 0) : (caRd v t).2.1 ≤ t.size ∧ (caRd v t).1.kind = 2 ∧ ls t = ls (ackS8 v (caRd v t).1) ++ (ls t).drop (caRd v t).2.1 := by
  have l1 : (caF t).2.1 ≤ t.size := takeS_le (Nat.zero_le _) _ _
  have l2 : (caC t).2.1 ≤ t.size := takeS_le l1 _ _
  obtain ⟨p1, p2, -, -, p5⟩ := pr_ok (v := v) (k := 2) l2 h
  obtain ⟨c1, c2, c3⟩ := take_ok (t := t) (a := (caF t).2.1) (e := (caF t).2.2) (k := 1) p1
  have hF : (caF t).2.2 = 0 := c1
  unfold caF at hF
  simp only at hF
  by_cases hn : numS t 0 0 1 ≤ 1
  rotate_left
  · rw [if_neg hn] at hF; exact (failE_zero hF (by decide)).elim
  rw [if_pos hn] at hF
  obtain ⟨-, f2, f3⟩ := take_ok (k := 1) hF
  have e1 : caF t = (numS t 0 0 1, 1, 0) := by
    have h6 : takeS t 0 0 1 = (t.extract 0 (0 + 1), 0 + 1, 0) := f3
    unfold caF
    rw [if_pos hn, h6]
  have e2 : caC t = (numS t 1 0 1, 2, 0) := by
    rw [e1] at c2 c3
    have h6 : takeS t 1 0 1 = (t.extract 1 (1 + 1), 1 + 1, 0) := c3
    unfold caC
    rw [e1]
    simp only
    rw [h6]
  rw [e1] at c2
  have d0 := num_back (t := t) (a := 0) (by omega)
  have d1 := num_back (t := t) (a := 1) c2
  have dP : (ls t).drop 2 = tailL8 v 2 (caP v t).1 ++ (ls t).drop (caP v t).2.1 := by
    have := p5
    rw [e2] at this
    exact this.trans (by show _ = tailL8 v 2 (prpC v 2 t (caC t).2.1 (caC t).2.2).1 ++ (ls t).drop (prpC v 2 t (caC t).2.1 (caC t).2.2).2.1; rw [e2])
  have hq : (caRd v t).1 = caPk (numS t 0 0 1) (numS t 1 0 1) (caP v t).1 := by unfold caRd; rw [e1, e2]
  refine ⟨p2, by rw [hq]; rfl, ?_⟩
  rw [hq, ca_ls v _ rfl]
  have hb : putL (numS t 0 0 1) 1 = [(if (caPk (numS t 0 0 1) (numS t 1 0 1) (caP v t).1).session = true then (1 : UInt8) else 0)] := by
    show _ = [(if decide (numS t 0 0 1 = 1) = true then (1 : UInt8) else 0)]
    generalize numS t 0 0 1 = n at *
    have : n = 0 ∨ n = 1 := by omega
    rcases this with rfl | rfl <;> rfl
  rw [← hb]
  show ls t = putL (numS t 0 0 1) 1 ++ (putL ((numS t 1 0 1 : Nat) : Int).toNat 1 ++ (tailL8 v 2 (caP v t).1 ++ (ls t).drop (caP v t).2.1))
  rw [Int.toNat_natCast, ← dP, ← d1]
  exact d0

def rdK (v k : Int) (t : ByteArray) : Pk × Nat × Int := if k = 1 then cnRd v t else caRd v t
theorem cnt_kind {v : Int} {p : Pk} (x : cntE v p = 0) : p.kind = 1 ∨ p.kind = 2 := by
  obtain ⟨-, g2, -, -⟩ := cntE_rng x
  exact of_decide_eq_true (show decide (p.kind = 1 ∨ p.kind = 2) = true from g2)
theorem cntB_zero {v : Int} {p : Pk} (x : cntE v p = 0) : cntB v p = ((if p.kind = 2 then ackS8 v p else cntS v p), 0) := by
  unfold cntB cntB2
  by_cases h : p.kind = 2
  · rw [if_pos h, if_pos x, if_pos h]
  · rw [if_neg h, if_pos x, if_neg h]
theorem rdK_back {v k : Int} (hk : k = 1 ∨ k = 2) {t : ByteArray} (h : (rdK v k t).2.2 = 0) :
    (rdK v k t).2.1 ≤ t.size ∧ (rdK v k t).1.kind = k ∧ (cntE v (rdK v k t).1 = 0 → ls t = ls (cntB v (rdK v k t).1).1 ++ (ls t).drop (rdK v k t).2.1) := by
  unfold rdK at h ⊢
  rcases hk with rfl | rfl
  · rw [if_pos rfl] at h ⊢
    obtain ⟨h1, h2, h3⟩ := cnRd_back h
    refine ⟨h1, h2, fun x => ?_⟩
    rw [cntB_zero x, if_neg (by omega)]
    exact h3.trans (cn_ls (cnGood_of x h2) _).symm
  · rw [if_neg (by decide)] at h ⊢
    obtain ⟨h1, h2, h3⟩ := caRd_back h
    refine ⟨h1, h2, fun x => ?_⟩
    rw [cntB_zero x, if_pos h2]
    exact h3
theorem cntR_is {v k : Int} {s : ByteArray} (hv : hdKnown v = true) (hk : cntOurs k = true) : cntR v k s = cnDone v s (rdK v k s) := by
  unfold cntR
  rw [if_neg (fun x => x.elim (fun y => by rw [hv] at y; cases y) (fun y => by rw [hk] at y; cases y))]
  rfl
theorem cntR_ways {v k : Int} {s : ByteArray} : ((cntR v k s).2 ≠ 0 ∧ (cntR v k s).1 = pk0) ∨ (hdKnown v = true ∧ cntOurs k = true ∧ (rdK v k s).2.2 = 0 ∧ s.size - (rdK v k s).2.1 = 0 ∧ cntE v (rdK v k s).1 = 0 ∧ cntR v k s = ((rdK v k s).1, 0)) := by
  cases hv : hdKnown v
  · left; unfold cntR; rw [if_pos (.inl hv)]; exact ⟨by decide, rfl⟩
  cases hk : cntOurs k
  · left; unfold cntR; rw [if_pos (.inr hk)]; exact ⟨by decide, rfl⟩
  rw [cntR_is hv hk]
  unfold cnDone
  by_cases h1 : cnEnd s (rdK v k s) = 0
  · rw [if_neg (fun x => x h1)]
    by_cases h2 : cntE v (rdK v k s).1 = 0
    · rw [if_neg (fun x => x h2)]
      right
      unfold cnEnd at h1
      split at h1
      · next hz => exact ⟨rfl, rfl, h1, hz, h2, rfl⟩
      · exact (failE_zero h1 (by decide)).elim
    · rw [if_pos h2]; exact .inl ⟨h2, rfl⟩
  · rw [if_pos h1]; exact .inl ⟨h1, rfl⟩
theorem cntR_back {v k : Int} {s : ByteArray} {q : Pk} (h : cntR v k s = (q, 0)) : cntE v q = 0 ∧ cntB v q = (s, 0) ∧ q.kind = k := by
  rcases cntR_ways (v := v) (k := k) (s := s) with ⟨h1, -⟩ | ⟨-, h2, h3, h4, h5, h6⟩
  · rw [h] at h1; exact absurd rfl h1
  · have hq : q = (rdK v k s).1 := congrArg Prod.fst (h.symm.trans h6)
    obtain ⟨m1, m2, m3⟩ := rdK_back (of_decide_eq_true (show decide (k = 1 ∨ k = 2) = true from h2)) h3
    rw [hq]
    refine ⟨h5, ?_, m2⟩
    have hz := cntB_zero h5
    rw [hz]
    have := m3 h5
    rw [List.drop_eq_nil_of_le (by rw [ls_len]; omega), List.append_nil, hz] at this
    exact Prod.ext (ls_ext this).symm rfl
theorem cntR_ok {v k : Int} {s : ByteArray} (hs : s.size ≤ 140737488351232) : PkOk (cntR v k s).1 := by
  rcases cntR_ways (v := v) (k := k) (s := s) with ⟨-, h1⟩ | ⟨-, -, -, -, -, h6⟩
  · rw [h1]; exact PkOk.zero 0 0 0
  · rw [h6]
    unfold rdK
    split
    · exact (cnRd_ok hs).ok
    · exact (caRd_ok hs).ok
end Go.Proofs.YtbdgkkmbnahgiaaGreatDoor

