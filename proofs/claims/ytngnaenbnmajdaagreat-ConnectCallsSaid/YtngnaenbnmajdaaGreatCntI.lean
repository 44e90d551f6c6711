/- connect: the walks of the reader's methods unless, binary, text, props, flags. -/
import Derived.Test.YtngnaenbnmajdaaGreatCntP
import Derived.Deep.RegionHeld3
namespace Go.Proofs.YtngnaenbnmajdaaGreat
open Go.RowKit

abbrev RdrT : TypeId := 61
def rdrC (gc : Nat) (v : Int) : Array Value := #[.pointer (some ⟨gc, 0, none⟩), .int .i64 v]
/-- What stands while a method of the reader goes: its own copy of the reader, the cursor. -/
structure BX (w : World) (gr gc : Nat) (v : Int) (t : ByteArray) (a : Nat) (e : Int) (x : World) : Prop where
  mods : w.grownBy x (some gc)
  box : Bk x gr RdrT #[.pointer (some ⟨gc, 0, none⟩), .int .i64 v]
  cur : Cur x gc t a e
  ne : gr ≠ gc
section
variable {w x y : World} {gr gc : Nat} {v : Int} {t : ByteArray} {a a' : Nat} {e e' : Int}
theorem BX.start (h : Cur w gc t a e) (v : Int) : BX w w.heap.size gc v t a e (w.alloc (.cells #[.pointer (some ⟨gc, 0, none⟩), .int .i64 v] RdrT)) :=
  ⟨mod_below ((Below.refl _ _).alloc (Nat.le_refl _) _) _, Bk.fresh _ _ _, h.below ((Below.refl _ _).alloc (Nat.le_refl _) _), by have := h.lt; omega⟩
theorem BX.below (h : BX w gr gc v t a e x) (hb : Below x.heap.size x y) : BX w gr gc v t a e y :=
  ⟨h.mods.trans (mod_below hb _), h.box.below hb h.box.lt, h.cur.below hb, h.ne⟩
theorem BX.turn (h : BX w gr gc v t a e x) (hc : Cur y gc t a' e') (hm : x.grownBy y (some gc)) : BX w gr gc v t a' e' y :=
  ⟨h.mods.trans hm, h.box.mods (S := fun z => z = gc) (Mods.of_grown hm rfl) h.ne, hc, h.ne⟩
theorem BX.drewN (h : BX w gr gc v t a e x) (n : Nat) : BX w gr gc v t a e (x.drewN n) := h.below (below_drawn (Below.refl _ _) n)
end
/-- The reader's copy, in a drawn statement. -/
abbrev SB (gr gc : Nat) (v : Int) (w0 x : World) : Prop := x.cell? ⟨gr, 0, none⟩ = some (.pointer (some ⟨gc, 0, none⟩)) ∧ x.cell? ⟨gr, 1, none⟩ = some (.int .i64 v) ∧ w0.grownBy x (some gc)
theorem SB.below {gr gc : Nat} {v : Int} {w0 x y : World} (h : SB gr gc v w0 x) (hb : Below x.heap.size x y) : SB gr gc v w0 y :=
  ⟨(hb.cell (p := ⟨gr, 0, none⟩) (World.block_lt_of_cell? _ _ h.1)).trans h.1, (hb.cell (p := ⟨gr, 1, none⟩) (World.block_lt_of_cell? _ _ h.2.1)).trans h.2.1, h.2.2.trans (mod_below hb _)⟩
theorem SB.turn {gr gc : Nat} {v : Int} {w0 x y : World} (h : SB gr gc v w0 x) (hm : x.grownBy y (some gc)) (hne : gr ≠ gc) : SB gr gc v w0 y := by
  have hl := World.block_lt_of_cell? _ _ h.1
  have hb : y.heap[gr]? = x.heap[gr]? := (Mods.of_grown (S := fun z => z = gc) hm rfl).block gr hl hne
  exact ⟨(World.cell?_of_block (a := ⟨gr, 0, none⟩) hb).trans h.1, (World.cell?_of_block (a := ⟨gr, 1, none⟩) hb).trans h.2.1, h.2.2.trans hm⟩
theorem BX.sb {w x : World} {gr gc : Nat} {v : Int} {t : ByteArray} {a : Nat} {e : Int} (h : BX w gr gc v t a e x) : SB gr gc v x x := ⟨h.box.cell 0, h.box.cell 1, mod_refl _ _⟩

set_option maxHeartbeats 400000 in
set_option maxRecDepth 10000 in
theorem unless_any (gc a : Nat) (t : ByteArray) (e v : Int) (b : Bool) (n : Int) (w : World) (h : Cur w gc t a e) :
    Calls Tryz.prog 33 #[.agg #[.pointer (some ⟨gc, 0, none⟩), .int .i64 v], .bool b, .int .i64 n] w fun e' w' => e' = .returned (.tuple #[]) ∧ Cur w' gc t a (if b = true then e else failE e n) ∧ w.grownBy w' (some gc) := by
  have HX := Lib.hid (BX.start h v)
  clear h
  go_enter Tryz.func33, Tryz.ntmps33
  cases b
  · go_wp2_with fail
    refine (fail_any gc a t e n _ HX.out.cur).mono ?_
    rintro e' w2 ⟨rfl, hc, hm⟩
    have HY := Lib.hid (HX.out.turn hc hm)
    clear hc hm
    go_wp2
    go_end0
    exact ⟨rfl, HY.out.cur, HY.out.mods⟩
  · go_wp2
    go_end0
    exact ⟨rfl, HX.out.cur, HX.out.mods⟩

set_option maxHeartbeats 400000 in
set_option maxRecDepth 10000 in
theorem binary_rd (gc a : Nat) (t : ByteArray) (e v : Int) (w : World) (h : Cur w gc t a e) :
    Calls Tryz.prog 67 #[.agg #[.pointer (some ⟨gc, 0, none⟩), .int .i64 v]] w fun e' w' => e' = .returned (.string (binC t a e).1) ∧ Cur w' gc t (binC t a e).2.1 (binC t a e).2.2 ∧ w.grownBy w' (some gc) := by
  have HX := Lib.hid (BX.start h v)
  have hlt := num_two_lt t a e h.at_most.1
  have HE : Hid (binC t a e = takeS t (takeS t a e 2).2.1 (takeS t a e 2).2.2 (numS t a e 2 : Nat)) := Lib.hid rfl
  clear h
  go_enter Tryz.func67, Tryz.ntmps67
  go_wp2_with fail
  refine (number_any gc a t e 2 _ HX.out.cur (by decide)).mono ?_
  rintro e' w2 ⟨rfl, hc, hm⟩
  have HY := Lib.hid (HX.out.turn hc hm)
  clear hc hm
  generalize numS t a e 2 = n at *
  generalize (takeS t a e 2).2.1 = a1 at *
  generalize (takeS t a e 2).2.2 = e1 at *
  have hw : IntKind.i64.wrap (n : Int) = (n : Int) := by rw [IntKind.wrap_i64]; omega
  have k0 : w2.cell? ⟨w.heap.size, 0, none⟩ = some (.pointer (some ⟨gc, 0, none⟩)) := HY.out.box.cell 0
  clear hlt
  go_wp2_with fail
  refine (take_any gc a1 t e1 n _ HY.out.cur).mono ?_
  rintro e' w3 ⟨rfl, hc, hm⟩
  have HZ := Lib.hid (HY.out.turn hc hm)
  clear hc hm
  go_wp2
  go_ret
  rw [HE.out]
  exact ⟨rfl, HZ.out.cur, HZ.out.mods⟩

set_option maxHeartbeats 400000 in
set_option maxRecDepth 10000 in
theorem text_rd (gc a : Nat) (t : ByteArray) (e v : Int) (w : World) (h : Cur w gc t a e) :
    Calls Tryz.prog 66 #[.agg #[.pointer (some ⟨gc, 0, none⟩), .int .i64 v]] w fun e' w' => e' = .returned (.string (txtC t a e).1) ∧ Cur w' gc t (txtC t a e).2.1 (txtC t a e).2.2 ∧ w.grownBy w' (some gc) := by
  have HX := Lib.hid (BX.start h v)
  have HL := Lib.hid (binC_lt t a e h.at_most.1)
  have HE : Hid (txtC t a e = ((binC t a e).1, (binC t a e).2.1, if validB (binC t a e).1 = true then (binC t a e).2.2 else failE (binC t a e).2.2 6)) := Lib.hid rfl
  clear h
  go_enter Tryz.func66, Tryz.ntmps66
  go_wp2_with fail
  refine (binary_rd gc a t e v _ HX.out.cur).mono ?_
  rintro e' w2 ⟨rfl, hc, hm⟩
  have HY := Lib.hid (HX.out.turn hc hm)
  clear hc hm
  generalize binC t a e = r at *
  obtain ⟨s, a1, e1⟩ := r
  simp only at HY HL HE ⊢
  have hne : w.heap.size ≠ gc := HY.out.ne
  have hsb := HY.out.sb
  go_wp2_with fail
  go_region_held3 (fun x => x.cell? ⟨w.heap.size, 0, none⟩ = some (.pointer (some ⟨gc, 0, none⟩)) ∧ x.cell? ⟨w.heap.size, 1, none⟩ = some (.int .i64 v) ∧ w2.grownBy x (some gc))
    (first | exact (SB.below hsb (below_drawn (Below.refl _ _) _)) | exact SB.below (by assumption) hbv | exact SB.turn (by assumption) hmu hne | go_keep)
    (first | (go_at_call 49; refine (valid_any s _ (by have := HL.out; omega)).mono ?_; rintro e x1 ⟨rfl, hbv⟩)
           | (go_at_call 33; refine (unless_any gc a1 t e1 v _ 6 _ ((HY.out.drewN 1).cur.below hbv)).mono ?_; rintro e x2 ⟨rfl, hcu, hmu⟩))
  have HM : w2.grownBy x2 (some gc) := (show SB w.heap.size gc v w2 x2 by assumption).2.2
  have HF := Lib.hid (And.intro hcu (HY.out.mods.trans HM))
  clear hcu HM hmu hbv hsb hne
  go_wp2
  go_ret
  rw [HE.out]
  exact ⟨rfl, HF.out.1, HF.out.2⟩

/-- What a reading of properties at a cursor leaves. -/
def PropsRd (g : Nat) (t : ByteArray) (r : List Pr × Nat × Int) (w : World) (e : Ending) (w' : World) : Prop :=
  ∃ A c, e = .returned (.slice A r.1.length c) ∧ r.1.length ≤ c ∧ Rd w' w'.heap.size 4 A r.1.length (prs r.1) ∧ Cur w' g t r.2.1 r.2.2 ∧ w.grownBy w' (some g)
theorem readP_le (k : Int) (s : ByteArray) : (readP k s).2.1 ≤ s.size := by
  by_cases h0 : (readP k s).2.2 = 0
  · exact (readP_back (kind := k) (s := s) (l := (readP k s).1) (n := (readP k s).2.1) (by rw [← h0])).2.2
  · rw [readP_bad h0]; exact Nat.zero_le _
set_option maxHeartbeats 1000000 in
set_option maxRecDepth 10000 in
theorem props_rd (gc a : Nat) (t : ByteArray) (e v kind : Int) (w : World) (h : Cur w gc t a e) (ht : t.size ≤ 140737488351232) :
    Calls Tryz.prog 65 #[.agg #[.pointer (some ⟨gc, 0, none⟩), .int .i64 v], .int .i64 kind] w (PropsRd gc t (prpC v kind t a e) w) := by
  have HX := Lib.hid (BX.start h v)
  have HT := Lib.hid ht
  have HE : Hid (prpC v kind t a e = if v = 4 ∨ e ≠ 0 then ([], a, e) else ((readP kind (t.extract a t.size)).1, a + (readP kind (t.extract a t.size)).2.1, (readP kind (t.extract a t.size)).2.2)) := Lib.hid rfl
  have HAT := Lib.hid h.at_most
  clear h ht
  go_enter Tryz.func65, Tryz.ntmps65
  by_cases h4 : v = 4
  · have e4 : (v == 4) = true := beq_iff_eq.2 h4
    have HF : Hid (prpC v kind t a e = ([], a, e)) := Lib.hid (by rw [HE.out, if_pos (.inl h4)])
    clear h4
    go_wp2
    go_ret
    rw [HF.out]
    exact ⟨none, 0, rfl, Nat.le_refl _, Rd.nil _ _ _ _, HX.out.cur, HX.out.mods⟩
  have e4 : (v == 4) = false := beq_eq_false_iff_ne.2 h4
  go_wp2_with fail
  refine (err_any gc a t e _ HX.out.cur).mono ?_
  rintro e' w2 ⟨rfl, rfl⟩
  by_cases he : e = 0
  rotate_left
  · have e5 : (e != 0) = true := bne_iff_ne.2 he
    have HF : Hid (prpC v kind t a e = ([], a, e)) := Lib.hid (by rw [HE.out, if_pos (.inr he)])
    clear h4 he
    go_wp2
    go_ret
    rw [HF.out]
    exact ⟨none, 0, rfl, Nat.le_refl _, Rd.nil _ _ _ _, HX.out.cur, HX.out.mods⟩
  have HF : Hid (prpC v kind t a e = ((readP kind (t.extract a t.size)).1, a + (readP kind (t.extract a t.size)).2.1, (readP kind (t.extract a t.size)).2.2)) := Lib.hid (by rw [HE.out, if_neg (fun x => x.elim h4 (fun y => y he))])
  subst he
  clear h4
  go_wp2_with fail
  refine (rest_any gc a t 0 _ HX.out.cur).mono ?_
  rintro e' w2 ⟨rfl, hb⟩
  have HY := Lib.hid (HX.out.below hb); clear hb
  have HZ : Hid ((t.extract a t.size).size ≤ 140737488351232) := Lib.hid (by rw [ByteArray.size_extract]; have := HT.out; omega)
  go_wp2_with fail
  refine (readP_any kind _ _ HZ.out).mono ?_
  rintro e' w3 ⟨A, c, rfl, hcap, hrd, hb⟩
  have HU := Lib.hid (HY.out.below hb); clear hb
  have HLE := Lib.hid (readP_le kind (t.extract a t.size))
  have HBAD : Hid ((readP kind (t.extract a t.size)).2.2 ≠ 0 → (readP kind (t.extract a t.size)).2.1 = 0) := Lib.hid fun h0 => by rw [readP_bad h0]
  have HSX : Hid ((t.extract a t.size).size = t.size - a) := Lib.hid (by rw [ByteArray.size_extract]; omega)
  rw [HSX.out] at HLE
  have HCAP := Lib.hid hcap; have HRD := Lib.hid hrd
  clear hcap hrd HZ HSX
  generalize readP kind (t.extract a t.size) = r at *
  obtain ⟨l, n, x⟩ := r
  simp only at HF HLE HBAD HCAP HRD ⊢
  have k0 : w3.cell? ⟨w.heap.size, 0, none⟩ = some (.pointer (some ⟨gc, 0, none⟩)) := HU.out.box.cell 0
  go_wp2_with fail
  refine (fail_any gc a t 0 x _ HU.out.cur).mono ?_
  rintro e' w4 ⟨rfl, hc, hm⟩
  rw [if_pos rfl] at hc
  have HV := Lib.hid (HU.out.turn hc hm)
  have HRD2 := Lib.hid ((HRD.out.other HU.out.cur.1 (cur_no32 _ _ _) hm (Nat.le_refl _)).wider hm.size)
  clear hc hm k0
  have k0 : w4.cell? ⟨w.heap.size, 0, none⟩ = some (.pointer (some ⟨gc, 0, none⟩)) := HV.out.box.cell 0
  go_wp2_with fail
  refine (take_any gc a t x n _ HV.out.cur).mono ?_
  rintro e' w5 ⟨rfl, hc, hm⟩
  have HTK : Hid ((takeS t a x n).2 = (a + n, x)) := Lib.hid (by
    by_cases hx : x = 0
    · subst hx
      rw [take_yes (by have := HLE.out; have := HAT.out; omega)]
    · rw [takeS_bad hx, HBAD.out hx]; rfl)
  rw [HTK.out] at hc
  have HW := Lib.hid (HV.out.turn hc hm)
  have HRD3 := Lib.hid ((HRD2.out.other HV.out.cur.1 (cur_no32 _ _ _) hm (Nat.le_refl _)).wider hm.size)
  clear hc hm k0
  go_wp2
  go_ret
  rw [HF.out]
  exact ⟨A, c, rfl, HCAP.out, HRD3.out, HW.out.cur, HW.out.mods⟩

theorem flag_ops : ∀ f : Fin 256, (bits BinOp.and IntKind.i64 (f.1 : Int) 1 != 0) = decide (f.1 % 2 = 1) ∧ (bits BinOp.and IntKind.i64 (f.1 : Int) 2 != 0) = decide (f.1 / 2 % 2 = 1) ∧
    (bits BinOp.and IntKind.i64 (f.1 : Int) 4 != 0) = decide (f.1 / 4 % 2 = 1) ∧ (bits BinOp.and IntKind.i64 (f.1 : Int) 4 == 0) = !decide (f.1 / 4 % 2 = 1) ∧
    (bits BinOp.and IntKind.i64 ((f.1 : Int) / 8) 3 == 3) = decide (f.1 / 8 % 4 = 3) ∧ bits BinOp.and IntKind.i64 ((f.1 : Int) / 8) 3 = ((f.1 / 8 % 4 : Nat) : Int) ∧ (bits BinOp.and IntKind.i64 ((f.1 : Int) / 8) 7 != 0) = decide (f.1 / 8 % 8 ≠ 0) ∧
    (bits BinOp.and IntKind.i64 (f.1 : Int) 32 != 0) = decide (f.1 / 32 % 2 = 1) ∧ (bits BinOp.and IntKind.i64 (f.1 : Int) 64 != 0) = decide (f.1 / 64 % 2 = 1) ∧ (bits BinOp.and IntKind.i64 (f.1 : Int) 64 == 0) = !decide (f.1 / 64 % 2 = 1) ∧
    (bits BinOp.and IntKind.i64 (f.1 : Int) 128 != 0) = decide (f.1 / 128 % 2 = 1) := by decide +kernel

set_option maxHeartbeats 4000000 in
set_option maxRecDepth 10000 in
theorem flags_rd (gc : Nat) (v : Int) (f : Nat) (hf : f < 256) (w : World) :
    Calls Tryz.prog 64 #[.agg #[.pointer (some ⟨gc, 0, none⟩), .int .i64 v], .int .i64 f] w fun e w' => e = .returned (.bool (flOk v f)) ∧ Below w.heap.size w w' := by
  obtain ⟨g1, g2, g3, g4, g5, g6, g7, g8, g9, g10, g11⟩ := flag_ops ⟨f, hf⟩
  simp only at g1 g2 g3 g4 g5 g6 g7 g8 g9 g10 g11
  have HE : Hid (flOk v f = (!(decide (f % 2 = 1) || decide (f / 8 % 4 = 3) || (!decide (f / 4 % 2 = 1) && decide (f / 8 % 8 ≠ 0))) && (decide (v = 5) || !decide (f / 64 % 2 = 1) || decide (f / 128 % 2 = 1)))) := Lib.hid rfl
  have HB := Lib.hid ((Below.refl w.heap.size w).alloc (Nat.le_refl _) (.cells #[.pointer (some ⟨gc, 0, none⟩), .int .i64 v] 61))
  clear g2 g3 g6 g8 g9
  have e5 : (v == 5) = decide (v = 5) := rfl
  generalize decide (f % 2 = 1) = b1 at *
  generalize decide (f / 8 % 4 = 3) = b2 at *
  generalize decide (f / 4 % 2 = 1) = b3 at *
  generalize decide (f / 8 % 8 ≠ 0) = b4 at *
  generalize decide (v = 5) = b5 at *
  generalize decide (f / 64 % 2 = 1) = b6 at *
  generalize decide (f / 128 % 2 = 1) = b7 at *
  generalize flOk v f = R at *
  have hf0 : (0 : Int) ≤ (f : Int) := by omega
  go_enter Tryz.func64, Tryz.ntmps64
  cases b1
  · cases b2
    · cases b3
      · cases b4
        · cases b5
          · cases b6
            · go_wp2
              go_ret
              exact ⟨by rw [HE.out]; rfl, HB.out⟩
            · go_wp2
              go_ret
              exact ⟨by rw [HE.out]; rfl, HB.out⟩
          · go_wp2
            go_ret
            exact ⟨by rw [HE.out]; rfl, HB.out⟩
        · go_wp2
          go_ret
          exact ⟨by rw [HE.out]; rfl, HB.out⟩
      · cases b5
        · cases b6
          · go_wp2
            go_ret
            exact ⟨by rw [HE.out]; rfl, HB.out⟩
          · go_wp2
            go_ret
            exact ⟨by rw [HE.out]; rfl, HB.out⟩
        · go_wp2
          go_ret
          exact ⟨by rw [HE.out]; rfl, HB.out⟩
    · go_wp2
      go_ret
      exact ⟨by rw [HE.out]; rfl, HB.out⟩
  · go_wp2
    go_ret
    exact ⟨by rw [HE.out]; rfl, HB.out⟩
end Go.Proofs.YtngnaenbnmajdaaGreat
