/- connect: the walks of the reader's connect, connack. -/
import Derived.Test.YtngnaenbnmajdaaGreatCntI
namespace Go.Proofs.YtngnaenbnmajdaaGreat
open Go.RowKit
attribute [local go_sem ↓] to_ldPk to_bxPk to_bdPk to_alPk to_stPk
attribute [local go_sem] run_bxPk run_bxPk_agg ld_fresh run_alPk run_bd0 run_bdK run_bdKI run_bdKIC run_bdKC run_bdKICP run_stPk_fresh pkC_0 pkC_1 pkC_2 pkC_3 pkC_4 pkC_5 pkC_6 pkC_7 pkC_8 pkC_9 pkC_10 pkC_11 pkC_12 pkC_13 pkC_14 pkC_15 pkC_16 pkC_17 pkC_18 pkC_19 pkC_20 pkC_21 pkC_22 pkC_23 pkC_24

theorem grown_mods {w x : World} {g : Nat} (h : Mods (fun z => z = g) w x) : w.grownBy x (some g) := ⟨h.os, h.tape, h.output, h.size, fun i hi hn => h.block i hi (fun e => hn (by rw [e]))⟩
theorem grown_set {w x : World} {g : Nat} (h : w.grownBy x (some g)) {b : Nat} (hb : w.heap.size ≤ b) (i : Nat) (u : Value) : w.grownBy (x.setCell ⟨b, i, none⟩ u) (some g) :=
  grown_mods ((Mods.of_grown (S := fun z => z = g) h rfl).set b i (.inr hb) u)
/-- A packet stays while a block without numbers of 32 bits goes. -/
theorem PkIn.blk {w w' : World} {g : Nat} {p : Pk} {h : Hs} {t : TypeId} {cs : Array Value} (hi : PkIn w w.heap.size p h) (h1 : p.codes = []) (h2 : p.filters = []) (hb : Bk w g t cs) (hcs : ∀ (i : Nat) (n : Int), cs[i]? ≠ some (Value.int IntKind.u32 n)) (hm : w.grownBy w' (some g)) : PkIn w' w'.heap.size p h :=
  ⟨(hi.wp.other hb hcs hm (Nat.le_refl _)).wider hm.size, (hi.codes.grown hm (Nat.le_refl _) (fun _ _ _ hx => absurd (by rw [h1]; rfl) hx)).wider hm.size,
    (hi.filters.grown hm (Nat.le_refl _) (fun _ _ _ hx => absurd (by rw [h2]; rfl) hx)).wider hm.size, (hi.props.other hb hcs hm (Nat.le_refl _)).wider hm.size, hi.caps⟩
/-- What stands while a packet is read by the reader: its copy, the result's block, the packet's, the cursor. -/
structure CR (w : World) (gc : Nat) (v : Int) (p : Pk) (h : Hs) (t : ByteArray) (a : Nat) (e : Int) (x : World) : Prop where
  bx : BX w w.heap.size gc v t a e x
  res : Bk x (w.heap.size + 1) PkT (pkC pk0 hs0)
  pk : Bk x (w.heap.size + 1 + 1) PkT (pkC p h)
  into : PkIn x x.heap.size p h
  flat : p.codes = [] ∧ p.filters = []
  lt : gc < w.heap.size
section
variable {w x y : World} {gc : Nat} {v : Int} {p p' : Pk} {h h' : Hs} {t : ByteArray} {a a' : Nat} {e e' : Int}
theorem CR.below (c : CR w gc v p h t a e x) (hb : Below x.heap.size x y) : CR w gc v p h t a e y :=
  ⟨c.bx.below hb, c.res.below hb c.res.lt, c.pk.below hb c.pk.lt, c.into.next hb, c.flat, c.lt⟩
theorem CR.drewN (c : CR w gc v p h t a e x) (n : Nat) : CR w gc v p h t a e (x.drewN n) := c.below (below_drawn (Below.refl _ _) n)
theorem CR.turn (c : CR w gc v p h t a e x) (hc : Cur y gc t a' e') (hm : x.grownBy y (some gc)) : CR w gc v p h t a' e' y :=
  ⟨c.bx.turn hc hm, c.res.mods (S := fun z => z = gc) (Mods.of_grown hm rfl) (by have := c.lt; omega), c.pk.mods (S := fun z => z = gc) (Mods.of_grown hm rfl) (by have := c.lt; omega),
    c.into.blk c.flat.1 c.flat.2 c.bx.cur.1 (cur_no32 _ _ _) hm, c.flat, c.lt⟩
theorem CR.put (c : CR w gc v p h t a e x) (i : Nat) (u : Value) (he : (pkC p h).setIfInBounds i u = pkC p' h') (hf : p'.codes = [] ∧ p'.filters = [])
    (hi : PkIn (x.setCell ⟨w.heap.size + 1 + 1, i, none⟩ u) (x.setCell ⟨w.heap.size + 1 + 1, i, none⟩ u).heap.size p' h') : CR w gc v p' h' t a e (x.setCell ⟨w.heap.size + 1 + 1, i, none⟩ u) :=
  ⟨⟨grown_set c.bx.mods (by omega) i u, c.bx.box.other (by simp; omega) u, ⟨c.bx.cur.1.other (by have := c.lt; simp; omega) u, c.bx.cur.2⟩, c.bx.ne⟩, c.res.other (by simp) u, c.pk.upd i u he, hi, hf, c.lt⟩
/-- A field that is no list. -/
theorem CR.set (c : CR w gc v p h t a e x) (i : Nat) (u : Value) (he : (pkC p h).setIfInBounds i u = pkC p' h) (hl : p'.will.props = p.will.props ∧ p'.codes = p.codes ∧ p'.filters = p.filters ∧ p'.props = p.props) :
    CR w gc v p' h t a e (x.setCell ⟨w.heap.size + 1 + 1, i, none⟩ u) := by
  refine c.put i u he ⟨hl.2.1.trans c.flat.1, hl.2.2.1.trans c.flat.2⟩ ?_
  have := c.into.blk c.flat.1 c.flat.2 c.pk (pk_no32 _ _) (mod_set x (w.heap.size + 1 + 1) i u)
  obtain ⟨h1, h2, h3, h4⟩ := hl
  exact ⟨by rw [h1]; exact this.wp, by rw [h2]; exact this.codes, by rw [h3]; exact this.filters, by rw [h4]; exact this.props, by rw [h1, h2, h3, h4]; exact this.caps⟩
theorem CR.setP (c : CR w gc v p h t a e x) {A : Option Addr} {n : Nat} {l : List Pr} (hr : Rd x x.heap.size 4 A l.length (prs l)) (hn : l.length ≤ n) :
    CR w gc v { p with props := l } { h with props := ⟨A, n⟩ } t a e (x.setCell ⟨w.heap.size + 1 + 1, 24, none⟩ (.slice A l.length n)) := by
  refine c.put 24 _ rfl c.flat ?_
  have hm := mod_set x (w.heap.size + 1 + 1) 24 (.slice A l.length n)
  have := c.into.blk c.flat.1 c.flat.2 c.pk (pk_no32 _ _) hm
  exact ⟨this.wp, this.codes, this.filters, (hr.other c.pk (pk_no32 _ _) hm (Nat.le_refl _)).wider hm.size, this.caps.1, this.caps.2.1, this.caps.2.2.1, hn⟩
theorem CR.setW (c : CR w gc v p h t a e x) {A : Option Addr} {n : Nat} {l : List Pr} (hr : Rd x x.heap.size 4 A l.length (prs l)) (hn : l.length ≤ n) :
    CR w gc v { p with will := { p.will with props := l } } { h with wp := ⟨A, n⟩ } t a e (x.setCell ⟨w.heap.size + 1 + 1, 19, none⟩ (.slice A l.length n)) := by
  refine c.put 19 _ rfl c.flat ?_
  have hm := mod_set x (w.heap.size + 1 + 1) 19 (.slice A l.length n)
  have := c.into.blk c.flat.1 c.flat.2 c.pk (pk_no32 _ _) hm
  exact ⟨(hr.other c.pk (pk_no32 _ _) hm (Nat.le_refl _)).wider hm.size, this.codes, this.filters, this.props, hn, this.caps.2⟩
end
theorem results_c1 {fn : Func} {p : Tmp} (hr : fn.results = #[.cell p PkT]) (tmps : Array Value) {w : World} {g : Nat} {q : Pk} {h : Hs} (hp : tmps.getD p undef = .pointer (some ⟨g, 0, none⟩)) (hb : Bk w g PkT (pkC q h)) :
    (results fn tmps).run Tryz.prog w = .ok (pkV q h) w := by
  have hl := lv_bk hb
  have e : (results fn tmps).run Tryz.prog w = ((asAddr (tmps.getD p undef)).run Tryz.prog w).andThen fun a w₁ => (loadVar PkT a).run Tryz.prog w₁ := by
    simp only [results, hr]
    simp [Sem.run_bind, Result.andThen]
  rw [e, hp]
  generalize pkV q h = V at hl ⊢
  exact then_ok _ (⟨g, 0, none⟩ : Addr) w _ rfl |>.trans hl
/-- What connect hands back. -/
def ConOut (g : Nat) (t : ByteArray) (r : Pk × Nat × Int) (w : World) (e : Ending) (w' : World) : Prop :=
  ∃ k, e = .returned (pkV r.1 k) ∧ PkIn w' w'.heap.size r.1 k ∧ (r.1.codes = [] ∧ r.1.filters = []) ∧ Cur w' g t r.2.1 r.2.2 ∧ w.grownBy w' (some g)
theorem CR.fin {w x : World} {gc : Nat} {v : Int} {p : Pk} {h : Hs} {t : ByteArray} {a : Nat} {e : Int} (c : CR w gc v p h t a e x) : ConOut gc t (p, a, e) w (.returned (pkV p h)) (putPk x (w.heap.size + 1) p h) := by
  have hm := putPk_mods x (w.heap.size + 1) p h
  exact ⟨h, rfl, c.into.blk c.flat.1 c.flat.2 c.res (pk_no32 _ _) hm, c.flat, ⟨c.bx.cur.1.mods (S := fun z => z = w.heap.size + 1) (Mods.of_grown hm rfl) (by have := c.lt; omega), c.bx.cur.2⟩,
    ⟨hm.os.trans c.bx.mods.os, hm.tape.trans c.bx.mods.tape, hm.output.trans c.bx.mods.output, Nat.le_trans c.bx.mods.size hm.size, fun i hi hn => (hm.block i (by have := c.bx.mods.size; omega) (fun e => by cases e; omega)).trans (c.bx.mods.block i hi hn)⟩⟩
set_option maxHeartbeats 8000000 in
set_option maxRecDepth 10000 in
theorem connect_rd (gc : Nat) (t : ByteArray) (v : Int) (w : World) (h : Cur w gc t 0 0) (ht : t.size ≤ 140737488351232) (hv : v = 4 ∨ v = 5) :
    Calls Tryz.prog 31 #[.agg #[.pointer (some ⟨gc, 0, none⟩), .int .i64 v]] w (ConOut gc t (cnRd v t) w) := by
  have HX := Lib.hid (BX.start h v)
  have HT := Lib.hid ht
  have HV := Lib.hid hv
  have HLT := Lib.hid h.lt
  have hne : w.heap.size ≠ gc := by have := h.lt; omega
  have HN0 : Hid (stN t = ((takeS t 0 0 6).2.1, if (takeS t 0 0 6).1 = cntName then (takeS t 0 0 6).2.2 else failE (takeS t 0 0 6).2.2 5)) := Lib.hid rfl
  have HcV : Hid (cnV v t = stV v t (stN t).1 (stN t).2) := Lib.hid rfl
  have HcF : Hid (cnF v t = stG v t (cnV v t).1 (cnV v t).2) := Lib.hid rfl
  have HcK : Hid (cnK v t = stK t (cnF v t).2.1 (cnF v t).2.2) := Lib.hid rfl
  have HcP : Hid (cnP v t = prpC v 1 t (cnK v t).2.1 (cnK v t).2.2) := Lib.hid rfl
  have HcT : Hid (cnT v t = txtC t (cnP v t).2.1 (cnP v t).2.2) := Lib.hid rfl
  have Hc1 : Hid (cn1 v t = (cnPk (cnF v t).1 (cnK v t).1 (cnT v t).1 (cnP v t).1, (cnT v t).2.1, (cnT v t).2.2)) := Lib.hid rfl
  have HcR : Hid (cnRd v t = cn4 t (cn3 t (cn2 v t (cn1 v t)))) := Lib.hid rfl
  generalize cnRd v t = RR at *
  have hst0 : ∀ q k, (stPk (.pointer (some ⟨w.heap.size + 1 + 1, 0, none⟩)) (pkV q k)).run Tryz.prog (((w.alloc (.cells #[.pointer (some ⟨gc, 0, none⟩), .int .i64 v] RdrT)).alloc (.cells (pkC pk0 hs0) PkT)).alloc (.cells (pkC pk0 hs0) PkT)) =
      .ok () (((w.alloc (.cells #[.pointer (some ⟨gc, 0, none⟩), .int .i64 v] RdrT)).alloc (.cells (pkC pk0 hs0) PkT)).alloc (.cells (pkC q k) PkT)) := fun q k => by
    have h2 : ((w.alloc (.cells #[.pointer (some ⟨gc, 0, none⟩), .int .i64 v] RdrT)).alloc (.cells (pkC pk0 hs0) PkT)).heap.size = w.heap.size + 1 + 1 := by simp
    have := run_stPk_fresh ((w.alloc (.cells #[.pointer (some ⟨gc, 0, none⟩), .int .i64 v] RdrT)).alloc (.cells (pkC pk0 hs0) PkT)) pk0 q hs0 k
    rw [h2] at this
    exact this
  clear h ht hv
  go_enter Tryz.func31, Tryz.ntmps31
  have C0 : Hid (CR w gc v { pk0 with kind := 1 } hs0 t 0 0 (((w.alloc (.cells #[.pointer (some ⟨gc, 0, none⟩), .int .i64 v] RdrT)).alloc (.cells (pkC pk0 hs0) PkT)).alloc (.cells (pkC { pk0 with kind := 1 } hs0) PkT))) := Lib.hid
    ⟨(HX.out.below ((Below.refl _ _).alloc (Nat.le_refl _) _)).below ((Below.refl _ _).alloc (Nat.le_refl _) _), (by simpa using Bk.fresh (w.alloc (.cells #[.pointer (some ⟨gc, 0, none⟩), .int .i64 v] RdrT)) PkT (pkC pk0 hs0) : Bk _ (w.heap.size + 1) PkT (pkC pk0 hs0)).alloc _,
      by simpa using Bk.fresh ((w.alloc (.cells #[.pointer (some ⟨gc, 0, none⟩), .int .i64 v] RdrT)).alloc (.cells (pkC pk0 hs0) PkT)) PkT (pkC { pk0 with kind := 1 } hs0), PkIn.zero _ _ 1 0 0, ⟨rfl, rfl⟩, HLT.out⟩
  go_wp2_with fail
  clear hst0 HX
  generalize (((w.alloc (.cells #[.pointer (some ⟨gc, 0, none⟩), .int .i64 v] RdrT)).alloc (.cells (pkC pk0 hs0) PkT)).alloc (.cells (pkC { pk0 with kind := 1 } hs0) PkT)) = x0 at *
  obtain ⟨q0, hq0⟩ : ∃ q, { pk0 with kind := 1 } = q := ⟨_, rfl⟩
  have HQ0 := Lib.hid hq0.symm
  rw [hq0] at C0
  clear hq0
  have K0 := Lib.hid (fun (x : World) (hc : Cur x gc t 0 0) => take_any gc 0 t 0 6 x hc)
  generalize takeS t 0 0 6 = T0 at *
  obtain ⟨b6, a6, e6⟩ := T0
  simp only at HN0 K0
  obtain ⟨bn, hbn⟩ : ∃ bn, (b6.toList == [0, 4, 77, 81, 84, 84]) = bn := ⟨_, rfl⟩
  have HN : Hid (stN t = (a6, if bn = true then e6 else failE e6 5)) := Lib.hid (by
    rw [HN0.out]
    have hname : cntName.toList = [0, 4, 77, 81, 84, 84] := by decide +kernel
    by_cases hb : b6 = cntName
    · have : bn = true := by rw [← hbn, hb, hname]; rfl
      rw [if_pos hb, this, if_pos rfl]
    · have : bn = false := by
        rw [← hbn]
        refine beq_eq_false_iff_ne.2 fun x => hb ?_
        rw [← hname] at x
        exact (toList_inj _ _).1 x
      rw [if_neg hb, this, if_neg (by decide)])
  clear HN0
  have hsb := C0.out.bx.sb
  go_wp2_with fail
  go_region_held3 (fun x => x.cell? ⟨w.heap.size, 0, none⟩ = some (.pointer (some ⟨gc, 0, none⟩)) ∧ x.cell? ⟨w.heap.size, 1, none⟩ = some (.int .i64 v) ∧ x0.grownBy x (some gc))
    (first | exact SB.below hsb (below_drawn (Below.refl _ _) _) | exact SB.turn (by assumption) hm1 hne | exact SB.turn (by assumption) hmu hne | go_keep)
    (first | (go_at_call 62; refine (K0.out _ (C0.out.drewN 1).bx.cur).mono ?_; rintro e x1 ⟨rfl, hc1, hm1⟩)
           | (go_at_call 33; refine (unless_any gc _ t _ v _ 5 _ hc1).mono ?_; rintro e x2 ⟨rfl, hcu, hmu⟩))
  have HM := Lib.hid (show SB w.heap.size gc v x0 x2 by assumption).2.2
  clear hsb hmu hm1 hc1
  have C1 := Lib.hid (C0.out.turn hcu HM.out)
  clear hcu HM hbn K0 C0
  generalize (if bn = true then e6 else failE e6 5) = e0 at *
  have hwv : IntKind.u64.wrap v = v := by rw [IntKind.wrap_u64]; have := HV.out; omega
  have K1 := Lib.hid (fun (x : World) (hc : Cur x gc t a6 e0) => number_any gc a6 t e0 1 x hc (by decide))
  obtain ⟨bv, hbv⟩ : ∃ bv, (((numS t a6 e0 1 : Nat) : Int) == v) = bv := ⟨_, rfl⟩
  have HW : Hid (cnV v t = ((takeS t a6 e0 1).2.1, if bv = true then (takeS t a6 e0 1).2.2 else failE (takeS t a6 e0 1).2.2 5)) := Lib.hid (by
    rw [HcV.out, HN.out]
    unfold stV
    by_cases hb : ((numS t a6 e0 1 : Nat) : Int) = v
    · have : bv = true := by rw [← hbv]; exact beq_iff_eq.2 hb
      simp only
      rw [if_pos hb, this, if_pos rfl]
    · have : bv = false := by rw [← hbv]; exact beq_eq_false_iff_ne.2 hb
      simp only
      rw [if_neg hb, this, if_neg (by decide)])
  generalize numS t a6 e0 1 = n1 at *
  generalize (takeS t a6 e0 1).2.1 = a1 at *
  generalize (takeS t a6 e0 1).2.2 = f1 at *
  clear HcV HN
  have hsb := C1.out.bx.sb
  go_wp2_with fail
  go_region_held3 (fun x => x.cell? ⟨w.heap.size, 0, none⟩ = some (.pointer (some ⟨gc, 0, none⟩)) ∧ x.cell? ⟨w.heap.size, 1, none⟩ = some (.int .i64 v) ∧ x2.grownBy x (some gc))
    (first | exact SB.below hsb (below_drawn (Below.refl _ _) _) | exact SB.turn (by assumption) hm1 hne | exact SB.turn (by assumption) hmu hne | go_keep)
    (first | (go_at_call 63; refine (K1.out _ (C1.out.drewN 1).bx.cur).mono ?_; rintro e x3 ⟨rfl, hc1, hm1⟩)
           | (go_at_call 33; refine (unless_any gc _ t _ v _ 5 _ hc1).mono ?_; rintro e x4 ⟨rfl, hcu, hmu⟩))
  have HM := Lib.hid (show SB w.heap.size gc v x2 x4 by assumption).2.2
  clear hsb hmu hm1 hc1
  have C2 := Lib.hid (C1.out.turn hcu HM.out)
  clear hcu HM hbv K1 C1 hwv
  generalize (if bv = true then f1 else failE f1 5) = e1 at *
  have k0 : x4.cell? ⟨w.heap.size, 0, none⟩ = some (.pointer (some ⟨gc, 0, none⟩)) := C2.out.bx.box.cell 0
  go_wp2_with fail
  refine (number_any gc a1 t e1 1 _ C2.out.bx.cur (by decide)).mono ?_
  rintro e x5 ⟨rfl, hc, hm⟩
  have C3 := Lib.hid (C2.out.turn hc hm); clear hc hm k0
  have HFL := Lib.hid (num_one_lt t a1 e1)
  have HF0 : Hid (cnF v t = (numS t a1 e1 1, (takeS t a1 e1 1).2.1, if flOk v (numS t a1 e1 1) = true then (takeS t a1 e1 1).2.2 else failE (takeS t a1 e1 1).2.2 7)) := Lib.hid (by rw [HcF.out, HW.out]; rfl)
  generalize numS t a1 e1 1 = fn at *
  generalize (takeS t a1 e1 1).2.1 = a2 at *
  generalize (takeS t a1 e1 1).2.2 = f2 at *
  have hwf : IntKind.i64.wrap (fn : Int) = (fn : Int) := by rw [IntKind.wrap_i64]; have := HFL.out; omega
  clear C2 HcF HW
  have KF := Lib.hid (fun x : World => flags_rd gc v fn HFL.out x)
  obtain ⟨bf, hbf⟩ : ∃ bf, flOk v fn = bf := ⟨_, rfl⟩
  rw [hbf] at HF0 KF
  clear hbf
  have hsb := C3.out.bx.sb
  go_wp2_with fail
  go_region_held3 (fun x => x.cell? ⟨w.heap.size, 0, none⟩ = some (.pointer (some ⟨gc, 0, none⟩)) ∧ x.cell? ⟨w.heap.size, 1, none⟩ = some (.int .i64 v) ∧ x5.grownBy x (some gc))
    (first | exact SB.below hsb (below_drawn (Below.refl _ _) _) | exact SB.below (by assumption) hm1 | exact SB.turn (by assumption) hmu hne | go_keep)
    (first | (go_at_call 64; refine (KF.out _).mono ?_; rintro e x6 ⟨rfl, hm1⟩)
           | (go_at_call 33; refine (unless_any gc a2 t f2 v _ 7 _ ((C3.out.drewN 1).below hm1).bx.cur).mono ?_; rintro e x7 ⟨rfl, hcu, hmu⟩))
  have HM := Lib.hid (show SB w.heap.size gc v x5 x7 by assumption).2.2
  clear hsb hmu hm1 
  have C4 := Lib.hid (C3.out.turn hcu HM.out)
  clear hcu HM KF C3 hwf
  generalize (if bf = true then f2 else failE f2 7) = e2 at *
  have f7 := C4.out.pk.free 7; have p7 := (C4.out.pk.cell 7).trans (pkC_7 _ _)
  have f14 := C4.out.pk.free 14; have p14 := (C4.out.pk.cell 14).trans (pkC_14 _ _)
  have f12 := C4.out.pk.free 12; have p12 := (C4.out.pk.cell 12).trans (pkC_12 _ _)
  have f10 := C4.out.pk.free 10; have p10 := (C4.out.pk.cell 10).trans (pkC_10 _ _)
  have f18 := C4.out.pk.free 18; have p18 := (C4.out.pk.cell 18).trans (pkC_18 _ _)
  have f17 := C4.out.pk.free 17; have p17 := (C4.out.pk.cell 17).trans (pkC_17 _ _)
  have k0 : x7.cell? ⟨w.heap.size, 0, none⟩ = some (.pointer (some ⟨gc, 0, none⟩)) := C4.out.bx.box.cell 0
  obtain ⟨-, g2, g4, -, -, g8, -, g32, g64, -, g128⟩ := flag_ops ⟨fn, HFL.out⟩
  simp only at g2 g4 g8 g32 g64 g128
  obtain ⟨b2, hb2⟩ : ∃ b, decide (fn / 2 % 2 = 1) = b := ⟨_, rfl⟩
  obtain ⟨b4, hb4⟩ : ∃ b, decide (fn / 4 % 2 = 1) = b := ⟨_, rfl⟩
  obtain ⟨b32, hb32⟩ : ∃ b, decide (fn / 32 % 2 = 1) = b := ⟨_, rfl⟩
  obtain ⟨b64, hb64⟩ : ∃ b, decide (fn / 64 % 2 = 1) = b := ⟨_, rfl⟩
  obtain ⟨b128, hb128⟩ : ∃ b, decide (fn / 128 % 2 = 1) = b := ⟨_, rfl⟩
  obtain ⟨qq, hqq⟩ : ∃ q : Int, ((fn / 8 % 4 : Nat) : Int) = q := ⟨_, rfl⟩
  rw [hb2] at g2
  rw [hb4] at g4
  rw [hb32] at g32
  rw [hb64] at g64
  rw [hb128] at g128
  rw [hqq] at g8
  have HPK : Hid (∀ (k : Nat) c l, ({ q0 with clean := b2, hasWill := b4, hasPass := b64, hasUser := b128, will := { q0.will with retain := b32, qos := qq }, alive := ((k : Nat) : Int), props := l, client := c } : Pk) = cnPk fn k c l) := Lib.hid (by
    intro k c l
    rw [← hb2, ← hb4, ← hb32, ← hb64, ← hb128, ← hqq, HQ0.out]
    rfl)
  clear hb2 hb4 hb32 hb64 hb128 hqq
  have hf0 : (0 : Int) ≤ (fn : Int) := by omega
  have HKL := Lib.hid (num_two_lt t a2 e2 C4.out.bx.cur.at_most.1)
  have C5 := Lib.hid ((((((C4.out.set 7 (.bool b2) (p' := { q0 with clean := b2 }) rfl ⟨rfl, rfl, rfl, rfl⟩).set 14 (.bool b4) (p' := { q0 with clean := b2, hasWill := b4 }) rfl ⟨rfl, rfl, rfl, rfl⟩).set 12 (.bool b64) (p' := { q0 with clean := b2, hasWill := b4, hasPass := b64 }) rfl ⟨rfl, rfl, rfl, rfl⟩).set 10 (.bool b128) (p' := { q0 with clean := b2, hasWill := b4, hasPass := b64, hasUser := b128 }) rfl ⟨rfl, rfl, rfl, rfl⟩).set 18 (.bool b32) (p' := { q0 with clean := b2, hasWill := b4, hasPass := b64, hasUser := b128, will := { q0.will with retain := b32 } }) rfl ⟨rfl, rfl, rfl, rfl⟩).set 17 (.int .i64 qq) (p' := { q0 with clean := b2, hasWill := b4, hasPass := b64, hasUser := b128, will := { q0.will with retain := b32, qos := qq } }) rfl ⟨rfl, rfl, rfl, rfl⟩)
  clear C4
  go_wp2_with fail
  refine (number_any gc a2 t e2 2 _ C5.out.bx.cur (by decide)).mono ?_
  rintro e x8 ⟨rfl, hc, hm⟩
  have C6 := Lib.hid (C5.out.turn hc hm)
  clear hc hm C5 f7 p7 f14 p14 f12 p12 f10 p10 f18 p18 f17 p17 g2 g4 g8 g32 g64 g128 hf0 k0
  have HKK : Hid (cnK v t = (numS t a2 e2 2, (takeS t a2 e2 2).2.1, (takeS t a2 e2 2).2.2)) := Lib.hid (by rw [HcK.out, HF0.out]; rfl)
  generalize numS t a2 e2 2 = kn at *
  generalize (takeS t a2 e2 2).2.1 = a3 at *
  generalize (takeS t a2 e2 2).2.2 = e3 at *
  have hwk : IntKind.i64.wrap (kn : Int) = (kn : Int) := by rw [IntKind.wrap_i64]; have := HKL.out; omega
  have f8 := C6.out.pk.free 8; have p8 := (C6.out.pk.cell 8).trans (pkC_8 _ _)
  have p0 : x8.cell? ⟨w.heap.size + 1 + 1, 0, none⟩ = some (.int .i64 1) := ((C6.out.pk.cell 0).trans (pkC_0 _ _)).trans (by rw [HQ0.out])
  have k0 : x8.cell? ⟨w.heap.size, 0, none⟩ = some (.pointer (some ⟨gc, 0, none⟩)) := C6.out.bx.box.cell 0
  have k1 : x8.cell? ⟨w.heap.size, 1, none⟩ = some (.int .i64 v) := C6.out.bx.box.cell 1
  have C7 := Lib.hid (C6.out.set 8 (.int .i64 (kn : Int)) (p' := { q0 with clean := b2, hasWill := b4, hasPass := b64, hasUser := b128, will := { q0.will with retain := b32, qos := qq }, alive := (kn : Int) }) rfl ⟨rfl, rfl, rfl, rfl⟩)
  have HPP : Hid (cnP v t = prpC v 1 t a3 e3) := Lib.hid (by rw [HcP.out, HKK.out])
  clear C6 HcK HcP
  go_wp2_with fail
  refine (props_rd gc a3 t e3 v 1 _ C7.out.bx.cur HT.out).mono ?_
  rintro e x9 ⟨A, c, rfl, hlc, hr, hc, hm⟩
  rw [← HPP.out] at hlc hr hc ⊢
  clear HPP f8 p8 p0 k0 k1 hwk
  generalize cnP v t = r at *
  obtain ⟨l, a4, e4⟩ := r
  simp only at hlc hr hc HcT Hc1 ⊢
  have C8 := Lib.hid (C7.out.turn hc hm)
  have C9 := Lib.hid (C8.out.setP hr hlc)
  have f24 := C8.out.pk.free 24; have p24 := (C8.out.pk.cell 24).trans (pkC_24 _ _)
  have k0 : x9.cell? ⟨w.heap.size, 0, none⟩ = some (.pointer (some ⟨gc, 0, none⟩)) := C8.out.bx.box.cell 0
  have k1 : x9.cell? ⟨w.heap.size, 1, none⟩ = some (.int .i64 v) := C8.out.bx.box.cell 1
  clear hlc hr hc hm C7
  go_wp2_with fail
  refine (text_rd gc a4 t e4 v _ C9.out.bx.cur).mono ?_
  rintro e y0 ⟨rfl, hc, hm⟩
  rw [← HcT.out] at hc ⊢
  clear HcT f24 p24 k0 k1 C8
  generalize cnT v t = r at *
  obtain ⟨cl, a5, e5⟩ := r
  simp only at hc Hc1 ⊢
  rw [HF0.out, HKK.out] at Hc1
  simp only at Hc1
  have C10 := Lib.hid (C9.out.turn hc hm)
  clear hc hm C9 HF0 HKK
  have C11' := Lib.hid (C10.out.set 9 (.string cl) (p' := { q0 with clean := b2, hasWill := b4, hasPass := b64, hasUser := b128, will := { q0.will with retain := b32, qos := qq }, alive := (kn : Int), props := l, client := cl }) rfl ⟨rfl, rfl, rfl, rfl⟩)
  have f9 := C10.out.pk.free 9; have p9 := (C10.out.pk.cell 9).trans (pkC_9 _ _)
  have p14 : y0.cell? ⟨w.heap.size + 1 + 1, 14, none⟩ = some (.bool b4) := (C10.out.pk.cell 14).trans (pkC_14 _ _)
  have HB4 : Hid ((cnPk fn kn cl l).hasWill = b4) := Lib.hid (by rw [← HPK.out])
  rw [HPK.out] at C11'
  generalize cnPk fn kn cl l = P1 at *
  clear C10 HPK HQ0 HKL HFL
  obtain ⟨H1, hH1⟩ : ∃ H : Hs, { hs0 with props := ⟨A, c⟩ } = H := ⟨_, rfl⟩
  rw [hH1] at C11'
  clear hH1
  obtain ⟨Y1, hY1⟩ : ∃ Y, y0.setCell ⟨w.heap.size + 1 + 1, 9, none⟩ (.string cl) = Y := ⟨_, rfl⟩
  have C11 := C11'
  rw [hY1] at C11
  have k0 : Y1.cell? ⟨w.heap.size, 0, none⟩ = some (.pointer (some ⟨gc, 0, none⟩)) := C11.out.bx.box.cell 0
  have k1 : Y1.cell? ⟨w.heap.size, 1, none⟩ = some (.int .i64 v) := C11.out.bx.box.cell 1
  have HR2 : Hid (RR = cn4 t (cn3 t (cn2 v t (P1, a5, e5)))) := Lib.hid (by rw [HcR.out, Hc1.out])
  clear C11' HcR Hc1
  cases b4
  · have p14 := ((C11.out.pk.cell 14).trans (pkC_14 _ _)).trans (show _ = some (Value.bool false) by rw [HB4.out])
    have HR3 : Hid (RR = cn4 t (cn3 t (P1, a5, e5))) := Lib.hid (by rw [HR2.out]; unfold cn2; rw [if_neg (by rw [HB4.out]; decide)])
    clear k0 k1
    cases hb1 : (P1 : Pk).hasUser
    · have hb1p := ((C11.out.pk.cell 10).trans (pkC_10 _ _)).trans (show _ = some (Value.bool false) by rw [hb1])
      have HQ2 : Hid (RR = cn4 t (P1, a5, e5)) := Lib.hid (by rw [HR3.out]; unfold cn3; rw [if_neg (by rw [hb1]; decide)])
      cases hb4 : (P1 : Pk).hasPass
      · have hb4p := ((C11.out.pk.cell 12).trans (pkC_12 _ _)).trans (show _ = some (Value.bool false) by rw [hb4])
        have HZ : Hid (RR = (P1, a5, e5)) := Lib.hid (by rw [HQ2.out]; unfold cn4; rw [if_neg (by rw [hb4]; decide)])
        have hl := ld_bk C11.out.pk
        have hst := run_stPk C11.out.res
        go_wp2
        refine bodyPost_ret (results_c1 rfl _ rfl (put_bk C11.out.res _ _)) rfl ?_
        rw [HZ.out]
        exact C11.out.fin
      · have hb4p := ((C11.out.pk.cell 12).trans (pkC_12 _ _)).trans (show _ = some (Value.bool true) by rw [hb4])
        have k0 : Y1.cell? ⟨w.heap.size, 0, none⟩ = some (.pointer (some ⟨gc, 0, none⟩)) := C11.out.bx.box.cell 0
        have k1 : Y1.cell? ⟨w.heap.size, 1, none⟩ = some (.int .i64 v) := C11.out.bx.box.cell 1
        go_wp2_with fail
        refine (binary_rd gc a5 t e5 v _ C11.out.bx.cur).mono ?_
        rintro e y5 ⟨rfl, hc, hm⟩
        obtain ⟨S6, a7, e8, HS13⟩ : ∃ (S : ByteArray) (a : Nat) (e : Int), binC t a5 e5 = (S, a, e) := ⟨_, _, _, rfl⟩
        rw [HS13] at hc ⊢
        simp only at hc ⊢
        replace HS13 := Lib.hid HS13
        have C9 := Lib.hid (C11.out.turn hc hm)
        have C10 := Lib.hid (C9.out.set 13 (.string S6) (p' := { (P1 : Pk) with pass := S6 }) rfl ⟨rfl, rfl, rfl, rfl⟩)
        have fx := C9.out.pk.free 13; have px := (C9.out.pk.cell 13).trans (pkC_13 _ _)
        clear hc hm k0 k1
        obtain ⟨Y11, hY12⟩ : ∃ Y, y5.setCell ⟨w.heap.size + 1 + 1, 13, none⟩ (.string S6) = Y := ⟨_, rfl⟩
        rw [hY12] at C10
        obtain ⟨PV14, hPV15⟩ : ∃ P : Pk, { (P1 : Pk) with pass := S6 } = P := ⟨_, rfl⟩
        rw [hPV15] at C10
        replace hPV15 := Lib.hid hPV15
        have HZ : Hid (RR = (PV14, a7, e8)) := Lib.hid (by rw [HQ2.out]; unfold cn4; rw [if_pos hb4]; simp only; rw [HS13.out, ← hPV15.out])
        have hl := ld_bk C10.out.pk
        have hst := run_stPk C10.out.res
        go_wp2
        refine bodyPost_ret (results_c1 rfl _ rfl (put_bk C10.out.res _ _)) rfl ?_
        rw [HZ.out]
        exact C10.out.fin
    · have hb1p := ((C11.out.pk.cell 10).trans (pkC_10 _ _)).trans (show _ = some (Value.bool true) by rw [hb1])
      have k0 : Y1.cell? ⟨w.heap.size, 0, none⟩ = some (.pointer (some ⟨gc, 0, none⟩)) := C11.out.bx.box.cell 0
      have k1 : Y1.cell? ⟨w.heap.size, 1, none⟩ = some (.int .i64 v) := C11.out.bx.box.cell 1
      go_wp2_with fail
      refine (text_rd gc a5 t e5 v _ C11.out.bx.cur).mono ?_
      rintro e y16 ⟨rfl, hc, hm⟩
      obtain ⟨S17, a18, e19, HS24⟩ : ∃ (S : ByteArray) (a : Nat) (e : Int), txtC t a5 e5 = (S, a, e) := ⟨_, _, _, rfl⟩
      rw [HS24] at hc ⊢
      simp only at hc ⊢
      replace HS24 := Lib.hid HS24
      have C20 := Lib.hid (C11.out.turn hc hm)
      have C21 := Lib.hid (C20.out.set 11 (.string S17) (p' := { (P1 : Pk) with user := S17 }) rfl ⟨rfl, rfl, rfl, rfl⟩)
      have fx := C20.out.pk.free 11; have px := (C20.out.pk.cell 11).trans (pkC_11 _ _)
      clear hc hm k0 k1
      obtain ⟨Y22, hY23⟩ : ∃ Y, y16.setCell ⟨w.heap.size + 1 + 1, 11, none⟩ (.string S17) = Y := ⟨_, rfl⟩
      rw [hY23] at C21
      obtain ⟨PV25, hPV26⟩ : ∃ P : Pk, { (P1 : Pk) with user := S17 } = P := ⟨_, rfl⟩
      rw [hPV26] at C21
      replace hPV26 := Lib.hid hPV26
      have HQ3 : Hid (RR = cn4 t (PV25, a18, e19)) := Lib.hid (by rw [HR3.out]; unfold cn3; rw [if_pos hb1]; simp only; rw [HS24.out, ← hPV26.out])
      cases hb27 : (PV25 : Pk).hasPass
      · have hb27p := ((C21.out.pk.cell 12).trans (pkC_12 _ _)).trans (show _ = some (Value.bool false) by rw [hb27])
        have HZ : Hid (RR = (PV25, a18, e19)) := Lib.hid (by rw [HQ3.out]; unfold cn4; rw [if_neg (by rw [hb27]; decide)])
        have hl := ld_bk C21.out.pk
        have hst := run_stPk C21.out.res
        go_wp2
        refine bodyPost_ret (results_c1 rfl _ rfl (put_bk C21.out.res _ _)) rfl ?_
        rw [HZ.out]
        exact C21.out.fin
      · have hb27p := ((C21.out.pk.cell 12).trans (pkC_12 _ _)).trans (show _ = some (Value.bool true) by rw [hb27])
        have k0 : Y22.cell? ⟨w.heap.size, 0, none⟩ = some (.pointer (some ⟨gc, 0, none⟩)) := C21.out.bx.box.cell 0
        have k1 : Y22.cell? ⟨w.heap.size, 1, none⟩ = some (.int .i64 v) := C21.out.bx.box.cell 1
        go_wp2_with fail
        refine (binary_rd gc a18 t e19 v _ C21.out.bx.cur).mono ?_
        rintro e y28 ⟨rfl, hc, hm⟩
        obtain ⟨S29, a30, e31, HS36⟩ : ∃ (S : ByteArray) (a : Nat) (e : Int), binC t a18 e19 = (S, a, e) := ⟨_, _, _, rfl⟩
        rw [HS36] at hc ⊢
        simp only at hc ⊢
        replace HS36 := Lib.hid HS36
        have C32 := Lib.hid (C21.out.turn hc hm)
        have C33 := Lib.hid (C32.out.set 13 (.string S29) (p' := { (PV25 : Pk) with pass := S29 }) rfl ⟨rfl, rfl, rfl, rfl⟩)
        have fx := C32.out.pk.free 13; have px := (C32.out.pk.cell 13).trans (pkC_13 _ _)
        clear hc hm k0 k1
        obtain ⟨Y34, hY35⟩ : ∃ Y, y28.setCell ⟨w.heap.size + 1 + 1, 13, none⟩ (.string S29) = Y := ⟨_, rfl⟩
        rw [hY35] at C33
        obtain ⟨PV37, hPV38⟩ : ∃ P : Pk, { (PV25 : Pk) with pass := S29 } = P := ⟨_, rfl⟩
        rw [hPV38] at C33
        replace hPV38 := Lib.hid hPV38
        have HZ : Hid (RR = (PV37, a30, e31)) := Lib.hid (by rw [HQ3.out]; unfold cn4; rw [if_pos hb27]; simp only; rw [HS36.out, ← hPV38.out])
        have hl := ld_bk C33.out.pk
        have hst := run_stPk C33.out.res
        go_wp2
        refine bodyPost_ret (results_c1 rfl _ rfl (put_bk C33.out.res _ _)) rfl ?_
        rw [HZ.out]
        exact C33.out.fin
  · have p14 := ((C11.out.pk.cell 14).trans (pkC_14 _ _)).trans (show _ = some (Value.bool true) by rw [HB4.out])
    go_wp2_with fail
    refine (props_rd gc a5 t e5 v 16 _ C11.out.bx.cur HT.out).mono ?_
    rintro e yw ⟨A', c', rfl, hlc, hr, hc, hm⟩
    obtain ⟨wl, aw, ew, hWP⟩ : ∃ (l : List Pr) (a : Nat) (e : Int), prpC v 16 t a5 e5 = (l, a, e) := ⟨_, _, _, rfl⟩
    rw [hWP] at hlc hr hc ⊢
    simp only at hlc hr hc ⊢
    replace hWP := Lib.hid hWP
    have CW8 := Lib.hid (C11.out.turn hc hm)
    have CW9 := Lib.hid (CW8.out.setW hr hlc)
    have fx := CW8.out.pk.free 19; have px := (CW8.out.pk.cell 19).trans (pkC_19 _ _)
    clear hlc hr hc hm k0 k1 p14 f9 p9 hY1
    obtain ⟨Yw, hYw⟩ : ∃ Y, yw.setCell ⟨w.heap.size + 1 + 1, 19, none⟩ (.slice A' wl.length c') = Y := ⟨_, rfl⟩
    rw [hYw] at CW9
    obtain ⟨HW, hHW⟩ : ∃ H : Hs, { H1 with wp := ⟨A', c'⟩ } = H := ⟨_, rfl⟩
    rw [hHW] at CW9
    obtain ⟨PW, hPW⟩ : ∃ P : Pk, { P1 with will := { P1.will with props := wl } } = P := ⟨_, rfl⟩
    rw [hPW] at CW9
    replace hPW := Lib.hid hPW
    clear hHW
    have k0 : Yw.cell? ⟨w.heap.size, 0, none⟩ = some (.pointer (some ⟨gc, 0, none⟩)) := CW9.out.bx.box.cell 0
    have k1 : Yw.cell? ⟨w.heap.size, 1, none⟩ = some (.int .i64 v) := CW9.out.bx.box.cell 1
    go_wp2_with fail
    clear fx px hYw
    refine (text_rd gc aw t ew v _ CW9.out.bx.cur).mono ?_
    rintro e y39 ⟨rfl, hc, hm⟩
    obtain ⟨S40, a41, e42, HS47⟩ : ∃ (S : ByteArray) (a : Nat) (e : Int), txtC t aw ew = (S, a, e) := ⟨_, _, _, rfl⟩
    rw [HS47] at hc ⊢
    simp only at hc ⊢
    replace HS47 := Lib.hid HS47
    have C43 := Lib.hid (CW9.out.turn hc hm)
    have C44 := Lib.hid (C43.out.set 15 (.string S40) (p' := { (PW : Pk) with will := { (PW : Pk).will with topic := S40 } }) rfl ⟨rfl, rfl, rfl, rfl⟩)
    have fx := C43.out.pk.free 15; have px := (C43.out.pk.cell 15).trans (pkC_15 _ _)
    clear hc hm k0 k1
    obtain ⟨Y45, hY46⟩ : ∃ Y, y39.setCell ⟨w.heap.size + 1 + 1, 15, none⟩ (.string S40) = Y := ⟨_, rfl⟩
    rw [hY46] at C44
    obtain ⟨PV48, hPV49⟩ : ∃ P : Pk, { (PW : Pk) with will := { (PW : Pk).will with topic := S40 } } = P := ⟨_, rfl⟩
    rw [hPV49] at C44
    replace hPV49 := Lib.hid hPV49
    have k0 : Y45.cell? ⟨w.heap.size, 0, none⟩ = some (.pointer (some ⟨gc, 0, none⟩)) := C44.out.bx.box.cell 0
    have k1 : Y45.cell? ⟨w.heap.size, 1, none⟩ = some (.int .i64 v) := C44.out.bx.box.cell 1
    go_wp2_with fail
    clear fx px hY46
    refine (binary_rd gc a41 t e42 v _ C44.out.bx.cur).mono ?_
    rintro e y50 ⟨rfl, hc, hm⟩
    obtain ⟨S51, a52, e53, HS58⟩ : ∃ (S : ByteArray) (a : Nat) (e : Int), binC t a41 e42 = (S, a, e) := ⟨_, _, _, rfl⟩
    rw [HS58] at hc ⊢
    simp only at hc ⊢
    replace HS58 := Lib.hid HS58
    have C54 := Lib.hid (C44.out.turn hc hm)
    have C55 := Lib.hid (C54.out.set 16 (.string S51) (p' := { (PV48 : Pk) with will := { (PV48 : Pk).will with payload := S51 } }) rfl ⟨rfl, rfl, rfl, rfl⟩)
    have fx := C54.out.pk.free 16; have px := (C54.out.pk.cell 16).trans (pkC_16 _ _)
    clear hc hm k0 k1
    obtain ⟨Y56, hY57⟩ : ∃ Y, y50.setCell ⟨w.heap.size + 1 + 1, 16, none⟩ (.string S51) = Y := ⟨_, rfl⟩
    rw [hY57] at C55
    obtain ⟨PV59, hPV60⟩ : ∃ P : Pk, { (PV48 : Pk) with will := { (PV48 : Pk).will with payload := S51 } } = P := ⟨_, rfl⟩
    rw [hPV60] at C55
    replace hPV60 := Lib.hid hPV60
    have HR3 : Hid (RR = cn4 t (cn3 t (PV59, a52, e53))) := Lib.hid (by
      rw [HR2.out]; unfold cn2; rw [if_pos HB4.out]
      unfold cnWB cnWT cnWP
      simp only
      rw [hWP.out]; simp only; rw [HS47.out]; simp only; rw [HS58.out, ← hPV60.out, ← hPV49.out, ← hPW.out])
    cases hb61 : (PV59 : Pk).hasUser
    · have hb61p := ((C55.out.pk.cell 10).trans (pkC_10 _ _)).trans (show _ = some (Value.bool false) by rw [hb61])
      have HQ62 : Hid (RR = cn4 t (PV59, a52, e53)) := Lib.hid (by rw [HR3.out]; unfold cn3; rw [if_neg (by rw [hb61]; decide)])
      cases hb64 : (PV59 : Pk).hasPass
      · have hb64p := ((C55.out.pk.cell 12).trans (pkC_12 _ _)).trans (show _ = some (Value.bool false) by rw [hb64])
        have HZ : Hid (RR = (PV59, a52, e53)) := Lib.hid (by rw [HQ62.out]; unfold cn4; rw [if_neg (by rw [hb64]; decide)])
        have hl := ld_bk C55.out.pk
        have hst := run_stPk C55.out.res
        go_wp2
        refine bodyPost_ret (results_c1 rfl _ rfl (put_bk C55.out.res _ _)) rfl ?_
        rw [HZ.out]
        exact C55.out.fin
      · have hb64p := ((C55.out.pk.cell 12).trans (pkC_12 _ _)).trans (show _ = some (Value.bool true) by rw [hb64])
        have k0 : Y56.cell? ⟨w.heap.size, 0, none⟩ = some (.pointer (some ⟨gc, 0, none⟩)) := C55.out.bx.box.cell 0
        have k1 : Y56.cell? ⟨w.heap.size, 1, none⟩ = some (.int .i64 v) := C55.out.bx.box.cell 1
        go_wp2_with fail
        refine (binary_rd gc a52 t e53 v _ C55.out.bx.cur).mono ?_
        rintro e y65 ⟨rfl, hc, hm⟩
        obtain ⟨S66, a67, e68, HS73⟩ : ∃ (S : ByteArray) (a : Nat) (e : Int), binC t a52 e53 = (S, a, e) := ⟨_, _, _, rfl⟩
        rw [HS73] at hc ⊢
        simp only at hc ⊢
        replace HS73 := Lib.hid HS73
        have C69 := Lib.hid (C55.out.turn hc hm)
        have C70 := Lib.hid (C69.out.set 13 (.string S66) (p' := { (PV59 : Pk) with pass := S66 }) rfl ⟨rfl, rfl, rfl, rfl⟩)
        have fx := C69.out.pk.free 13; have px := (C69.out.pk.cell 13).trans (pkC_13 _ _)
        clear hc hm k0 k1
        obtain ⟨Y71, hY72⟩ : ∃ Y, y65.setCell ⟨w.heap.size + 1 + 1, 13, none⟩ (.string S66) = Y := ⟨_, rfl⟩
        rw [hY72] at C70
        obtain ⟨PV74, hPV75⟩ : ∃ P : Pk, { (PV59 : Pk) with pass := S66 } = P := ⟨_, rfl⟩
        rw [hPV75] at C70
        replace hPV75 := Lib.hid hPV75
        have HZ : Hid (RR = (PV74, a67, e68)) := Lib.hid (by rw [HQ62.out]; unfold cn4; rw [if_pos hb64]; simp only; rw [HS73.out, ← hPV75.out])
        have hl := ld_bk C70.out.pk
        have hst := run_stPk C70.out.res
        go_wp2
        refine bodyPost_ret (results_c1 rfl _ rfl (put_bk C70.out.res _ _)) rfl ?_
        rw [HZ.out]
        exact C70.out.fin
    · have hb61p := ((C55.out.pk.cell 10).trans (pkC_10 _ _)).trans (show _ = some (Value.bool true) by rw [hb61])
      have k0 : Y56.cell? ⟨w.heap.size, 0, none⟩ = some (.pointer (some ⟨gc, 0, none⟩)) := C55.out.bx.box.cell 0
      have k1 : Y56.cell? ⟨w.heap.size, 1, none⟩ = some (.int .i64 v) := C55.out.bx.box.cell 1
      go_wp2_with fail
      refine (text_rd gc a52 t e53 v _ C55.out.bx.cur).mono ?_
      rintro e y76 ⟨rfl, hc, hm⟩
      obtain ⟨S77, a78, e79, HS84⟩ : ∃ (S : ByteArray) (a : Nat) (e : Int), txtC t a52 e53 = (S, a, e) := ⟨_, _, _, rfl⟩
      rw [HS84] at hc ⊢
      simp only at hc ⊢
      replace HS84 := Lib.hid HS84
      have C80 := Lib.hid (C55.out.turn hc hm)
      have C81 := Lib.hid (C80.out.set 11 (.string S77) (p' := { (PV59 : Pk) with user := S77 }) rfl ⟨rfl, rfl, rfl, rfl⟩)
      have fx := C80.out.pk.free 11; have px := (C80.out.pk.cell 11).trans (pkC_11 _ _)
      clear hc hm k0 k1
      obtain ⟨Y82, hY83⟩ : ∃ Y, y76.setCell ⟨w.heap.size + 1 + 1, 11, none⟩ (.string S77) = Y := ⟨_, rfl⟩
      rw [hY83] at C81
      obtain ⟨PV85, hPV86⟩ : ∃ P : Pk, { (PV59 : Pk) with user := S77 } = P := ⟨_, rfl⟩
      rw [hPV86] at C81
      replace hPV86 := Lib.hid hPV86
      have HQ63 : Hid (RR = cn4 t (PV85, a78, e79)) := Lib.hid (by rw [HR3.out]; unfold cn3; rw [if_pos hb61]; simp only; rw [HS84.out, ← hPV86.out])
      cases hb87 : (PV85 : Pk).hasPass
      · have hb87p := ((C81.out.pk.cell 12).trans (pkC_12 _ _)).trans (show _ = some (Value.bool false) by rw [hb87])
        have HZ : Hid (RR = (PV85, a78, e79)) := Lib.hid (by rw [HQ63.out]; unfold cn4; rw [if_neg (by rw [hb87]; decide)])
        have hl := ld_bk C81.out.pk
        have hst := run_stPk C81.out.res
        go_wp2
        refine bodyPost_ret (results_c1 rfl _ rfl (put_bk C81.out.res _ _)) rfl ?_
        rw [HZ.out]
        exact C81.out.fin
      · have hb87p := ((C81.out.pk.cell 12).trans (pkC_12 _ _)).trans (show _ = some (Value.bool true) by rw [hb87])
        have k0 : Y82.cell? ⟨w.heap.size, 0, none⟩ = some (.pointer (some ⟨gc, 0, none⟩)) := C81.out.bx.box.cell 0
        have k1 : Y82.cell? ⟨w.heap.size, 1, none⟩ = some (.int .i64 v) := C81.out.bx.box.cell 1
        go_wp2_with fail
        refine (binary_rd gc a78 t e79 v _ C81.out.bx.cur).mono ?_
        rintro e y88 ⟨rfl, hc, hm⟩
        obtain ⟨S89, a90, e91, HS96⟩ : ∃ (S : ByteArray) (a : Nat) (e : Int), binC t a78 e79 = (S, a, e) := ⟨_, _, _, rfl⟩
        rw [HS96] at hc ⊢
        simp only at hc ⊢
        replace HS96 := Lib.hid HS96
        have C92 := Lib.hid (C81.out.turn hc hm)
        have C93 := Lib.hid (C92.out.set 13 (.string S89) (p' := { (PV85 : Pk) with pass := S89 }) rfl ⟨rfl, rfl, rfl, rfl⟩)
        have fx := C92.out.pk.free 13; have px := (C92.out.pk.cell 13).trans (pkC_13 _ _)
        clear hc hm k0 k1
        obtain ⟨Y94, hY95⟩ : ∃ Y, y88.setCell ⟨w.heap.size + 1 + 1, 13, none⟩ (.string S89) = Y := ⟨_, rfl⟩
        rw [hY95] at C93
        obtain ⟨PV97, hPV98⟩ : ∃ P : Pk, { (PV85 : Pk) with pass := S89 } = P := ⟨_, rfl⟩
        rw [hPV98] at C93
        replace hPV98 := Lib.hid hPV98
        have HZ : Hid (RR = (PV97, a90, e91)) := Lib.hid (by rw [HQ63.out]; unfold cn4; rw [if_pos hb87]; simp only; rw [HS96.out, ← hPV98.out])
        have hl := ld_bk C93.out.pk
        have hst := run_stPk C93.out.res
        go_wp2
        refine bodyPost_ret (results_c1 rfl _ rfl (put_bk C93.out.res _ _)) rfl ?_
        rw [HZ.out]
        exact C93.out.fin
end Go.Proofs.YtngnaenbnmajdaaGreat
