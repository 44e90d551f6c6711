/- connect: the walks of the reader's connack, of Read. -/
import Derived.Test.YtngnaenbnmajdaaGreatCntK
namespace Go.Proofs.YtngnaenbnmajdaaGreat
open Go.RowKit
attribute [local go_sem ↓] to_ldPk to_bxPk to_bdPk to_alPk to_stPk
attribute [local go_sem] run_bxPk run_bxPk_agg ld_fresh run_alPk run_bd0 run_bdK run_bdKI run_bdKIC run_bdKC run_bdKICP run_stPk_fresh pkC_0 pkC_1 pkC_2 pkC_3 pkC_4 pkC_5 pkC_6 pkC_7 pkC_8 pkC_9 pkC_10 pkC_11 pkC_12 pkC_13 pkC_14 pkC_15 pkC_16 pkC_17 pkC_18 pkC_19 pkC_20 pkC_21 pkC_22 pkC_23 pkC_24

theorem run_bdCA (b : Bool) (c : Int) (l : List Pr) (A : Option Addr) (n : Nat) (w : World) : (bdPk #[(0, .int .i64 2), (16, .bool b), (17, .int .i64 c), (20, .slice A l.length n)]).run Tryz.prog w = .ok (pkV { pk0 with kind := 2, session := b, code := c, props := l } { hs0 with props := ⟨A, n⟩ }) w := by kernel_rfl
set_option maxHeartbeats 4000000 in
set_option maxRecDepth 10000 in
theorem connack_rd (gc : Nat) (t : ByteArray) (v : Int) (w : World) (h : Cur w gc t 0 0) (ht : t.size ≤ 140737488351232) :
    Calls Tryz.prog 32 #[.agg #[.pointer (some ⟨gc, 0, none⟩), .int .i64 v]] w (ConOut gc t (caRd v t) w) := by
  have HX := Lib.hid (BX.start h v)
  have HT := Lib.hid ht
  have HLT := Lib.hid h.lt
  have hne : w.heap.size ≠ gc := by have := h.lt; omega
  have HcF : Hid (caF t = (numS t 0 0 1, (takeS t 0 0 1).2.1, if numS t 0 0 1 ≤ 1 then (takeS t 0 0 1).2.2 else failE (takeS t 0 0 1).2.2 7)) := Lib.hid rfl
  have HcC : Hid (caC t = (numS t (caF t).2.1 (caF t).2.2 1, (takeS t (caF t).2.1 (caF t).2.2 1).2.1, (takeS t (caF t).2.1 (caF t).2.2 1).2.2)) := Lib.hid rfl
  have HcP : Hid (caP v t = prpC v 2 t (caC t).2.1 (caC t).2.2) := Lib.hid rfl
  have HcR : Hid (caRd v t = (caPk (caF t).1 (caC t).1 (caP v t).1, (caP v t).2.1, (caP v t).2.2)) := Lib.hid rfl
  generalize caRd v t = RR at *
  clear h ht
  go_enter Tryz.func32, Tryz.ntmps32
  have C0 := Lib.hid (HX.out.below ((Below.refl _ _).alloc (Nat.le_refl _) (.cells (pkC pk0 hs0) PkT)))
  have R0 : Hid (Bk ((w.alloc (.cells #[.pointer (some ⟨gc, 0, none⟩), .int .i64 v] RdrT)).alloc (.cells (pkC pk0 hs0) PkT)) (w.heap.size + 1) PkT (pkC pk0 hs0)) := Lib.hid (by simpa using Bk.fresh (w.alloc (.cells #[.pointer (some ⟨gc, 0, none⟩), .int .i64 v] RdrT)) PkT (pkC pk0 hs0))
  go_wp2_with fail
  refine (number_any gc 0 t 0 1 _ C0.out.cur (by decide)).mono ?_
  rintro e x0 ⟨rfl, hc, hm⟩
  have C1 := Lib.hid (C0.out.turn hc hm)
  have R1 := Lib.hid (R0.out.mods (S := fun z => z = gc) (Mods.of_grown hm rfl) (by have := HLT.out; omega))
  have HN1 := Lib.hid (num_one_lt t 0 0)
  clear hc hm HX C0 R0
  generalize numS t 0 0 1 = n1 at *
  generalize (takeS t 0 0 1).2.1 = a1 at *
  generalize (takeS t 0 0 1).2.2 = f1 at *
  obtain ⟨bl, hbl⟩ : ∃ b, decide ((n1 : Int) ≤ 1) = b := ⟨_, rfl⟩
  have HF : Hid (caF t = (n1, a1, if bl = true then f1 else failE f1 7)) := Lib.hid (by
    rw [HcF.out]
    by_cases hb : n1 ≤ 1
    · rw [if_pos hb, ← hbl, if_pos (decide_eq_true (by omega))]
    · rw [if_neg hb, ← hbl, if_neg (by rw [decide_eq_false (by omega)]; decide)])
  clear HcF
  have k0 : x0.cell? ⟨w.heap.size, 0, none⟩ = some (.pointer (some ⟨gc, 0, none⟩)) := C1.out.box.cell 0
  have k1 : x0.cell? ⟨w.heap.size, 1, none⟩ = some (.int .i64 v) := C1.out.box.cell 1
  go_wp2_with fail
  refine (unless_any gc _ t _ v _ 7 _ C1.out.cur).mono ?_
  rintro e x2 ⟨rfl, hcu, hmu⟩
  have HM := Lib.hid hmu
  clear hmu k0 k1
  have C2 := Lib.hid (C1.out.turn hcu HM.out)
  have R2 := Lib.hid (R1.out.mods (S := fun z => z = gc) (Mods.of_grown HM.out rfl) (by have := HLT.out; omega))
  clear hcu HM C1 R1 hbl
  generalize (if bl = true then f1 else failE f1 7) = e1 at *
  have k0 : x2.cell? ⟨w.heap.size, 0, none⟩ = some (.pointer (some ⟨gc, 0, none⟩)) := C2.out.box.cell 0
  go_wp2_with fail
  refine (number_any gc a1 t e1 1 _ C2.out.cur (by decide)).mono ?_
  rintro e x3 ⟨rfl, hc, hm⟩
  have C3 := Lib.hid (C2.out.turn hc hm)
  have R3 := Lib.hid (R2.out.mods (S := fun z => z = gc) (Mods.of_grown hm rfl) (by have := HLT.out; omega))
  have HN2 := Lib.hid (num_one_lt t a1 e1)
  have HC : Hid (caC t = (numS t a1 e1 1, (takeS t a1 e1 1).2.1, (takeS t a1 e1 1).2.2)) := Lib.hid (by rw [HcC.out, HF.out])
  clear hc hm C2 R2 HcC k0
  generalize numS t a1 e1 1 = n2 at *
  generalize (takeS t a1 e1 1).2.1 = a2 at *
  generalize (takeS t a1 e1 1).2.2 = e2 at *
  have hw2 : IntKind.i64.wrap (n2 : Int) = (n2 : Int) := by rw [IntKind.wrap_i64]; have := HN2.out; omega
  have k0 : x3.cell? ⟨w.heap.size, 0, none⟩ = some (.pointer (some ⟨gc, 0, none⟩)) := C3.out.box.cell 0
  have k1 : x3.cell? ⟨w.heap.size, 1, none⟩ = some (.int .i64 v) := C3.out.box.cell 1
  obtain ⟨b1, hb1⟩ : ∃ b, ((n1 : Int) == 1) = b := ⟨_, rfl⟩
  have HB1 : Hid (decide (n1 = 1) = b1) := Lib.hid (by rw [← hb1]; rw [Bool.eq_iff_iff, decide_eq_true_iff, beq_iff_eq]; omega)
  have HPP : Hid (caP v t = prpC v 2 t a2 e2) := Lib.hid (by rw [HcP.out, HC.out])
  go_wp2_with fail
  refine (props_rd gc a2 t e2 v 2 _ C3.out.cur HT.out).mono ?_
  rintro e x4 ⟨A, c, rfl, hlc, hr, hc, hm⟩
  rw [← HPP.out] at hlc hr hc ⊢
  generalize caP v t = r at *
  obtain ⟨l, a3, e3⟩ := r
  simp only at hlc hr hc HcR ⊢
  have C4 := Lib.hid (C3.out.turn hc hm)
  have R4 := Lib.hid (R3.out.mods (S := fun z => z = gc) (Mods.of_grown hm rfl) (by have := HLT.out; omega))
  have HLC := Lib.hid hlc; have HRD := Lib.hid hr
  clear hlc hr hc hm C3 R3 HcP HPP hb1 k0 k1
  have hbd := run_bdCA b1 (n2 : Int) l A c
  have hst := run_stPk R4.out
  obtain ⟨P, hP⟩ : ∃ P : Pk, { pk0 with kind := 2, session := b1, code := (n2 : Int), props := l } = P := ⟨_, rfl⟩
  obtain ⟨H, hH⟩ : ∃ H : Hs, { hs0 with props := ⟨A, c⟩ } = H := ⟨_, rfl⟩
  rw [hP, hH] at hbd
  have HZ : Hid (RR = (P, a3, e3)) := Lib.hid (by
    rw [HcR.out, HF.out, HC.out, ← hP]
    unfold caPk
    simp only
    rw [HB1.out])
  have HI : Hid (PkIn x4 x4.heap.size P H) := Lib.hid (by
    rw [← hP, ← hH]
    exact ⟨Rd.nil _ _ _ _, Rd.nil _ _ _ _, Rd.nil _ _ _ _, HRD.out, Nat.zero_le _, Nat.zero_le _, Nat.zero_le _, HLC.out⟩)
  have HFL : Hid (P.codes = [] ∧ P.filters = []) := Lib.hid (by rw [← hP]; exact ⟨rfl, rfl⟩)
  clear hP hH HcR HF HC HB1 HRD HLC
  go_wp2
  refine bodyPost_ret (results_c1 rfl _ rfl (put_bk R4.out _ _)) rfl ?_
  rw [HZ.out]
  have hm := putPk_mods x4 (w.heap.size + 1) P H
  have hg := C4.out.mods
  exact ⟨H, rfl, HI.out.blk HFL.out.1 HFL.out.2 R4.out (pk_no32 _ _) hm, HFL.out, ⟨C4.out.cur.1.mods (S := fun z => z = w.heap.size + 1) (Mods.of_grown hm rfl) (by have := HLT.out; omega), C4.out.cur.2⟩,
    ⟨hm.os.trans hg.os, hm.tape.trans hg.tape, hm.output.trans hg.output, Nat.le_trans hg.size hm.size, fun i hi hn => (hm.block i (by have := hg.size; omega) (fun e => by cases e; omega)).trans (hg.block i hi hn)⟩⟩

/-! ### Sizes of what is read -/
theorem prp_good {v k : Int} {t : ByteArray} {a : Nat} {e : Int} (ht : t.size ≤ 140737488351232) : (∀ p ∈ (prpC v k t a e).1, prGood p) ∧ (prpC v k t a e).1.length ≤ 1000 := by
  unfold prpC
  split
  · exact ⟨fun _ h => (nomatch h), Nat.zero_le _⟩
  · refine ⟨readP_good (by rw [ByteArray.size_extract]; omega), ?_⟩
    show (readP k (t.extract a t.size)).1.length ≤ 1000
    by_cases h : (readP k (t.extract a t.size)).2.2 = 0
    · exact readP_len h
    · rw [readP_bad h]; exact Nat.zero_le _
theorem prp_le {v k : Int} {t : ByteArray} {a : Nat} {e : Int} (h : a ≤ t.size) : (prpC v k t a e).2.1 ≤ t.size := by
  unfold prpC
  split
  · exact h
  · have := readP_le k (t.extract a t.size)
    rw [ByteArray.size_extract] at this
    show a + (readP k (t.extract a t.size)).2.1 ≤ t.size
    omega
theorem txt_lt (t : ByteArray) (a : Nat) (e : Int) (ha : a ≤ t.size) : (txtC t a e).1.size ≤ 65535 ∧ (txtC t a e).2.1 ≤ t.size := ⟨binC_lt t a e ha, binC_le t a e ha⟩
/-- A packet that is read may be looked at. -/
structure RdOk (t : ByteArray) (r : Pk × Nat × Int) : Prop where
  ok : PkOk r.1
  le : r.2.1 ≤ t.size
theorem cn1_ok {v : Int} {t : ByteArray} (ht : t.size ≤ 140737488351232) : RdOk t (cn1 v t) := by
  have h0 : (takeS t 0 0 6).2.1 ≤ t.size := takeS_le (Nat.zero_le _) _ _
  have h1 : (cnV v t).1 ≤ t.size := takeS_le h0 _ _
  have h2 : (cnF v t).2.1 ≤ t.size := takeS_le h1 _ _
  have h3 : (cnK v t).2.1 ≤ t.size := takeS_le h2 _ _
  have h4 : (cnP v t).2.1 ≤ t.size := prp_le h3
  have h5 := txt_lt t (cnP v t).2.1 (cnP v t).2.2 h4
  have h6 : (∀ p ∈ (cnP v t).1, prGood p) ∧ (cnP v t).1.length ≤ 1000 := prp_good ht
  have hc : (cnT v t).1.size ≤ 65535 := h5.1
  exact ⟨⟨fun _ h => (nomatch h), h6.1, fun _ h => (nomatch h), ⟨Nat.zero_le _, Nat.zero_le _, Nat.le_trans hc (by decide), Nat.zero_le _, Nat.zero_le _, Nat.zero_le _, Nat.zero_le _⟩, Nat.zero_le _, Nat.zero_le _, Nat.zero_le _, Nat.le_trans h6.2 (by decide)⟩, h5.2⟩
theorem cn2_ok {v : Int} {t : ByteArray} (ht : t.size ≤ 140737488351232) {r : Pk × Nat × Int} (g : RdOk t r) : RdOk t (cn2 v t r) := by
  unfold cn2
  split
  · have h1 : (cnWP v t r.2.1 r.2.2).2.1 ≤ t.size := prp_le g.le
    have h2 := txt_lt t _ (cnWP v t r.2.1 r.2.2).2.2 h1
    have h3 : (cnWB v t r.2.1 r.2.2).1.size ≤ 65535 := binC_lt t _ _ h2.2
    have h4 : (cnWB v t r.2.1 r.2.2).2.1 ≤ t.size := binC_le t _ _ h2.2
    have h5 : (∀ p ∈ (cnWP v t r.2.1 r.2.2).1, prGood p) ∧ (cnWP v t r.2.1 r.2.2).1.length ≤ 1000 := prp_good ht
    have hc : (cnWT v t r.2.1 r.2.2).1.size ≤ 65535 := h2.1
    have hg := g.ok.texts
    exact ⟨⟨h5.1, g.ok.props, g.ok.topics, ⟨hg.1, hg.2.1, hg.2.2.1, hg.2.2.2.1, hg.2.2.2.2.1, Nat.le_trans hc (by decide), Nat.le_trans h3 (by decide)⟩, Nat.le_trans h5.2 (by decide), g.ok.lens.2⟩, h4⟩
  · exact g
theorem cn3_ok {t : ByteArray} {r : Pk × Nat × Int} (g : RdOk t r) : RdOk t (cn3 t r) := by
  unfold cn3
  split
  · have h2 := txt_lt t r.2.1 r.2.2 g.le
    have hg := g.ok.texts
    exact ⟨⟨g.ok.wp, g.ok.props, g.ok.topics, ⟨hg.1, hg.2.1, hg.2.2.1, Nat.le_trans h2.1 (by decide), hg.2.2.2.2.1, hg.2.2.2.2.2⟩, g.ok.lens⟩, h2.2⟩
  · exact g
theorem cn4_ok {t : ByteArray} {r : Pk × Nat × Int} (g : RdOk t r) : RdOk t (cn4 t r) := by
  unfold cn4
  split
  · have h2 := binC_lt t r.2.1 r.2.2 g.le
    have hg := g.ok.texts
    exact ⟨⟨g.ok.wp, g.ok.props, g.ok.topics, ⟨hg.1, hg.2.1, hg.2.2.1, hg.2.2.2.1, Nat.le_trans h2 (by decide), hg.2.2.2.2.2⟩, g.ok.lens⟩, binC_le t _ _ g.le⟩
  · exact g
theorem cnRd_ok {v : Int} {t : ByteArray} (ht : t.size ≤ 140737488351232) : RdOk t (cnRd v t) := cn4_ok (cn3_ok (cn2_ok ht (cn1_ok ht)))
theorem caRd_ok {v : Int} {t : ByteArray} (ht : t.size ≤ 140737488351232) : RdOk t (caRd v t) := by
  have h1 : (caF t).2.1 ≤ t.size := takeS_le (Nat.zero_le _) _ _
  have h2 : (caC t).2.1 ≤ t.size := takeS_le h1 _ _
  have h6 : (∀ p ∈ (caP v t).1, prGood p) ∧ (caP v t).1.length ≤ 1000 := prp_good ht
  exact ⟨⟨fun _ h => (nomatch h), h6.1, fun _ h => (nomatch h), ⟨Nat.zero_le _, Nat.zero_le _, Nat.zero_le _, Nat.zero_le _, Nat.zero_le _, Nat.zero_le _, Nat.zero_le _⟩, Nat.zero_le _, Nat.zero_le _, Nat.zero_le _, Nat.le_trans h6.2 (by decide)⟩, prp_le h2⟩

/-- What stands while Read goes: the result's block, the cursor, the reader, the packet. -/
structure RS (w : World) (gc gr gp : Nat) (v : Int) (p : Pk) (h : Hs) (t : ByteArray) (a : Nat) (e : Int) (x : World) : Prop where
  kept : Below w.heap.size w x
  res : Bk x w.heap.size PkT (pkC pk0 hs0)
  box : Bk x gr RdrT #[.pointer (some ⟨gc, 0, none⟩), .int .i64 v]
  pk : Bk x gp PkT (pkC p h)
  into : PkIn x x.heap.size p h
  flat : p.codes = [] ∧ p.filters = []
  cur : Cur x gc t a e
  ne : w.heap.size < gc ∧ gc < gr ∧ gr < gp
section
variable {w x y : World} {gc gr gp : Nat} {v : Int} {p p' : Pk} {h h' : Hs} {t : ByteArray} {a a' : Nat} {e e' : Int}
theorem RS.below (c : RS w gc gr gp v p h t a e x) (hb : Below x.heap.size x y) : RS w gc gr gp v p h t a e y :=
  ⟨c.kept.trans (hb.mono c.kept.size), c.res.below hb c.res.lt, c.box.below hb c.box.lt, c.pk.below hb c.pk.lt, c.into.next hb, c.flat, c.cur.below hb, c.ne⟩
theorem RS.drewN (c : RS w gc gr gp v p h t a e x) (n : Nat) : RS w gc gr gp v p h t a e (x.drewN n) := c.below (below_drawn (Below.refl _ _) n)
theorem RS.turn (c : RS w gc gr gp v p h t a e x) (hc : Cur y gc t a' e') (hm : x.grownBy y (some gc)) : RS w gc gr gp v p h t a' e' y :=
  ⟨below_mod c.kept hm c.kept.size (Nat.le_of_lt c.ne.1), c.res.mods (S := fun z => z = gc) (Mods.of_grown hm rfl) (by have := c.ne; omega), c.box.mods (S := fun z => z = gc) (Mods.of_grown hm rfl) (by have := c.ne; omega),
    c.pk.mods (S := fun z => z = gc) (Mods.of_grown hm rfl) (by have := c.ne; omega), c.into.blk c.flat.1 c.flat.2 c.cur.1 (cur_no32 _ _ _) hm, c.flat, hc, c.ne⟩
/-- The packet that was read, stored. -/
theorem RS.put (c : RS w gc gr gp v p h t a e x) (hi : PkIn x x.heap.size p' h') (hf : p'.codes = [] ∧ p'.filters = []) : RS w gc gr gp v p' h' t a e (putPk x gp p' h') := by
  have hm := putPk_mods x gp p' h'
  exact ⟨below_put c.kept c.kept.size (by have := c.ne; omega) _ _, c.res.mods (S := fun z => z = gp) (Mods.of_grown hm rfl) (by have := c.ne; omega), c.box.mods (S := fun z => z = gp) (Mods.of_grown hm rfl) (by have := c.ne; omega),
    put_bk c.pk _ _, hi.blk hf.1 hf.2 c.pk (pk_no32 _ _) hm, hf, ⟨c.cur.1.mods (S := fun z => z = gp) (Mods.of_grown hm rfl) (by have := c.ne; omega), c.cur.2⟩, c.ne⟩
theorem RS.bad (c : RS w gc gr gp v p h t a e x) {r : Pk × Int} {n : Int} (hr : r = (pk0, n)) : PkOut r w (.returned (.tuple #[pkV pk0 hs0, .int .i64 n])) (putPk x w.heap.size pk0 hs0) :=
  pkOut_bad hr (below_put c.kept c.kept.size (Nat.le_refl _) _ _)
theorem RS.good (c : RS w gc gr gp v p h t a e x) {r : Pk × Int} (hr : r = (p, 0)) : PkOut r w (.returned (.tuple #[pkV p h, .int .i64 0])) (putPk x w.heap.size p h) :=
  pkOut_ok hr (c.into.blk c.flat.1 c.flat.2 c.res (pk_no32 _ _) (putPk_mods _ _ _ _)) (below_put c.kept c.kept.size (Nat.le_refl _) _ _)
end
set_option maxHeartbeats 8000000 in
set_option maxRecDepth 10000 in
theorem cntRead_any (v k : Int) (s : ByteArray) (w : World) (hs : s.size ≤ 140737488351232) :
    Calls Tryz.prog 9 #[.int .i64 v, .int .i64 k, .string s] w (PkOut (cntR v k s) w) := by
  have HS := Lib.hid hs
  have HB0 := Lib.hid ((Below.refl w.heap.size w).alloc (Nat.le_refl _) (.cells (pkC pk0 hs0) PkT))
  have HR0 := Lib.hid (Bk.fresh w PkT (pkC pk0 hs0))
  have hst0 := run_stPk HR0.out
  have HE : Hid (cntR v k s = if hdKnown v = false ∨ cntOurs k = false then (pk0, 2) else cnDone v s (if k = 1 then cnRd v s else caRd v s)) := Lib.hid rfl
  clear hs
  go_enter Tryz.func9, Tryz.ntmps9
  go_wp2_with fail
  refine (cntKnown_any v _).mono ?_
  rintro e w1 ⟨rfl, rfl⟩
  cases hk : hdKnown v
  · have HX : Hid (cntR v k s = (pk0, 2)) := Lib.hid (by rw [HE.out, if_pos (.inl hk)])
    clear hk
    go_wp2
    refine bodyPost_ret (results_pk rfl _ rfl (put_bk HR0.out _ _)) rfl ?_
    exact pkOut_bad HX.out (below_put HB0.out HB0.out.size (Nat.le_refl _) _ _)
  go_wp2_with fail
  refine (cntOurs_any k _).mono ?_
  rintro e w1 ⟨rfl, rfl⟩
  cases ho : cntOurs k
  · have HX : Hid (cntR v k s = (pk0, 2)) := Lib.hid (by rw [HE.out, if_pos (.inr ho)])
    clear hk ho
    go_wp2
    refine bodyPost_ret (results_pk rfl _ rfl (put_bk HR0.out _ _)) rfl ?_
    exact pkOut_bad HX.out (below_put HB0.out HB0.out.size (Nat.le_refl _) _ _)
  have HV : Hid (v = 4 ∨ v = 5) := Lib.hid (of_decide_eq_true (show decide (v = 4 ∨ v = 5) = true from hk))
  have HF : Hid (cntR v k s = cnDone v s (if k = 1 then cnRd v s else caRd v s)) := Lib.hid (by rw [HE.out, if_neg (fun x => x.elim (fun y => by rw [hk] at y; cases y) (fun y => by rw [ho] at y; cases y))])
  clear hk ho hst0 HE
  go_wp2_with fail
  refine (newCur_any s _ (by have := HS.out; omega)).mono ?_
  rintro e w1 ⟨rfl, hcu, hb⟩
  have hgc : (w.alloc (.cells (pkC pk0 hs0) PkT)).heap.size = w.heap.size + 1 := by simp
  rw [hgc] at hcu ⊢
  have HZ := Lib.hid hcu.lt
  have I0 : Hid (RS w (w.heap.size + 1) w1.heap.size (w1.heap.size + 1) v pk0 hs0 s 0 0 ((w1.alloc (.cells #[.pointer (some ⟨w.heap.size + 1, 0, none⟩), .int .i64 v] RdrT)).alloc (.cells (pkC pk0 hs0) PkT))) := Lib.hid
    ⟨((HB0.out.trans (hb.mono HB0.out.size)).alloc (HB0.out.trans (hb.mono HB0.out.size)).size _).alloc (by have := (HB0.out.trans (hb.mono HB0.out.size)).size; simp; omega) _, ((HR0.out.below hb HR0.out.lt).alloc _).alloc _, (Bk.fresh w1 RdrT _).alloc _,
      (by simpa using Bk.fresh (w1.alloc (.cells #[.pointer (some ⟨w.heap.size + 1, 0, none⟩), .int .i64 v] RdrT)) PkT (pkC pk0 hs0)), pk0_in _ _, ⟨rfl, rfl⟩, ⟨(hcu.1.alloc _).alloc _, hcu.2⟩, by omega, HZ.out, by omega⟩
  have hbox := Bk.fresh w1 RdrT #[.pointer (some ⟨w.heap.size + 1, 0, none⟩), .int .i64 v]
  clear hcu hb hgc HB0 HR0 HZ
  by_cases hk1 : k = 1
  · have e1 : (k == 1) = true := beq_iff_eq.2 hk1
    have HG : Hid (cntR v k s = cnDone v s (cnRd v s)) := Lib.hid (by rw [HF.out, if_pos hk1])
    have HOK := Lib.hid (cnRd_ok (v := v) HS.out).ok
    clear hk1
    go_wp2_with fail
    refine (connect_rd (w.heap.size + 1) s v _ I0.out.cur HS.out HV.out).mono ?_
    rintro e y ⟨kk, rfl, hi, hf, hc, hm⟩
    generalize cnRd v s = r at *
    obtain ⟨P, a, e⟩ := r
    simp only at hi hf hc HOK ⊢
    have I1 := Lib.hid (I0.out.turn hc hm)
    have I2 := Lib.hid (I1.out.put hi hf)
    have hst := run_stPk I1.out.pk
    clear hi hf hc hm hbox
    obtain ⟨Y, hY⟩ : ∃ Y, putPk y (w1.heap.size + 1) P kk = Y := ⟨_, rfl⟩
    rw [hY] at I2
    obtain ⟨bz, hbz⟩ : ∃ b, (((s.size - a : Nat) : Int) == 0) = b := ⟨_, rfl⟩
    have HEN : Hid (cnEnd s (P, a, e) = if bz = true then e else failE e 5) := Lib.hid (by
      unfold cnEnd
      simp only
      by_cases hz : s.size - a = 0
      · rw [if_pos hz, ← hbz, if_pos (by rw [hz]; rfl)]
      · rw [if_neg hz, ← hbz, if_neg (by intro x; exact hz (by have := beq_iff_eq.1 x; omega))])
    have hsb : SB w1.heap.size (w.heap.size + 1) v Y Y := ⟨I2.out.box.cell 0, I2.out.box.cell 1, mod_refl _ _⟩
    have hne : w1.heap.size ≠ w.heap.size + 1 := by have := I2.out.ne; omega
    go_wp2_with fail
    clear hst hY
    go_region_held3 (fun x => x.cell? ⟨w1.heap.size, 0, none⟩ = some (.pointer (some ⟨w.heap.size + 1, 0, none⟩)) ∧ x.cell? ⟨w1.heap.size, 1, none⟩ = some (.int .i64 v) ∧ Y.grownBy x (some (w.heap.size + 1)))
      (first | exact SB.below hsb (below_drawn (Below.refl _ _) _) | exact SB.below (by assumption) hm1 | exact SB.turn (by assumption) hmu hne | go_keep)
      (first | (go_at_call 34; refine (left_any (w.heap.size + 1) a s e _ (I2.out.drewN 1).cur).mono ?_; rintro e x1 ⟨rfl, hm1⟩)
             | (go_at_call 33; refine (unless_any (w.heap.size + 1) a s e v _ 5 _ ((I2.out.drewN 1).below hm1).cur).mono ?_; rintro e x2 ⟨rfl, hcu, hmu⟩))
    have HM := Lib.hid (show SB w1.heap.size (w.heap.size + 1) v Y x2 by assumption).2.2
    clear hsb hmu hm1 hne hbz
    have I3 := Lib.hid (I2.out.turn hcu HM.out)
    clear hcu HM I2 I1 I0
    generalize (if bz = true then e else failE e 5) = e3 at *
    have k0 : x2.cell? ⟨w1.heap.size, 0, none⟩ = some (.pointer (some ⟨w.heap.size + 1, 0, none⟩)) := I3.out.box.cell 0
    go_wp2_with fail
    refine (err_any (w.heap.size + 1) a s e3 _ I3.out.cur).mono ?_
    rintro e' w2 ⟨rfl, rfl⟩
    have hst := run_stPk I3.out.res
    by_cases h3 : e3 = 0
    rotate_left
    · have b3 : (e3 != 0) = true := bne_iff_ne.2 h3
      have HX : Hid (cntR v k s = (pk0, e3)) := Lib.hid (by rw [HG.out]; unfold cnDone; rw [HEN.out, if_pos h3])
      clear h3
      go_wp2
      refine bodyPost_ret (results_pk rfl _ rfl (put_bk I3.out.res _ _)) rfl ?_
      exact I3.out.bad HX.out
    have HG2 : Hid (cntR v k s = if cntE v P ≠ 0 then (pk0, cntE v P) else (P, 0)) := Lib.hid (by rw [HG.out]; unfold cnDone; rw [HEN.out, if_neg (fun x => x h3)])
    have b3 : (e3 != 0) = false := by rw [h3]; rfl
    have hl := ld_bk I3.out.pk
    clear h3 hst
    go_wp2_with fail
    refine (cntValid_any v P kk _ I3.out.into HOK.out).mono ?_
    rintro e' x3 ⟨rfl, hb⟩
    have I4 := Lib.hid (I3.out.below hb)
    have hst := run_stPk I4.out.res
    have hl := ld_bk I4.out.pk
    clear hb k0
    generalize cntE v P = E at *
    by_cases hE : E = 0
    · have HX : Hid (cntR v k s = (P, 0)) := Lib.hid (by rw [HG2.out, if_neg (fun x => x hE)])
      have bE : (E != 0) = false := by rw [hE]; rfl
      clear hE
      go_wp2
      refine bodyPost_ret (results_pk rfl _ rfl (put_bk I4.out.res _ _)) rfl ?_
      exact I4.out.good HX.out
    · have HX : Hid (cntR v k s = (pk0, E)) := Lib.hid (by rw [HG2.out, if_pos hE])
      have bE : (E != 0) = true := bne_iff_ne.2 hE
      clear hE
      go_wp2
      refine bodyPost_ret (results_pk rfl _ rfl (put_bk I4.out.res _ _)) rfl ?_
      exact I4.out.bad HX.out
  · have e1 : (k == 1) = false := beq_eq_false_iff_ne.2 hk1
    have HG : Hid (cntR v k s = cnDone v s (caRd v s)) := Lib.hid (by rw [HF.out, if_neg hk1])
    have HOK := Lib.hid (caRd_ok (v := v) HS.out).ok
    clear hk1
    go_wp2_with fail
    refine (connack_rd (w.heap.size + 1) s v _ I0.out.cur HS.out).mono ?_
    rintro e y ⟨kk, rfl, hi, hf, hc, hm⟩
    generalize caRd v s = r at *
    obtain ⟨P, a, e⟩ := r
    simp only at hi hf hc HOK ⊢
    have I1 := Lib.hid (I0.out.turn hc hm)
    have I2 := Lib.hid (I1.out.put hi hf)
    have hst := run_stPk I1.out.pk
    clear hi hf hc hm hbox
    obtain ⟨Y, hY⟩ : ∃ Y, putPk y (w1.heap.size + 1) P kk = Y := ⟨_, rfl⟩
    rw [hY] at I2
    obtain ⟨bz, hbz⟩ : ∃ b, (((s.size - a : Nat) : Int) == 0) = b := ⟨_, rfl⟩
    have HEN : Hid (cnEnd s (P, a, e) = if bz = true then e else failE e 5) := Lib.hid (by
      unfold cnEnd
      simp only
      by_cases hz : s.size - a = 0
      · rw [if_pos hz, ← hbz, if_pos (by rw [hz]; rfl)]
      · rw [if_neg hz, ← hbz, if_neg (by intro x; exact hz (by have := beq_iff_eq.1 x; omega))])
    have hsb : SB w1.heap.size (w.heap.size + 1) v Y Y := ⟨I2.out.box.cell 0, I2.out.box.cell 1, mod_refl _ _⟩
    have hne : w1.heap.size ≠ w.heap.size + 1 := by have := I2.out.ne; omega
    go_wp2_with fail
    clear hst hY
    go_region_held3 (fun x => x.cell? ⟨w1.heap.size, 0, none⟩ = some (.pointer (some ⟨w.heap.size + 1, 0, none⟩)) ∧ x.cell? ⟨w1.heap.size, 1, none⟩ = some (.int .i64 v) ∧ Y.grownBy x (some (w.heap.size + 1)))
      (first | exact SB.below hsb (below_drawn (Below.refl _ _) _) | exact SB.below (by assumption) hm1 | exact SB.turn (by assumption) hmu hne | go_keep)
      (first | (go_at_call 34; refine (left_any (w.heap.size + 1) a s e _ (I2.out.drewN 1).cur).mono ?_; rintro e x1 ⟨rfl, hm1⟩)
             | (go_at_call 33; refine (unless_any (w.heap.size + 1) a s e v _ 5 _ ((I2.out.drewN 1).below hm1).cur).mono ?_; rintro e x2 ⟨rfl, hcu, hmu⟩))
    have HM := Lib.hid (show SB w1.heap.size (w.heap.size + 1) v Y x2 by assumption).2.2
    clear hsb hmu hm1 hne hbz
    have I3 := Lib.hid (I2.out.turn hcu HM.out)
    clear hcu HM I2 I1 I0
    generalize (if bz = true then e else failE e 5) = e3 at *
    have k0 : x2.cell? ⟨w1.heap.size, 0, none⟩ = some (.pointer (some ⟨w.heap.size + 1, 0, none⟩)) := I3.out.box.cell 0
    go_wp2_with fail
    refine (err_any (w.heap.size + 1) a s e3 _ I3.out.cur).mono ?_
    rintro e' w2 ⟨rfl, rfl⟩
    have hst := run_stPk I3.out.res
    by_cases h3 : e3 = 0
    rotate_left
    · have b3 : (e3 != 0) = true := bne_iff_ne.2 h3
      have HX : Hid (cntR v k s = (pk0, e3)) := Lib.hid (by rw [HG.out]; unfold cnDone; rw [HEN.out, if_pos h3])
      clear h3
      go_wp2
      refine bodyPost_ret (results_pk rfl _ rfl (put_bk I3.out.res _ _)) rfl ?_
      exact I3.out.bad HX.out
    have HG2 : Hid (cntR v k s = if cntE v P ≠ 0 then (pk0, cntE v P) else (P, 0)) := Lib.hid (by rw [HG.out]; unfold cnDone; rw [HEN.out, if_neg (fun x => x h3)])
    have b3 : (e3 != 0) = false := by rw [h3]; rfl
    have hl := ld_bk I3.out.pk
    clear h3 hst
    go_wp2_with fail
    refine (cntValid_any v P kk _ I3.out.into HOK.out).mono ?_
    rintro e' x3 ⟨rfl, hb⟩
    have I4 := Lib.hid (I3.out.below hb)
    have hst := run_stPk I4.out.res
    have hl := ld_bk I4.out.pk
    clear hb k0
    generalize cntE v P = E at *
    by_cases hE : E = 0
    · have HX : Hid (cntR v k s = (P, 0)) := Lib.hid (by rw [HG2.out, if_neg (fun x => x hE)])
      have bE : (E != 0) = false := by rw [hE]; rfl
      clear hE
      go_wp2
      refine bodyPost_ret (results_pk rfl _ rfl (put_bk I4.out.res _ _)) rfl ?_
      exact I4.out.good HX.out
    · have HX : Hid (cntR v k s = (pk0, E)) := Lib.hid (by rw [HG2.out, if_pos hE])
      have bE : (E != 0) = true := bne_iff_ne.2 hE
      clear hE
      go_wp2
      refine bodyPost_ret (results_pk rfl _ rfl (put_bk I4.out.res _ _)) rfl ?_
      exact I4.out.bad HX.out
end Go.Proofs.YtngnaenbnmajdaaGreat
