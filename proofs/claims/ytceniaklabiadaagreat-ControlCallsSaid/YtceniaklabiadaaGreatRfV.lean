/- Reference 10: Body, Next, Rest; reference 08: Done. -/
import Derived.Test.YtceniaklabiadaaGreatRfU
import Derived.Deep.RegionLaw
namespace Go.Proofs.YtceniaklabiadaaGreat
open Go.RowKit
attribute [local go_sem ↓] to_ldPk to_bxPk to_bdPk to_alPk to_stPk
attribute [local go_sem] run_bxPk run_bxPk_agg ld_fresh run_alPk run_bd0 run_bdK run_bdKI run_bdKIC run_bdKC run_bdKICP run_stPk_fresh pkC_0 pkC_1 pkC_2 pkC_3 pkC_4 pkC_5 pkC_6 pkC_7 pkC_8 pkC_9 pkC_10 pkC_11 pkC_12 pkC_13 pkC_14 pkC_15 pkC_16 pkC_17 pkC_18 pkC_19 pkC_20 pkC_21 pkC_22 pkC_23 pkC_24

theorem ack_short {v : Int} {p : Pk} (g : AckGood v p) : shortB v p.kind p.code p.props = ⟨(ackT p).toArray⟩ := by
  unfold shortB
  by_cases h5 : v = 5
  · rw [if_pos h5]
    rfl
  · obtain ⟨e1, e2⟩ := g.old ((ackK_four g.k).resolve_right h5)
    rw [if_neg h5, ackT, if_pos ⟨e1, by rw [e2]; rfl⟩]
set_option maxHeartbeats 1000000 in
set_option maxRecDepth 10000 in
theorem refAckBody_any (v : Int) (p : Pk) (h : Hs) (w : World) (ip : PkIn w w.heap.size p h) (ok : PkOk p) :
    Calls Tryz.prog 14 #[.int .i64 v, pkV p h] w fun e w' => e = .returned (.tuple #[.string ⟨(ackB v p).1.toArray⟩, .int .i64 (ackB v p).2]) ∧ Below w.heap.size w w' := by
  have OK := Lib.hid ok
  have S0 := Lib.hid ((St.start w).push ip)
  have HE : Hid (ackB v p = if ackE v p = 0 then (putL p.id.toNat 2 ++ ackT p, 0) else ([], ackE v p)) := Lib.hid rfl
  clear ip ok
  go_enter Tryz.func14, Tryz.ntmps14
  have hl := S0.out.ld 0 rfl
  go_wp2_with fail
  refine (refAckValid_any v p h _ (S0.out.into 0 rfl) OK.out).mono ?_
  rintro e w1 ⟨rfl, hb⟩
  have S1 := Lib.hid (S0.out.below hb); clear hb hl
  by_cases he : ackE v p = 0
  rotate_left
  · have e0 : (ackE v p != 0) = true := bne_iff_ne.2 he
    have HX : Hid (ackB v p = ([], ackE v p)) := Lib.hid (by rw [HE.out, if_neg he])
    clear he
    go_wp2
    go_ret2
    exact ⟨by rw [HX.out]; rfl, S1.out.kept⟩
  have HX : Hid (ackB v p = (putL p.id.toNat 2 ++ ackT p, 0)) := Lib.hid (by rw [HE.out, if_pos he])
  have G := Lib.hid (ackE_good he)
  rw [he]
  clear he
  obtain ⟨m, hm, hw1⟩ : ∃ m : Nat, Hid (p.id.toNat = m) ∧ IntKind.u64.wrap p.id = (m : Int) := ⟨_, Lib.hid rfl, by rw [IntKind.wrap_u64]; have := G.out.id1; have := G.out.id2; omega⟩
  have HM : Hid (m < 65536) := Lib.hid (by have := hm.out; have := G.out.id2; omega)
  obtain ⟨X, hX⟩ : ∃ X : ByteArray, (⟨(putL m 2).toArray⟩ : ByteArray) = X := ⟨_, rfl⟩
  have hXS : X.size = 2 := by rw [← hX, mk_size, putL_len]
  obtain ⟨Z, hZ⟩ : ∃ Z : ByteArray, shortB v p.kind p.code p.props = Z := ⟨_, rfl⟩
  have hZS : Z.size ≤ 131075005 := by rw [← hZ]; exact shortB_all _ _ _ _
  have HW : Hid (((⟨(ackB v p).1.toArray⟩ : ByteArray), (ackB v p).2) = (X ++ Z, 0)) := Lib.hid (by
    rw [HX.out, hm.out, ← hX, ← hZ, ack_short G.out]
    simp only
    rw [ap2])
  have q0 := regrown (W := w1) (fun x hx => refPut_any m 2 x (by have := HM.out; omega) (by omega) (by omega))
  rw [show ((2 : Nat) : Int) = 2 from rfl] at q0
  rw [hX] at q0
  have q1 := regrown (W := w1) (fun x hx => refShort_any v p.kind p.code p.props _ rfl ⟨G.out.c1, G.out.c2⟩ OK.out.props h.props.a h.props.c x ((S1.out.below hx).into 0 rfl).props OK.out.len.2.2.2 (S1.out.into 0 rfl).caps.2.2.2)
  rw [hZ] at q1
  have k0 := cell_regrown (show w1.cell? ⟨w.heap.size, 0, none⟩ = some (.int .i64 p.kind) from S1.out.cell 0 rfl 0)
  have k4 := cell_regrown (show w1.cell? ⟨w.heap.size, 4, none⟩ = some (.int .i64 p.id) from S1.out.cell 0 rfl 4)
  have k21 := cell_regrown (show w1.cell? ⟨w.heap.size, 21, none⟩ = some (.int .i64 p.code) from S1.out.cell 0 rfl 21)
  have k24 := cell_regrown (show w1.cell? ⟨w.heap.size, 24, none⟩ = some (.slice h.props.a p.props.length h.props.c) from S1.out.cell 0 rfl 24)
  have hs1 : ¬ (9223372036854775807 < X.size + Z.size) := by omega
  have HBQ := Lib.hid (fun d os => S1.out.kept.trans ((below_regrown w1 d os).mono S1.out.kept.size))
  clear hX hZ hXS hZS
  go_wp2_with fail
  refine wp_region_quiet_below (by kernel_rfl) (by kernel_rfl) ?_
  repeat (go_big_quiet_step (first | with_reducible exact q0 _ _ | with_reducible exact q1 _ _))
  refine wpQuiet_nil ?_
  intro _ hw'
  obtain ⟨⟨dq, osq⟩, hw''⟩ := hw'
  subst hw''
  have KF := Lib.hid (HBQ.out dq osq)
  clear q0 q1 k0 k4 k21 k24 HBQ
  generalize Sort.grow (redrawn _ dq) osq = wq at *
  go_wp2
  go_ret2
  refine ⟨?_, KF.out⟩
  have hx1 := congrArg Prod.fst HW.out
  have hx2 := congrArg Prod.snd HW.out
  simp only at hx1 hx2
  rw [hx1, hx2]
  rfl

set_option maxHeartbeats 1000000 in
set_option maxRecDepth 10000 in
theorem refAckNext_any (p : Pk) (h : Hs) (w : World) :
    Calls Tryz.prog 18 #[pkV p h] w fun e w' => e = .returned (.tuple #[pkV (ackN p).1 hs0, .bool (ackN p).2]) ∧ Below w.heap.size w w' := by
  have hb2 := below_two w (.cells (pkC p h) PkT) (.cells (pkC pk0 hs0) PkT)
  have B1 : Bk ((w.alloc (.cells (pkC p h) PkT)).alloc (.cells (pkC pk0 hs0) PkT)) w.heap.size PkT (pkC p h) := (Bk.fresh w PkT (pkC p h)).alloc _
  have B2 : Bk ((w.alloc (.cells (pkC p h) PkT)).alloc (.cells (pkC pk0 hs0) PkT)) (w.heap.size + 1) PkT (pkC pk0 hs0) := by
    have := Bk.fresh (w.alloc (.cells (pkC p h) PkT)) PkT (pkC pk0 hs0)
    rwa [show (w.alloc (.cells (pkC p h) PkT)).heap.size = w.heap.size + 1 by simp] at this
  generalize hW : (w.alloc (.cells (pkC p h) PkT)).alloc (.cells (pkC pk0 hs0) PkT) = W at hb2 B1 B2
  have HW := Lib.hid hW
  have HB := Lib.hid hb2; have H1 := Lib.hid B1; have H2 := Lib.hid B2
  clear hb2 B1 B2
  have k1 := fun i => H1.out.cell i
  have st := fun q k => run_stPk H2.out q k
  have HE : Hid (ackN p = if p.kind = 5 then (if badB p.code = true ∨ 255 < p.code then (pk0, false) else (ackQ 6 p.id 0, true)) else if p.kind = 6 then (ackQ 7 p.id 0, true) else (pk0, false)) := Lib.hid rfl
  have HBC : Hid ((badB p.code = true ∨ 255 < p.code) ↔ ¬ p.code < 128) := Lib.hid (by unfold badB; simp; omega)
  go_enter Tryz.func18, Tryz.ntmps18
  by_cases h5 : p.kind = 5
  · have e5 : (p.kind == 5) = true := beq_iff_eq.2 h5
    by_cases hc : p.code < 128
    · have HX : Hid (ackN p = (ackQ 6 p.id 0, true)) := Lib.hid (by rw [HE.out, if_pos h5, if_neg (fun x => HBC.out.1 x hc)])
      have dc : decide (p.code < (128 : Int)) = true := decide_eq_true hc
      clear h5 hc
      go_wp2
      refine bodyPost_ret (results_pk rfl _ rfl (put_bk H2.out (ackQ 6 p.id 0) hs0)) rfl ?_
      exact ⟨by rw [HX.out]; rfl, below_put HB.out HB.out.size (Nat.le_succ _) _ _⟩
    · have HX : Hid (ackN p = (pk0, false)) := Lib.hid (by rw [HE.out, if_pos h5, if_pos (HBC.out.2 hc)])
      have dc : decide (p.code < (128 : Int)) = false := decide_eq_false hc
      have e6 : (p.kind == 6) = false := beq_eq_false_iff_ne.2 (by omega)
      clear h5 hc
      go_wp2
      refine bodyPost_ret (results_pk rfl _ rfl (put_bk H2.out pk0 hs0)) rfl ?_
      exact ⟨by rw [HX.out]; rfl, below_put HB.out HB.out.size (Nat.le_succ _) _ _⟩
  · have e5 : (p.kind == 5) = false := beq_eq_false_iff_ne.2 h5
    by_cases h6 : p.kind = 6
    · have e6 : (p.kind == 6) = true := beq_iff_eq.2 h6
      have HX : Hid (ackN p = (ackQ 7 p.id 0, true)) := Lib.hid (by rw [HE.out, if_neg h5, if_pos h6])
      clear h5 h6
      go_wp2
      refine bodyPost_ret (results_pk rfl _ rfl (put_bk H2.out (ackQ 7 p.id 0) hs0)) rfl ?_
      exact ⟨by rw [HX.out]; rfl, below_put HB.out HB.out.size (Nat.le_succ _) _ _⟩
    · have e6 : (p.kind == 6) = false := beq_eq_false_iff_ne.2 h6
      have HX : Hid (ackN p = (pk0, false)) := Lib.hid (by rw [HE.out, if_neg h5, if_neg h6])
      clear h5 h6
      go_wp2
      refine bodyPost_ret (results_pk rfl _ rfl (put_bk H2.out pk0 hs0)) rfl ?_
      exact ⟨by rw [HX.out]; rfl, below_put HB.out HB.out.size (Nat.le_succ _) _ _⟩

/-- What Done leaves. -/
def DoneOut (g : Nat) (r : Pk × Int) (w : World) (e : Ending) (w' : World) : Prop := ∃ k, e = .returned (.tuple #[pkV r.1 k, .int .i64 r.2]) ∧ PkIn w' w'.heap.size r.1 k ∧ w.grownBy w' (some g)
/-- What stands while Done goes. -/
structure DS (w : World) (g : Nat) (p : Pk) (h : Hs) (t : ByteArray) (a : Nat) (e : Int) (x : World) : Prop where
  mods : Mods (fun z => z = g) w x
  pk : Bk x w.heap.size PkT (pkC p h)
  res : Bk x (w.heap.size + 1) PkT (pkC pk0 hs0)
  cur : RCur x g t a e
  lt : g < w.heap.size
section
variable {w x y : World} {g a : Nat} {p : Pk} {h : Hs} {t : ByteArray} {e : Int}
theorem DS.below (d : DS w g p h t a e x) (hb : Below x.heap.size x y) : DS w g p h t a e y :=
  ⟨d.mods.trans (Mods.of_below hb), d.pk.below hb d.pk.lt, d.res.below hb d.res.lt, d.cur.below hb, d.lt⟩
theorem DS.turn (d : DS w g p h t a e x) {e' : Int} (hc : RCur y g t a e') (hm : x.grownBy y (some g)) : DS w g p h t a e' y :=
  ⟨d.mods.trans (Mods.of_grown hm rfl), d.pk.mods (S := fun z => z = g) (Mods.of_grown hm rfl) (by have := d.lt; omega), d.res.mods (S := fun z => z = g) (Mods.of_grown hm rfl) (by have := d.lt; omega), hc, d.lt⟩
theorem Mods.grown {w x : World} {g : Nat} (h : Mods (fun z => z = g) w x) : w.grownBy x (some g) := ⟨h.os, h.tape, h.output, h.size, fun i hi hn => h.block i hi (fun e => hn (by rw [e]))⟩
theorem DS.put (d : DS w g p h t a e x) (q : Pk) (k : Hs) : Mods (fun z => z = g) w (putPk x (w.heap.size + 1) q k) := by
  have h1 : Mods (fun z => z = g ∨ z = w.heap.size + 1) w (putPk x (w.heap.size + 1) q k) := (d.mods.mono (fun _ _ hz => .inl hz)).trans (Mods.of_grown (putPk_mods x (w.heap.size + 1) q k) (.inr rfl))
  exact h1.mono (fun i hi hz => hz.elim id (fun e => by omega))
end
set_option maxHeartbeats 1000000 in
set_option maxRecDepth 10000 in
theorem refDone_any (g a : Nat) (t : ByteArray) (e x : Int) (p : Pk) (h : Hs) (w : World) (hc : RCur w g t a e) (hi : ∀ y, Mods (fun z => z = g) w y → PkIn y y.heap.size p h) :
    Calls Tryz.prog 72 #[.pointer (some ⟨g, 0, none⟩), pkV p h, .int .i64 x] w (DoneOut g (doneR p t a e x) w) := by
  have HI := Lib.hid hi
  have D0 : Hid (DS w g p h t a e ((w.alloc (.cells (pkC p h) PkT)).alloc (.cells (pkC pk0 hs0) PkT))) := Lib.hid
    ⟨(Mods.refl w).alloc _ |>.alloc _, (Bk.fresh w PkT (pkC p h)).alloc _, by
      have := Bk.fresh (w.alloc (.cells (pkC p h) PkT)) PkT (pkC pk0 hs0)
      rwa [show (w.alloc (.cells (pkC p h) PkT)).heap.size = w.heap.size + 1 by simp] at this, ⟨(hc.1.alloc _).alloc _, hc.2⟩, hc.lt⟩
  have HR : Hid (doneR p t a e x = if doneE t a e x ≠ 0 then (pk0, doneE t a e x) else (p, 0)) := Lib.hid rfl
  have HDE : Hid (doneE t a e x = if (if e = 0 ∧ a < t.size then 5 else e) = 0 then x else (if e = 0 ∧ a < t.size then 5 else e)) := Lib.hid rfl
  clear hc hi
  obtain ⟨⟨c0, c1, c2⟩, -⟩ := D0.out.cur.cells
  go_enter Tryz.func72, Tryz.ntmps72
  by_cases he : e = 0
  rotate_left
  · have e0 : (e == 0) = false := beq_eq_false_iff_ne.2 he
    have HE1 : Hid (doneE t a e x = if e = 0 then x else e) := Lib.hid (by rw [HDE.out, if_neg (show ¬ (e = 0 ∧ a < t.size) from fun y => he y.1)])
    clear he
    clear c0 c1 c2
    obtain ⟨⟨c0, c1, c2⟩, -⟩ := D0.out.cur.cells
    go_wp2_with fail
    refine (refFail_any g a t _ x _ D0.out.cur).mono ?_
    rintro e' x2 ⟨rfl, hcu, hm⟩
    have D2 := Lib.hid (D0.out.turn hcu hm); clear hcu hm c0 c1 c2
    rw [← HE1.out] at D2
    obtain ⟨E2, hE2⟩ : ∃ E2, doneE t a e x = E2 := ⟨_, rfl⟩
    rw [hE2] at D2 HR
    clear HE1 HDE hE2
    obtain ⟨⟨c0, c1, c2⟩, -⟩ := D2.out.cur.cells
    have hst := run_stPk D2.out.res
    by_cases hz : E2 = 0
    · subst hz
      have HX : Hid (doneR p t a e x = (p, 0)) := Lib.hid (by rw [HR.out, if_neg (fun y => y rfl)])
      have hl := ld_bk D2.out.pk
      go_wp2
      refine bodyPost_ret (results_pk rfl _ rfl (put_bk D2.out.res _ _)) rfl ?_
      rw [HX.out]
      exact ⟨h, rfl, HI.out _ (D2.out.put _ _), (D2.out.put _ _).grown⟩
    · have HX : Hid (doneR p t a e x = (pk0, E2)) := Lib.hid (by rw [HR.out, if_pos hz])
      have e9 : (E2 != 0) = true := bne_iff_ne.2 hz
      clear hz
      go_wp2_with fail
      have hst1 : (stPk (.pointer (some ⟨w.heap.size + 1, 0, none⟩)) (pkV pk0 hs0)).run Tryz.prog x2.drew = .ok () (putPk x2.drew (w.heap.size + 1) pk0 hs0) := run_stPk (D2.out.res.drewN 1) pk0 hs0
      have hcd : x2.drew.cell? ⟨g, 2, none⟩ = some (.int .i64 E2) := (D2.out.cur.1.drewN 1).cell 2
      have d2' : (putPk x2.drew (w.heap.size + 1) pk0 hs0).cell? ⟨g, 2, none⟩ = some (.int .i64 E2) := by
        have hbb := (D2.out.cur.1.drewN 1).mods (S := fun z => z = w.heap.size + 1) (Mods.of_grown (putPk_mods (x2.drewN 1) (w.heap.size + 1) pk0 hs0) rfl) (by have := D2.out.lt; omega)
        exact hbb.cell 2
      have D3 : Hid (DS w g p h t a E2 x2.drew) := Lib.hid ⟨D2.out.mods.drewN 1, D2.out.pk.drewN 1, D2.out.res.drewN 1, D2.out.cur.drewN 1, D2.out.lt⟩
      clear hst
      go_region_law (fail)
      all_goals
        go_wp2
        refine bodyPost_ret (results_pk rfl _ rfl (put_bk D3.out.res _ _)) rfl ?_
        rw [HX.out]
        exact ⟨hs0, rfl, ⟨Rd.nil _ _ _ _, Rd.nil _ _ _ _, Rd.nil _ _ _ _, Rd.nil _ _ _ _, Nat.zero_le _, Nat.zero_le _, Nat.zero_le _, Nat.zero_le _⟩, (D3.out.put _ _).grown⟩
  subst he
  by_cases hlt : a < t.size
  · have hp0 : 0 < t.size - a := by omega
    have HE1 : Hid (doneE t a 0 x = if (5 : Int) = 0 then x else 5) := Lib.hid (by rw [HDE.out, if_pos (show (0 : Int) = 0 ∧ a < t.size from ⟨rfl, hlt⟩)])
    clear hlt
    go_wp2_with fail
    refine (refLeft_any g a t 0 _ D0.out.cur).mono ?_
    rintro e' x0 ⟨rfl, hb⟩
    have D1 := Lib.hid (D0.out.below hb); clear hb c0 c1 c2
    obtain ⟨⟨c0, c1, c2⟩, -⟩ := D1.out.cur.cells
    go_wp2_with fail
    refine (refFail_any g a t 0 5 _ D1.out.cur).mono ?_
    rintro e' x1 ⟨rfl, hcu, hm⟩
    rw [if_pos rfl] at hcu
    have DA := Lib.hid (D1.out.turn hcu hm); clear hcu hm
    clear c0 c1 c2
    obtain ⟨⟨c0, c1, c2⟩, -⟩ := DA.out.cur.cells
    go_wp2_with fail
    refine (refFail_any g a t _ x _ DA.out.cur).mono ?_
    rintro e' x2 ⟨rfl, hcu, hm⟩
    have D2 := Lib.hid (DA.out.turn hcu hm); clear hcu hm c0 c1 c2
    rw [← HE1.out] at D2
    obtain ⟨E2, hE2⟩ : ∃ E2, doneE t a 0 x = E2 := ⟨_, rfl⟩
    rw [hE2] at D2 HR
    clear HE1 HDE hE2
    obtain ⟨⟨c0, c1, c2⟩, -⟩ := D2.out.cur.cells
    have hst := run_stPk D2.out.res
    by_cases hz : E2 = 0
    · subst hz
      have HX : Hid (doneR p t a 0 x = (p, 0)) := Lib.hid (by rw [HR.out, if_neg (fun y => y rfl)])
      have hl := ld_bk D2.out.pk
      go_wp2
      refine bodyPost_ret (results_pk rfl _ rfl (put_bk D2.out.res _ _)) rfl ?_
      rw [HX.out]
      exact ⟨h, rfl, HI.out _ (D2.out.put _ _), (D2.out.put _ _).grown⟩
    · have HX : Hid (doneR p t a 0 x = (pk0, E2)) := Lib.hid (by rw [HR.out, if_pos hz])
      have e9 : (E2 != 0) = true := bne_iff_ne.2 hz
      clear hz
      go_wp2_with fail
      have hst1 : (stPk (.pointer (some ⟨w.heap.size + 1, 0, none⟩)) (pkV pk0 hs0)).run Tryz.prog x2.drew = .ok () (putPk x2.drew (w.heap.size + 1) pk0 hs0) := run_stPk (D2.out.res.drewN 1) pk0 hs0
      have hcd : x2.drew.cell? ⟨g, 2, none⟩ = some (.int .i64 E2) := (D2.out.cur.1.drewN 1).cell 2
      have d2' : (putPk x2.drew (w.heap.size + 1) pk0 hs0).cell? ⟨g, 2, none⟩ = some (.int .i64 E2) := by
        have hbb := (D2.out.cur.1.drewN 1).mods (S := fun z => z = w.heap.size + 1) (Mods.of_grown (putPk_mods (x2.drewN 1) (w.heap.size + 1) pk0 hs0) rfl) (by have := D2.out.lt; omega)
        exact hbb.cell 2
      have D3 : Hid (DS w g p h t a E2 x2.drew) := Lib.hid ⟨D2.out.mods.drewN 1, D2.out.pk.drewN 1, D2.out.res.drewN 1, D2.out.cur.drewN 1, D2.out.lt⟩
      clear hst
      go_region_law (fail)
      all_goals
        go_wp2
        refine bodyPost_ret (results_pk rfl _ rfl (put_bk D3.out.res _ _)) rfl ?_
        rw [HX.out]
        exact ⟨hs0, rfl, ⟨Rd.nil _ _ _ _, Rd.nil _ _ _ _, Rd.nil _ _ _ _, Rd.nil _ _ _ _, Nat.zero_le _, Nat.zero_le _, Nat.zero_le _, Nat.zero_le _⟩, (D3.out.put _ _).grown⟩
  · have hp0 : ¬ 0 < t.size - a := by omega
    have HE1 : Hid (doneE t a 0 x = x) := Lib.hid (by rw [HDE.out, if_neg (show ¬ ((0 : Int) = 0 ∧ a < t.size) from fun y => hlt y.2), if_pos rfl])
    clear hlt
    go_wp2_with fail
    refine (refLeft_any g a t 0 _ D0.out.cur).mono ?_
    rintro e' x0 ⟨rfl, hb⟩
    have DA := Lib.hid (D0.out.below hb); clear hb
    clear c0 c1 c2
    obtain ⟨⟨c0, c1, c2⟩, -⟩ := DA.out.cur.cells
    go_wp2_with fail
    refine (refFail_any g a t _ x _ DA.out.cur).mono ?_
    rintro e' x2 ⟨rfl, hcu, hm⟩
    rw [if_pos rfl] at hcu
    have D2 := Lib.hid (DA.out.turn hcu hm); clear hcu hm c0 c1 c2
    rw [← HE1.out] at D2
    obtain ⟨E2, hE2⟩ : ∃ E2, doneE t a 0 x = E2 := ⟨_, rfl⟩
    rw [hE2] at D2 HR
    clear HE1 HDE hE2
    obtain ⟨⟨c0, c1, c2⟩, -⟩ := D2.out.cur.cells
    have hst := run_stPk D2.out.res
    by_cases hz : E2 = 0
    · subst hz
      have HX : Hid (doneR p t a 0 x = (p, 0)) := Lib.hid (by rw [HR.out, if_neg (fun y => y rfl)])
      have hl := ld_bk D2.out.pk
      go_wp2
      refine bodyPost_ret (results_pk rfl _ rfl (put_bk D2.out.res _ _)) rfl ?_
      rw [HX.out]
      exact ⟨h, rfl, HI.out _ (D2.out.put _ _), (D2.out.put _ _).grown⟩
    · have HX : Hid (doneR p t a 0 x = (pk0, E2)) := Lib.hid (by rw [HR.out, if_pos hz])
      have e9 : (E2 != 0) = true := bne_iff_ne.2 hz
      clear hz
      go_wp2_with fail
      have hst1 : (stPk (.pointer (some ⟨w.heap.size + 1, 0, none⟩)) (pkV pk0 hs0)).run Tryz.prog x2.drew = .ok () (putPk x2.drew (w.heap.size + 1) pk0 hs0) := run_stPk (D2.out.res.drewN 1) pk0 hs0
      have hcd : x2.drew.cell? ⟨g, 2, none⟩ = some (.int .i64 E2) := (D2.out.cur.1.drewN 1).cell 2
      have d2' : (putPk x2.drew (w.heap.size + 1) pk0 hs0).cell? ⟨g, 2, none⟩ = some (.int .i64 E2) := by
        have hbb := (D2.out.cur.1.drewN 1).mods (S := fun z => z = w.heap.size + 1) (Mods.of_grown (putPk_mods (x2.drewN 1) (w.heap.size + 1) pk0 hs0) rfl) (by have := D2.out.lt; omega)
        exact hbb.cell 2
      have D3 : Hid (DS w g p h t a E2 x2.drew) := Lib.hid ⟨D2.out.mods.drewN 1, D2.out.pk.drewN 1, D2.out.res.drewN 1, D2.out.cur.drewN 1, D2.out.lt⟩
      clear hst
      go_region_law (fail)
      all_goals
        go_wp2
        refine bodyPost_ret (results_pk rfl _ rfl (put_bk D3.out.res _ _)) rfl ?_
        rw [HX.out]
        exact ⟨hs0, rfl, ⟨Rd.nil _ _ _ _, Rd.nil _ _ _ _, Rd.nil _ _ _ _, Rd.nil _ _ _ _, Nat.zero_le _, Nat.zero_le _, Nat.zero_le _, Nat.zero_le _⟩, (D3.out.put _ _).grown⟩

/-- What Rest leaves. -/
def RkOut (g : Nat) (t : ByteArray) (r : Int × List Pr × Nat × Int) (w : World) (e : Ending) (w' : World) : Prop :=
  ∃ A q, e = .returned (.tuple #[.int .i64 r.1, .slice A r.2.1.length q]) ∧ r.2.1.length ≤ q ∧ Rd w' w'.heap.size 4 A r.2.1.length (prs r.2.1) ∧ RCur w' g t r.2.2.1 r.2.2.2 ∧ w.grownBy w' (some g)
theorem rkOut_nil {g a : Nat} {t : ByteArray} {c e : Int} {r : Int × List Pr × Nat × Int} {w w' : World} (h : r = (c, [], a, e)) (hc : RCur w' g t a e) (hm : w.grownBy w' (some g)) : RkOut g t r w (.returned (.tuple #[.int .i64 c, .slice none 0 0])) w' := by
  subst h
  exact ⟨none, 0, rfl, Nat.le_refl _, Rd.nil _ _ _ _, hc, hm⟩
set_option maxHeartbeats 1000000 in
set_option maxRecDepth 10000 in
theorem refAckRest_any (v k : Int) (g a : Nat) (t : ByteArray) (e : Int) (w : World) (hc : RCur w g t a e) (ht : t.size ≤ 140737488351232) :
    Calls Tryz.prog 71 #[.int .i64 v, .int .i64 k, .pointer (some ⟨g, 0, none⟩)] w (RkOut g t (rkRest v k t a e) w) := by
  have C0 := Lib.hid hc; have HT := Lib.hid ht
  obtain ⟨⟨c0, c1, c2⟩, f0, f1, f2⟩ := hc.cells
  have HLE := Lib.hid hc.2.1
  have HE : Hid (rkRest v k t a e = if v = 4 ∨ e ≠ 0 ∨ t.size ≤ a then (0, [], a, e) else (((numS t a 0 1 : Nat) : Int), (rkP v k t a).1, (rkP v k t a).2.1, rkE v k t a)) := Lib.hid rfl
  clear hc ht
  by_cases h4 : v = 4
  · have HX : Hid (rkRest v k t a e = (0, [], a, e)) := Lib.hid (by rw [HE.out, if_pos (.inl h4)])
    have e4 : (v == 4) = true := beq_iff_eq.2 h4
    clear h4
    go_enter Tryz.func71, Tryz.ntmps71
    go_wp2
    go_ret2
    exact rkOut_nil HX.out C0.out (mod_refl _ _)
  have e4 : (v == 4) = false := beq_eq_false_iff_ne.2 h4
  by_cases he : e = 0
  rotate_left
  · have HX : Hid (rkRest v k t a e = (0, [], a, e)) := Lib.hid (by rw [HE.out, if_pos (.inr (.inl he))])
    have e0 : (e != 0) = true := bne_iff_ne.2 he
    clear h4 he
    go_enter Tryz.func71, Tryz.ntmps71
    go_wp2
    go_ret2
    exact rkOut_nil HX.out C0.out (mod_refl _ _)
  subst he
  by_cases ha : t.size ≤ a
  · have HX : Hid (rkRest v k t a 0 = (0, [], a, 0)) := Lib.hid (by rw [HE.out, if_pos (.inr (.inr ha))])
    have d0 : (((t.size - a : Nat) : Int) == 0) = true := beq_iff_eq.2 (by omega)
    clear h4 ha
    go_enter Tryz.func71, Tryz.ntmps71
    go_wp2_with fail
    refine (refLeft_any g a t 0 _ C0.out).mono ?_
    rintro e' x0 ⟨rfl, hb⟩
    have C1 := Lib.hid (C0.out.below hb); have M1 := Lib.hid (mod_below hb (some g)); clear hb
    go_wp2
    go_ret2
    exact rkOut_nil HX.out C1.out M1.out
  have HX : Hid (rkRest v k t a 0 = (((numS t a 0 1 : Nat) : Int), (rkP v k t a).1, (rkP v k t a).2.1, rkE v k t a)) := Lib.hid (by rw [HE.out, if_neg (by rintro (x | x | x); exact h4 x; exact x rfl; exact ha x)])
  have d0 : (((t.size - a : Nat) : Int) == 0) = false := beq_eq_false_iff_ne.2 (by omega)
  have HTK : Hid (takeS t a 0 1 = (t.extract a (a + 1), a + 1, 0)) := Lib.hid (take_yes (k := 1) (by omega))
  have HNB := Lib.hid (num_one_lt t a 0)
  have HRE : Hid (rkE v k t a = if (rkP v k t a).2.2 = 0 ∧ t.size ≤ (rkP v k t a).2.1 ∧ shortB v k (numS t a 0 1 : Nat) (rkP v k t a).1 ≠ t.extract a t.size then 5 else (rkP v k t a).2.2) := Lib.hid rfl
  have HPE : Hid (rkP v k t a = if a + 1 < t.size then propsC v k t (a + 1) 0 else ([], a + 1, 0)) := Lib.hid rfl
  have HPG := Lib.hid (rkP_good (v := v) (k := k) (a := a) HT.out)
  clear h4 HE
  go_enter Tryz.func71, Tryz.ntmps71
  go_wp2_with fail
  refine (refLeft_any g a t 0 _ C0.out).mono ?_
  rintro e' x0 ⟨rfl, hb⟩
  have C1 := Lib.hid (C0.out.below hb); have M1 := Lib.hid (mod_below hb (some g)); clear hb c0 c1 c2 f0 f1 f2
  go_wp2_with fail
  refine (refRest_any g a t 0 _ C1.out).mono ?_
  rintro e' x1 ⟨rfl, hb⟩
  have C2 := Lib.hid (C1.out.below hb); have M2 := Lib.hid (M1.out.trans (mod_below hb (some g))); clear hb
  obtain ⟨U, hU⟩ : ∃ U, t.extract a t.size = U := ⟨_, rfl⟩
  rw [hU] at HRE ⊢
  clear hU
  go_wp2_with fail
  refine (refNumber_any g a t 0 1 _ C2.out (by decide)).mono ?_
  rintro e' x2 ⟨rfl, hcu, hm⟩
  rw [HTK.out] at hcu
  have C3 := Lib.hid hcu; have M3 := Lib.hid (M2.out.trans hm); clear hcu hm
  generalize numS t a 0 1 = m at *
  have hwm : IntKind.i64.wrap (m : Int) = (m : Int) := by rw [IntKind.wrap_i64]; have := HNB.out; omega
  have HRDO : Hid (∀ {A : Option Addr} {l : List Pr} {a2 : Nat} {e2 : Int} (y y' : World), Rd y y.heap.size 4 A l.length (prs l) → RCur y g t a2 e2 → y.grownBy y' (some g) → Rd y' y'.heap.size 4 A l.length (prs l)) := Lib.hid (fun y y' hr hcu hm => (hr.other hcu.1 (rcur_no32 _ _ _) hm (Nat.le_refl _)).wider hm.size)
  by_cases h1 : a + 1 < t.size
  · have hp1 : 0 < t.size - (a + 1) := by omega
    have HP2 : Hid (rkP v k t a = propsC v k t (a + 1) 0) := Lib.hid (by rw [HPE.out, if_pos h1])
    clear h1
    go_wp2_with fail
    refine (refLeft_any g (a + 1) t 0 _ C3.out).mono ?_
    rintro e' x3 ⟨rfl, hb⟩
    have C4 := Lib.hid (C3.out.below hb); have M4 := Lib.hid (M3.out.trans (mod_below hb (some g))); clear hb
    go_wp2_with fail
    refine (refProps_any v k g (a + 1) t 0 _ C4.out HT.out).mono ?_
    rintro e' x4 ⟨A, q, rfl, hlc, hr, hcu, hm⟩
    rw [← HP2.out] at hlc hr hcu ⊢
    generalize rkP v k t a = R at *
    obtain ⟨l, a2, e2⟩ := R
    simp only at HX HRE HPG hlc hr hcu ⊢
    have C5 := Lib.hid hcu; have M5 := Lib.hid (M4.out.trans hm); have HCAP := Lib.hid hlc; have HRD := Lib.hid hr
    have HLEN : Hid (l.length = l.length) := Lib.hid rfl
    clear hcu hm hlc hr
    obtain ⟨⟨c0, c1, c2⟩, f0, f1, f2⟩ := C5.out.cells
    by_cases he2 : e2 = 0
    rotate_left
    · have e0 : (e2 == 0) = false := beq_eq_false_iff_ne.2 he2
      have HXX : Hid (rkRest v k t a 0 = ((m : Int), l, a2, e2)) := Lib.hid (by rw [HX.out, HRE.out, if_neg (fun y => he2 y.1)])
      clear he2
      go_wp2
      go_ret2
      rw [HXX.out]
      exact ⟨A, q, rfl, HCAP.out, HRD.out, C5.out, M5.out⟩
    subst he2
    by_cases hle : t.size ≤ a2
    rotate_left
    · have dl : (((t.size - a2 : Nat) : Int) == 0) = false := beq_eq_false_iff_ne.2 (by omega)
      have HXX : Hid (rkRest v k t a 0 = ((m : Int), l, a2, 0)) := Lib.hid (by rw [HX.out, HRE.out, if_neg (fun y => hle y.2.1)])
      clear hle
      go_wp2_with fail
      refine (refLeft_any g a2 t 0 _ C5.out).mono ?_
      rintro e' y0 ⟨rfl, hb⟩
      have CA := Lib.hid (C5.out.below hb); have MA := Lib.hid (M5.out.trans (mod_below hb (some g))); have RA := Lib.hid ((HRD.out.below hb).wider hb.size); clear hb c0 c1 c2 f0 f1 f2
      go_wp2
      go_ret2
      rw [HXX.out]
      exact ⟨A, q, rfl, HCAP.out, RA.out, CA.out, MA.out⟩
    have dl : (((t.size - a2 : Nat) : Int) == 0) = true := beq_iff_eq.2 (by omega)
    have HLE2 := Lib.hid hle
    clear hle
    go_wp2_with fail
    refine (refLeft_any g a2 t 0 _ C5.out).mono ?_
    rintro e' y0 ⟨rfl, hb⟩
    have CA := Lib.hid (C5.out.below hb); have MA := Lib.hid (M5.out.trans (mod_below hb (some g))); have RA := Lib.hid ((HRD.out.below hb).wider hb.size); clear hb c0 c1 c2 f0 f1 f2
    go_wp2_with fail
    refine (refShort_any v k m l _ rfl ⟨by omega, by have := HNB.out; omega⟩ HPG.out.1 A q _ RA.out (by have := HPG.out.2; omega) HCAP.out).mono ?_
    rintro e' y1 ⟨rfl, hb⟩
    have CB := Lib.hid (CA.out.below hb); have MB := Lib.hid (MA.out.trans (mod_below hb (some g))); have RB := Lib.hid ((RA.out.below hb).wider hb.size); clear hb
    obtain ⟨V, hV⟩ : ∃ V, shortB v k m l = V := ⟨_, rfl⟩
    rw [hV] at HRE ⊢
    clear hV
    by_cases hvu : V = U
    · have x1 : (V.toList == U.toList) = true := by rw [hvu]; simp
      have HXX : Hid (rkRest v k t a 0 = ((m : Int), l, a2, 0)) := Lib.hid (by rw [HX.out, HRE.out, if_neg (fun y => y.2.2 hvu)])
      clear hvu
      go_wp2
      go_ret2
      rw [HXX.out]
      exact ⟨A, q, rfl, HCAP.out, RB.out, CB.out, MB.out⟩
    · have x1 : (V.toList == U.toList) = false := beq_eq_false_iff_ne.2 (fun y => hvu ((toList_inj _ _).1 y))
      have HXX : Hid (rkRest v k t a 0 = ((m : Int), l, a2, 5)) := Lib.hid (by rw [HX.out, HRE.out, if_pos (by simp; exact ⟨HLE2.out, hvu⟩)])
      clear hvu
      go_wp2_with fail
      refine (refFail_any g a2 t 0 5 _ CB.out).mono ?_
      rintro e' y2 ⟨rfl, hcu, hm⟩
      rw [if_pos rfl] at hcu
      have CC := Lib.hid hcu; have MC := Lib.hid (MB.out.trans hm); have RC' := Lib.hid ((HRDO.out y1 y2 RB.out CB.out hm)); clear hcu hm
      go_wp2
      go_ret2
      rw [HXX.out]
      exact ⟨A, q, rfl, HCAP.out, RC'.out, CC.out, MC.out⟩
  · have hp1 : ¬ 0 < t.size - (a + 1) := by omega
    have HP2 : Hid (rkP v k t a = ([], a + 1, 0)) := Lib.hid (by rw [HPE.out, if_neg h1])
    clear h1
    go_wp2_with fail
    refine (refLeft_any g (a + 1) t 0 _ C3.out).mono ?_
    rintro e' x3 ⟨rfl, hb⟩
    have C5 := Lib.hid (C3.out.below hb); have M5 := Lib.hid (M3.out.trans (mod_below hb (some g))); clear hb
    rw [HP2.out] at HX HRE HPG
    simp only at HX HRE HPG
    obtain ⟨a2, ha2⟩ : ∃ a2, a + 1 = a2 := ⟨_, rfl⟩
    rw [ha2] at HX HRE C5
    have HCAP : Hid (([] : List Pr).length ≤ 0) := Lib.hid (Nat.le_refl _)
    have HRD : Hid (Rd x3 x3.heap.size 4 none ([] : List Pr).length (prs [])) := Lib.hid (Rd.nil _ _ _ _)
    have HLEN : Hid (([] : List Pr).length = 0) := Lib.hid rfl
    clear ha2
    obtain ⟨⟨c0, c1, c2⟩, f0, f1, f2⟩ := C5.out.cells
    by_cases hle : t.size ≤ a2
    rotate_left
    · have dl : (((t.size - a2 : Nat) : Int) == 0) = false := beq_eq_false_iff_ne.2 (by omega)
      have HXX : Hid (rkRest v k t a 0 = ((m : Int), [], a2, 0)) := Lib.hid (by rw [HX.out, HRE.out, if_neg (fun y => hle y.2.1)])
      clear hle
      go_wp2_with fail
      refine (refLeft_any g a2 t 0 _ C5.out).mono ?_
      rintro e' y0 ⟨rfl, hb⟩
      have CA := Lib.hid (C5.out.below hb); have MA := Lib.hid (M5.out.trans (mod_below hb (some g))); have RA := Lib.hid ((HRD.out.below hb).wider hb.size); clear hb c0 c1 c2 f0 f1 f2
      go_wp2
      go_ret2
      rw [HXX.out]
      exact ⟨none, 0, rfl, HCAP.out, RA.out, CA.out, MA.out⟩
    have dl : (((t.size - a2 : Nat) : Int) == 0) = true := beq_iff_eq.2 (by omega)
    have HLE2 := Lib.hid hle
    clear hle
    go_wp2_with fail
    refine (refLeft_any g a2 t 0 _ C5.out).mono ?_
    rintro e' y0 ⟨rfl, hb⟩
    have CA := Lib.hid (C5.out.below hb); have MA := Lib.hid (M5.out.trans (mod_below hb (some g))); have RA := Lib.hid ((HRD.out.below hb).wider hb.size); clear hb c0 c1 c2 f0 f1 f2
    go_wp2_with fail
    refine (refShort_any v k m [] _ rfl ⟨by omega, by have := HNB.out; omega⟩ HPG.out.1 none 0 _ RA.out (by have := HPG.out.2; omega) HCAP.out).mono ?_
    rintro e' y1 ⟨rfl, hb⟩
    have CB := Lib.hid (CA.out.below hb); have MB := Lib.hid (MA.out.trans (mod_below hb (some g))); have RB := Lib.hid ((RA.out.below hb).wider hb.size); clear hb
    obtain ⟨V, hV⟩ : ∃ V, shortB v k m [] = V := ⟨_, rfl⟩
    rw [hV] at HRE ⊢
    clear hV
    by_cases hvu : V = U
    · have x1 : (V.toList == U.toList) = true := by rw [hvu]; simp
      have HXX : Hid (rkRest v k t a 0 = ((m : Int), [], a2, 0)) := Lib.hid (by rw [HX.out, HRE.out, if_neg (fun y => y.2.2 hvu)])
      clear hvu
      go_wp2
      go_ret2
      rw [HXX.out]
      exact ⟨none, 0, rfl, HCAP.out, RB.out, CB.out, MB.out⟩
    · have x1 : (V.toList == U.toList) = false := beq_eq_false_iff_ne.2 (fun y => hvu ((toList_inj _ _).1 y))
      have HXX : Hid (rkRest v k t a 0 = ((m : Int), [], a2, 5)) := Lib.hid (by rw [HX.out, HRE.out, if_pos (by simp; exact ⟨HLE2.out, hvu⟩)])
      clear hvu
      go_wp2_with fail
      refine (refFail_any g a2 t 0 5 _ CB.out).mono ?_
      rintro e' y2 ⟨rfl, hcu, hm⟩
      rw [if_pos rfl] at hcu
      have CC := Lib.hid hcu; have MC := Lib.hid (MB.out.trans hm); have RC' := Lib.hid ((HRDO.out y1 y2 RB.out CB.out hm)); clear hcu hm
      go_wp2
      go_ret2
      rw [HXX.out]
      exact ⟨none, 0, rfl, HCAP.out, RC'.out, CC.out, MC.out⟩
end Go.Proofs.YtceniaklabiadaaGreat
