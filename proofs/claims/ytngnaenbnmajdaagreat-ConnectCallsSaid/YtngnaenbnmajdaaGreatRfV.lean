/- Reference 10: Body, Next, Rest; reference 08: Done. -/
import Derived.Test.YtngnaenbnmajdaaGreatRfU
import Derived.Deep.RegionLaw
namespace Go.Proofs.YtngnaenbnmajdaaGreat
open Go.RowKit
attribute [local go_sem ↓] to_ldPk to_bxPk to_bdPk to_alPk to_stPk
attribute [local go_sem] run_bxPk run_bxPk_agg ld_fresh run_alPk run_bd0 run_bdK run_bdKI run_bdKIC run_bdKC run_bdKICP run_stPk_fresh pkC_0 pkC_1 pkC_2 pkC_3 pkC_4 pkC_5 pkC_6 pkC_7 pkC_8 pkC_9 pkC_10 pkC_11 pkC_12 pkC_13 pkC_14 pkC_15 pkC_16 pkC_17 pkC_18 pkC_19 pkC_20 pkC_21 pkC_22 pkC_23 pkC_24

theorem ack_short {v : Int} {p : Pk} (g : AckGood v p) : shortB v p.kind p.code p.props = ⟨(ackT p).toArray⟩ := by
  unfold shortB
  by_cases h5 : v = 5
  · rw [if_pos h5]
    rfl
  · obtain ⟨e1, e2⟩ := g.old ((ackK_four g.k).resolve_right h5)
    rw [if_neg h5, ackT, if_pos ⟨e1, by rw [e2]; rfl⟩]
/-- What Done leaves. -/
def DoneOut (g : Nat) (r : Pk × Int) (w : World) (e : Ending) (w' : World) : Prop := ∃ k, e = .returned (.tuple #[pkV r.1 k, .int .i64 r.2]) ∧ PkIn w' w'.heap.size r.1 k ∧ w.grownBy w' (some g)
/-- What stands while Done goes. -/
structure DS (w : World) (g : Nat) (p : Pk) (h : Hs) (t : ByteArray) (a : Nat) (e : Int) (x : World) : Prop where
  mods : Mods (fun z => z = g) w x
  pk : Bk x w.heap.size PkT (pkC p h)
  res : Bk x (w.heap.size + 1) PkT (pkC pk0 hs0)
  cur : RCur x g t a e
  lt : g < w.heap.size
section
variable {w x y : World} {g a : Nat} {p : Pk} {h : Hs} {t : ByteArray} {e : Int}
theorem DS.below (d : DS w g p h t a e x) (hb : Below x.heap.size x y) : DS w g p h t a e y :=
  ⟨d.mods.trans (Mods.of_below hb), d.pk.below hb d.pk.lt, d.res.below hb d.res.lt, d.cur.below hb, d.lt⟩
theorem DS.turn (d : DS w g p h t a e x) {e' : Int} (hc : RCur y g t a e') (hm : x.grownBy y (some g)) : DS w g p h t a e' y :=
  ⟨d.mods.trans (Mods.of_grown hm rfl), d.pk.mods (S := fun z => z = g) (Mods.of_grown hm rfl) (by have := d.lt; omega), d.res.mods (S := fun z => z = g) (Mods.of_grown hm rfl) (by have := d.lt; omega), hc, d.lt⟩
theorem Mods.grown {w x : World} {g : Nat} (h : Mods (fun z => z = g) w x) : w.grownBy x (some g) := ⟨h.os, h.tape, h.output, h.size, fun i hi hn => h.block i hi (fun e => hn (by rw [e]))⟩
theorem DS.put (d : DS w g p h t a e x) (q : Pk) (k : Hs) : Mods (fun z => z = g) w (putPk x (w.heap.size + 1) q k) := by
  have h1 : Mods (fun z => z = g ∨ z = w.heap.size + 1) w (putPk x (w.heap.size + 1) q k) := (d.mods.mono (fun _ _ hz => .inl hz)).trans (Mods.of_grown (putPk_mods x (w.heap.size + 1) q k) (.inr rfl))
  exact h1.mono (fun i hi hz => hz.elim id (fun e => by omega))
end
set_option maxHeartbeats 1000000 in
set_option maxRecDepth 10000 in
theorem refDone_any (g a : Nat) (t : ByteArray) (e x : Int) (p : Pk) (h : Hs) (w : World) (hc : RCur w g t a e) (hi : ∀ y, Mods (fun z => z = g) w y → PkIn y y.heap.size p h) :
    Calls Tryz.prog 42 #[.pointer (some ⟨g, 0, none⟩), pkV p h, .int .i64 x] w (DoneOut g (doneR p t a e x) w) := by
  have HI := Lib.hid hi
  have D0 : Hid (DS w g p h t a e ((w.alloc (.cells (pkC p h) PkT)).alloc (.cells (pkC pk0 hs0) PkT))) := Lib.hid
    ⟨(Mods.refl w).alloc _ |>.alloc _, (Bk.fresh w PkT (pkC p h)).alloc _, by
      have := Bk.fresh (w.alloc (.cells (pkC p h) PkT)) PkT (pkC pk0 hs0)
      rwa [show (w.alloc (.cells (pkC p h) PkT)).heap.size = w.heap.size + 1 by simp] at this, ⟨(hc.1.alloc _).alloc _, hc.2⟩, hc.lt⟩
  have HR : Hid (doneR p t a e x = if doneE t a e x ≠ 0 then (pk0, doneE t a e x) else (p, 0)) := Lib.hid rfl
  have HDE : Hid (doneE t a e x = if (if e = 0 ∧ a < t.size then 5 else e) = 0 then x else (if e = 0 ∧ a < t.size then 5 else e)) := Lib.hid rfl
  clear hc hi
  obtain ⟨⟨c0, c1, c2⟩, -⟩ := D0.out.cur.cells
  go_enter Tryz.func42, Tryz.ntmps42
  by_cases he : e = 0
  rotate_left
  · have e0 : (e == 0) = false := beq_eq_false_iff_ne.2 he
    have HE1 : Hid (doneE t a e x = if e = 0 then x else e) := Lib.hid (by rw [HDE.out, if_neg (show ¬ (e = 0 ∧ a < t.size) from fun y => he y.1)])
    clear he
    clear c0 c1 c2
    obtain ⟨⟨c0, c1, c2⟩, -⟩ := D0.out.cur.cells
    go_wp2_with fail
    refine (refFail_any g a t _ x _ D0.out.cur).mono ?_
    rintro e' x2 ⟨rfl, hcu, hm⟩
    have D2 := Lib.hid (D0.out.turn hcu hm); clear hcu hm c0 c1 c2
    rw [← HE1.out] at D2
    obtain ⟨E2, hE2⟩ : ∃ E2, doneE t a e x = E2 := ⟨_, rfl⟩
    rw [hE2] at D2 HR
    clear HE1 HDE hE2
    obtain ⟨⟨c0, c1, c2⟩, -⟩ := D2.out.cur.cells
    have hst := run_stPk D2.out.res
    by_cases hz : E2 = 0
    · subst hz
      have HX : Hid (doneR p t a e x = (p, 0)) := Lib.hid (by rw [HR.out, if_neg (fun y => y rfl)])
      have hl := ld_bk D2.out.pk
      go_wp2
      refine bodyPost_ret (results_pk rfl _ rfl (put_bk D2.out.res _ _)) rfl ?_
      rw [HX.out]
      exact ⟨h, rfl, HI.out _ (D2.out.put _ _), (D2.out.put _ _).grown⟩
    · have HX : Hid (doneR p t a e x = (pk0, E2)) := Lib.hid (by rw [HR.out, if_pos hz])
      have e9 : (E2 != 0) = true := bne_iff_ne.2 hz
      clear hz
      go_wp2_with fail
      have hst1 : (stPk (.pointer (some ⟨w.heap.size + 1, 0, none⟩)) (pkV pk0 hs0)).run Tryz.prog x2.drew = .ok () (putPk x2.drew (w.heap.size + 1) pk0 hs0) := run_stPk (D2.out.res.drewN 1) pk0 hs0
      have hcd : x2.drew.cell? ⟨g, 2, none⟩ = some (.int .i64 E2) := (D2.out.cur.1.drewN 1).cell 2
      have d2' : (putPk x2.drew (w.heap.size + 1) pk0 hs0).cell? ⟨g, 2, none⟩ = some (.int .i64 E2) := by
        have hbb := (D2.out.cur.1.drewN 1).mods (S := fun z => z = w.heap.size + 1) (Mods.of_grown (putPk_mods (x2.drewN 1) (w.heap.size + 1) pk0 hs0) rfl) (by have := D2.out.lt; omega)
        exact hbb.cell 2
      have D3 : Hid (DS w g p h t a E2 x2.drew) := Lib.hid ⟨D2.out.mods.drewN 1, D2.out.pk.drewN 1, D2.out.res.drewN 1, D2.out.cur.drewN 1, D2.out.lt⟩
      clear hst
      go_region_law (fail)
      all_goals
        go_wp2
        refine bodyPost_ret (results_pk rfl _ rfl (put_bk D3.out.res _ _)) rfl ?_
        rw [HX.out]
        exact ⟨hs0, rfl, ⟨Rd.nil _ _ _ _, Rd.nil _ _ _ _, Rd.nil _ _ _ _, Rd.nil _ _ _ _, Nat.zero_le _, Nat.zero_le _, Nat.zero_le _, Nat.zero_le _⟩, (D3.out.put _ _).grown⟩
  subst he
  by_cases hlt : a < t.size
  · have hp0 : 0 < t.size - a := by omega
    have HE1 : Hid (doneE t a 0 x = if (5 : Int) = 0 then x else 5) := Lib.hid (by rw [HDE.out, if_pos (show (0 : Int) = 0 ∧ a < t.size from ⟨rfl, hlt⟩)])
    clear hlt
    go_wp2_with fail
    refine (refLeft_any g a t 0 _ D0.out.cur).mono ?_
    rintro e' x0 ⟨rfl, hb⟩
    have D1 := Lib.hid (D0.out.below hb); clear hb c0 c1 c2
    obtain ⟨⟨c0, c1, c2⟩, -⟩ := D1.out.cur.cells
    go_wp2_with fail
    refine (refFail_any g a t 0 5 _ D1.out.cur).mono ?_
    rintro e' x1 ⟨rfl, hcu, hm⟩
    rw [if_pos rfl] at hcu
    have DA := Lib.hid (D1.out.turn hcu hm); clear hcu hm
    clear c0 c1 c2
    obtain ⟨⟨c0, c1, c2⟩, -⟩ := DA.out.cur.cells
    go_wp2_with fail
    refine (refFail_any g a t _ x _ DA.out.cur).mono ?_
    rintro e' x2 ⟨rfl, hcu, hm⟩
    have D2 := Lib.hid (DA.out.turn hcu hm); clear hcu hm c0 c1 c2
    rw [← HE1.out] at D2
    obtain ⟨E2, hE2⟩ : ∃ E2, doneE t a 0 x = E2 := ⟨_, rfl⟩
    rw [hE2] at D2 HR
    clear HE1 HDE hE2
    obtain ⟨⟨c0, c1, c2⟩, -⟩ := D2.out.cur.cells
    have hst := run_stPk D2.out.res
    by_cases hz : E2 = 0
    · subst hz
      have HX : Hid (doneR p t a 0 x = (p, 0)) := Lib.hid (by rw [HR.out, if_neg (fun y => y rfl)])
      have hl := ld_bk D2.out.pk
      go_wp2
      refine bodyPost_ret (results_pk rfl _ rfl (put_bk D2.out.res _ _)) rfl ?_
      rw [HX.out]
      exact ⟨h, rfl, HI.out _ (D2.out.put _ _), (D2.out.put _ _).grown⟩
    · have HX : Hid (doneR p t a 0 x = (pk0, E2)) := Lib.hid (by rw [HR.out, if_pos hz])
      have e9 : (E2 != 0) = true := bne_iff_ne.2 hz
      clear hz
      go_wp2_with fail
      have hst1 : (stPk (.pointer (some ⟨w.heap.size + 1, 0, none⟩)) (pkV pk0 hs0)).run Tryz.prog x2.drew = .ok () (putPk x2.drew (w.heap.size + 1) pk0 hs0) := run_stPk (D2.out.res.drewN 1) pk0 hs0
      have hcd : x2.drew.cell? ⟨g, 2, none⟩ = some (.int .i64 E2) := (D2.out.cur.1.drewN 1).cell 2
      have d2' : (putPk x2.drew (w.heap.size + 1) pk0 hs0).cell? ⟨g, 2, none⟩ = some (.int .i64 E2) := by
        have hbb := (D2.out.cur.1.drewN 1).mods (S := fun z => z = w.heap.size + 1) (Mods.of_grown (putPk_mods (x2.drewN 1) (w.heap.size + 1) pk0 hs0) rfl) (by have := D2.out.lt; omega)
        exact hbb.cell 2
      have D3 : Hid (DS w g p h t a E2 x2.drew) := Lib.hid ⟨D2.out.mods.drewN 1, D2.out.pk.drewN 1, D2.out.res.drewN 1, D2.out.cur.drewN 1, D2.out.lt⟩
      clear hst
      go_region_law (fail)
      all_goals
        go_wp2
        refine bodyPost_ret (results_pk rfl _ rfl (put_bk D3.out.res _ _)) rfl ?_
        rw [HX.out]
        exact ⟨hs0, rfl, ⟨Rd.nil _ _ _ _, Rd.nil _ _ _ _, Rd.nil _ _ _ _, Rd.nil _ _ _ _, Nat.zero_le _, Nat.zero_le _, Nat.zero_le _, Nat.zero_le _⟩, (D3.out.put _ _).grown⟩
  · have hp0 : ¬ 0 < t.size - a := by omega
    have HE1 : Hid (doneE t a 0 x = x) := Lib.hid (by rw [HDE.out, if_neg (show ¬ ((0 : Int) = 0 ∧ a < t.size) from fun y => hlt y.2), if_pos rfl])
    clear hlt
    go_wp2_with fail
    refine (refLeft_any g a t 0 _ D0.out.cur).mono ?_
    rintro e' x0 ⟨rfl, hb⟩
    have DA := Lib.hid (D0.out.below hb); clear hb
    clear c0 c1 c2
    obtain ⟨⟨c0, c1, c2⟩, -⟩ := DA.out.cur.cells
    go_wp2_with fail
    refine (refFail_any g a t _ x _ DA.out.cur).mono ?_
    rintro e' x2 ⟨rfl, hcu, hm⟩
    rw [if_pos rfl] at hcu
    have D2 := Lib.hid (DA.out.turn hcu hm); clear hcu hm c0 c1 c2
    rw [← HE1.out] at D2
    obtain ⟨E2, hE2⟩ : ∃ E2, doneE t a 0 x = E2 := ⟨_, rfl⟩
    rw [hE2] at D2 HR
    clear HE1 HDE hE2
    obtain ⟨⟨c0, c1, c2⟩, -⟩ := D2.out.cur.cells
    have hst := run_stPk D2.out.res
    by_cases hz : E2 = 0
    · subst hz
      have HX : Hid (doneR p t a 0 x = (p, 0)) := Lib.hid (by rw [HR.out, if_neg (fun y => y rfl)])
      have hl := ld_bk D2.out.pk
      go_wp2
      refine bodyPost_ret (results_pk rfl _ rfl (put_bk D2.out.res _ _)) rfl ?_
      rw [HX.out]
      exact ⟨h, rfl, HI.out _ (D2.out.put _ _), (D2.out.put _ _).grown⟩
    · have HX : Hid (doneR p t a 0 x = (pk0, E2)) := Lib.hid (by rw [HR.out, if_pos hz])
      have e9 : (E2 != 0) = true := bne_iff_ne.2 hz
      clear hz
      go_wp2_with fail
      have hst1 : (stPk (.pointer (some ⟨w.heap.size + 1, 0, none⟩)) (pkV pk0 hs0)).run Tryz.prog x2.drew = .ok () (putPk x2.drew (w.heap.size + 1) pk0 hs0) := run_stPk (D2.out.res.drewN 1) pk0 hs0
      have hcd : x2.drew.cell? ⟨g, 2, none⟩ = some (.int .i64 E2) := (D2.out.cur.1.drewN 1).cell 2
      have d2' : (putPk x2.drew (w.heap.size + 1) pk0 hs0).cell? ⟨g, 2, none⟩ = some (.int .i64 E2) := by
        have hbb := (D2.out.cur.1.drewN 1).mods (S := fun z => z = w.heap.size + 1) (Mods.of_grown (putPk_mods (x2.drewN 1) (w.heap.size + 1) pk0 hs0) rfl) (by have := D2.out.lt; omega)
        exact hbb.cell 2
      have D3 : Hid (DS w g p h t a E2 x2.drew) := Lib.hid ⟨D2.out.mods.drewN 1, D2.out.pk.drewN 1, D2.out.res.drewN 1, D2.out.cur.drewN 1, D2.out.lt⟩
      clear hst
      go_region_law (fail)
      all_goals
        go_wp2
        refine bodyPost_ret (results_pk rfl _ rfl (put_bk D3.out.res _ _)) rfl ?_
        rw [HX.out]
        exact ⟨hs0, rfl, ⟨Rd.nil _ _ _ _, Rd.nil _ _ _ _, Rd.nil _ _ _ _, Rd.nil _ _ _ _, Nat.zero_le _, Nat.zero_le _, Nat.zero_le _, Nat.zero_le _⟩, (D3.out.put _ _).grown⟩

/-- What Rest leaves. -/
def RkOut (g : Nat) (t : ByteArray) (r : Int × List Pr × Nat × Int) (w : World) (e : Ending) (w' : World) : Prop :=
  ∃ A q, e = .returned (.tuple #[.int .i64 r.1, .slice A r.2.1.length q]) ∧ r.2.1.length ≤ q ∧ Rd w' w'.heap.size 4 A r.2.1.length (prs r.2.1) ∧ RCur w' g t r.2.2.1 r.2.2.2 ∧ w.grownBy w' (some g)
theorem rkOut_nil {g a : Nat} {t : ByteArray} {c e : Int} {r : Int × List Pr × Nat × Int} {w w' : World} (h : r = (c, [], a, e)) (hc : RCur w' g t a e) (hm : w.grownBy w' (some g)) : RkOut g t r w (.returned (.tuple #[.int .i64 c, .slice none 0 0])) w' := by
  subst h
  exact ⟨none, 0, rfl, Nat.le_refl _, Rd.nil _ _ _ _, hc, hm⟩
end Go.Proofs.YtngnaenbnmajdaaGreat
