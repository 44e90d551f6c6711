/-
  reference 11: Read.
  reference 08: Done, with what the slices of the packet are that it hands back.
  reference 11: the walk of Read.
-/
import Derived.Test.YtmkkjiogokfnmaaGreatDoorScMSubR
import Derived.Test.YtmkkjiogokfnmaaGreatDoorScRfX
namespace Go.Proofs.YtmkkjiogokfnmaaGreatDoor
open Go.RowKit
attribute [local go_sem ↓] to_ldPk to_bxPk to_bdPk to_alPk to_stPk
attribute [local go_sem] run_bxPk run_bxPk_agg ld_fresh run_alPk run_bd0 run_bdK run_bdKI run_bdKIC run_bdKC run_bdKICP run_stPk_fresh pkC_0 pkC_1 pkC_2 pkC_3 pkC_4 pkC_5 pkC_6 pkC_7 pkC_8 pkC_9 pkC_10 pkC_11 pkC_12 pkC_13 pkC_14 pkC_15 pkC_16 pkC_17 pkC_18 pkC_19 pkC_20 pkC_21 pkC_22 pkC_23 pkC_24
/-- What stands while the reference reads. -/
structure SRd (w wL : World) (g gp gc : Nat) (k i : Int) (l : List Pr) (A : Option Addr) (n : Nat) (t : ByteArray) (fi : List Fi) (cd : List Int) (F C : Hd) (a : Nat) (e : Int) (x : World) : Prop where
  kept : Below w.heap.size w x
  res : Bk x g PkT (pkC pk0 hs0)
  pk : Bk x gp PkT (pkC { ackR1 k i 0 l with filters := fi, codes := cd } { hs0 with props := ⟨A, n⟩, filters := F, codes := C })
  cur : RCur x gc t a e
  rd : Rd x wL.heap.size 4 A l.length (prs l)
  cap : l.length ≤ n
  ne : g ≠ gp ∧ g ≠ gc ∧ gp ≠ gc
  base : w.heap.size ≤ g ∧ w.heap.size ≤ gp ∧ w.heap.size ≤ gc
  lt : g < wL.heap.size ∧ gp < wL.heap.size ∧ gc < wL.heap.size
  size : w.heap.size ≤ wL.heap.size ∧ wL.heap.size ≤ x.heap.size
section
variable {w wL x y : World} {g gp gc : Nat} {k i : Int} {l : List Pr} {A : Option Addr} {n : Nat} {fi fi' : List Fi} {cd cd' : List Int} {F F' C C' : Hd} {t : ByteArray} {a a' : Nat} {e e' : Int}
theorem SRd.belowL (s : SRd w wL g gp gc k i l A n t fi cd F C a e x) (hb : Below wL.heap.size x y) : SRd w wL g gp gc k i l A n t fi cd F C a e y :=
  ⟨s.kept.trans (hb.mono s.size.1), s.res.below hb s.lt.1, s.pk.below hb s.lt.2.1, ⟨s.cur.1.below hb s.lt.2.2, s.cur.2⟩, s.rd.below hb, s.cap, s.ne, s.base, s.lt, s.size.1, Nat.le_trans s.size.2 hb.size⟩
theorem SRd.below (s : SRd w wL g gp gc k i l A n t fi cd F C a e x) (hb : Below x.heap.size x y) : SRd w wL g gp gc k i l A n t fi cd F C a e y := s.belowL (hb.mono s.size.2)
theorem SRd.drewN (s : SRd w wL g gp gc k i l A n t fi cd F C a e x) (m : Nat) : SRd w wL g gp gc k i l A n t fi cd F C a e (x.drewN m) := s.below (below_drawn (Below.refl _ _) m)
theorem SRd.alloc (s : SRd w wL g gp gc k i l A n t fi cd F C a e x) (o : Obj) : SRd w wL g gp gc k i l A n t fi cd F C a e (x.alloc o) := s.below ((Below.refl _ _).alloc (Nat.le_refl _) o)
theorem SRd.grown (s : SRd w wL g gp gc k i l A n t fi cd F C a e x) {r : Option Nat} (hg : x.grownBy y r) (hr : ∀ q, r = some q → wL.heap.size ≤ q) : SRd w wL g gp gc k i l A n t fi cd F C a e y :=
  s.belowL ((Below.refl wL.heap.size x).grown hg s.size.2 hr)
theorem SRd.turn (s : SRd w wL g gp gc k i l A n t fi cd F C a e x) (hc : RCur y gc t a' e') (hm : Mods (fun z => z = gc) x y) : SRd w wL g gp gc k i l A n t fi cd F C a' e' y :=
  ⟨hm.below s.kept s.kept.size (fun q hq => by rw [show q = gc from hq]; exact s.base.2.2), s.res.mods hm s.ne.2.1, s.pk.mods hm s.ne.2.2, hc,
    rd_both s.rd s.cur.1 s.cur.1 (cur_no32 _ _ _) (cur_no32 _ _ _) (hm.mono (fun i _ hi => .inl hi)) s.size.2, s.cap, s.ne, s.base, s.lt, s.size.1, Nat.le_trans s.size.2 hm.size⟩
theorem SRd.put (s : SRd w wL g gp gc k i l A n t fi cd F C a e x) (j : Nat) (u : Value)
    (hu : (pkC { ackR1 k i 0 l with filters := fi, codes := cd } { hs0 with props := ⟨A, n⟩, filters := F, codes := C }).setIfInBounds j u = pkC { ackR1 k i 0 l with filters := fi', codes := cd' } { hs0 with props := ⟨A, n⟩, filters := F', codes := C' }) :
    SRd w wL g gp gc k i l A n t fi' cd' F' C' a e (x.setCell ⟨gp, j, none⟩ u) := by
  have hm := mod_set x gp j u
  exact ⟨below_mod s.kept hm s.kept.size s.base.2.1, s.res.other (by simpa using s.ne.1) _, s.pk.upd j u hu, ⟨s.cur.1.other (by simpa using s.ne.2.2.symm) _, s.cur.2⟩,
    rd_both s.rd s.pk s.pk (pk_no32 _ _) (pk_no32 _ _) (Mods.of_grown hm (.inl rfl)) s.size.2, s.cap, s.ne, s.base, s.lt, s.size.1, Nat.le_trans s.size.2 hm.size⟩
theorem SRd.into (s : SRd w wL g gp gc k i l A n t fi cd F C a e x) (hF : OwnF wL x fi F) (hC : OwnC wL x cd C) : PkIn x x.heap.size { ackR1 k i 0 l with filters := fi, codes := cd } { hs0 with props := ⟨A, n⟩, filters := F, codes := C } :=
  ⟨Rd.nil _ _ _ _, hC.into.1, hF.into.1, s.rd.wider s.size.2, Nat.zero_le _, hC.into.2, hF.into.2, s.cap⟩
end
theorem OwnF.turn {w x y : World} {gc : Nat} {l : List Fi} {F : Hd} (h : OwnF w x l F) (hm : Mods (fun z => z = gc) x y) (hg : gc < w.heap.size) : OwnF w y l F := own_mods h hm (fun k hk e => by have := (own_block h k hk).1; have e : k = gc := e; omega)
theorem OwnC.turn {w x y : World} {gc : Nat} {l : List Int} {F : Hd} (h : OwnC w x l F) (hm : Mods (fun z => z = gc) x y) (hg : gc < w.heap.size) : OwnC w y l F := own_mods h hm (fun k hk e => by have := (own_block h k hk).1; have e : k = gc := e; omega)
end Go.Proofs.YtmkkjiogokfnmaaGreatDoor

namespace Go.Proofs.YtmkkjiogokfnmaaGreatDoor
open Go.RowKit
attribute [local go_sem ↓] to_ldPk to_bxPk to_bdPk to_alPk to_stPk
attribute [local go_sem] run_bxPk run_bxPk_agg ld_fresh run_alPk run_bd0 run_bdK run_bdKI run_bdKIC run_bdKC run_bdKICP run_stPk_fresh pkC_0 pkC_1 pkC_2 pkC_3 pkC_4 pkC_5 pkC_6 pkC_7 pkC_8 pkC_9 pkC_10 pkC_11 pkC_12 pkC_13 pkC_14 pkC_15 pkC_16 pkC_17 pkC_18 pkC_19 pkC_20 pkC_21 pkC_22 pkC_23 pkC_24

def DoneOutB (g : Nat) (h : Hs) (r : Pk × Int) (w : World) (e : Ending) (w' : World) : Prop := ∃ k, (k = h ∨ (k = hs0 ∧ r.1 = pk0)) ∧ e = .returned (.tuple #[pkV r.1 k, .int .i64 r.2]) ∧ PkIn w' w'.heap.size r.1 k ∧ w.grownBy w' (some g)
set_option maxHeartbeats 1000000 in
set_option maxRecDepth 10000 in
theorem refDoneB_any (g a : Nat) (t : ByteArray) (e x : Int) (p : Pk) (h : Hs) (w : World) (hc : RCur w g t a e) (hi : ∀ y, Mods (fun z => z = g) w y → PkIn y y.heap.size p h) :
    Calls Tryz.prog 81 #[.pointer (some ⟨g, 0, none⟩), pkV p h, .int .i64 x] w (DoneOutB g h (doneR p t a e x) w) := by
  have HI := Lib.hid hi
  have D0 : Hid (DS w g p h t a e ((w.alloc (.cells (pkC p h) PkT)).alloc (.cells (pkC pk0 hs0) PkT))) := Lib.hid
    ⟨(Mods.refl w).alloc _ |>.alloc _, (Bk.fresh w PkT (pkC p h)).alloc _, by
      have := Bk.fresh (w.alloc (.cells (pkC p h) PkT)) PkT (pkC pk0 hs0)
      rwa [show (w.alloc (.cells (pkC p h) PkT)).heap.size = w.heap.size + 1 by simp] at this, ⟨(hc.1.alloc _).alloc _, hc.2⟩, hc.lt⟩
  have HR : Hid (doneR p t a e x = if doneE t a e x ≠ 0 then (pk0, doneE t a e x) else (p, 0)) := Lib.hid rfl
  have HDE : Hid (doneE t a e x = if (if e = 0 ∧ a < t.size then 5 else e) = 0 then x else (if e = 0 ∧ a < t.size then 5 else e)) := Lib.hid rfl
  clear hc hi
  obtain ⟨⟨c0, c1, c2⟩, -⟩ := D0.out.cur.cells
  go_enter Tryz.func81, Tryz.ntmps81
  by_cases he : e = 0
  rotate_left
  · have e0 : (e == 0) = false := beq_eq_false_iff_ne.2 he
    have HE1 : Hid (doneE t a e x = if e = 0 then x else e) := Lib.hid (by rw [HDE.out, if_neg (show ¬ (e = 0 ∧ a < t.size) from fun y => he y.1)])
    clear he
    clear c0 c1 c2
    obtain ⟨⟨c0, c1, c2⟩, -⟩ := D0.out.cur.cells
    go_wp2_with fail
    refine (refFail_any g a t _ x _ D0.out.cur).mono ?_
    rintro e' x2 ⟨rfl, hcu, hm⟩
    have D2 := Lib.hid (D0.out.turn hcu hm); clear hcu hm c0 c1 c2
    rw [← HE1.out] at D2
    obtain ⟨E2, hE2⟩ : ∃ E2, doneE t a e x = E2 := ⟨_, rfl⟩
    rw [hE2] at D2 HR
    clear HE1 HDE hE2
    obtain ⟨⟨c0, c1, c2⟩, -⟩ := D2.out.cur.cells
    have hst := run_stPk D2.out.res
    by_cases hz : E2 = 0
    · subst hz
      have HX : Hid (doneR p t a e x = (p, 0)) := Lib.hid (by rw [HR.out, if_neg (fun y => y rfl)])
      have hl := ld_bk D2.out.pk
      go_wp2
      refine bodyPost_ret (results_pk rfl _ rfl (put_bk D2.out.res _ _)) rfl ?_
      rw [HX.out]
      exact ⟨h, .inl rfl, rfl, HI.out _ (D2.out.put _ _), (D2.out.put _ _).grown⟩
    · have HX : Hid (doneR p t a e x = (pk0, E2)) := Lib.hid (by rw [HR.out, if_pos hz])
      have e9 : (E2 != 0) = true := bne_iff_ne.2 hz
      clear hz
      go_wp2_with fail
      have hst1 : (stPk (.pointer (some ⟨w.heap.size + 1, 0, none⟩)) (pkV pk0 hs0)).run Tryz.prog x2.drew = .ok () (putPk x2.drew (w.heap.size + 1) pk0 hs0) := run_stPk (D2.out.res.drewN 1) pk0 hs0
      have hcd : x2.drew.cell? ⟨g, 2, none⟩ = some (.int .i64 E2) := (D2.out.cur.1.drewN 1).cell 2
      have d2' : (putPk x2.drew (w.heap.size + 1) pk0 hs0).cell? ⟨g, 2, none⟩ = some (.int .i64 E2) := by
        have hbb := (D2.out.cur.1.drewN 1).mods (S := fun z => z = w.heap.size + 1) (Mods.of_grown (putPk_mods (x2.drewN 1) (w.heap.size + 1) pk0 hs0) rfl) (by have := D2.out.lt; omega)
        exact hbb.cell 2
      have D3 : Hid (DS w g p h t a E2 x2.drew) := Lib.hid ⟨D2.out.mods.drewN 1, D2.out.pk.drewN 1, D2.out.res.drewN 1, D2.out.cur.drewN 1, D2.out.lt⟩
      clear hst
      go_region_law (fail)
      all_goals
        go_wp2
        refine bodyPost_ret (results_pk rfl _ rfl (put_bk D3.out.res _ _)) rfl ?_
        rw [HX.out]
        exact ⟨hs0, .inr ⟨rfl, rfl⟩, rfl, ⟨Rd.nil _ _ _ _, Rd.nil _ _ _ _, Rd.nil _ _ _ _, Rd.nil _ _ _ _, Nat.zero_le _, Nat.zero_le _, Nat.zero_le _, Nat.zero_le _⟩, (D3.out.put _ _).grown⟩
  subst he
  by_cases hlt : a < t.size
  · have hp0 : 0 < t.size - a := by omega
    have HE1 : Hid (doneE t a 0 x = if (5 : Int) = 0 then x else 5) := Lib.hid (by rw [HDE.out, if_pos (show (0 : Int) = 0 ∧ a < t.size from ⟨rfl, hlt⟩)])
    clear hlt
    go_wp2_with fail
    refine (refLeft_any g a t 0 _ D0.out.cur).mono ?_
    rintro e' x0 ⟨rfl, hb⟩
    have D1 := Lib.hid (D0.out.below hb); clear hb c0 c1 c2
    obtain ⟨⟨c0, c1, c2⟩, -⟩ := D1.out.cur.cells
    go_wp2_with fail
    refine (refFail_any g a t 0 5 _ D1.out.cur).mono ?_
    rintro e' x1 ⟨rfl, hcu, hm⟩
    rw [if_pos rfl] at hcu
    have DA := Lib.hid (D1.out.turn hcu hm); clear hcu hm
    clear c0 c1 c2
    obtain ⟨⟨c0, c1, c2⟩, -⟩ := DA.out.cur.cells
    go_wp2_with fail
    refine (refFail_any g a t _ x _ DA.out.cur).mono ?_
    rintro e' x2 ⟨rfl, hcu, hm⟩
    have D2 := Lib.hid (DA.out.turn hcu hm); clear hcu hm c0 c1 c2
    rw [← HE1.out] at D2
    obtain ⟨E2, hE2⟩ : ∃ E2, doneE t a 0 x = E2 := ⟨_, rfl⟩
    rw [hE2] at D2 HR
    clear HE1 HDE hE2
    obtain ⟨⟨c0, c1, c2⟩, -⟩ := D2.out.cur.cells
    have hst := run_stPk D2.out.res
    by_cases hz : E2 = 0
    · subst hz
      have HX : Hid (doneR p t a 0 x = (p, 0)) := Lib.hid (by rw [HR.out, if_neg (fun y => y rfl)])
      have hl := ld_bk D2.out.pk
      go_wp2
      refine bodyPost_ret (results_pk rfl _ rfl (put_bk D2.out.res _ _)) rfl ?_
      rw [HX.out]
      exact ⟨h, .inl rfl, rfl, HI.out _ (D2.out.put _ _), (D2.out.put _ _).grown⟩
    · have HX : Hid (doneR p t a 0 x = (pk0, E2)) := Lib.hid (by rw [HR.out, if_pos hz])
      have e9 : (E2 != 0) = true := bne_iff_ne.2 hz
      clear hz
      go_wp2_with fail
      have hst1 : (stPk (.pointer (some ⟨w.heap.size + 1, 0, none⟩)) (pkV pk0 hs0)).run Tryz.prog x2.drew = .ok () (putPk x2.drew (w.heap.size + 1) pk0 hs0) := run_stPk (D2.out.res.drewN 1) pk0 hs0
      have hcd : x2.drew.cell? ⟨g, 2, none⟩ = some (.int .i64 E2) := (D2.out.cur.1.drewN 1).cell 2
      have d2' : (putPk x2.drew (w.heap.size + 1) pk0 hs0).cell? ⟨g, 2, none⟩ = some (.int .i64 E2) := by
        have hbb := (D2.out.cur.1.drewN 1).mods (S := fun z => z = w.heap.size + 1) (Mods.of_grown (putPk_mods (x2.drewN 1) (w.heap.size + 1) pk0 hs0) rfl) (by have := D2.out.lt; omega)
        exact hbb.cell 2
      have D3 : Hid (DS w g p h t a E2 x2.drew) := Lib.hid ⟨D2.out.mods.drewN 1, D2.out.pk.drewN 1, D2.out.res.drewN 1, D2.out.cur.drewN 1, D2.out.lt⟩
      clear hst
      go_region_law (fail)
      all_goals
        go_wp2
        refine bodyPost_ret (results_pk rfl _ rfl (put_bk D3.out.res _ _)) rfl ?_
        rw [HX.out]
        exact ⟨hs0, .inr ⟨rfl, rfl⟩, rfl, ⟨Rd.nil _ _ _ _, Rd.nil _ _ _ _, Rd.nil _ _ _ _, Rd.nil _ _ _ _, Nat.zero_le _, Nat.zero_le _, Nat.zero_le _, Nat.zero_le _⟩, (D3.out.put _ _).grown⟩
  · have hp0 : ¬ 0 < t.size - a := by omega
    have HE1 : Hid (doneE t a 0 x = x) := Lib.hid (by rw [HDE.out, if_neg (show ¬ ((0 : Int) = 0 ∧ a < t.size) from fun y => hlt y.2), if_pos rfl])
    clear hlt
    go_wp2_with fail
    refine (refLeft_any g a t 0 _ D0.out.cur).mono ?_
    rintro e' x0 ⟨rfl, hb⟩
    have DA := Lib.hid (D0.out.below hb); clear hb
    clear c0 c1 c2
    obtain ⟨⟨c0, c1, c2⟩, -⟩ := DA.out.cur.cells
    go_wp2_with fail
    refine (refFail_any g a t _ x _ DA.out.cur).mono ?_
    rintro e' x2 ⟨rfl, hcu, hm⟩
    rw [if_pos rfl] at hcu
    have D2 := Lib.hid (DA.out.turn hcu hm); clear hcu hm c0 c1 c2
    rw [← HE1.out] at D2
    obtain ⟨E2, hE2⟩ : ∃ E2, doneE t a 0 x = E2 := ⟨_, rfl⟩
    rw [hE2] at D2 HR
    clear HE1 HDE hE2
    obtain ⟨⟨c0, c1, c2⟩, -⟩ := D2.out.cur.cells
    have hst := run_stPk D2.out.res
    by_cases hz : E2 = 0
    · subst hz
      have HX : Hid (doneR p t a 0 x = (p, 0)) := Lib.hid (by rw [HR.out, if_neg (fun y => y rfl)])
      have hl := ld_bk D2.out.pk
      go_wp2
      refine bodyPost_ret (results_pk rfl _ rfl (put_bk D2.out.res _ _)) rfl ?_
      rw [HX.out]
      exact ⟨h, .inl rfl, rfl, HI.out _ (D2.out.put _ _), (D2.out.put _ _).grown⟩
    · have HX : Hid (doneR p t a 0 x = (pk0, E2)) := Lib.hid (by rw [HR.out, if_pos hz])
      have e9 : (E2 != 0) = true := bne_iff_ne.2 hz
      clear hz
      go_wp2_with fail
      have hst1 : (stPk (.pointer (some ⟨w.heap.size + 1, 0, none⟩)) (pkV pk0 hs0)).run Tryz.prog x2.drew = .ok () (putPk x2.drew (w.heap.size + 1) pk0 hs0) := run_stPk (D2.out.res.drewN 1) pk0 hs0
      have hcd : x2.drew.cell? ⟨g, 2, none⟩ = some (.int .i64 E2) := (D2.out.cur.1.drewN 1).cell 2
      have d2' : (putPk x2.drew (w.heap.size + 1) pk0 hs0).cell? ⟨g, 2, none⟩ = some (.int .i64 E2) := by
        have hbb := (D2.out.cur.1.drewN 1).mods (S := fun z => z = w.heap.size + 1) (Mods.of_grown (putPk_mods (x2.drewN 1) (w.heap.size + 1) pk0 hs0) rfl) (by have := D2.out.lt; omega)
        exact hbb.cell 2
      have D3 : Hid (DS w g p h t a E2 x2.drew) := Lib.hid ⟨D2.out.mods.drewN 1, D2.out.pk.drewN 1, D2.out.res.drewN 1, D2.out.cur.drewN 1, D2.out.lt⟩
      clear hst
      go_region_law (fail)
      all_goals
        go_wp2
        refine bodyPost_ret (results_pk rfl _ rfl (put_bk D3.out.res _ _)) rfl ?_
        rw [HX.out]
        exact ⟨hs0, .inr ⟨rfl, rfl⟩, rfl, ⟨Rd.nil _ _ _ _, Rd.nil _ _ _ _, Rd.nil _ _ _ _, Rd.nil _ _ _ _, Nat.zero_le _, Nat.zero_le _, Nat.zero_le _, Nat.zero_le _⟩, (D3.out.put _ _).grown⟩

end Go.Proofs.YtmkkjiogokfnmaaGreatDoor

namespace Go.Proofs.YtmkkjiogokfnmaaGreatDoor
open Go.RowKit
attribute [local go_sem ↓] to_ldPk to_bxPk to_bdPk to_alPk to_stPk
attribute [local go_sem] run_bxPk run_bxPk_agg ld_fresh run_alPk run_bd0 run_bdK run_bdKI run_bdKIC run_bdKC run_bdKICP run_stPk_fresh pkC_0 pkC_1 pkC_2 pkC_3 pkC_4 pkC_5 pkC_6 pkC_7 pkC_8 pkC_9 pkC_10 pkC_11 pkC_12 pkC_13 pkC_14 pkC_15 pkC_16 pkC_17 pkC_18 pkC_19 pkC_20 pkC_21 pkC_22 pkC_23 pkC_24
section
variable {w wL x : World} {g gp gc : Nat} {k i : Int} {t : ByteArray} {a : Nat} {e : Int}
theorem SRd.props {l : List Pr} {A : Option Addr} {n : Nat} (s : SRd w wL g gp gc k i [] none 0 t [] [] hd0 hd0 a e x) (hr : Rd x x.heap.size 4 A l.length (prs l)) (hc : l.length ≤ n) :
    SRd w (x.setCell ⟨gp, 24, none⟩ (.slice A l.length n)) g gp gc k i l A n t [] [] hd0 hd0 a e (x.setCell ⟨gp, 24, none⟩ (.slice A l.length n)) := by
  have hm := mod_set x gp 24 (.slice A l.length n)
  have h1 : Bk (x.setCell ⟨gp, 24, none⟩ (.slice A l.length n)) g PkT (pkC pk0 hs0) := s.res.other (by simpa using s.ne.1) _
  have h2 : Bk (x.setCell ⟨gp, 24, none⟩ (.slice A l.length n)) gp PkT (pkC { ackR1 k i 0 l with filters := [], codes := [] } { hs0 with props := ⟨A, n⟩, filters := hd0, codes := hd0 }) := s.pk.upd 24 _ rfl
  have h3 : RCur (x.setCell ⟨gp, 24, none⟩ (.slice A l.length n)) gc t a e := ⟨s.cur.1.other (by simpa using s.ne.2.2.symm) _, s.cur.2⟩
  have h4 := below_mod s.kept hm s.kept.size s.base.2.1
  exact ⟨h4, h1, h2, h3, (rd_both hr s.pk s.pk (pk_no32 _ _) (pk_no32 _ _) (Mods.of_grown hm (.inl rfl)) (Nat.le_refl _)).wider hm.size, hc, s.ne, s.base, ⟨h1.lt, h2.lt, h3.lt⟩, h4.size, Nat.le_refl _⟩
end
theorem SRd.stay {w wL x y : World} {g gp gc : Nat} {k i : Int} {l : List Pr} {A : Option Addr} {n : Nat} {fi : List Fi} {cd : List Int} {F C : Hd} {t : ByteArray} {a : Nat} {e : Int} (s : SRd w wL g gp gc k i l A n t fi cd F C a e x) (hF : OwnF wL x fi F) (hC : OwnC wL x cd C) (hm : Mods (two gc g) x y) :
    PkIn y y.heap.size { ackR1 k i 0 l with filters := fi, codes := cd } { hs0 with props := ⟨A, n⟩, filters := F, codes := C } := by
  have hl := s.lt
  have hF' : OwnF wL y fi F := own_mods hF hm (fun k hk e => by have := (own_block hF k hk).1; rcases e with e | e <;> omega)
  have hC' : OwnC wL y cd C := own_mods hC hm (fun k hk e => by have := (own_block hC k hk).1; rcases e with e | e <;> omega)
  exact ⟨Rd.nil _ _ _ _, hC'.into.1, hF'.into.1, (rd_both s.rd s.cur.1 s.res (cur_no32 _ _ _) (pk_no32 _ _) hm s.size.2).wider (Nat.le_trans s.size.2 hm.size), Nat.zero_le _, hC'.into.2, hF'.into.2, s.cap⟩
theorem known_eq (v k : Int) : sbKnown v k = (hdKnown v && rKinds k) := by
  unfold sbKnown hdKnown rKinds
  rw [← Bool.decide_and, ← Bool.decide_and]
set_option maxHeartbeats 8000000 in
set_option maxRecDepth 10000 in
theorem rRead_any (v k : Int) (s : ByteArray) (w : World) (hs : s.size ≤ 1000000000000) :
    Calls Tryz.prog 23 #[.int .i64 v, .int .i64 k, .string s] w (PkOut (sbR v k s) w) := by
  have HS := Lib.hid hs
  have HB0 := Lib.hid ((Below.refl w.heap.size w).alloc (Nat.le_refl _) (.cells (pkC pk0 hs0) PkT))
  have HR0 := Lib.hid (Bk.fresh w PkT (pkC pk0 hs0))
  have hst := run_stPk HR0.out
  have HKE := Lib.hid (known_eq v k)
  clear hs
  go_enter Tryz.func23, Tryz.ntmps23
  go_wp2_with fail
  refine (refVersion_any v _).mono ?_
  rintro e w1 ⟨rfl, rfl⟩
  cases hk : hdKnown v
  · have HX : Hid (sbR v k s = (pk0, 2)) := Lib.hid (by unfold sbR; rw [if_pos (by rw [HKE.out, hk]; rfl)])
    clear hk
    go_wp2
    refine bodyPost_ret (results_pk rfl _ rfl (put_bk HR0.out _ _)) rfl ?_
    exact pkOut_bad HX.out (below_put HB0.out HB0.out.size (Nat.le_refl _) _ _)
  go_wp2_with fail
  refine (rKinds_any k _).mono ?_
  rintro e w1 ⟨rfl, rfl⟩
  cases hr : rKinds k
  · have HX : Hid (sbR v k s = (pk0, 2)) := Lib.hid (by unfold sbR; rw [if_pos (by rw [HKE.out, hk, hr]; rfl)])
    clear hk hr
    go_wp2
    refine bodyPost_ret (results_pk rfl _ rfl (put_bk HR0.out _ _)) rfl ?_
    exact pkOut_bad HX.out (below_put HB0.out HB0.out.size (Nat.le_refl _) _ _)
  have HK : Hid (sbKnown v k = true) := Lib.hid (by rw [HKE.out, hk, hr]; rfl)
  have HV : Hid (v = 4 ∨ v = 5) := Lib.hid (of_decide_eq_true hk)
  clear hk hr hst
  go_wp2_with fail
  refine (refNew_any s _ (by have := HS.out; omega)).mono ?_
  rintro e w1 ⟨rfl, hcu, hb⟩
  have hgc : (w.alloc (.cells (pkC pk0 hs0) PkT)).heap.size = w.heap.size + 1 := by simp
  have HB1 := Lib.hid (HB0.out.trans (hb.mono HB0.out.size)); have HR1 := Lib.hid (HR0.out.below hb HR0.out.lt)
  rw [hgc] at hcu ⊢
  have HC1 := Lib.hid hcu
  clear hcu hb hgc
  go_wp2_with fail
  refine (refNumber_any (w.heap.size + 1) 0 s 0 2 _ HC1.out (by decide)).mono ?_
  rintro e w2 ⟨rfl, hcu, hm⟩
  have HB2 := Lib.hid (below_mod HB1.out hm HB1.out.size (by omega)); have HR2 := Lib.hid (HR1.out.mods (S := fun z => z = w.heap.size + 1) (Mods.of_grown hm rfl) (by omega)); have HC2 := Lib.hid hcu
  have HZ := Lib.hid HC2.out.lt
  have hid := num_two_lt s 0 0 (by omega)
  obtain ⟨m, hm2⟩ : ∃ m, numS s 0 0 2 = m := ⟨_, rfl⟩
  rw [hm2] at hid ⊢
  have HM2 := Lib.hid hm2
  obtain ⟨TK, hTK⟩ : ∃ T, takeS s 0 0 2 = T := ⟨_, rfl⟩
  have HPR : Hid (sbPr v k s = prpC v k s TK.2.1 TK.2.2) := Lib.hid (by unfold sbPr; rw [hTK])
  rw [hTK] at HC2
  clear hcu hm hm2 hTK
  obtain ⟨T0, a0, e0⟩ := TK
  simp only at HPR HC2
  obtain ⟨id, hm1⟩ : ∃ id : Int, id = (m : Int) := ⟨_, rfl⟩
  have hw : IntKind.i64.wrap (m : Int) = id := by rw [hm1, IntKind.wrap_i64]; omega
  have HM : Hid (id = (m : Int)) := Lib.hid hm1
  clear hid hm1
  obtain ⟨W0, hW0⟩ : ∃ W0, w2.alloc (.cells (pkC (ackR1 k id 0 []) hs0) PkT) = W0 := ⟨_, rfl⟩
  have I3 : Hid (SRd w W0 w.heap.size w2.heap.size (w.heap.size + 1) k id [] none 0 s [] [] hd0 hd0 a0 e0 W0) := Lib.hid (by
    rw [← hW0]
    exact ⟨HB2.out.alloc HB2.out.size _, HR2.out.alloc _, Bk.fresh _ _ _, ⟨HC2.out.1.alloc _, HC2.out.2⟩, Rd.nil _ _ _ _, Nat.le_refl _, ⟨by have := HZ.out; omega, by omega, by have := HZ.out; omega⟩, ⟨Nat.le_refl _, by have := HZ.out; omega, by omega⟩,
      ⟨(HR2.out.alloc _).lt, (Bk.fresh w2 PkT _).lt, (HC2.out.1.alloc _).lt⟩, (HB2.out.alloc HB2.out.size _).size, Nat.le_refl _⟩)
  go_wp2_with fail
  rw [ackR1_ki, hW0]
  refine (refProps_any v k (w.heap.size + 1) a0 s e0 _ I3.out.cur (by have := HS.out; omega)).mono ?_
  rintro e' x1 ⟨A, q, rfl, hlc, hr, hcu, hm⟩
  rw [props_eq, ← HPR.out] at hlc hr hcu ⊢
  have I4 := Lib.hid (I3.out.turn hcu (Mods.of_grown hm rfl))
  obtain ⟨R, hR⟩ : ∃ R, sbPr v k s = R := ⟨_, rfl⟩
  rw [hR] at hlc hr hcu I4 ⊢
  have HPE := Lib.hid hR
  clear hR
  obtain ⟨l, a1, e1⟩ := R
  simp only at hlc hr hcu I4 ⊢
  have f24 := I4.out.pk.free 24
  have p24 := (I4.out.pk.cell 24).trans (pkC_24 _ _)
  have I5 := Lib.hid (I4.out.props hr hlc)
  obtain ⟨W1, hW1⟩ : ∃ W1, x1.setCell ⟨w2.heap.size, 24, none⟩ (.slice A l.length q) = W1 := ⟨_, rfl⟩
  rw [hW1] at I5
  clear hlc hr hcu hm hw hW0 I3
  generalize hgp : w2.heap.size = gp at *
  go_wp2
  clear hW1 hgp f24 p24 I4
  obtain ⟨RES, hRES⟩ : ∃ R, lsR v k s (s.size + 1) a1 e1 [] [] = R := ⟨_, rfl⟩
  have HRES := Lib.hid hRES
  clear hRES
  go_loopg [] (s.size + 1) (fun n wr => ∃ (a : Nat) (e : Int) (fi : List Fi) (cd : List Int) (F C : Hd), lsR v k s n a e fi cd = RES ∧ (e = 0 → s.size - a < n) ∧ (e = 0 → fi.length ≤ a ∧ cd.length ≤ a) ∧ ((sbAsk k = true → cd = [] ∧ C = hd0) ∧ (sbAsk k = false → fi = [] ∧ F = hd0)) ∧
    SRd w W1 w.heap.size gp (w.heap.size + 1) k id l A q s fi cd F C a e wr ∧ OwnF W1 wr fi F ∧ OwnC W1 wr cd C)
  case atStart => exact ⟨a1, e1, [], [], hd0, hd0, HRES.out, fun _ => by omega, fun _ => ⟨Nat.zero_le _, Nat.zero_le _⟩, ⟨fun _ => ⟨rfl, rfl⟩, fun _ => ⟨rfl, rfl⟩⟩, I5.out, World.ownsRow_nil _ _ _ _, World.ownsRow_nil _ _ _ _⟩
  case round =>
    obtain ⟨a, e, fi, cd, F, C, hl, hfu, hlen, hnil, hI, hF, hC⟩ := hrel
    have HNIL := Lib.hid hnil; clear hnil
    have HL := Lib.hid hl; have HFU := Lib.hid hfu; have HLEN := Lib.hid hlen; have I := Lib.hid hI; have OF := Lib.hid hF; have OC := Lib.hid hC
    clear hl hfu hlen hI hF hC
    have ce := I.out.cur.cells.1.2.2
    by_cases he : e = 0
    rotate_left
    · have e1' : (e == 0) = false := beq_eq_false_iff_ne.2 he
      have HX : Hid (RES = (fi, cd, a, e)) := Lib.hid (by rw [← HL.out, lsR_err he])
      have HEN : Hid (e ≠ 0 ∨ s.size ≤ a) := Lib.hid (.inl he)
      clear he
      have HEnd : Hid (e ≠ 0 ∨ s.size ≤ a) := Lib.hid HEN.out
      have hls : sbLs v k s = (fi, cd, a, e) := by unfold sbLs; rw [HPE.out]; exact HRES.out.trans HX.out
      have hpk := I.out.pk
      have HST0 : Hid (∀ y, Mods (two (w.heap.size + 1) w.heap.size) wr y → PkIn y y.heap.size { ackR1 k id 0 l with filters := fi, codes := cd } { hs0 with props := ⟨A, q⟩, filters := F, codes := C }) := Lib.hid (fun y hy => I.out.stay OF.out OC.out hy)
      obtain ⟨P, hP⟩ : ∃ P : Pk, ({ ackR1 k id 0 l with filters := fi, codes := cd } : Pk) = P := ⟨_, rfl⟩
      obtain ⟨H, hH⟩ : ∃ H : Hs, ({ hs0 with props := ⟨A, q⟩, filters := F, codes := C } : Hs) = H := ⟨_, rfl⟩
      have HFU2 : Hid (sbFull v k s = P) := Lib.hid (by unfold sbFull; rw [hls, HPE.out, HM2.out, ← hP, HM.out]; rfl)
      rw [hP, hH] at hpk HST0
      have HPK := Lib.hid hpk
      have HOK : Hid (PkOk P) := Lib.hid (by rw [← HFU2.out]; exact sbFull_ok (by have := HS.out; omega))
      have HRR : Hid (sbR v k s = doneR P s a e (sbE v P)) := Lib.hid (by
        unfold sbR
        rw [if_neg (by rw [HK.out]; decide), hls, HFU2.out]
        simp only
        unfold doneR doneE
        rw [if_neg (show ¬ (e = 0 ∧ a < s.size) from fun y => by rcases HEnd.out with h | h; exact h y.1; omega)]
        by_cases h0 : (e : Int) = 0
        · rw [if_neg (fun x => x h0), if_pos h0]
        · rw [if_pos h0, if_neg h0, if_pos h0])
      have HL2 := ld_bk (hpk.drewN 1)
      clear hls hP hH hpk
      go_wp2_with fail
      refine wp_region_D (fun w' => (ldPk (.pointer (some ⟨gp, 0, none⟩))).run Tryz.prog w' = .ok (pkV P H) w') [5] (by kernel_rfl) ?_
      refine anyD_take (i := 0) (v := ?vp_0) [5] rfl (by kernel_rfl) (by kernel_rfl) (by kernel_rfl) (by kernel_rfl) (by kernel_rfl) (by kernel_rfl) (fun _ _ _ h => h) (Or.inl ⟨by rfl, ?hp_0⟩) HL2 ?rp_0
      case hp_0 => intro w' hSw; (try dsimp only at hSw); go_simp; try with_reducible rfl
      (try simp only [Act.put]); (try simp only [List.setIfInBounds_toArray]); (try simp only [List.set_cons_succ]); (try simp only [List.set_cons_zero])
      refine anyD_take (i := 1) (v := ?vp_1) [5] rfl (by kernel_rfl) (by kernel_rfl) (by kernel_rfl) (by kernel_rfl) (by kernel_rfl) (by kernel_rfl) (fun _ _ _ h => h) (Or.inl ⟨by rfl, ?hp_1⟩) HL2 ?rp_1
      case hp_1 => intro w' hSw; (try dsimp only at hSw); go_simp; try with_reducible rfl
      (try simp only [Act.put]); (try simp only [List.setIfInBounds_toArray]); (try simp only [List.set_cons_succ]); (try simp only [List.set_cons_zero])
      refine anyD_take (i := 2) (v := ?vp_2) [4, 5] rfl (by kernel_rfl) (by kernel_rfl) (by kernel_rfl) (by kernel_rfl) (by kernel_rfl) (by kernel_rfl) (fun _ _ _ h => h) (Or.inl ⟨by rfl, ?hp_2⟩) HL2 ?rp_2
      case hp_2 => intro w' hSw; (try dsimp only at hSw); go_simp; try with_reducible rfl
      (try simp only [Act.put]); (try simp only [List.setIfInBounds_toArray]); (try simp only [List.set_cons_succ]); (try simp only [List.set_cons_zero])
      refine anyD_take (i := 3) (v := ?vp_3) [4, 5] rfl (by kernel_rfl) (by kernel_rfl) (by kernel_rfl) (by kernel_rfl) (by kernel_rfl) (by kernel_rfl) (fun _ _ _ h => h) (Or.inl ⟨by rfl, ?hp_3⟩) HL2 ?rp_3
      case hp_3 => intro w' hSw; (try dsimp only at hSw); go_simp; try with_reducible rfl
      (try simp only [Act.put]); (try simp only [List.setIfInBounds_toArray]); (try simp only [List.set_cons_succ]); (try simp only [List.set_cons_zero])
      refine anyD_ready (rs := [4]) (by kernel_rfl) (by simp) (AllD.cons rfl (fun K hK => ?_) AllD.nil)
      go_simp
      go_at_call 24
      refine (rValid_any v P H _ (HST0.out _ ((Mods.refl _).drewN 1)) HOK.out).mono ?_
      rintro e' z1 ⟨rfl, hb⟩
      have J1 := Lib.hid ((I.out.drewN 1).below hb)
      have HM1 : Hid (Mods (two (w.heap.size + 1) w.heap.size) wr z1) := Lib.hid (((Mods.refl _).drewN 1).trans (Mods.of_below hb))
      have KP := Lib.hid ((HPK.out.drewN 1).below hb (HPK.out.drewN 1).lt)
      clear hb HL2
      have HL2 := ld_bk KP.out
      go_simp
      refine hK.out _ _ (fun _ => HL2) ?_
      clear hK K
      (try simp only [Act.put]); (try simp only [List.setIfInBounds_toArray]); (try simp only [List.set_cons_succ]); (try simp only [List.set_cons_zero])
      refine anyD_ready (rs := [5]) (by kernel_rfl) (by simp) (AllD.cons rfl (fun K hK => ?_) AllD.nil)
      go_simp
      go_at_call 81
      refine (refDoneB_any (w.heap.size + 1) a s e (sbE v P) P H _ J1.out.cur (fun y hm => HST0.out y (HM1.out.trans (hm.mono (fun _ _ h => .inl h))))).mono ?_
      rintro e' z2 ⟨kk, hkk, rfl, hi, hm⟩
      go_simp
      refine hK.out _ _ (fun hn => absurd (hn 5 (by simp)) (by decide)) (anyD_late (d := 5) (by simp) _ _ _ _ (by kernel_rfl) ?_)
      clear hK K HL2
      (try simp only [Act.put]); (try simp only [List.setIfInBounds_toArray]); (try simp only [List.set_cons_succ]); (try simp only [List.set_cons_zero])
      have HRP : Hid ((doneR P s a e (sbE v P)).1 = P ∨ (doneR P s a e (sbE v P)).1 = pk0) := Lib.hid (by unfold doneR; split; exact .inr rfl; exact .inl rfl)
      obtain ⟨R, hR⟩ : ∃ R, doneR P s a e (sbE v P) = R := ⟨_, rfl⟩
      rw [hR] at hi hkk HRR HRP ⊢
      clear hR
      have HST : Hid (∀ y, z2.grownBy y (some w.heap.size) → PkIn y y.heap.size R.1 kk) := Lib.hid (fun y hy => by
        have hmm : Mods (two (w.heap.size + 1) w.heap.size) wr y := HM1.out.trans ((Mods.of_grown hm (.inl rfl)).trans (Mods.of_grown hy (.inr rfl)))
        rcases HRP.out with h1 | h1
        · rw [h1]
          rcases hkk with h2 | ⟨h2, h3⟩
          · rw [h2]; exact HST0.out y hmm
          · rw [h2, ← h1, h3]; exact pk0_in _ _
        · rw [h1]
          exact ⟨Rd.nil _ _ _ _, Rd.nil _ _ _ _, Rd.nil _ _ _ _, Rd.nil _ _ _ _, Nat.zero_le _, Nat.zero_le _, Nat.zero_le _, Nat.zero_le _⟩)
      have HR2 := Lib.hid (J1.out.res.mods (S := fun z => z = w.heap.size + 1) (Mods.of_grown hm rfl) J1.out.ne.2.1)
      have HB2' := Lib.hid (below_mod J1.out.kept hm J1.out.kept.size J1.out.base.2.2)
      have hst := run_stPk HR2.out
      clear hi hkk
      refine wpAny_take (i := 6) (v := ?vp_6) rfl (by kernel_rfl) (by kernel_rfl) (by kernel_rfl) (fun _ _ _ h => h) (Or.inl ⟨by rfl, ?hp_6⟩) ?rp_6
      case hp_6 => intro w'; go_simp; try with_reducible rfl
      (try simp only [Act.put]); (try simp only [List.setIfInBounds_toArray]); (try simp only [List.set_cons_succ]); (try simp only [List.set_cons_zero])
      refine wpAny_take (i := 7) (v := ?vp_7) rfl (by kernel_rfl) (by kernel_rfl) (by kernel_rfl) (fun _ _ _ h => h) (Or.inl ⟨by rfl, ?hp_7⟩) ?rp_7
      case hp_7 => intro w'; go_simp; try with_reducible rfl
      (try simp only [Act.put]); (try simp only [List.setIfInBounds_toArray]); (try simp only [List.set_cons_succ]); (try simp only [List.set_cons_zero])
      refine wpAny_ready (rs := [8]) (by kernel_rfl) (by simp) (allShut rfl (fun K hK => ?_) AllReady.nil)
      go_simp
      refine hK.out _ _ ?_
      clear hK K
      (try simp only [Act.put]); (try simp only [List.setIfInBounds_toArray]); (try simp only [List.set_cons_succ]); (try simp only [List.set_cons_zero])
      refine wpAny_ready (rs := [9]) (by kernel_rfl) (by simp) (allShut rfl (fun K hK => ?_) AllReady.nil)
      go_simp
      refine hK.out _ _ ?_
      clear hK K
      (try simp only [Act.put]); (try simp only [List.setIfInBounds_toArray]); (try simp only [List.set_cons_succ]); (try simp only [List.set_cons_zero])
      refine wpAny_done (by kernel_rfl) ?_ _
      go_wp2
      refine bodyPost_ret (results_pk rfl _ rfl (put_bk HR2.out _ _)) rfl ?_
      rw [HRR.out]
      exact ⟨kk, rfl, HST.out _ (putPk_mods _ _ _ _), below_put HB2'.out HB2'.out.size (Nat.le_refl _) _ _⟩
    subst he
    obtain ⟨n, rfl⟩ : ∃ n, gk = n + 1 := ⟨gk - 1, by have := HFU.out (by first | rfl | trivial); omega⟩
    rw [lsR_succ] at HL
    go_wp2_with fail
    refine (refLeft_any (w.heap.size + 1) a s 0 _ I.out.cur).mono ?_
    rintro e' w3 ⟨rfl, hb⟩
    have J0 := Lib.hid (I.out.below hb); have OF1 : Hid (OwnF W1 w3 fi F) := Lib.hid (own_below OF.out hb); have OC1 : Hid (OwnC W1 w3 cd C) := Lib.hid (own_below OC.out hb)
    clear hb I OF OC ce
    by_cases hz : s.size ≤ a
    · have e2 : ¬ (0 : Int) < ((s.size - a : Nat) : Int) := by omega
      have HX : Hid (RES = (fi, cd, a, 0)) := Lib.hid (by rw [← HL.out, if_pos (.inr hz)])
      have HEN : Hid ((0 : Int) ≠ 0 ∨ s.size ≤ a) := Lib.hid (.inr hz)
      clear hz
      have HEnd : Hid ((0 : Int) ≠ 0 ∨ s.size ≤ a) := Lib.hid HEN.out
      have hls : sbLs v k s = (fi, cd, a, (0 : Int)) := by unfold sbLs; rw [HPE.out]; exact HRES.out.trans HX.out
      have hpk := J0.out.pk
      have HST0 : Hid (∀ y, Mods (two (w.heap.size + 1) w.heap.size) w3 y → PkIn y y.heap.size { ackR1 k id 0 l with filters := fi, codes := cd } { hs0 with props := ⟨A, q⟩, filters := F, codes := C }) := Lib.hid (fun y hy => J0.out.stay OF1.out OC1.out hy)
      obtain ⟨P, hP⟩ : ∃ P : Pk, ({ ackR1 k id 0 l with filters := fi, codes := cd } : Pk) = P := ⟨_, rfl⟩
      obtain ⟨H, hH⟩ : ∃ H : Hs, ({ hs0 with props := ⟨A, q⟩, filters := F, codes := C } : Hs) = H := ⟨_, rfl⟩
      have HFU2 : Hid (sbFull v k s = P) := Lib.hid (by unfold sbFull; rw [hls, HPE.out, HM2.out, ← hP, HM.out]; rfl)
      rw [hP, hH] at hpk HST0
      have HPK := Lib.hid hpk
      have HOK : Hid (PkOk P) := Lib.hid (by rw [← HFU2.out]; exact sbFull_ok (by have := HS.out; omega))
      have HRR : Hid (sbR v k s = doneR P s a (0 : Int) (sbE v P)) := Lib.hid (by
        unfold sbR
        rw [if_neg (by rw [HK.out]; decide), hls, HFU2.out]
        simp only
        unfold doneR doneE
        rw [if_neg (show ¬ ((0 : Int) = 0 ∧ a < s.size) from fun y => by rcases HEnd.out with h | h; exact h y.1; omega)]
        by_cases h0 : ((0 : Int) : Int) = 0
        · rw [if_neg (fun x => x h0), if_pos h0]
        · rw [if_pos h0, if_neg h0, if_pos h0])
      have HL2 := ld_bk (hpk.drewN 1)
      clear hls hP hH hpk
      go_wp2_with fail
      refine wp_region_D (fun w' => (ldPk (.pointer (some ⟨gp, 0, none⟩))).run Tryz.prog w' = .ok (pkV P H) w') [5] (by kernel_rfl) ?_
      refine anyD_take (i := 0) (v := ?vq_0) [5] rfl (by kernel_rfl) (by kernel_rfl) (by kernel_rfl) (by kernel_rfl) (by kernel_rfl) (by kernel_rfl) (fun _ _ _ h => h) (Or.inl ⟨by rfl, ?hq_0⟩) HL2 ?rq_0
      case hq_0 => intro w' hSw; (try dsimp only at hSw); go_simp; try with_reducible rfl
      (try simp only [Act.put]); (try simp only [List.setIfInBounds_toArray]); (try simp only [List.set_cons_succ]); (try simp only [List.set_cons_zero])
      refine anyD_take (i := 1) (v := ?vq_1) [5] rfl (by kernel_rfl) (by kernel_rfl) (by kernel_rfl) (by kernel_rfl) (by kernel_rfl) (by kernel_rfl) (fun _ _ _ h => h) (Or.inl ⟨by rfl, ?hq_1⟩) HL2 ?rq_1
      case hq_1 => intro w' hSw; (try dsimp only at hSw); go_simp; try with_reducible rfl
      (try simp only [Act.put]); (try simp only [List.setIfInBounds_toArray]); (try simp only [List.set_cons_succ]); (try simp only [List.set_cons_zero])
      refine anyD_take (i := 2) (v := ?vq_2) [4, 5] rfl (by kernel_rfl) (by kernel_rfl) (by kernel_rfl) (by kernel_rfl) (by kernel_rfl) (by kernel_rfl) (fun _ _ _ h => h) (Or.inl ⟨by rfl, ?hq_2⟩) HL2 ?rq_2
      case hq_2 => intro w' hSw; (try dsimp only at hSw); go_simp; try with_reducible rfl
      (try simp only [Act.put]); (try simp only [List.setIfInBounds_toArray]); (try simp only [List.set_cons_succ]); (try simp only [List.set_cons_zero])
      refine anyD_take (i := 3) (v := ?vq_3) [4, 5] rfl (by kernel_rfl) (by kernel_rfl) (by kernel_rfl) (by kernel_rfl) (by kernel_rfl) (by kernel_rfl) (fun _ _ _ h => h) (Or.inl ⟨by rfl, ?hq_3⟩) HL2 ?rq_3
      case hq_3 => intro w' hSw; (try dsimp only at hSw); go_simp; try with_reducible rfl
      (try simp only [Act.put]); (try simp only [List.setIfInBounds_toArray]); (try simp only [List.set_cons_succ]); (try simp only [List.set_cons_zero])
      refine anyD_ready (rs := [4]) (by kernel_rfl) (by simp) (AllD.cons rfl (fun K hK => ?_) AllD.nil)
      go_simp
      go_at_call 24
      refine (rValid_any v P H _ (HST0.out _ ((Mods.refl _).drewN 1)) HOK.out).mono ?_
      rintro e' z1 ⟨rfl, hb⟩
      have J1 := Lib.hid ((J0.out.drewN 1).below hb)
      have HM1 : Hid (Mods (two (w.heap.size + 1) w.heap.size) w3 z1) := Lib.hid (((Mods.refl _).drewN 1).trans (Mods.of_below hb))
      have KP := Lib.hid ((HPK.out.drewN 1).below hb (HPK.out.drewN 1).lt)
      clear hb HL2
      have HL2 := ld_bk KP.out
      go_simp
      refine hK.out _ _ (fun _ => HL2) ?_
      clear hK K
      (try simp only [Act.put]); (try simp only [List.setIfInBounds_toArray]); (try simp only [List.set_cons_succ]); (try simp only [List.set_cons_zero])
      refine anyD_ready (rs := [5]) (by kernel_rfl) (by simp) (AllD.cons rfl (fun K hK => ?_) AllD.nil)
      go_simp
      go_at_call 81
      refine (refDoneB_any (w.heap.size + 1) a s (0 : Int) (sbE v P) P H _ J1.out.cur (fun y hm => HST0.out y (HM1.out.trans (hm.mono (fun _ _ h => .inl h))))).mono ?_
      rintro e' z2 ⟨kk, hkk, rfl, hi, hm⟩
      go_simp
      refine hK.out _ _ (fun hn => absurd (hn 5 (by simp)) (by decide)) (anyD_late (d := 5) (by simp) _ _ _ _ (by kernel_rfl) ?_)
      clear hK K HL2
      (try simp only [Act.put]); (try simp only [List.setIfInBounds_toArray]); (try simp only [List.set_cons_succ]); (try simp only [List.set_cons_zero])
      have HRP : Hid ((doneR P s a (0 : Int) (sbE v P)).1 = P ∨ (doneR P s a (0 : Int) (sbE v P)).1 = pk0) := Lib.hid (by unfold doneR; split; exact .inr rfl; exact .inl rfl)
      obtain ⟨R, hR⟩ : ∃ R, doneR P s a (0 : Int) (sbE v P) = R := ⟨_, rfl⟩
      rw [hR] at hi hkk HRR HRP ⊢
      clear hR
      have HST : Hid (∀ y, z2.grownBy y (some w.heap.size) → PkIn y y.heap.size R.1 kk) := Lib.hid (fun y hy => by
        have hmm : Mods (two (w.heap.size + 1) w.heap.size) w3 y := HM1.out.trans ((Mods.of_grown hm (.inl rfl)).trans (Mods.of_grown hy (.inr rfl)))
        rcases HRP.out with h1 | h1
        · rw [h1]
          rcases hkk with h2 | ⟨h2, h3⟩
          · rw [h2]; exact HST0.out y hmm
          · rw [h2, ← h1, h3]; exact pk0_in _ _
        · rw [h1]
          exact ⟨Rd.nil _ _ _ _, Rd.nil _ _ _ _, Rd.nil _ _ _ _, Rd.nil _ _ _ _, Nat.zero_le _, Nat.zero_le _, Nat.zero_le _, Nat.zero_le _⟩)
      have HR2 := Lib.hid (J1.out.res.mods (S := fun z => z = w.heap.size + 1) (Mods.of_grown hm rfl) J1.out.ne.2.1)
      have HB2' := Lib.hid (below_mod J1.out.kept hm J1.out.kept.size J1.out.base.2.2)
      have hst := run_stPk HR2.out
      clear hi hkk
      refine wpAny_take (i := 6) (v := ?vq_6) rfl (by kernel_rfl) (by kernel_rfl) (by kernel_rfl) (fun _ _ _ h => h) (Or.inl ⟨by rfl, ?hq_6⟩) ?rq_6
      case hq_6 => intro w'; go_simp; try with_reducible rfl
      (try simp only [Act.put]); (try simp only [List.setIfInBounds_toArray]); (try simp only [List.set_cons_succ]); (try simp only [List.set_cons_zero])
      refine wpAny_take (i := 7) (v := ?vq_7) rfl (by kernel_rfl) (by kernel_rfl) (by kernel_rfl) (fun _ _ _ h => h) (Or.inl ⟨by rfl, ?hq_7⟩) ?rq_7
      case hq_7 => intro w'; go_simp; try with_reducible rfl
      (try simp only [Act.put]); (try simp only [List.setIfInBounds_toArray]); (try simp only [List.set_cons_succ]); (try simp only [List.set_cons_zero])
      refine wpAny_ready (rs := [8]) (by kernel_rfl) (by simp) (allShut rfl (fun K hK => ?_) AllReady.nil)
      go_simp
      refine hK.out _ _ ?_
      clear hK K
      (try simp only [Act.put]); (try simp only [List.setIfInBounds_toArray]); (try simp only [List.set_cons_succ]); (try simp only [List.set_cons_zero])
      refine wpAny_ready (rs := [9]) (by kernel_rfl) (by simp) (allShut rfl (fun K hK => ?_) AllReady.nil)
      go_simp
      refine hK.out _ _ ?_
      clear hK K
      (try simp only [Act.put]); (try simp only [List.setIfInBounds_toArray]); (try simp only [List.set_cons_succ]); (try simp only [List.set_cons_zero])
      refine wpAny_done (by kernel_rfl) ?_ _
      go_wp2
      refine bodyPost_ret (results_pk rfl _ rfl (put_bk HR2.out _ _)) rfl ?_
      rw [HRR.out]
      exact ⟨kk, rfl, HST.out _ (putPk_mods _ _ _ _), below_put HB2'.out HB2'.out.size (Nat.le_refl _) _ _⟩
    have e2 : 0 < s.size - a := by omega
    have HZ2 : Hid (a < s.size) := Lib.hid (by omega)
    clear hz
    go_wp2_with fail
    refine (rAsks_any k _).mono ?_
    rintro e' w4 ⟨rfl, hw4⟩
    subst hw4
    cases hask : sbAsk k
    · have HA := Lib.hid hask
      have HLF : Hid (lsR v k s n (a + 1) 0 fi (cd ++ [((numS s a 0 1 : Nat) : Int)]) = RES) := Lib.hid (by
        rw [← HL.out, if_neg (by have := HZ2.out; rintro (h | h); exact h rfl; omega), if_neg (by rw [hask]; decide)])
      have HLC : Hid (cd.length ≤ 1000000000000) := Lib.hid (by have h1 := HLEN.out (by first | rfl | trivial); have h2 := HZ2.out; have h3 := HS.out; omega)
      have HNUM : Hid ((takeS s a 0 1).2.1 = a + 1 ∧ (takeS s a 0 1).2.2 = 0) := Lib.hid (by
        have : takeS s a 0 1 = (s.extract a (a + 1), a + 1, 0) := take_yes (k := 1) HZ2.out
        rw [this]; exact ⟨rfl, rfl⟩)
      have hn : numS s a 0 1 < 256 := num_one_lt s a 0
      obtain ⟨y, hy⟩ : ∃ y, numS s a 0 1 = y := ⟨_, rfl⟩
      rw [hy] at hn HLF
      have HY := Lib.hid hy
      have hwy : IntKind.i64.wrap (y : Int) = (y : Int) := by rw [IntKind.wrap_i64]; omega
      clear hask HL hy hn
      have HS := (J0.out.pk.cell 22).trans (pkC_22 _ _)
      simp only at HS
      go_wp2_with fail
      refine wp_region_D (fun w' => w'.cell? ⟨gp, 22, none⟩ = some (.slice C.a cd.length C.c)) [8] (by kernel_rfl) ?_
      replace HS : w3.drew.cell? ⟨gp, 22, none⟩ = some (.slice C.a cd.length C.c) := HS
      refine anyD_take (i := 0) (v := ?vc_0) [8] rfl (by kernel_rfl) (by kernel_rfl) (by kernel_rfl) (by kernel_rfl) (by kernel_rfl) (by kernel_rfl) (fun _ _ _ h => h) (Or.inl ⟨by rfl, ?hc_0⟩) HS ?rc_0
      case hc_0 => intro w' hSw; (try dsimp only at hSw); go_simp; try with_reducible rfl
      (try simp only [Act.put]); (try simp only [List.setIfInBounds_toArray]); (try simp only [List.set_cons_succ]); (try simp only [List.set_cons_zero])
      refine anyD_take (i := 1) (v := ?vc_1) [8] rfl (by kernel_rfl) (by kernel_rfl) (by kernel_rfl) (by kernel_rfl) (by kernel_rfl) (by kernel_rfl) (fun _ _ _ h => h) (Or.inl ⟨by rfl, ?hc_1⟩) HS ?rc_1
      case hc_1 => intro w' hSw; (try dsimp only at hSw); go_simp; try with_reducible rfl
      (try simp only [Act.put]); (try simp only [List.setIfInBounds_toArray]); (try simp only [List.set_cons_succ]); (try simp only [List.set_cons_zero])
      refine anyD_take (i := 2) (v := ?vc_2) [8] rfl (by kernel_rfl) (by kernel_rfl) (by kernel_rfl) (by kernel_rfl) (by kernel_rfl) (by kernel_rfl) (fun _ _ _ h => h) (Or.inl ⟨by rfl, ?hc_2⟩) HS ?rc_2
      case hc_2 => intro w' hSw; (try dsimp only at hSw); go_simp; try with_reducible rfl
      (try simp only [Act.put]); (try simp only [List.setIfInBounds_toArray]); (try simp only [List.set_cons_succ]); (try simp only [List.set_cons_zero])
      refine anyD_ready (rs := [3]) (by kernel_rfl) (by simp) (AllD.cons rfl (fun K hK => ?_) AllD.nil)
      go_simp
      go_at_call 76
      refine (refNumber_any (w.heap.size + 1) a s 0 1 _ (J0.out.drewN 1).cur (by decide)).mono ?_
      rintro e' y1 ⟨rfl, hc, hm⟩
      rw [HNUM.out.1, HNUM.out.2] at hc
      have J1 := Lib.hid ((J0.out.drewN 1).turn hc (Mods.of_grown hm rfl))
      have P1 : Hid (OwnC W1 y1 cd C) := Lib.hid ((show OwnC W1 (w3.drewN 1) cd C from OC1.out).turn (Mods.of_grown (S := fun z => z = w.heap.size + 1) hm rfl) J0.out.lt.2.2)
      rw [HY.out]
      clear hc hm HS
      have HS := (J1.out.pk.cell 22).trans (pkC_22 _ _)
      simp only at HS
      go_simp
      refine hK.out _ _ (fun _ => HS) ?_
      clear hK K
      (try simp only [Act.put]); (try simp only [List.setIfInBounds_toArray]); (try simp only [List.set_cons_succ]); (try simp only [List.set_cons_zero])
      refine anyD_take (i := 4) (v := ?vc_4) [8] rfl (by kernel_rfl) (by kernel_rfl) (by kernel_rfl) (by kernel_rfl) (by kernel_rfl) (by kernel_rfl) (fun _ _ _ h => h) (Or.inl ⟨by rfl, ?hc_4⟩) HS ?rc_4
      case hc_4 => intro w' hSw; (try dsimp only at hSw); go_simp; try with_reducible rfl
      (try simp only [Act.put]); (try simp only [List.setIfInBounds_toArray]); (try simp only [List.set_cons_succ]); (try simp only [List.set_cons_zero])
      refine anyD_ready (rs := [5]) (by kernel_rfl) (by simp) (AllD.cons rfl (fun K hK => ?_) AllD.nil)
      go_simp
      have J2 := Lib.hid (J1.out.alloc (.cells #[.int .i64 (y : Int)] 3))
      have P2 := Lib.hid (World.ownsRow.alloc P1.out (.cells #[.int .i64 (y : Int)] 3))
      clear HS
      have HS := (J2.out.pk.cell 22).trans (pkC_22 _ _)
      simp only at HS
      refine hK.out _ _ (fun _ => HS) ?_
      clear hK K
      (try simp only [Act.put]); (try simp only [List.setIfInBounds_toArray]); (try simp only [List.set_cons_succ]); (try simp only [List.set_cons_zero])
      refine anyD_ready (rs := [6]) (by kernel_rfl) (by simp) (AllD.cons rfl (fun K hK => ?_) AllD.nil)
      refine step_app rfl (.tmp 53) (.tmp 57) 26 rfl W1.heap.size 3 _ 1 8 Tryz.underlying26 info_int rfl (by decide) (.slice C.a cd.length C.c) _ _ rfl P2.out _ _ 1 1 [.int .i64 (y : Int)] rfl (Rd.lit _ _ _ rfl (Nat.lt_succ_self _) rfl) (by intro u hu; simp at hu; subst hu; rfl) (by have := HLC.out; unfold maxLen; omega) (by have := HLC.out; omega) J2.out.size.2 ?_
      intro v' y3 hown hg hat
      obtain ⟨A', c', rfl, hcap, hrd⟩ := own_rd hown
      have J3 := Lib.hid (J2.out.grown hg (fun q hq => (own_block P2.out q hq).1))
      clear hcap hrd HS
      have HS := (J3.out.pk.cell 22).trans (pkC_22 _ _)
      simp only at HS
      refine hK.out _ _ (fun _ => HS) ?_
      clear hK K
      (try simp only [Act.put]); (try simp only [List.setIfInBounds_toArray]); (try simp only [List.set_cons_succ]); (try simp only [List.set_cons_zero])
      refine anyD_take (i := 7) (v := ?vc_7) [8] rfl (by kernel_rfl) (by kernel_rfl) (by kernel_rfl) (by kernel_rfl) (by kernel_rfl) (by kernel_rfl) (fun _ _ _ h => h) (Or.inl ⟨by rfl, ?hc_7⟩) HS ?rc_7
      case hc_7 => intro w' hSw; (try dsimp only at hSw); go_simp; try with_reducible rfl
      (try simp only [Act.put]); (try simp only [List.setIfInBounds_toArray]); (try simp only [List.set_cons_succ]); (try simp only [List.set_cons_zero])
      have f22 := J3.out.pk.free 22
      refine anyD_ready (rs := [8]) (by kernel_rfl) (by simp) (AllD.cons rfl (fun K hK => ?_) AllD.nil)
      go_simp
      refine hK.out _ _ (fun hn => absurd (hn 8 (by simp)) (by decide)) (anyD_late (d := 8) (by simp) _ _ _ _ (by kernel_rfl) ?_)
      clear hK K HS
      (try simp only [Act.put]); (try simp only [List.setIfInBounds_toArray]); (try simp only [List.set_cons_succ]); (try simp only [List.set_cons_zero])
      refine wpAny_done (by kernel_rfl) ?_ _
      go_wp2
      go_roundg n
      case measure => omega
      case rel =>
        obtain ⟨hn1, hn2⟩ := HNIL.out.2 HA.out
        refine ⟨a + 1, 0, fi, cd ++ [(y : Int)], F, ⟨A', c'⟩, HLF.out, fun h0 => (by have := HFU.out (by first | rfl | trivial); have := HZ2.out; omega), fun h0 => ?_, ⟨fun h => (by rw [HA.out] at h; cases h), fun _ => ⟨hn1, hn2⟩⟩, J3.out.put 22 _ (codes_put { ackR1 k id 0 l with filters := fi } { hs0 with props := ⟨A, q⟩, filters := F } cd (y : Int) A' c' C), ?_, OwnC.snoc hown _ J3.out.lt.2.1⟩
        · have h1 := HLEN.out (by first | rfl | trivial)
          rw [List.length_append, hn1]
          exact ⟨Nat.zero_le _, by simp; omega⟩
        · rw [hn1, hn2]
          exact World.ownsRow_nil _ _ _ _
    · have HA := Lib.hid hask
      have HK8 : Hid (k = 8 ∨ k = 10) := Lib.hid (of_decide_eq_true hask)
      have HLF : Hid (lsR v k s n (fiR v k s a).2.1 (fiR v k s a).2.2 (fi ++ [(fiR v k s a).1]) cd = RES) := Lib.hid (by
        rw [← HL.out, if_neg (by have := HZ2.out; rintro (h | h); exact h rfl; omega), if_pos hask])
      have HFB : Hid ((fiR v k s a).2.2 = 0 → a < (fiR v k s a).2.1 ∧ (fiR v k s a).2.1 ≤ s.size) := Lib.hid (fun h => by have h2 := fiR_back (v := v) HK8.out (Nat.le_of_lt HZ2.out) h; exact ⟨h2.1, h2.2.1⟩)
      have HLF2 : Hid (fi.length ≤ 1000000000000) := Lib.hid (by have h1 := HLEN.out (by first | rfl | trivial); have h2 := HZ2.out; have h3 := HS.out; omega)
      clear hask HL
      have HS := (J0.out.pk.cell 23).trans (pkC_23 _ _)
      simp only at HS
      go_wp2_with fail
      refine wp_region_D (fun w' => w'.cell? ⟨gp, 23, none⟩ = some (.slice F.a fi.length F.c)) [9] (by kernel_rfl) ?_
      replace HS : w3.drew.cell? ⟨gp, 23, none⟩ = some (.slice F.a fi.length F.c) := HS
      refine anyD_take (i := 0) (v := ?vf_0) [9] rfl (by kernel_rfl) (by kernel_rfl) (by kernel_rfl) (by kernel_rfl) (by kernel_rfl) (by kernel_rfl) (fun _ _ _ h => h) (Or.inl ⟨by rfl, ?hf_0⟩) HS ?rf_0
      case hf_0 => intro w' hSw; (try dsimp only at hSw); go_simp; try with_reducible rfl
      (try simp only [Act.put]); (try simp only [List.setIfInBounds_toArray]); (try simp only [List.set_cons_succ]); (try simp only [List.set_cons_zero])
      refine anyD_take (i := 1) (v := ?vf_1) [9] rfl (by kernel_rfl) (by kernel_rfl) (by kernel_rfl) (by kernel_rfl) (by kernel_rfl) (by kernel_rfl) (fun _ _ _ h => h) (Or.inl ⟨by rfl, ?hf_1⟩) HS ?rf_1
      case hf_1 => intro w' hSw; (try dsimp only at hSw); go_simp; try with_reducible rfl
      (try simp only [Act.put]); (try simp only [List.setIfInBounds_toArray]); (try simp only [List.set_cons_succ]); (try simp only [List.set_cons_zero])
      refine anyD_take (i := 2) (v := ?vf_2) [9] rfl (by kernel_rfl) (by kernel_rfl) (by kernel_rfl) (by kernel_rfl) (by kernel_rfl) (by kernel_rfl) (fun _ _ _ h => h) (Or.inl ⟨by rfl, ?hf_2⟩) HS ?rf_2
      case hf_2 => intro w' hSw; (try dsimp only at hSw); go_simp; try with_reducible rfl
      (try simp only [Act.put]); (try simp only [List.setIfInBounds_toArray]); (try simp only [List.set_cons_succ]); (try simp only [List.set_cons_zero])
      refine anyD_take (i := 3) (v := ?vf_3) [9] rfl (by kernel_rfl) (by kernel_rfl) (by kernel_rfl) (by kernel_rfl) (by kernel_rfl) (by kernel_rfl) (fun _ _ _ h => h) (Or.inl ⟨by rfl, ?hf_3⟩) HS ?rf_3
      case hf_3 => intro w' hSw; (try dsimp only at hSw); go_simp; try with_reducible rfl
      (try simp only [Act.put]); (try simp only [List.setIfInBounds_toArray]); (try simp only [List.set_cons_succ]); (try simp only [List.set_cons_zero])
      refine anyD_take (i := 4) (v := ?vf_4) [9] rfl (by kernel_rfl) (by kernel_rfl) (by kernel_rfl) (by kernel_rfl) (by kernel_rfl) (by kernel_rfl) (fun _ _ _ h => h) (Or.inl ⟨by rfl, ?hf_4⟩) HS ?rf_4
      case hf_4 => intro w' hSw; (try dsimp only at hSw); go_simp; try with_reducible rfl
      (try simp only [Act.put]); (try simp only [List.setIfInBounds_toArray]); (try simp only [List.set_cons_succ]); (try simp only [List.set_cons_zero])
      refine anyD_ready (rs := [5]) (by kernel_rfl) (by simp) (AllD.cons rfl (fun K hK => ?_) AllD.nil)
      go_simp
      go_at_call 80
      refine (rFilter_any v k (w.heap.size + 1) a s _ (J0.out.drewN 1).cur HK8.out).mono ?_
      rintro e' y1 ⟨rfl, hc, hm⟩
      have J1 := Lib.hid ((J0.out.drewN 1).turn hc hm)
      have P1 : Hid (OwnF W1 y1 fi F) := Lib.hid ((show OwnF W1 (w3.drewN 1) fi F from OF1.out).turn hm J0.out.lt.2.2)
      obtain ⟨fr, hfr⟩ : ∃ r, fiR v k s a = r := ⟨_, rfl⟩
      rw [hfr] at J1 HLF HFB ⊢
      clear hc hm HS hfr
      obtain ⟨f, a7, e7⟩ := fr
      simp only [fiV] at J1 HLF HFB ⊢
      have HS := (J1.out.pk.cell 23).trans (pkC_23 _ _)
      simp only at HS
      go_simp
      refine hK.out _ _ (fun _ => HS) ?_
      clear hK K
      (try simp only [Act.put]); (try simp only [List.setIfInBounds_toArray]); (try simp only [List.set_cons_succ]); (try simp only [List.set_cons_zero])
      refine anyD_ready (rs := [6]) (by kernel_rfl) (by simp) (AllD.cons rfl (fun K hK => ?_) AllD.nil)
      go_simp
      have J2 := Lib.hid (J1.out.alloc (.cells #[.string f.topic, .int .i64 f.qos, .bool f.noLocal, .bool f.asPub, .int .i64 f.handling] 32))
      have P2 := Lib.hid (World.ownsRow.alloc P1.out (.cells #[.string f.topic, .int .i64 f.qos, .bool f.noLocal, .bool f.asPub, .int .i64 f.handling] 32))
      clear HS
      have HS := (J2.out.pk.cell 23).trans (pkC_23 _ _)
      simp only at HS
      refine hK.out _ _ (fun _ => HS) ?_
      clear hK K
      (try simp only [Act.put]); (try simp only [List.setIfInBounds_toArray]); (try simp only [List.set_cons_succ]); (try simp only [List.set_cons_zero])
      refine anyD_ready (rs := [7]) (by kernel_rfl) (by simp) (AllD.cons rfl (fun K hK => ?_) AllD.nil)
      refine step_app rfl (.tmp 44) (.tmp 49) 27 rfl W1.heap.size 32 _ 5 40 Tryz.underlying27 info_filter rfl (by decide) (.slice F.a fi.length F.c) _ _ rfl P2.out _ _ 1 1 (fiC f) rfl (rd_fi1 _ f) (fiC_one f) (by have := HLF2.out; unfold maxLen; omega) (by have := HLF2.out; omega) J2.out.size.2 ?_
      intro v' y3 hown hg hat
      obtain ⟨A', c', rfl, hcap, hrd⟩ := own_rd hown
      have J3 := Lib.hid (J2.out.grown hg (fun q hq => (own_block P2.out q hq).1))
      clear hcap hrd HS
      have HS := (J3.out.pk.cell 23).trans (pkC_23 _ _)
      simp only at HS
      refine hK.out _ _ (fun _ => HS) ?_
      clear hK K
      (try simp only [Act.put]); (try simp only [List.setIfInBounds_toArray]); (try simp only [List.set_cons_succ]); (try simp only [List.set_cons_zero])
      refine anyD_take (i := 8) (v := ?vf_8) [9] rfl (by kernel_rfl) (by kernel_rfl) (by kernel_rfl) (by kernel_rfl) (by kernel_rfl) (by kernel_rfl) (fun _ _ _ h => h) (Or.inl ⟨by rfl, ?hf_8⟩) HS ?rf_8
      case hf_8 => intro w' hSw; (try dsimp only at hSw); go_simp; try with_reducible rfl
      (try simp only [Act.put]); (try simp only [List.setIfInBounds_toArray]); (try simp only [List.set_cons_succ]); (try simp only [List.set_cons_zero])
      have f23 := J3.out.pk.free 23
      refine anyD_ready (rs := [9]) (by kernel_rfl) (by simp) (AllD.cons rfl (fun K hK => ?_) AllD.nil)
      go_simp
      refine hK.out _ _ (fun hn => absurd (hn 9 (by simp)) (by decide)) (anyD_late (d := 9) (by simp) _ _ _ _ (by kernel_rfl) ?_)
      clear hK K HS
      (try simp only [Act.put]); (try simp only [List.setIfInBounds_toArray]); (try simp only [List.set_cons_succ]); (try simp only [List.set_cons_zero])
      refine wpAny_done (by kernel_rfl) ?_ _
      go_wp2
      go_roundg n
      case measure => omega
      case rel =>
        obtain ⟨hn1, hn2⟩ := HNIL.out.1 HA.out
        refine ⟨a7, e7, fi ++ [f], cd, ⟨A', c'⟩, C, HLF.out, fun h0 => (by obtain ⟨b1, b2⟩ := HFB.out h0; have := HFU.out (by first | rfl | trivial); have := HZ2.out; omega), fun h0 => ?_, ⟨fun _ => ⟨hn1, hn2⟩, fun h => (by rw [HA.out] at h; cases h)⟩, J3.out.put 23 _ (filters_put { ackR1 k id 0 l with codes := cd } { hs0 with props := ⟨A, q⟩, codes := C } fi f A' c' F), OwnF.snoc hown _ J3.out.lt.2.1, ?_⟩
        · obtain ⟨b1, b2⟩ := HFB.out h0
          have h1 := HLEN.out (by first | rfl | trivial)
          rw [List.length_append, hn1]
          exact ⟨by simp; omega, Nat.zero_le _⟩
        · rw [hn1, hn2]
          exact World.ownsRow_nil _ _ _ _
end Go.Proofs.YtmkkjiogokfnmaaGreatDoor

