/- A part of what the laws stand on: SubE, OwnK. -/
import Derived.Test.YtbahnolmlodcdaaGreatDoorMcMSubP
import Derived.Test.YtbahnolmlodcdaaGreatDoorMcMLis
import Derived.Test.YtbahnolmlodcdaaGreatDoorMcMAck
import Derived.Test.YtbahnolmlodcdaaGreatDoorMcMReaA
import Derived.Test.YtbahnolmlodcdaaGreatDoorMcMPubA
import Derived.Test.YtbahnolmlodcdaaGreatDoorMcMTop
import Derived.LoopN
import Derived.Deep.RegionLaw
import Derived.Test.YtbahnolmlodcdaaGreatDoorMcOrdD
namespace Go.Proofs.YtbahnolmlodcdaaGreatDoor
open Go.RowKit
theorem op_ops : ∀ n : Fin 256, (bits BinOp.andNot IntKind.i64 (n.1 : Int) 63 != 0) = decide (63 < n.1) ∧ (bits BinOp.andNot IntKind.i64 (n.1 : Int) 3 != 0) = decide (3 < n.1) ∧
    bits BinOp.and IntKind.i64 (n.1 : Int) 3 = ((n.1 % 4 : Nat) : Int) ∧ bits BinOp.and IntKind.i64 ((n.1 : Int) / 16) 3 = ((n.1 / 16 % 4 : Nat) : Int) ∧
    (bits BinOp.and IntKind.i64 (n.1 : Int) 4 != 0) = decide (n.1 / 4 % 2 = 1) ∧ (bits BinOp.and IntKind.i64 (n.1 : Int) 8 != 0) = decide (n.1 / 8 % 2 = 1) := by decide +kernel
def fiCells (f : Fi) : Array Value := #[.string f.topic, .int .i64 f.qos, .bool f.noLocal, .bool f.asPub, .int .i64 f.handling]
theorem Cur.four {w : World} {g a gf : Nat} {t : ByteArray} {e : Int} (h : Cur w g t a e) (hne : gf ≠ g) (x1 x4 x2 x3 : Value) : Cur ((((w.setCell ⟨gf, 1, none⟩ x1).setCell ⟨gf, 4, none⟩ x4).setCell ⟨gf, 2, none⟩ x2).setCell ⟨gf, 3, none⟩ x3) g t a e :=
  ⟨(((h.1.other (fun e => hne e.symm) _).other (fun e => hne e.symm) _).other (fun e => hne e.symm) _).other (fun e => hne e.symm) _, h.2⟩
theorem mods_four (w : World) (g gf : Nat) (x1 x4 x2 x3 : Value) : Mods (two g gf) w ((((w.setCell ⟨gf, 1, none⟩ x1).setCell ⟨gf, 4, none⟩ x4).setCell ⟨gf, 2, none⟩ x2).setCell ⟨gf, 3, none⟩ x3) :=
  ((((Mods.refl w).set gf 1 (.inl (.inr rfl)) _).set gf 4 (.inl (.inr rfl)) _).set gf 2 (.inl (.inr rfl)) _).set gf 3 (.inl (.inr rfl)) _
theorem fi_stores {w : World} {gf : Nat} {tp : ByteArray} (h : Bk w gf 32 (fiCells ⟨tp, 0, false, false, 0⟩)) (q hd : Int) (nl ap : Bool) :
    Bk ((((w.setCell ⟨gf, 1, none⟩ (.int .i64 q)).setCell ⟨gf, 4, none⟩ (.int .i64 hd)).setCell ⟨gf, 2, none⟩ (.bool nl)).setCell ⟨gf, 3, none⟩ (.bool ap)) gf 32 (fiCells ⟨tp, q, nl, ap, hd⟩) :=
  (((h.upd 1 (.int .i64 q) (cs' := fiCells ⟨tp, q, false, false, 0⟩) rfl).upd 4 (.int .i64 hd) (cs' := fiCells ⟨tp, q, false, false, hd⟩) rfl).upd 2 (.bool nl) (cs' := fiCells ⟨tp, q, nl, false, hd⟩) rfl).upd 3 (.bool ap) (cs' := fiCells ⟨tp, q, nl, ap, hd⟩) rfl
set_option maxHeartbeats 4000000 in
set_option maxRecDepth 10000 in
theorem option_any (v : Int) (hv : v = 4 ∨ v = 5) (g a : Nat) (t : ByteArray) (e : Int) (gf : Nat) (tp : ByteArray) (w : World) (h : Cur w g t a e) (hf : Bk w gf 32 (fiCells ⟨tp, 0, false, false, 0⟩)) (hne : gf ≠ g) :
    Calls Tryz.prog 110 #[.int .i64 v, .pointer (some ⟨g, 0, none⟩), .pointer (some ⟨gf, 0, none⟩)] w fun e' w' =>
      e' = .returned (.tuple #[]) ∧ Cur w' g t (opR v t a e).2.1 (opR v t a e).2.2 ∧ Bk w' gf 32 (fiCells (fiOf tp (opR v t a e).1)) ∧ Mods (two g gf) w w' := by
  have C0 := Lib.hid h; have F0 := Lib.hid hf; have NE := Lib.hid hne
  have HO : Hid (opR v t a e = (numS t a e 1, (takeS t a e 1).2.1, if optBad v (numS t a e 1) = true then failE (takeS t a e 1).2.2 7 else (takeS t a e 1).2.2)) := Lib.hid rfl
  have hlt := num_one_lt t a e
  clear h hf hne
  go_enter Tryz.func110, Tryz.ntmps110
  go_wp2_with fail
  refine (number_any g a t e 1 _ C0.out (by decide)).mono ?_
  rintro e' w1 ⟨rfl, hc, hm⟩
  have C1 := Lib.hid hc
  have F1 := Lib.hid (F0.out.mods (Mods.of_grown (S := fun i => i = g) hm rfl) (fun e => NE.out e))
  have M1 : Hid (Mods (two g gf) w w1) := Lib.hid (Mods.of_grown hm (.inl rfl))
  clear hc hm
  generalize numS t a e 1 = n at *
  obtain ⟨R, hR⟩ : ∃ R, takeS t a e 1 = R := ⟨_, rfl⟩
  rw [hR] at HO C1
  clear hR
  obtain ⟨T, a1, e1⟩ := R
  simp only at HO C1 ⊢
  obtain ⟨o1, o2, o3, o4, o5, o6⟩ := op_ops ⟨n, hlt⟩
  simp only at o1 o2 o3 o4 o5 o6
  rcases hv with rfl | rfl
  · have hN : Hid (decide (3 < n) = optBad 4 n) := Lib.hid (by unfold optBad; rw [decide_eq_true rfl, Bool.true_and, Bool.eq_iff_iff, Bool.or_eq_true]; simp only [decide_eq_true_iff]; omega)
    by_cases hb : 3 < n
    · have HB : Hid (optBad 4 n = true) := Lib.hid (by rw [← hN.out, decide_eq_true hb])
      rw [decide_eq_true hb] at o2
      rw [HB.out, if_pos rfl] at HO
      clear hb
      go_wp2_with fail
      refine (fail_any g a1 t e1 7 _ C1.out).mono ?_
      rintro e' w2 ⟨rfl, hc, hm⟩
      have C2 : Hid (Cur w2 g t a1 (failE e1 7)) := Lib.hid hc
      have F2 := Lib.hid (F1.out.mods (Mods.of_grown (S := fun i => i = g) hm rfl) (fun e => NE.out e))
      have M2 : Hid (Mods (two g gf) w w2) := Lib.hid (M1.out.trans (Mods.of_grown hm (.inl rfl)))
      clear hc hm
      obtain ⟨⟨c0, c1, c2⟩, f0, f1, f2⟩ := C2.out.cells
      have q0 := F2.out.cell 0; have q1 := F2.out.cell 1; have q2 := F2.out.cell 2; have q3 := F2.out.cell 3; have q4 := F2.out.cell 4
      have r0 := F2.out.free 0; have r1 := F2.out.free 1; have r2 := F2.out.free 2; have r3 := F2.out.free 3; have r4 := F2.out.free 4
      simp only [fiCells, List.getElem?_toArray, List.getElem?_cons_succ, List.getElem?_cons_zero] at q0 q1 q2 q3 q4
      go_wp2
      go_end0
      rw [HO.out]
      refine ⟨rfl, ?_, ?_, ?_⟩
      · exact C2.out.four (fun e => NE.out e) _ _ _ _
      · exact fi_stores F2.out _ _ _ _
      · exact M2.out.trans (mods_four _ _ _ _ _ _ _)
    · have HB : Hid (optBad 4 n = false) := Lib.hid (by rw [← hN.out, decide_eq_false hb])
      rw [decide_eq_false hb] at o2
      rw [HB.out, if_neg (by decide)] at HO
      clear hb
      obtain ⟨⟨c0, c1, c2⟩, f0, f1, f2⟩ := C1.out.cells
      have q0 := F1.out.cell 0; have q1 := F1.out.cell 1; have q2 := F1.out.cell 2; have q3 := F1.out.cell 3; have q4 := F1.out.cell 4
      have r0 := F1.out.free 0; have r1 := F1.out.free 1; have r2 := F1.out.free 2; have r3 := F1.out.free 3; have r4 := F1.out.free 4
      simp only [fiCells, List.getElem?_toArray, List.getElem?_cons_succ, List.getElem?_cons_zero] at q0 q1 q2 q3 q4
      go_wp2
      go_end0
      rw [HO.out]
      refine ⟨rfl, ?_, ?_, ?_⟩
      · exact C1.out.four (fun e => NE.out e) _ _ _ _
      · exact fi_stores F1.out _ _ _ _
      · exact M1.out.trans (mods_four _ _ _ _ _ _ _)
  · have hN : Hid (decide (63 < n) = optBad 5 n) := Lib.hid (by unfold optBad; rw [show decide ((5:Int) = 4) = false from rfl, Bool.false_and, Bool.or_false])
    by_cases hb : 63 < n
    · have HB : Hid (optBad 5 n = true) := Lib.hid (by rw [← hN.out, decide_eq_true hb])
      rw [decide_eq_true hb] at o1
      rw [HB.out, if_pos rfl] at HO
      clear hb
      go_wp2_with fail
      refine (fail_any g a1 t e1 7 _ C1.out).mono ?_
      rintro e' w2 ⟨rfl, hc, hm⟩
      have C2 : Hid (Cur w2 g t a1 (failE e1 7)) := Lib.hid hc
      have F2 := Lib.hid (F1.out.mods (Mods.of_grown (S := fun i => i = g) hm rfl) (fun e => NE.out e))
      have M2 : Hid (Mods (two g gf) w w2) := Lib.hid (M1.out.trans (Mods.of_grown hm (.inl rfl)))
      clear hc hm
      obtain ⟨⟨c0, c1, c2⟩, f0, f1, f2⟩ := C2.out.cells
      have q0 := F2.out.cell 0; have q1 := F2.out.cell 1; have q2 := F2.out.cell 2; have q3 := F2.out.cell 3; have q4 := F2.out.cell 4
      have r0 := F2.out.free 0; have r1 := F2.out.free 1; have r2 := F2.out.free 2; have r3 := F2.out.free 3; have r4 := F2.out.free 4
      simp only [fiCells, List.getElem?_toArray, List.getElem?_cons_succ, List.getElem?_cons_zero] at q0 q1 q2 q3 q4
      go_wp2
      go_end0
      rw [HO.out]
      refine ⟨rfl, ?_, ?_, ?_⟩
      · exact C2.out.four (fun e => NE.out e) _ _ _ _
      · exact fi_stores F2.out _ _ _ _
      · exact M2.out.trans (mods_four _ _ _ _ _ _ _)
    · have HB : Hid (optBad 5 n = false) := Lib.hid (by rw [← hN.out, decide_eq_false hb])
      rw [decide_eq_false hb] at o1
      rw [HB.out, if_neg (by decide)] at HO
      clear hb
      obtain ⟨⟨c0, c1, c2⟩, f0, f1, f2⟩ := C1.out.cells
      have q0 := F1.out.cell 0; have q1 := F1.out.cell 1; have q2 := F1.out.cell 2; have q3 := F1.out.cell 3; have q4 := F1.out.cell 4
      have r0 := F1.out.free 0; have r1 := F1.out.free 1; have r2 := F1.out.free 2; have r3 := F1.out.free 3; have r4 := F1.out.free 4
      simp only [fiCells, List.getElem?_toArray, List.getElem?_cons_succ, List.getElem?_cons_zero] at q0 q1 q2 q3 q4
      go_wp2
      go_end0
      rw [HO.out]
      refine ⟨rfl, ?_, ?_, ?_⟩
      · exact C1.out.four (fun e => NE.out e) _ _ _ _
      · exact fi_stores F1.out _ _ _ _
      · exact M1.out.trans (mods_four _ _ _ _ _ _ _)
end Go.Proofs.YtbahnolmlodcdaaGreatDoor

namespace Go.Proofs.YtbahnolmlodcdaaGreatDoor
open Go.RowKit
attribute [local go_sem ↓] to_ldPk to_bxPk to_bdPk to_alPk to_stPk
attribute [local go_sem] run_bxPk run_bxPk_agg ld_fresh run_alPk run_bd0 run_bdK run_bdKI run_bdKIC run_bdKC run_bdKICP run_stPk_fresh pkC_0 pkC_1 pkC_2 pkC_3 pkC_4 pkC_5 pkC_6 pkC_7 pkC_8 pkC_9 pkC_10 pkC_11 pkC_12 pkC_13 pkC_14 pkC_15 pkC_16 pkC_17 pkC_18 pkC_19 pkC_20 pkC_21 pkC_22 pkC_23 pkC_24

theorem info_filter : (Tryz.prog.info? 32).map (fun i => (i.zero, i.size, i.bytes)) = some (some (.agg #[.string ⟨#[]⟩, .int .i64 0, .bool false, .bool false, .int .i64 0]), 5, 40) := by kernel_rfl
theorem light_lens {p : Pk} (h : lightK p = true) : p.codes.length ≤ 60 ∧ p.filters.length ≤ 60 ∧ p.props.length ≤ 1010 ∧ p.will.props.length ≤ 1010 := by
  unfold lightK lightB at h
  simp only [Bool.and_eq_true, decide_eq_true_eq] at h
  omega
end Go.Proofs.YtbahnolmlodcdaaGreatDoor

