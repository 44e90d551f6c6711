/-
  Reference 08: bit, wrong, Flags, text, Binary, Text.
  Reference 08: used.
  Reference 08: Valid.
  Reference 08: Body.
  Reference 08: Body of a CONNECT.
-/
import Derived.Test.YtmkkjiogokfnmaaGreatDoorScMCnu
import Derived.Test.YtmkkjiogokfnmaaGreatDoorScMCnp
import Derived.Test.YtmkkjiogokfnmaaGreatDoorScOrdD
import Derived.Test.YtmkkjiogokfnmaaGreatDoorScMRft
import Derived.BigRegion
import Derived.Lib.QuietBelow
import Derived.Deep.DeepCutAuto
namespace Go.Proofs.YtmkkjiogokfnmaaGreatDoor
open Go.RowKit
attribute [local go_sem ↓] to_ldPk to_bxPk to_bdPk to_alPk to_stPk
attribute [local go_sem] run_bxPk run_bxPk_agg ld_fresh run_alPk run_bd0 run_bdK run_bdKI run_bdKIC run_bdKC run_bdKICP run_stPk_fresh pkC_0 pkC_1 pkC_2 pkC_3 pkC_4 pkC_5 pkC_6 pkC_7 pkC_8 pkC_9 pkC_10 pkC_11 pkC_12 pkC_13 pkC_14 pkC_15 pkC_16 pkC_17 pkC_18 pkC_19 pkC_20 pkC_21 pkC_22 pkC_23 pkC_24
/-- A cursor's next data, text, as the reference reads them. -/
def rbC (t : ByteArray) (a : Nat) (e : Int) : ByteArray × Nat × Int := if e ≠ 0 then (⟨#[]⟩, a, e) else ((readB (t.extract a t.size)).1, a + (readB (t.extract a t.size)).2.1, (readB (t.extract a t.size)).2.2)
def rtC (t : ByteArray) (a : Nat) (e : Int) : ByteArray × Nat × Int := if e ≠ 0 then (⟨#[]⟩, a, e) else ((readU (t.extract a t.size)).1, a + (readU (t.extract a t.size)).2.1, (readU (t.extract a t.size)).2.2)
theorem readB_le (s : ByteArray) : (readB s).2.1 ≤ s.size ∧ (readB s).1.size ≤ 65535 := by
  unfold readB
  split
  · exact ⟨Nat.zero_le _, Nat.zero_le _⟩
  · split
    · exact ⟨Nat.zero_le _, Nat.zero_le _⟩
    · refine ⟨by show 2 + numS s 0 0 2 ≤ s.size; omega, ?_⟩
      rw [ByteArray.size_extract]
      have := num_two_lt s 0 0 (Nat.zero_le _)
      omega
theorem readU_le (s : ByteArray) : (readU s).2.1 ≤ s.size ∧ (readU s).1.size ≤ 65535 := by
  unfold readU
  split
  · exact ⟨Nat.zero_le _, Nat.zero_le _⟩
  · exact readB_le s
theorem rtC_le {t : ByteArray} {a : Nat} {e : Int} (h : a ≤ t.size) : (rtC t a e).2.1 ≤ t.size ∧ (rtC t a e).1.size ≤ 65535 := by
  unfold rtC
  split
  · exact ⟨h, Nat.zero_le _⟩
  · have := readU_le (t.extract a t.size)
    rw [ByteArray.size_extract] at this
    refine ⟨by show a + (readU (t.extract a t.size)).2.1 ≤ t.size; omega, this.2⟩
set_option maxHeartbeats 1000000 in
set_option maxRecDepth 10000 in
theorem Text_ref (g a : Nat) (t : ByteArray) (e : Int) (w : World) (h : RCur w g t a e) :
    Calls Tryz.prog 130 #[.pointer (some ⟨g, 0, none⟩)] w fun e' w' => e' = .returned (.string (rtC t a e).1) ∧ RCur w' g t (rtC t a e).2.1 (rtC t a e).2.2 ∧ w.grownBy w' (some g) := by
  have C0 := Lib.hid h
  have HE : Hid (rtC t a e = if e ≠ 0 then (⟨#[]⟩, a, e) else ((readU (t.extract a t.size)).1, a + (readU (t.extract a t.size)).2.1, (readU (t.extract a t.size)).2.2)) := Lib.hid rfl
  obtain ⟨⟨c0, c1, c2⟩, f0, f1, f2⟩ := h.cells
  have HA := Lib.hid h.2
  clear h
  go_enter Tryz.func130, Tryz.ntmps130
  by_cases he : e = 0
  rotate_left
  · have e0 : (e != 0) = true := bne_iff_ne.2 he
    have HX : Hid (rtC t a e = (⟨#[]⟩, a, e)) := Lib.hid (by rw [HE.out, if_pos he])
    clear he
    go_wp2
    go_ret
    rw [HX.out]
    exact ⟨rfl, C0.out, mod_refl _ _⟩
  have e0 : (e != 0) = false := by rw [he]; rfl
  have HX : Hid (rtC t a e = ((readU (t.extract a t.size)).1, a + (readU (t.extract a t.size)).2.1, (readU (t.extract a t.size)).2.2)) := Lib.hid (by rw [HE.out, if_neg (fun x => x he)])
  clear he HE
  go_wp2_with fail
  refine (refRest_any g a t e _ C0.out).mono ?_
  rintro e' w1 ⟨rfl, hb⟩
  have C1 := Lib.hid (C0.out.below hb); have M1 := Lib.hid (mod_below hb (some g)); clear hb c0 c1 c2 f0 f1 f2
  go_wp2_with fail
  refine (refReadU_any _ _ (by rw [ByteArray.size_extract]; have := HA.out; omega)).mono ?_
  rintro e' w2 ⟨rfl, rfl⟩
  have HL := Lib.hid (readU_le (t.extract a t.size)).1
  have HZ : Hid ((t.extract a t.size).size = t.size - a) := Lib.hid (by rw [ByteArray.size_extract]; omega)
  rw [HZ.out] at HL
  clear HZ
  generalize readU (t.extract a t.size) = r at *
  obtain ⟨s, n, x⟩ := r
  simp only at HX HL ⊢
  obtain ⟨⟨c0, c1, c2⟩, f0, f1, f2⟩ := C1.out.cells
  have hw : IntKind.i64.wrap ((a : Int) + (n : Int)) = ((a + n : Nat) : Int) := by rw [IntKind.wrap_i64]; have := HA.out; have := HL.out; omega
  go_wp2
  go_ret
  rw [HX.out]
  refine ⟨rfl, ⟨(C1.out.1.upd 2 (.int .i64 x) (cs' := curC t a x) ?_).upd 1 (.int .i64 ((a + n : Nat) : Int)) (cs' := curC t (a + n) x) ?_, by have := HA.out; have := HL.out; exact ⟨by show a + n ≤ t.size; omega, HA.out.2⟩⟩, M1.out.trans ((mod_set _ _ _ _).trans (mod_set _ _ _ _))⟩
  · simp [curC]
  · simp [curC]

end Go.Proofs.YtmkkjiogokfnmaaGreatDoor

