/-
  Reference 08: bit, wrong, Flags, text, Binary, Text.
  Reference 08: used.
  Reference 08: Valid.
  Reference 08: Body.
  Reference 08: Body of a CONNECT.
-/
import Derived.Test.YtngnaenbnmajdaaGreatCntT
import Derived.Test.YtngnaenbnmajdaaGreatCntH
import Derived.Test.YtngnaenbnmajdaaGreatRfV
import Derived.BigRegion
import Derived.Lib.QuietBelow
import Derived.Deep.DeepCutAuto

namespace Go.Proofs.YtngnaenbnmajdaaGreat
open Go.RowKit
attribute [local go_sem ↓] to_ldPk to_bxPk to_bdPk to_alPk to_stPk
attribute [local go_sem] run_bxPk run_bxPk_agg ld_fresh run_alPk run_bd0 run_bdK run_bdKI run_bdKIC run_bdKC run_bdKICP run_stPk_fresh pkC_0 pkC_1 pkC_2 pkC_3 pkC_4 pkC_5 pkC_6 pkC_7 pkC_8 pkC_9 pkC_10 pkC_11 pkC_12 pkC_13 pkC_14 pkC_15 pkC_16 pkC_17 pkC_18 pkC_19 pkC_20 pkC_21 pkC_22 pkC_23 pkC_24
set_option maxHeartbeats 400000 in
theorem bit_any (b : Bool) (n : Int) (w : World) : Calls Tryz.prog 24 #[.bool b, .int .i64 n] w fun e w' => e = .returned (.int .i64 (bitN b n)) ∧ w = w' := by
  cases b
  · go_enter Tryz.func24, Tryz.ntmps24
    go_wp2
    go_ret
    exact ⟨rfl, rfl⟩
  · go_enter Tryz.func24, Tryz.ntmps24
    go_wp2
    go_ret
    exact ⟨rfl, rfl⟩
set_option maxHeartbeats 4000000 in
set_option maxRecDepth 10000 in
theorem wrong_any (v : Int) (hv : v = 4 ∨ v = 5) (f : Nat) (hf : f < 256) (w : World) :
    Calls Tryz.prog 71 #[.int .i64 v, .int .i64 f] w fun e w' => e = .returned (.bool (!flOk v f)) ∧ w = w' := by
  obtain ⟨b1, m1⟩ : ∃ b, ((f : Int) % 2 == 1) = b := ⟨_, rfl⟩
  obtain ⟨b3, m3⟩ : ∃ b, ((wrap64 ((f : Int) / 8)).tmod 4 == 3) = b := ⟨_, rfl⟩
  obtain ⟨b4, m4⟩ : ∃ b, ((wrap64 ((f : Int) / 4)).tmod 2 == 1) = b := ⟨_, rfl⟩
  obtain ⟨b8, m8⟩ : ∃ b, ((wrap64 ((f : Int) / 8)).tmod 8 != 0) = b := ⟨_, rfl⟩
  obtain ⟨b64, m64⟩ : ∃ b, (wrap64 ((f : Int) / 64) == 1) = b := ⟨_, rfl⟩
  obtain ⟨bv4, mv4⟩ : ∃ b, (v == 4) = b := ⟨_, rfl⟩
  have HW : Hid ((!flOk v f) = (b1 || b3 || (!b4 && b8) || (bv4 && b64))) := Lib.hid (by
    have w8 : wrap64 ((f : Int) / 8) = (f : Int) / 8 := by have := IntKind.wrap_i64 ((f : Int) / 8); simp only [wrap64]; omega
    have w4 : wrap64 ((f : Int) / 4) = (f : Int) / 4 := by simp only [wrap64]; omega
    have w64 : wrap64 ((f : Int) / 64) = (f : Int) / 64 := by simp only [wrap64]; omega
    rw [w8, Int.tmod_eq_emod_of_nonneg (by omega)] at m3 m8
    rw [w4, Int.tmod_eq_emod_of_nonneg (by omega)] at m4
    rw [w64] at m64
    have q1 : decide (f % 2 = 1) = b1 := by rw [← m1, Bool.eq_iff_iff, decide_eq_true_iff, beq_iff_eq]; omega
    have q3 : decide (f / 8 % 4 = 3) = b3 := by rw [← m3, Bool.eq_iff_iff, decide_eq_true_iff, beq_iff_eq]; omega
    have q4 : decide (f / 4 % 2 = 1) = b4 := by rw [← m4, Bool.eq_iff_iff, decide_eq_true_iff, beq_iff_eq]; omega
    have q8 : decide (f / 8 % 8 ≠ 0) = b8 := by rw [← m8, Bool.eq_iff_iff, decide_eq_true_iff, bne_iff_ne]; omega
    have q64 : decide (f / 64 = 1) = b64 := by rw [← m64, Bool.eq_iff_iff, decide_eq_true_iff, beq_iff_eq]; omega
    have qv : decide (v = 4) = bv4 := mv4
    rw [← wrong_fl hv hf]
    unfold wrongB
    rw [q1, q3, q4, q8, q64, qv])
  generalize (!flOk v f) = R at *
  have hf0 : (0 : Int) ≤ (f : Int) := by omega
  clear hv hf
  go_enter Tryz.func71, Tryz.ntmps71
  cases b1
  · cases b3
    · cases b4
      · cases b8
        · cases bv4
          · go_wp2
            go_ret
            exact ⟨by rw [HW.out]; rfl, rfl⟩
          · cases b64
            · go_wp2
              go_ret
              exact ⟨by rw [HW.out]; rfl, rfl⟩
            · go_wp2
              go_ret
              exact ⟨by rw [HW.out]; rfl, rfl⟩
        · go_wp2
          go_ret
          exact ⟨by rw [HW.out]; rfl, rfl⟩
      · cases bv4
        · go_wp2
          go_ret
          exact ⟨by rw [HW.out]; rfl, rfl⟩
        · cases b64
          · go_wp2
            go_ret
            exact ⟨by rw [HW.out]; rfl, rfl⟩
          · go_wp2
            go_ret
            exact ⟨by rw [HW.out]; rfl, rfl⟩
    · go_wp2
      go_ret
      exact ⟨by rw [HW.out]; rfl, rfl⟩
  · go_wp2
    go_ret
    exact ⟨by rw [HW.out]; rfl, rfl⟩
theorem flags_sum (A B C D E q : Int) (hA : 0 ≤ A ∧ A ≤ 128) (hB : 0 ≤ B ∧ B ≤ 64) (hC : 0 ≤ C ∧ C ≤ 32) (hD : 0 ≤ D ∧ D ≤ 4) (hE : 0 ≤ E ∧ E ≤ 2) :
    wrap64 (wrap64 (wrap64 (wrap64 (wrap64 (A + B) + C) + wrap64 ((wrap64 (q.tmod 4 + 4)).tmod 4 * 8)) + D) + E) = A + B + C + q % 4 * 8 + D + E := by
  have h1 := Int.tmod_lt_of_pos q (b := 4) (by decide)
  have h2 := Int.lt_tmod_of_pos q (b := 4) (by decide)
  have h3 := Int.mul_tdiv_add_tmod q 4
  generalize q.tdiv 4 = d at *
  generalize q.tmod 4 = t at *
  have e1 : wrap64 (t + 4) = t + 4 := by simp only [wrap64]; omega
  rw [e1, Int.tmod_eq_emod_of_nonneg (by omega)]
  have e2 : (t + 4) % 4 = q % 4 := by omega
  rw [e2]
  simp only [wrap64]
  omega
set_option maxHeartbeats 2000000 in
set_option maxRecDepth 10000 in
theorem refFlags8_any (p : Pk) (h : Hs) (w : World) :
    Calls Tryz.prog 15 #[pkV p h] w fun e w' => e = .returned (.int .i64 (flQ p)) ∧ Below w.heap.size w w' := by
  have HL := Lib.hid ((Below.refl w.heap.size w).alloc (Nat.le_refl _) (.cells (pkC p h) PkT))
  have B1 := Bk.fresh w PkT (pkC p h)
  have k0 := (B1.cell 0).trans (pkC_0 _ _); have k7 := (B1.cell 7).trans (pkC_7 _ _); have k10 := (B1.cell 10).trans (pkC_10 _ _); have k12 := (B1.cell 12).trans (pkC_12 _ _); have k14 := (B1.cell 14).trans (pkC_14 _ _); have k17 := (B1.cell 17).trans (pkC_17 _ _); have k18 := (B1.cell 18).trans (pkC_18 _ _)
  have HQ : Hid (flQ p = if p.kind = 1 then bitN p.hasUser 128 + bitN p.hasPass 64 + bitN p.will.retain 32 + p.will.qos % 4 * 8 + bitN p.hasWill 4 + bitN p.clean 2 else 0) := Lib.hid rfl
  clear B1
  go_enter Tryz.func15, Tryz.ntmps15
  by_cases h1 : p.kind = 1
  rotate_left
  · have e1 : (p.kind != 1) = true := bne_iff_ne.2 h1
    have HX : Hid (flQ p = 0) := Lib.hid (by rw [HQ.out, if_neg h1])
    clear h1
    go_wp2
    go_ret
    exact ⟨by rw [HX.out]; rfl, HL.out⟩
  have e1 : (p.kind != 1) = false := by rw [h1]; rfl
  have HX : Hid (flQ p = bitN p.hasUser 128 + bitN p.hasPass 64 + bitN p.will.retain 32 + p.will.qos % 4 * 8 + bitN p.hasWill 4 + bitN p.clean 2) := Lib.hid (by rw [HQ.out, if_pos h1])
  clear h1 HQ
  have hb : ∀ b n, 0 ≤ n → 0 ≤ bitN b n ∧ bitN b n ≤ n := fun b n hn => by unfold bitN; split <;> omega
  have HA := Lib.hid (hb p.hasUser 128 (by decide)); have HB := Lib.hid (hb p.hasPass 64 (by decide)); have HC := Lib.hid (hb p.will.retain 32 (by decide)); have HD := Lib.hid (hb p.hasWill 4 (by decide)); have HE := Lib.hid (hb p.clean 2 (by decide))
  clear hb
  go_wp2_with fail
  generalize hW : w.alloc (.cells (pkC p h) PkT) = W at *
  clear hW
  have q := fun (b : Bool) (n : Int) => regrown (W := W) (fun x _ => (bit_any b n x).mono (fun e w' hh => ⟨hh.1, hh.2 ▸ Below.refl _ _⟩))
  have q0 := q p.hasUser 128; have q1 := q p.hasPass 64; have q2 := q p.will.retain 32; have q3 := q p.hasWill 4; have q4 := q p.clean 2
  have c7 := cell_regrown k7; have c10 := cell_regrown k10; have c12 := cell_regrown k12; have c14 := cell_regrown k14; have c17 := cell_regrown k17; have c18 := cell_regrown k18
  have HBQ := Lib.hid (fun d os => HL.out.trans ((below_regrown W d os).mono HL.out.size))
  clear q k0 k7 k10 k12 k14 k17 k18
  refine wp_region_quiet_below (by as_aux_lemma => kernel_rfl) (by as_aux_lemma => kernel_rfl) ?_
  repeat (go_big_quiet_step (first | with_reducible exact q0 _ _ | with_reducible exact q1 _ _ | with_reducible exact q2 _ _ | with_reducible exact q3 _ _ | with_reducible exact q4 _ _))
  refine wpQuiet_nil ?_
  intro _ hw'
  obtain ⟨⟨dq, osq⟩, hw''⟩ := hw'
  subst hw''
  have KF := Lib.hid (HBQ.out dq osq)
  clear q0 q1 q2 q3 q4 c7 c10 c12 c14 c17 c18 HBQ
  generalize Sort.grow (redrawn _ dq) osq = wq at *
  have HV := Lib.hid (flags_sum _ _ _ _ _ p.will.qos HA.out HB.out HC.out HD.out HE.out)
  go_wp2
  go_ret
  exact ⟨by rw [HX.out, ← HV.out]; rfl, KF.out⟩

set_option maxHeartbeats 400000 in
theorem text8_any (s : ByteArray) (w : World) (hs : s.size ≤ 65535) :
    Calls Tryz.prog 26 #[.string s] w fun e w' => e = .returned (.string (dataB s)) ∧ Below w.heap.size w w' := by
  have HD : Hid (dataB s = framedS s) := Lib.hid (if_pos hs)
  go_enter Tryz.func26, Tryz.ntmps26
  go_wp2_with fail
  refine (refBinary_any s _ hs).mono ?_
  rintro e w1 ⟨rfl, hb⟩
  go_wp2
  go_ret
  exact ⟨by rw [HD.out]; rfl, hb⟩
/-- A cursor's next data, text, as the reference reads them. -/
def rbC (t : ByteArray) (a : Nat) (e : Int) : ByteArray × Nat × Int := if e ≠ 0 then (⟨#[]⟩, a, e) else ((readB (t.extract a t.size)).1, a + (readB (t.extract a t.size)).2.1, (readB (t.extract a t.size)).2.2)
def rtC (t : ByteArray) (a : Nat) (e : Int) : ByteArray × Nat × Int := if e ≠ 0 then (⟨#[]⟩, a, e) else ((readU (t.extract a t.size)).1, a + (readU (t.extract a t.size)).2.1, (readU (t.extract a t.size)).2.2)
theorem readB_le (s : ByteArray) : (readB s).2.1 ≤ s.size ∧ (readB s).1.size ≤ 65535 := by
  unfold readB
  split
  · exact ⟨Nat.zero_le _, Nat.zero_le _⟩
  · split
    · exact ⟨Nat.zero_le _, Nat.zero_le _⟩
    · refine ⟨by show 2 + numS s 0 0 2 ≤ s.size; omega, ?_⟩
      rw [ByteArray.size_extract]
      have := num_two_lt s 0 0 (Nat.zero_le _)
      omega
theorem readU_le (s : ByteArray) : (readU s).2.1 ≤ s.size ∧ (readU s).1.size ≤ 65535 := by
  unfold readU
  split
  · exact ⟨Nat.zero_le _, Nat.zero_le _⟩
  · exact readB_le s
theorem rbC_le {t : ByteArray} {a : Nat} {e : Int} (h : a ≤ t.size) : (rbC t a e).2.1 ≤ t.size ∧ (rbC t a e).1.size ≤ 65535 := by
  unfold rbC
  split
  · exact ⟨h, Nat.zero_le _⟩
  · have := readB_le (t.extract a t.size)
    rw [ByteArray.size_extract] at this
    refine ⟨by show a + (readB (t.extract a t.size)).2.1 ≤ t.size; omega, this.2⟩
theorem rtC_le {t : ByteArray} {a : Nat} {e : Int} (h : a ≤ t.size) : (rtC t a e).2.1 ≤ t.size ∧ (rtC t a e).1.size ≤ 65535 := by
  unfold rtC
  split
  · exact ⟨h, Nat.zero_le _⟩
  · have := readU_le (t.extract a t.size)
    rw [ByteArray.size_extract] at this
    refine ⟨by show a + (readU (t.extract a t.size)).2.1 ≤ t.size; omega, this.2⟩
set_option maxHeartbeats 1000000 in
set_option maxRecDepth 10000 in
theorem Binary_ref (g a : Nat) (t : ByteArray) (e : Int) (w : World) (h : RCur w g t a e) :
    Calls Tryz.prog 73 #[.pointer (some ⟨g, 0, none⟩)] w fun e' w' => e' = .returned (.string (rbC t a e).1) ∧ RCur w' g t (rbC t a e).2.1 (rbC t a e).2.2 ∧ w.grownBy w' (some g) := by
  have C0 := Lib.hid h
  have HE : Hid (rbC t a e = if e ≠ 0 then (⟨#[]⟩, a, e) else ((readB (t.extract a t.size)).1, a + (readB (t.extract a t.size)).2.1, (readB (t.extract a t.size)).2.2)) := Lib.hid rfl
  obtain ⟨⟨c0, c1, c2⟩, f0, f1, f2⟩ := h.cells
  have HA := Lib.hid h.2
  clear h
  go_enter Tryz.func73, Tryz.ntmps73
  by_cases he : e = 0
  rotate_left
  · have e0 : (e != 0) = true := bne_iff_ne.2 he
    have HX : Hid (rbC t a e = (⟨#[]⟩, a, e)) := Lib.hid (by rw [HE.out, if_pos he])
    clear he
    go_wp2
    go_ret
    rw [HX.out]
    exact ⟨rfl, C0.out, mod_refl _ _⟩
  have e0 : (e != 0) = false := by rw [he]; rfl
  have HX : Hid (rbC t a e = ((readB (t.extract a t.size)).1, a + (readB (t.extract a t.size)).2.1, (readB (t.extract a t.size)).2.2)) := Lib.hid (by rw [HE.out, if_neg (fun x => x he)])
  clear he HE
  go_wp2_with fail
  refine (refRest_any g a t e _ C0.out).mono ?_
  rintro e' w1 ⟨rfl, hb⟩
  have C1 := Lib.hid (C0.out.below hb); have M1 := Lib.hid (mod_below hb (some g)); clear hb c0 c1 c2 f0 f1 f2
  go_wp2_with fail
  refine (refReadB_any _ _ (by rw [ByteArray.size_extract]; have := HA.out; omega)).mono ?_
  rintro e' w2 ⟨rfl, rfl⟩
  have HL := Lib.hid (readB_le (t.extract a t.size)).1
  have HZ : Hid ((t.extract a t.size).size = t.size - a) := Lib.hid (by rw [ByteArray.size_extract]; omega)
  rw [HZ.out] at HL
  clear HZ
  generalize readB (t.extract a t.size) = r at *
  obtain ⟨s, n, x⟩ := r
  simp only at HX HL ⊢
  obtain ⟨⟨c0, c1, c2⟩, f0, f1, f2⟩ := C1.out.cells
  have hw : IntKind.i64.wrap ((a : Int) + (n : Int)) = ((a + n : Nat) : Int) := by rw [IntKind.wrap_i64]; have := HA.out; have := HL.out; omega
  go_wp2
  go_ret
  rw [HX.out]
  refine ⟨rfl, ⟨(C1.out.1.upd 2 (.int .i64 x) (cs' := curC t a x) ?_).upd 1 (.int .i64 ((a + n : Nat) : Int)) (cs' := curC t (a + n) x) ?_, by have := HA.out; have := HL.out; exact ⟨by show a + n ≤ t.size; omega, HA.out.2⟩⟩, M1.out.trans ((mod_set _ _ _ _).trans (mod_set _ _ _ _))⟩
  · simp [curC]
  · simp [curC]
set_option maxHeartbeats 1000000 in
set_option maxRecDepth 10000 in
theorem Text_ref (g a : Nat) (t : ByteArray) (e : Int) (w : World) (h : RCur w g t a e) :
    Calls Tryz.prog 72 #[.pointer (some ⟨g, 0, none⟩)] w fun e' w' => e' = .returned (.string (rtC t a e).1) ∧ RCur w' g t (rtC t a e).2.1 (rtC t a e).2.2 ∧ w.grownBy w' (some g) := by
  have C0 := Lib.hid h
  have HE : Hid (rtC t a e = if e ≠ 0 then (⟨#[]⟩, a, e) else ((readU (t.extract a t.size)).1, a + (readU (t.extract a t.size)).2.1, (readU (t.extract a t.size)).2.2)) := Lib.hid rfl
  obtain ⟨⟨c0, c1, c2⟩, f0, f1, f2⟩ := h.cells
  have HA := Lib.hid h.2
  clear h
  go_enter Tryz.func72, Tryz.ntmps72
  by_cases he : e = 0
  rotate_left
  · have e0 : (e != 0) = true := bne_iff_ne.2 he
    have HX : Hid (rtC t a e = (⟨#[]⟩, a, e)) := Lib.hid (by rw [HE.out, if_pos he])
    clear he
    go_wp2
    go_ret
    rw [HX.out]
    exact ⟨rfl, C0.out, mod_refl _ _⟩
  have e0 : (e != 0) = false := by rw [he]; rfl
  have HX : Hid (rtC t a e = ((readU (t.extract a t.size)).1, a + (readU (t.extract a t.size)).2.1, (readU (t.extract a t.size)).2.2)) := Lib.hid (by rw [HE.out, if_neg (fun x => x he)])
  clear he HE
  go_wp2_with fail
  refine (refRest_any g a t e _ C0.out).mono ?_
  rintro e' w1 ⟨rfl, hb⟩
  have C1 := Lib.hid (C0.out.below hb); have M1 := Lib.hid (mod_below hb (some g)); clear hb c0 c1 c2 f0 f1 f2
  go_wp2_with fail
  refine (refReadU_any _ _ (by rw [ByteArray.size_extract]; have := HA.out; omega)).mono ?_
  rintro e' w2 ⟨rfl, rfl⟩
  have HL := Lib.hid (readU_le (t.extract a t.size)).1
  have HZ : Hid ((t.extract a t.size).size = t.size - a) := Lib.hid (by rw [ByteArray.size_extract]; omega)
  rw [HZ.out] at HL
  clear HZ
  generalize readU (t.extract a t.size) = r at *
  obtain ⟨s, n, x⟩ := r
  simp only at HX HL ⊢
  obtain ⟨⟨c0, c1, c2⟩, f0, f1, f2⟩ := C1.out.cells
  have hw : IntKind.i64.wrap ((a : Int) + (n : Int)) = ((a + n : Nat) : Int) := by rw [IntKind.wrap_i64]; have := HA.out; have := HL.out; omega
  go_wp2
  go_ret
  rw [HX.out]
  refine ⟨rfl, ⟨(C1.out.1.upd 2 (.int .i64 x) (cs' := curC t a x) ?_).upd 1 (.int .i64 ((a + n : Nat) : Int)) (cs' := curC t (a + n) x) ?_, by have := HA.out; have := HL.out; exact ⟨by show a + n ≤ t.size; omega, HA.out.2⟩⟩, M1.out.trans ((mod_set _ _ _ _).trans (mod_set _ _ _ _))⟩
  · simp [curC]
  · simp [curC]

end Go.Proofs.YtngnaenbnmajdaaGreat

namespace Go.Proofs.YtngnaenbnmajdaaGreat
open Go.RowKit
attribute [local go_sem ↓] to_ldPk to_bxPk to_bdPk to_alPk to_stPk
attribute [local go_sem] run_bxPk run_bxPk_agg ld_fresh run_alPk run_bd0 run_bdK run_bdKI run_bdKIC run_bdKC run_bdKICP run_stPk_fresh pkC_0 pkC_1 pkC_2 pkC_3 pkC_4 pkC_5 pkC_6 pkC_7 pkC_8 pkC_9 pkC_10 pkC_11 pkC_12 pkC_13 pkC_14 pkC_15 pkC_16 pkC_17 pkC_18 pkC_19 pkC_20 pkC_21 pkC_22 pkC_23 pkC_24
attribute [local go_sem ↓ high] to_stPk to_stWl to_ldWl
attribute [local go_sem ↓] to_stF
attribute [local go_sem] ld_pw pw_at pw_stwl pw_stwl0 pw_st11 pw_st13
theorem run_bdUa (k : Int) (b : Bool) (c : Int) (l : List Pr) (A : Option Addr) (n : Nat) (w : World) : (bdPk #[(0, .int .i64 k), (16, .bool b), (17, .int .i64 c), (20, .slice A l.length n)]).run Tryz.prog w = .ok (pkV { pk0 with kind := k, props := l, session := b, code := c } { hs0 with props := ⟨A, n⟩ }) w := by kernel_rfl
theorem run_bdUb (k : Int) (c : Bool) (a : Int) (s : ByteArray) (u p o : Bool) (l : List Pr) (A : Option Addr) (n : Nat) (w : World) : (bdPk #[(0, .int .i64 k), (7, .bool c), (8, .int .i64 a), (9, .string s), (10, .bool u), (12, .bool p), (14, .bool o), (20, .slice A l.length n)]).run Tryz.prog w = .ok (pkV { pk0 with kind := k, props := l, clean := c, alive := a, client := s, hasUser := u, hasPass := p, hasWill := o } { hs0 with props := ⟨A, n⟩ }) w := by kernel_rfl
set_option maxHeartbeats 4000000 in
set_option maxRecDepth 10000 in
theorem refUsed_any (v : Int) (p : Pk) (h : Hs) (w : World) :
    Calls Tryz.prog 85 #[.int .i64 v, pkV p h] w fun e w' => e = .returned (pkV (cntQ p) (cntH p h)) ∧ Below w.heap.size w w' := by
  have hb2 := below_two w (.cells (pkC p h) PkT) (.cells (pkC pk0 hs0) PkT)
  have B1 : Bk ((w.alloc (.cells (pkC p h) PkT)).alloc (.cells (pkC pk0 hs0) PkT)) w.heap.size PkT (pkC p h) := (Bk.fresh w PkT (pkC p h)).alloc _
  have B2 : Bk ((w.alloc (.cells (pkC p h) PkT)).alloc (.cells (pkC pk0 hs0) PkT)) (w.heap.size + 1) PkT (pkC pk0 hs0) := by
    have := Bk.fresh (w.alloc (.cells (pkC p h) PkT)) PkT (pkC pk0 hs0)
    rwa [show (w.alloc (.cells (pkC p h) PkT)).heap.size = w.heap.size + 1 by simp] at this
  have hz : ((w.alloc (.cells (pkC p h) PkT)).alloc (.cells (pkC pk0 hs0) PkT)).heap.size = w.heap.size + 2 := by simp
  generalize hW : (w.alloc (.cells (pkC p h) PkT)).alloc (.cells (pkC pk0 hs0) PkT) = W at hb2 B1 B2 hz
  have HB := Lib.hid hb2; have H1 := Lib.hid B1; have H2 := Lib.hid B2; have HZ := Lib.hid hz
  clear hb2 B1 B2
  have k1 := fun i => H1.out.cell i
  have st := fun q k => run_stPk H2.out q k
  have ua := run_bdUa p.kind p.session p.code p.props h.props.a h.props.c
  have ub := run_bdUb p.kind p.clean p.alive p.client p.hasUser p.hasPass p.hasWill p.props h.props.a h.props.c
  by_cases h2 : p.kind = 2
  · have e2 : (p.kind == 2) = true := beq_iff_eq.2 h2
    have E1 : Hid (cntH p h = { hs0 with props := h.props }) := Lib.hid (by unfold cntH; rw [if_neg (fun y => y.1 h2)]; rfl)
    have E2 : Hid (cntQ p = { pk0 with kind := p.kind, props := p.props, session := p.session, code := p.code }) := Lib.hid (cntQ_two h2)
    clear h2 ub hz
    go_enter Tryz.func85, Tryz.ntmps85
    go_wp2
    refine bodyPost_ret (results_c1 rfl _ rfl (put_bk H2.out _ _)) rfl ?_
    rw [E1.out, E2.out]
    exact ⟨rfl, below_put HB.out HB.out.size (Nat.le_succ _) _ _⟩
  · have e2 : (p.kind == 2) = false := beq_eq_false_iff_ne.2 h2
    have H2' := Lib.hid h2
    have HH : Hid (cntH p h = { hs0 with props := h.props, wp := (if p.hasWill = true then h.wp else hd0) }) := Lib.hid (by
      unfold cntH
      by_cases hw : p.hasWill = true
      · rw [if_pos ⟨h2, hw⟩, if_pos hw]
      · rw [if_neg (fun y => hw y.2), if_neg hw])
    have B3 := Bk.fresh W PkT (pkC pk0 hs0)
    rw [hz] at B3
    have hlt : w.heap.size + 2 < (W.alloc (.cells (pkC pk0 hs0) PkT)).heap.size := B3.lt
    have b1' : Bk (W.alloc (.cells (pkC pk0 hs0) PkT)) w.heap.size PkT (pkC p h) := H1.out.alloc _
    have b2' : Bk (W.alloc (.cells (pkC pk0 hs0) PkT)) (w.heap.size + 1) PkT (pkC pk0 hs0) := H2.out.alloc _
    have bb : Below w.heap.size w (W.alloc (.cells (pkC pk0 hs0) PkT)) := HB.out.alloc HB.out.size _
    have hs0' : ∀ q k, (stPk (.pointer (some ⟨w.heap.size + 2, 0, none⟩)) (pkV q k)).run Tryz.prog (W.alloc (.cells (pkC pk0 hs0) PkT)) = .ok () (pw (W.alloc (.cells (pkC pk0 hs0) PkT)) (w.heap.size + 2) (pkC q k)) := fun q k => by
      have h1 := run_stPk_fresh W pk0 q hs0 k
      have h2 : pw (W.alloc (.cells (pkC pk0 hs0) PkT)) (w.heap.size + 2) (pkC q k) = W.alloc (.cells (pkC q k) PkT) := by
        have hx : (pw (W.alloc (.cells (pkC pk0 hs0) PkT)) W.heap.size (pkC q k)) = W.alloc (.cells (pkC q k) PkT) := by
          have hh : (W.heap.push (.cells (pkC pk0 hs0) PkT (0, 0))).setIfInBounds W.heap.size (.cells (pkC q k) PkT (0, 0)) = W.heap.push (.cells (pkC q k) PkT (0, 0)) := by
            apply Array.ext_getElem?
            intro i
            rw [Array.getElem?_push]
            by_cases hi : W.heap.size = i
            · subst hi
              simp
            · rw [Array.getElem?_setIfInBounds_ne hi, Array.getElem?_push, if_neg (fun e => hi e.symm), if_neg (fun e => hi e.symm)]
          exact congrArg (fun x => { W with heap := x }) hh
        rw [hz] at hx
        exact hx
      rw [hz] at h1
      rw [h2]
      exact h1
    generalize hV : W.alloc (.cells (pkC pk0 hs0) PkT) = V at hlt b1' b2' bb hs0'
    have N1 := Lib.hid b1'; have N2 := Lib.hid b2'; have NB := Lib.hid bb; have NL := Lib.hid hlt
    clear b1' b2' bb B3 h2 ua
    have f1 : ∀ cs, Bk (pw V (w.heap.size + 2) cs) w.heap.size PkT (pkC p h) := fun cs => (pw_other V (w.heap.size + 2) cs (by omega)).trans N1.out
    have j1 := fun cs => (f1 cs).cell
    have jl := fun cs => ld_wl (f1 cs)
    clear f1
    have jb : Hid (∀ cs, Bk (pw V (w.heap.size + 2) cs) (w.heap.size + 1) PkT (pkC pk0 hs0)) := Lib.hid (fun cs => (pw_other V (w.heap.size + 2) cs (by omega)).trans N2.out)
    have js := fun cs q k => run_stPk (jb.out cs) q k
    have JB : Hid (∀ cs, Below w.heap.size w (pw V (w.heap.size + 2) cs)) := Lib.hid (fun cs => pw_below V (w.heap.size + 2) cs NB.out (by omega))
    go_enter Tryz.func85, Tryz.ntmps85
    cases ha : p.hasWill <;> cases hb : p.hasUser <;> cases hc : p.hasPass
    all_goals
      have HQ := Lib.hid (cntQ_one H2'.out ha hb hc)
      have HA := Lib.hid ha
      rw [ha, hb, hc] at ub
      go_wp2
      refine bodyPost_ret (results_c1 rfl _ rfl (put_bk (jb.out _) _ _)) rfl ?_
      refine ⟨?_, below_put (JB.out _) (JB.out _).size (Nat.le_succ _) _ _⟩
      rw [HQ.out]
      rw [HH.out, HA.out]
      rfl
theorem num_ways {b : Bool} {p : Pk} (hn : b = decide (0 ≤ p.alive ∧ p.alive < 65536 ∧ 0 ≤ p.will.qos ∧ p.will.qos ≤ 2)) :
      (¬ 0 ≤ p.alive ∧ b = false) ∨ (0 ≤ p.alive ∧ ¬ p.alive < 65536 ∧ b = false) ∨ (0 ≤ p.alive ∧ p.alive < 65536 ∧ ¬ 0 ≤ p.will.qos ∧ b = false) ∨ (0 ≤ p.alive ∧ p.alive < 65536 ∧ 0 ≤ p.will.qos ∧ b = decide (p.will.qos ≤ 2)) := by
  rw [hn]
  by_cases a1 : 0 ≤ p.alive
  · by_cases a2 : p.alive < 65536
    · by_cases a3 : 0 ≤ p.will.qos
      · exact .inr (.inr (.inr ⟨a1, a2, a3, decide_eq_decide.2 ⟨fun y => y.2.2.2, fun y => ⟨a1, a2, a3, y⟩⟩⟩))
      · exact .inr (.inr (.inl ⟨a1, a2, a3, decide_eq_false (fun y => a3 y.2.2.1)⟩))
    · exact .inr (.inl ⟨a1, a2, decide_eq_false (fun y => a2 y.2.1)⟩)
  · exact .inl ⟨a1, decide_eq_false (fun y => a1 y.1)⟩
set_option maxHeartbeats 4000000 in
set_option maxRecDepth 10000 in
theorem refFields_any (v : Int) (p : Pk) (h : Hs) (w : World) (ip : PkIn w w.heap.size p h) (ok : PkOk p) :
    Calls Tryz.prog 52 #[.int .i64 v, pkV p h] w fun e w' => e = .returned (.bool (cntArg v p)) ∧ Below w.heap.size w w' := by
  have OK := Lib.hid ok
  have S0 := Lib.hid ((St.start w).push ip)
  have hz0 : (w.alloc (.cells (pkC p h) PkT)).heap.size = w.heap.size + 1 := by simp
  generalize hW : w.alloc (.cells (pkC p h) PkT) = W at S0 hz0
  have HZ := Lib.hid hz0; clear hz0
  have HE : Hid (cntArg v p = (hdKnown v && (cntOurs p.kind && (decide (p = cntQ p) && cntRng v p)))) := Lib.hid rfl
  have HR : Hid (cntRng v p = if v = 4 ∧ 0 < p.props.length + p.will.props.length then false
    else if p.kind = 2 then cntCode v p && (decide (p.code = 0) || !p.session)
    else if v = 4 ∧ ((p.client.size = 0 ∧ p.clean = false) ∨ (p.hasPass = true ∧ p.hasUser = false)) then false
    else decide (0 ≤ p.alive ∧ p.alive < 65536 ∧ 0 ≤ p.will.qos ∧ p.will.qos ≤ 2)) := Lib.hid rfl
  have hem := emptyB_iff p.client
  have q0 := regrown (W := W) (fun x hx => (refVersion_any v x).mono (by rintro e w' ⟨rfl, rfl⟩; exact ⟨rfl, Below.refl _ _⟩))
  have q1 := regrown (W := W) (fun x hx => refUsed_any v p h x)
  have q2 := regrown (W := W) (fun x hx => refSamePk_any p (cntQ p) h (cntH p h) x ((S0.out.below hx).into 0 rfl) (cntQ_in ((S0.out.below hx).into 0 rfl)) OK.out.len (cntQ_len OK.out.len))
  have k0 := cell_regrown (show W.cell? ⟨w.heap.size, 0, none⟩ = some (.int .i64 p.kind) from S0.out.cell 0 rfl 0)
  have l0 := ld_regrown (S0.out.bk 0 rfl)
  have HBW : Hid (∀ d os, Below W.heap.size W (Sort.grow (redrawn W d) os)) := Lib.hid (fun d os => below_regrown W d os)
  clear ip ok
  go_enter Tryz.func52, Tryz.ntmps52
  cases hk : hdKnown v
  · rw [hk] at q0
    have HX : Hid (cntArg v p = false) := Lib.hid (by rw [HE.out, hk, Bool.false_and])
    clear hk
    go_wp2_with fail
    refine wp_region_quiet_below (by kernel_rfl) (by kernel_rfl) ?_
    repeat (go_big_quiet_step (first | with_reducible exact q0 _ _ | with_reducible exact q1 _ _ | with_reducible exact q2 _ _))
    refine wpQuiet_nil ?_
    intro _ hw'
    obtain ⟨⟨dq, osq⟩, hw''⟩ := hw'
    subst hw''
    have S2 := Lib.hid (S0.out.below (HBW.out dq osq))
    clear q0 q1 q2 k0 l0 HBW
    generalize Sort.grow (redrawn _ dq) osq = wq at *
    go_wp2
    go_ret
    exact ⟨by rw [HX.out]; rfl, S2.out.kept⟩
  rw [hk] at q0
  have HV : Hid (v = 4 ∨ v = 5) := Lib.hid (of_decide_eq_true hk)
  have HE1 : Hid (cntArg v p = (cntOurs p.kind && (decide (p = cntQ p) && cntRng v p))) := Lib.hid (by rw [HE.out, hk, Bool.true_and])
  clear hk HE
  cases ho : cntOurs p.kind
  · have HX : Hid (cntArg v p = false) := Lib.hid (by rw [HE1.out, ho, Bool.false_and])
    have n1 : (p.kind != 1) = true := bne_iff_ne.2 (fun y => by have := of_decide_eq_false ho; exact this (.inl y))
    have n2 : (p.kind != 2) = true := bne_iff_ne.2 (fun y => by have := of_decide_eq_false ho; exact this (.inr y))
    clear ho
    go_wp2_with fail
    refine wp_region_quiet_below (by kernel_rfl) (by kernel_rfl) ?_
    repeat (go_big_quiet_step (first | with_reducible exact q0 _ _ | with_reducible exact q1 _ _ | with_reducible exact q2 _ _))
    refine wpQuiet_nil ?_
    intro _ hw'
    obtain ⟨⟨dq, osq⟩, hw''⟩ := hw'
    subst hw''
    have S2 := Lib.hid (S0.out.below (HBW.out dq osq))
    clear q0 q1 q2 k0 l0 HBW
    generalize Sort.grow (redrawn _ dq) osq = wq at *
    go_wp2
    go_ret
    exact ⟨by rw [HX.out]; rfl, S2.out.kept⟩
  have HO := Lib.hid (of_decide_eq_true ho)
  have HE2 : Hid (cntArg v p = (decide (p = cntQ p) && cntRng v p)) := Lib.hid (by rw [HE1.out, ho, Bool.true_and])
  clear ho HE1
  obtain ⟨sm, hsm⟩ : ∃ b : Bool, decide (p = cntQ p) = b := ⟨_, rfl⟩
  rw [hsm] at q2
  have HSM := Lib.hid hsm; clear hsm
  by_cases h2 : p.kind = 2
  · have n1 : (p.kind != 1) = true := bne_iff_ne.2 (by omega)
    have n2 : (p.kind != 2) = false := by simp [h2]
    have e2 : (p.kind == 2) = true := beq_iff_eq.2 h2
    have H2 := Lib.hid h2
    clear h2
    cases sm
    · have HX : Hid (cntArg v p = false) := Lib.hid (by rw [HE2.out, HSM.out, Bool.false_and])
      go_wp2_with fail
      refine wp_region_quiet_below (by kernel_rfl) (by kernel_rfl) ?_
      repeat (go_big_quiet_step (first | with_reducible exact q0 _ _ | with_reducible exact q1 _ _ | with_reducible exact q2 _ _))
      refine wpQuiet_nil ?_
      intro _ hw'
      obtain ⟨⟨dq, osq⟩, hw''⟩ := hw'
      subst hw''
      have S2 := Lib.hid (S0.out.below (HBW.out dq osq))
      clear q0 q1 q2 k0 l0 HBW
      generalize Sort.grow (redrawn _ dq) osq = wq at *
      go_wp2
      go_ret
      exact ⟨by rw [HX.out]; rfl, S2.out.kept⟩
    have HE3 : Hid (cntArg v p = cntRng v p) := Lib.hid (by rw [HE2.out, HSM.out, Bool.true_and])
    go_wp2_with fail
    refine wp_region_quiet_below (by kernel_rfl) (by kernel_rfl) ?_
    repeat (go_big_quiet_step (first | with_reducible exact q0 _ _ | with_reducible exact q1 _ _ | with_reducible exact q2 _ _))
    refine wpQuiet_nil ?_
    intro _ hw'
    obtain ⟨⟨dq, osq⟩, hw''⟩ := hw'
    subst hw''
    have S2 := Lib.hid (S0.out.below (HBW.out dq osq))
    clear q0 q1 q2 k0 l0 HBW
    generalize Sort.grow (redrawn _ dq) osq = wq at *
    have k0 := S2.out.cell 0 rfl
    rcases HV.out with h4 | h4
    · have e4 : (v == 4) = true := beq_iff_eq.2 h4
      have e5 : (v == 5) = false := beq_eq_false_iff_ne.2 (by omega)
      by_cases hp : 0 < p.props.length
      · have HX : Hid (cntArg v p = false) := Lib.hid (by rw [HE3.out, HR.out, if_pos ⟨h4, by omega⟩])
        clear h4
        go_wp2
        go_ret
        exact ⟨by rw [HX.out]; rfl, S2.out.kept⟩
      by_cases hw : 0 < p.will.props.length
      · have HX : Hid (cntArg v p = false) := Lib.hid (by rw [HE3.out, HR.out, if_pos ⟨h4, by omega⟩])
        clear h4
        go_wp2
        go_ret
        exact ⟨by rw [HX.out]; rfl, S2.out.kept⟩
      have N0 : ¬ (v = 4 ∧ 0 < p.props.length + p.will.props.length) := fun y => by omega
      have HC : Hid (cntArg v p = (retB p.code && (decide (p.code = 0) || !p.session))) := Lib.hid (by rw [HE3.out, HR.out, if_neg N0, if_pos H2.out]; unfold cntCode; rw [if_pos h4])
      clear h4 N0
      go_wp2_with fail
      refine (refReturn_any p.code _).mono ?_
      rintro e w3 ⟨rfl, hb⟩
      subst hb
      have S3 := S2
      cases hm : retB p.code
      · have HX : Hid (cntArg v p = false) := Lib.hid (by rw [HC.out, hm]; rfl)
        clear hm
        go_wp2
        go_ret
        exact ⟨by rw [HX.out]; rfl, S3.out.kept⟩
      by_cases hs : p.session = true
      · have HX : Hid (cntArg v p = decide (p.code = 0)) := Lib.hid (by rw [HC.out, hm, hs]; simp)
        clear hm
        have hd : decide (p.code = 0) = (p.code == 0) := by rfl
        go_wp2
        go_ret
        exact ⟨by rw [HX.out]; first | rfl | simp, S3.out.kept⟩
      · have hs' : p.session = false := by simpa using hs
        have HX : Hid (cntArg v p = true) := Lib.hid (by rw [HC.out, hm, hs']; simp)
        clear hm hs
        go_wp2
        go_ret
        exact ⟨by rw [HX.out]; rfl, S3.out.kept⟩
    · have e4 : (v == 4) = false := beq_eq_false_iff_ne.2 (by omega)
      have e5 : (v == 5) = true := beq_iff_eq.2 h4
      have N0 : ¬ (v = 4 ∧ 0 < p.props.length + p.will.props.length) := fun y => by omega
      have HC : Hid (cntArg v p = (may 2 p.code && (decide (p.code = 0) || !p.session))) := Lib.hid (by rw [HE3.out, HR.out, if_neg N0, if_pos H2.out]; unfold cntCode; rw [if_neg (fun y => by omega), H2.out])
      clear h4 N0
      go_wp2_with fail
      refine (refMay_any 2 p.code _).mono ?_
      rintro e w3 ⟨rfl, hb⟩
      have S3 := Lib.hid (S2.out.below hb); clear hb k0
      have k0 := S3.out.cell 0 rfl
      cases hm : may 2 p.code
      · have HX : Hid (cntArg v p = false) := Lib.hid (by rw [HC.out, hm]; rfl)
        clear hm
        go_wp2
        go_ret
        exact ⟨by rw [HX.out]; rfl, S3.out.kept⟩
      by_cases hs : p.session = true
      · have HX : Hid (cntArg v p = decide (p.code = 0)) := Lib.hid (by rw [HC.out, hm, hs]; simp)
        clear hm
        have hd : decide (p.code = 0) = (p.code == 0) := by rfl
        go_wp2
        go_ret
        exact ⟨by rw [HX.out]; first | rfl | simp, S3.out.kept⟩
      · have hs' : p.session = false := by simpa using hs
        have HX : Hid (cntArg v p = true) := Lib.hid (by rw [HC.out, hm, hs']; simp)
        clear hm hs
        go_wp2
        go_ret
        exact ⟨by rw [HX.out]; rfl, S3.out.kept⟩
  · have n1 : (p.kind != 1) = false := by have : p.kind = 1 := HO.out.resolve_right h2; simp [this]
    have e2 : (p.kind == 2) = false := beq_eq_false_iff_ne.2 h2
    have H2 := Lib.hid h2
    clear h2
    cases sm
    · have HX : Hid (cntArg v p = false) := Lib.hid (by rw [HE2.out, HSM.out, Bool.false_and])
      go_wp2_with fail
      refine wp_region_quiet_below (by kernel_rfl) (by kernel_rfl) ?_
      repeat (go_big_quiet_step (first | with_reducible exact q0 _ _ | with_reducible exact q1 _ _ | with_reducible exact q2 _ _))
      refine wpQuiet_nil ?_
      intro _ hw'
      obtain ⟨⟨dq, osq⟩, hw''⟩ := hw'
      subst hw''
      have S2 := Lib.hid (S0.out.below (HBW.out dq osq))
      clear q0 q1 q2 k0 l0 HBW
      generalize Sort.grow (redrawn _ dq) osq = wq at *
      go_wp2
      go_ret
      exact ⟨by rw [HX.out]; rfl, S2.out.kept⟩
    have HE3 : Hid (cntArg v p = cntRng v p) := Lib.hid (by rw [HE2.out, HSM.out, Bool.true_and])
    go_wp2_with fail
    refine wp_region_quiet_below (by kernel_rfl) (by kernel_rfl) ?_
    repeat (go_big_quiet_step (first | with_reducible exact q0 _ _ | with_reducible exact q1 _ _ | with_reducible exact q2 _ _))
    refine wpQuiet_nil ?_
    intro _ hw'
    obtain ⟨⟨dq, osq⟩, hw''⟩ := hw'
    subst hw''
    have S2 := Lib.hid (S0.out.below (HBW.out dq osq))
    clear q0 q1 q2 k0 l0 HBW
    generalize Sort.grow (redrawn _ dq) osq = wq at *
    have k0 := S2.out.cell 0 rfl
    rcases HV.out with h4 | h4
    · have e4 : (v == 4) = true := beq_iff_eq.2 h4
      have e5 : (v == 5) = false := beq_eq_false_iff_ne.2 (by omega)
      by_cases hp : 0 < p.props.length
      · have HX : Hid (cntArg v p = false) := Lib.hid (by rw [HE3.out, HR.out, if_pos ⟨h4, by omega⟩])
        clear h4
        go_wp2
        go_ret
        exact ⟨by rw [HX.out]; rfl, S2.out.kept⟩
      by_cases hw : 0 < p.will.props.length
      · have HX : Hid (cntArg v p = false) := Lib.hid (by rw [HE3.out, HR.out, if_pos ⟨h4, by omega⟩])
        clear h4
        go_wp2
        go_ret
        exact ⟨by rw [HX.out]; rfl, S2.out.kept⟩
      have N0 : ¬ (v = 4 ∧ 0 < p.props.length + p.will.props.length) := fun y => by omega
      have HC : Hid (cntArg v p = if v = 4 ∧ ((p.client.size = 0 ∧ p.clean = false) ∨ (p.hasPass = true ∧ p.hasUser = false)) then false
        else decide (0 ≤ p.alive ∧ p.alive < 65536 ∧ 0 ≤ p.will.qos ∧ p.will.qos ≤ 2)) := Lib.hid (by rw [HE3.out, HR.out, if_neg N0, if_neg H2.out])
      have H4 := Lib.hid h4
      clear h4 N0
      by_cases ha : p.client.size = 0 ∧ p.clean = false
      · have HX : Hid (cntArg v p = false) := Lib.hid (HC.out.trans (if_pos ⟨H4.out, .inl ha⟩))
        obtain ⟨ha1, ha2⟩ := ha
        rw [decide_eq_true ha1] at hem
        go_wp2
        go_ret
        exact ⟨by rw [HX.out]; rfl, S2.out.kept⟩
      by_cases hq : p.hasPass = true ∧ p.hasUser = false
      · have HX : Hid (cntArg v p = false) := Lib.hid (HC.out.trans (if_pos ⟨H4.out, .inr hq⟩))
        obtain ⟨hq1, hq2⟩ := hq
        clear ha
        go_wp2
        all_goals
          go_ret
          exact ⟨by rw [HX.out]; rfl, S2.out.kept⟩
      have HN := Lib.hid (num_ways (HC.out.trans (if_neg (fun y => y.2.elim ha hq))))
      have Z : ((p.client.toList.isEmpty = true ∧ p.clean = true) ∨ p.client.toList.isEmpty = false) ∧ ((p.hasPass = true ∧ p.hasUser = true) ∨ p.hasPass = false) := by
        rw [hem]
        constructor
        · by_cases c0 : p.client.size = 0
          · cases c1 : p.clean
            · exact absurd ⟨c0, c1⟩ ha
            · exact .inl ⟨decide_eq_true c0, rfl⟩
          · exact .inr (decide_eq_false c0)
        · cases c0 : p.hasPass
          · exact .inr rfl
          · cases c1 : p.hasUser
            · exact absurd ⟨c0, c1⟩ hq
            · exact .inl ⟨rfl, rfl⟩
      clear ha hq hem
      obtain ⟨Z1, Z2⟩ := Z
      rcases Z1 with ⟨z1, z2⟩ | z1 <;> rcases Z2 with ⟨z3, z4⟩ | z3
      all_goals
        rcases HN.out with ⟨a1, hx⟩ | ⟨a1, a2, hx⟩ | ⟨a1, a2, a3, hx⟩ | ⟨a1, a2, a3, hx⟩
        · have HX := Lib.hid hx
          have a1' : p.alive < 0 := by omega
          clear hx a1
          go_wp2
          go_ret
          exact ⟨by rw [HX.out]; rfl, S2.out.kept⟩
        · have HX := Lib.hid hx
          have a2' : ¬ p.alive ≤ 65535 := by omega
          clear hx a2
          go_wp2
          go_ret
          exact ⟨by rw [HX.out]; rfl, S2.out.kept⟩
        · have HX := Lib.hid hx
          have a2' : p.alive ≤ 65535 := by omega
          have a3' : p.will.qos < 0 := by omega
          clear hx a2 a3
          go_wp2
          go_ret
          exact ⟨by rw [HX.out]; rfl, S2.out.kept⟩
        · have HX := Lib.hid hx
          have a2' : p.alive ≤ 65535 := by omega
          clear hx a2
          go_wp2
          go_ret
          exact ⟨by rw [HX.out]; rfl, S2.out.kept⟩
    · have e4 : (v == 4) = false := beq_eq_false_iff_ne.2 (by omega)
      have e5 : (v == 5) = true := beq_iff_eq.2 h4
      have N0 : ¬ (v = 4 ∧ 0 < p.props.length + p.will.props.length) := fun y => by omega
      have HC : Hid (cntArg v p = if v = 4 ∧ ((p.client.size = 0 ∧ p.clean = false) ∨ (p.hasPass = true ∧ p.hasUser = false)) then false
        else decide (0 ≤ p.alive ∧ p.alive < 65536 ∧ 0 ≤ p.will.qos ∧ p.will.qos ≤ 2)) := Lib.hid (by rw [HE3.out, HR.out, if_neg N0, if_neg H2.out])
      have HN := Lib.hid (num_ways (HC.out.trans (if_neg (fun y => by omega))))
      clear h4 N0
      rcases HN.out with ⟨a1, hx⟩ | ⟨a1, a2, hx⟩ | ⟨a1, a2, a3, hx⟩ | ⟨a1, a2, a3, hx⟩
      · have HX := Lib.hid hx
        have a1' : p.alive < 0 := by omega
        clear hx a1
        go_wp2
        go_ret
        exact ⟨by rw [HX.out]; rfl, S2.out.kept⟩
      · have HX := Lib.hid hx
        have a2' : ¬ p.alive ≤ 65535 := by omega
        clear hx a2
        go_wp2
        go_ret
        exact ⟨by rw [HX.out]; rfl, S2.out.kept⟩
      · have HX := Lib.hid hx
        have a2' : p.alive ≤ 65535 := by omega
        have a3' : p.will.qos < 0 := by omega
        clear hx a2 a3
        go_wp2
        go_ret
        exact ⟨by rw [HX.out]; rfl, S2.out.kept⟩
      · have HX := Lib.hid hx
        have a2' : p.alive ≤ 65535 := by omega
        clear hx a2
        go_wp2
        go_ret
        exact ⟨by rw [HX.out]; rfl, S2.out.kept⟩
end Go.Proofs.YtngnaenbnmajdaaGreat

namespace Go.Proofs.YtngnaenbnmajdaaGreat
open Go.RowKit
attribute [local go_sem ↓] to_ldPk to_bxPk to_bdPk to_alPk to_stPk
attribute [local go_sem] run_bxPk run_bxPk_agg ld_fresh run_alPk run_bd0 run_bdK run_bdKI run_bdKIC run_bdKC run_bdKICP run_stPk_fresh pkC_0 pkC_1 pkC_2 pkC_3 pkC_4 pkC_5 pkC_6 pkC_7 pkC_8 pkC_9 pkC_10 pkC_11 pkC_12 pkC_13 pkC_14 pkC_15 pkC_16 pkC_17 pkC_18 pkC_19 pkC_20 pkC_21 pkC_22 pkC_23 pkC_24
set_option maxHeartbeats 8000000 in
set_option maxRecDepth 10000 in
theorem refCntValid_any (v : Int) (p : Pk) (h : Hs) (w : World) (ip : PkIn w w.heap.size p h) (ok : PkOk p) :
    Calls Tryz.prog 13 #[.int .i64 v, pkV p h] w fun e w' => e = .returned (.int .i64 (cntE v p)) ∧ Below w.heap.size w w' := by
  have OK := Lib.hid ok
  have S0 := Lib.hid ((St.start w).push ip)
  have HE : Hid (cntE v p = if cntArg v p = false then 2
    else if validB p.client = false ∨ validB p.user = false then 6
    else if p.hasWill = true ∧ nameB p.will.topic = false then 10
    else if 65535 < p.will.payload.size ∨ 65535 < p.pass.size then 2
    else if (bytesS p.kind p.props).2 ≠ 0 then (bytesS p.kind p.props).2
    else (bytesS 16 p.will.props).2) := Lib.hid rfl
  have HA : Hid (cntArg v p = (hdKnown v && (cntOurs p.kind && (decide (p = cntQ p) && cntRng v p)))) := Lib.hid rfl
  have k0 := S0.out.cell 0 rfl
  have l0 := S0.out.ld 0 rfl
  clear ip ok
  go_enter Tryz.func13, Tryz.ntmps13
  go_wp2_with fail
  refine (refFields_any v p h _ (S0.out.into 0 rfl) OK.out).mono ?_
  rintro e w1 ⟨rfl, hb⟩
  have S2 := Lib.hid (S0.out.below hb); clear hb k0 l0
  have k0 := S2.out.cell 0 rfl
  cases hr : cntArg v p
  · have HX : Hid (cntE v p = 2) := Lib.hid (by rw [HE.out, if_pos hr])
    clear hr
    go_wp2
    go_ret
    exact ⟨by rw [HX.out]; rfl, S2.out.kept⟩
  have HZ : Hid (rightE v p.kind p.props = (bytesS p.kind p.props).2 ∧ rightE v 16 p.will.props = (bytesS 16 p.will.props).2) := Lib.hid (by
    have hh : cntRng v p = true := by
      have := HA.out.symm.trans hr
      simp only [Bool.and_eq_true] at this
      exact this.2.2.2
    have h4 : ¬ (v = 4 ∧ 0 < p.props.length + p.will.props.length) := fun y => by
      unfold cntRng at hh
      rw [if_pos y] at hh
      cases hh
    exact ⟨right_none (fun y => by omega), right_none (fun y => by omega)⟩)
  have HE1 : Hid (cntE v p = if validB p.client = false ∨ validB p.user = false then 6
    else if p.hasWill = true ∧ nameB p.will.topic = false then 10
    else if 65535 < p.will.payload.size ∨ 65535 < p.pass.size then 2
    else if (bytesS p.kind p.props).2 ≠ 0 then (bytesS p.kind p.props).2
    else (bytesS 16 p.will.props).2) := Lib.hid (by rw [HE.out, if_neg (by rw [hr]; decide)])
  clear hr
  go_wp2_with fail
  refine (refValid_any p.client _ (by have := OK.out.texts; omega)).mono ?_
  rintro e w3 ⟨rfl, rfl⟩
  have S3 := S2
  cases hc : validB p.client
  · have HX : Hid (cntE v p = 6) := Lib.hid (by rw [HE1.out, if_pos (.inl hc)])
    clear hc
    go_wp2
    go_ret
    exact ⟨by rw [HX.out]; rfl, S3.out.kept⟩
  go_wp2_with fail
  refine (refValid_any p.user _ (by have := OK.out.texts; omega)).mono ?_
  rintro e w4 ⟨rfl, rfl⟩
  have S4 := S3
  cases hu : validB p.user
  · have HX : Hid (cntE v p = 6) := Lib.hid (by rw [HE1.out, if_pos (.inr hu)])
    clear hc hu
    go_wp2
    go_ret
    exact ⟨by rw [HX.out]; rfl, S4.out.kept⟩
  have HE2 : Hid (cntE v p = if p.hasWill = true ∧ nameB p.will.topic = false then 10
    else if 65535 < p.will.payload.size ∨ 65535 < p.pass.size then 2
    else if (bytesS p.kind p.props).2 ≠ 0 then (bytesS p.kind p.props).2
    else (bytesS 16 p.will.props).2) := Lib.hid (by rw [HE1.out, if_neg (fun y => y.elim (fun z => by rw [hc] at z; cases z) (fun z => by rw [hu] at z; cases z))])
  clear hc hu
  obtain ⟨hw, hhw⟩ : ∃ b, p.hasWill = b := ⟨_, rfl⟩
  cases hw
  · have HE3 : Hid (cntE v p = if 65535 < p.will.payload.size ∨ 65535 < p.pass.size then 2
      else if (bytesS p.kind p.props).2 ≠ 0 then (bytesS p.kind p.props).2
      else (bytesS 16 p.will.props).2) := Lib.hid (by rw [HE2.out, if_neg (fun y => by rw [hhw] at y; cases y.1)])
    have S5 := S4
    by_cases hy : 65535 < p.will.payload.size
    · have d1 : (65535 : Int) < (p.will.payload.size : Int) := by omega
      have HX : Hid (cntE v p = 2) := Lib.hid (by rw [HE3.out, if_pos (.inl hy)])
      clear hy
      go_wp2
      go_ret
      exact ⟨by rw [HX.out]; rfl, S5.out.kept⟩
    have d1 : (p.will.payload.size : Int) ≤ 65535 := by omega
    by_cases hz : 65535 < p.pass.size
    · have d2 : (65535 : Int) < (p.pass.size : Int) := by omega
      have HX : Hid (cntE v p = 2) := Lib.hid (by rw [HE3.out, if_pos (.inr hz)])
      clear hy hz
      go_wp2
      go_ret
      exact ⟨by rw [HX.out]; rfl, S5.out.kept⟩
    have d2 : (p.pass.size : Int) ≤ 65535 := by omega
    have HE4 : Hid (cntE v p = if (bytesS p.kind p.props).2 ≠ 0 then (bytesS p.kind p.props).2 else (bytesS 16 p.will.props).2) := Lib.hid (by rw [HE3.out, if_neg (fun y => y.elim hy hz)])
    clear hy hz
    go_wp2_with fail
    refine (refRight_any v p.kind p.props _ rfl OK.out.props h.props.a h.props.c _ (S5.out.into 0 rfl).props OK.out.len.2.2.2 (S5.out.into 0 rfl).caps.2.2.2).mono ?_
    rintro e w6 ⟨rfl, hb⟩
    rw [HZ.out.1]
    have S6 := Lib.hid (S5.out.below hb); clear hb k0
    have k0 := S6.out.cell 0 rfl
    by_cases hp : (bytesS p.kind p.props).2 = 0
    rotate_left
    · have e0 : ((bytesS p.kind p.props).2 != 0) = true := bne_iff_ne.2 hp
      have HX : Hid (cntE v p = (bytesS p.kind p.props).2) := Lib.hid (by rw [HE4.out, if_pos hp])
      clear hp
      go_wp2
      go_ret
      exact ⟨by rw [HX.out]; rfl, S6.out.kept⟩
    rw [hp]
    have HX : Hid (cntE v p = (bytesS 16 p.will.props).2) := Lib.hid (by rw [HE4.out, if_neg (fun y => y hp)])
    clear hp
    go_wp2_with fail
    refine (refRight_any v 16 p.will.props _ rfl OK.out.wp h.wp.a h.wp.c _ (S6.out.into 0 rfl).wp OK.out.len.1 (S6.out.into 0 rfl).caps.1).mono ?_
    rintro e w7 ⟨rfl, hb⟩
    rw [HZ.out.2]
    have S7 := Lib.hid (S6.out.below hb); clear hb k0
    go_wp2
    go_ret
    exact ⟨by rw [HX.out]; rfl, S7.out.kept⟩
  · go_wp2_with fail
    refine (refName_any p.will.topic _ (by have := OK.out.texts; omega)).mono ?_
    rintro e w5 ⟨rfl, rfl⟩
    have S5 := S4
    cases hn : nameB p.will.topic
    · have HX : Hid (cntE v p = 10) := Lib.hid (by rw [HE2.out, if_pos ⟨hhw, hn⟩])
      clear hn
      go_wp2
      go_ret
      exact ⟨by rw [HX.out]; rfl, S5.out.kept⟩
    have HE3 : Hid (cntE v p = if 65535 < p.will.payload.size ∨ 65535 < p.pass.size then 2
      else if (bytesS p.kind p.props).2 ≠ 0 then (bytesS p.kind p.props).2
      else (bytesS 16 p.will.props).2) := Lib.hid (by rw [HE2.out, if_neg (fun y => by rw [hn] at y; cases y.2)])
    clear hn
    by_cases hy : 65535 < p.will.payload.size
    · have d1 : (65535 : Int) < (p.will.payload.size : Int) := by omega
      have HX : Hid (cntE v p = 2) := Lib.hid (by rw [HE3.out, if_pos (.inl hy)])
      clear hy
      go_wp2
      go_ret
      exact ⟨by rw [HX.out]; rfl, S5.out.kept⟩
    have d1 : (p.will.payload.size : Int) ≤ 65535 := by omega
    by_cases hz : 65535 < p.pass.size
    · have d2 : (65535 : Int) < (p.pass.size : Int) := by omega
      have HX : Hid (cntE v p = 2) := Lib.hid (by rw [HE3.out, if_pos (.inr hz)])
      clear hy hz
      go_wp2
      go_ret
      exact ⟨by rw [HX.out]; rfl, S5.out.kept⟩
    have d2 : (p.pass.size : Int) ≤ 65535 := by omega
    have HE4 : Hid (cntE v p = if (bytesS p.kind p.props).2 ≠ 0 then (bytesS p.kind p.props).2 else (bytesS 16 p.will.props).2) := Lib.hid (by rw [HE3.out, if_neg (fun y => y.elim hy hz)])
    clear hy hz
    go_wp2_with fail
    refine (refRight_any v p.kind p.props _ rfl OK.out.props h.props.a h.props.c _ (S5.out.into 0 rfl).props OK.out.len.2.2.2 (S5.out.into 0 rfl).caps.2.2.2).mono ?_
    rintro e w6 ⟨rfl, hb⟩
    rw [HZ.out.1]
    have S6 := Lib.hid (S5.out.below hb); clear hb k0
    have k0 := S6.out.cell 0 rfl
    by_cases hp : (bytesS p.kind p.props).2 = 0
    rotate_left
    · have e0 : ((bytesS p.kind p.props).2 != 0) = true := bne_iff_ne.2 hp
      have HX : Hid (cntE v p = (bytesS p.kind p.props).2) := Lib.hid (by rw [HE4.out, if_pos hp])
      clear hp
      go_wp2
      go_ret
      exact ⟨by rw [HX.out]; rfl, S6.out.kept⟩
    rw [hp]
    have HX : Hid (cntE v p = (bytesS 16 p.will.props).2) := Lib.hid (by rw [HE4.out, if_neg (fun y => y hp)])
    clear hp
    go_wp2_with fail
    refine (refRight_any v 16 p.will.props _ rfl OK.out.wp h.wp.a h.wp.c _ (S6.out.into 0 rfl).wp OK.out.len.1 (S6.out.into 0 rfl).caps.1).mono ?_
    rintro e w7 ⟨rfl, hb⟩
    rw [HZ.out.2]
    have S7 := Lib.hid (S6.out.below hb); clear hb k0
    go_wp2
    go_ret
    exact ⟨by rw [HX.out]; rfl, S7.out.kept⟩
end Go.Proofs.YtngnaenbnmajdaaGreat

namespace Go.Proofs.YtngnaenbnmajdaaGreat
open Go.RowKit
attribute [local go_sem ↓] to_ldPk to_bxPk to_bdPk to_alPk to_stPk
attribute [local go_sem] run_bxPk run_bxPk_agg ld_fresh run_alPk run_bd0 run_bdK run_bdKI run_bdKIC run_bdKC run_bdKICP run_stPk_fresh pkC_0 pkC_1 pkC_2 pkC_3 pkC_4 pkC_5 pkC_6 pkC_7 pkC_8 pkC_9 pkC_10 pkC_11 pkC_12 pkC_13 pkC_14 pkC_15 pkC_16 pkC_17 pkC_18 pkC_19 pkC_20 pkC_21 pkC_22 pkC_23 pkC_24

theorem conv_two8 {W z : World} (a b : UInt8) (hb : Below (W.alloc (.cells #[.int .u8 (a.toNat : Int), .int .u8 (b.toNat : Int)] 5)).heap.size (W.alloc (.cells #[.int .u8 (a.toNat : Int), .int .u8 (b.toNat : Int)] 5)) z) :
    (convert 56 9 (.slice (some ⟨W.heap.size, 0, none⟩) 2 2)).run Tryz.prog z = .ok (.string ⟨#[a, b]⟩) z :=
  conv_rd 56 9 5 Tryz.underlying56 Tryz.underlying5 Tryz.underlying9 2 ((Rd.lit W #[.int .u8 (a.toNat : Int), .int .u8 (b.toNat : Int)] 5 (xs := bys [a, b]) rfl (Nat.lt_succ_self _) rfl).below (hb.mono (by simp)))
theorem tail_eq (v k : Int) (l : List Pr) : tailB v k l = tail8 v k l := rfl
set_option maxHeartbeats 4000000 in
set_option maxRecDepth 10000 in
theorem ref8Body2_any (v : Int) (p : Pk) (h : Hs) (w : World) (ip : PkIn w w.heap.size p h) (ok : PkOk p) (h2 : p.kind = 2) :
    Calls Tryz.prog 8 #[.int .i64 v, pkV p h] w fun e w' => e = .returned (.tuple #[.string (cntB2 v p).1, .int .i64 (cntB2 v p).2]) ∧ Below w.heap.size w w' := by
  have OK := Lib.hid ok
  have S0 := Lib.hid ((St.start w).push ip)
  have HE : Hid (cntB2 v p = if cntE v p = 0 then (ackS8 v p, 0) else (⟨#[]⟩, cntE v p)) := Lib.hid rfl
  have HQ : Hid (ackS8 v p = catL [⟨#[if p.session = true then 1 else 0]⟩, ⟨(putL p.code.toNat 1).toArray⟩, tail8 v p.kind p.props]) := Lib.hid rfl
  have l0 := S0.out.ld 0 rfl
  have H2 := Lib.hid h2
  clear ip ok h2
  go_enter Tryz.func8, Tryz.ntmps8
  go_wp2_with fail
  refine (refCntValid_any v p h _ (S0.out.into 0 rfl) OK.out).mono ?_
  rintro e w1 ⟨rfl, hb⟩
  have S1 := Lib.hid (S0.out.below hb); clear hb l0
  by_cases he : cntE v p = 0
  rotate_left
  · have e0 : (cntE v p != 0) = true := bne_iff_ne.2 he
    have HX : Hid (cntB2 v p = (⟨#[]⟩, cntE v p)) := Lib.hid (by rw [HE.out, if_neg he])
    clear he
    go_wp2
    go_ret2
    exact ⟨by rw [HX.out]; rfl, S1.out.kept⟩
  have HX : Hid (cntB2 v p = (ackS8 v p, 0)) := Lib.hid (by rw [HE.out, if_pos he])
  have hcr := cntE_code he H2.out
  have HTS := Lib.hid (tail8_size v p.kind p.props)
  obtain ⟨b0, hb0, hw0⟩ : ∃ b : UInt8, Hid ((⟨#[if p.session = true then 1 else 0]⟩ : ByteArray) = ⟨#[b]⟩) ∧ IntKind.u8.wrap (bitN p.session 1) = (b.toNat : Int) := by
    cases p.session
    · exact ⟨0, Lib.hid rfl, rfl⟩
    · exact ⟨1, Lib.hid rfl, rfl⟩
  obtain ⟨b1, hb1, hw1⟩ : ∃ b : UInt8, Hid (putL p.code.toNat 1 = [b]) ∧ IntKind.u8.wrap p.code = (b.toNat : Int) := by
    refine ⟨UInt8.ofNat p.code.toNat, Lib.hid (by simp [putL]), ?_⟩
    rw [IntKind.wrap_u8]
    simp [UInt8.toNat_ofNat']
    omega
  rw [he]
  have TT := Lib.hid (fun (x : World) hr hc => refTail_any v p.kind p.props _ rfl OK.out.props h.props.a h.props.c x hr OK.out.len.2.2.2 hc)
  obtain ⟨T, hT⟩ : ∃ T, tail8 v p.kind p.props = T := ⟨_, rfl⟩
  rw [hb0.out, hb1.out, hT] at HQ
  have HQ2 : Hid (ackS8 v p = ⟨#[b0, b1]⟩ ++ T) := Lib.hid (by
    rw [HQ.out]
    refine ls_ext ?_
    simp [catL, ls])
  simp only [tail_eq] at TT
  rw [hT] at TT HTS
  have hsz : ¬ (9223372036854775807 < 2 + T.size) := by have := HTS.out; omega
  have hs2 : (⟨#[b0, b1]⟩ : ByteArray).size = 2 := rfl
  have k0 := (S1.out.cell 0 rfl 0).trans (pkC_0 _ _)
  rw [H2.out] at k0
  clear he hcr hT
  go_wp2_with fail
  clear k0
  go_cut [4, 5] (fun a b wx => a = .string (⟨#[b0, b1]⟩ ++ T) ∧ b = .int .i64 0 ∧ St w [(w.heap.size, p, h)] wx)
  case first =>
    have J0 := Lib.hid S1.out.drew
    obtain ⟨WX, hWX⟩ : ∃ W, w1.drew = W := ⟨_, rfl⟩
    have HS := And.intro ((J0.out.cell 0 rfl 20).trans (pkC_20 _ _)) (And.intro ((J0.out.cell 0 rfl 21).trans (pkC_21 _ _)) (And.intro ((J0.out.cell 0 rfl 0).trans (pkC_0 _ _)) ((J0.out.cell 0 rfl 24).trans (pkC_24 _ _))))
    refine wp_region_D (fun w' => w'.cell? ⟨w.heap.size, 20, none⟩ = some (.bool p.session) ∧ w'.cell? ⟨w.heap.size, 21, none⟩ = some (.int .i64 p.code) ∧ w'.cell? ⟨w.heap.size, 0, none⟩ = some (.int .i64 p.kind) ∧ w'.cell? ⟨w.heap.size, 24, none⟩ = some (.slice h.props.a p.props.length h.props.c)) [] (by kernel_rfl) ?_
    rw [hWX] at J0 HS ⊢
    clear hWX
    refine anyD_take (i := 0) (v := ?va1) [] rfl (by kernel_rfl) (by kernel_rfl) (by kernel_rfl) (by kernel_rfl) (by kernel_rfl) (by kernel_rfl) (fun _ _ _ h => h) (Or.inl ⟨by rfl, ?ha1⟩) HS ?ra1
    case ha1 => intro w' hSw; (try dsimp only at hSw); go_simp; try with_reducible rfl
    (try simp only [Act.put]); (try simp only [List.setIfInBounds_toArray]); (try simp only [List.set_cons_succ]); (try simp only [List.set_cons_zero])
    refine anyD_take (i := 1) (v := ?va2) [] rfl (by kernel_rfl) (by kernel_rfl) (by kernel_rfl) (by kernel_rfl) (by kernel_rfl) (by kernel_rfl) (fun _ _ _ h => h) (Or.inl ⟨by rfl, ?ha2⟩) HS ?ra2
    case ha2 => intro w' hSw; (try dsimp only at hSw); go_simp; try with_reducible rfl
    (try simp only [Act.put]); (try simp only [List.setIfInBounds_toArray]); (try simp only [List.set_cons_succ]); (try simp only [List.set_cons_zero])
    refine anyD_take (i := 4) (v := ?va3) [] rfl (by kernel_rfl) (by kernel_rfl) (by kernel_rfl) (by kernel_rfl) (by kernel_rfl) (by kernel_rfl) (fun _ _ _ h => h) (Or.inl ⟨by rfl, ?ha3⟩) HS ?ra3
    case ha3 => intro w' hSw; (try dsimp only at hSw); go_simp; try with_reducible rfl
    (try simp only [Act.put]); (try simp only [List.setIfInBounds_toArray]); (try simp only [List.set_cons_succ]); (try simp only [List.set_cons_zero])
    refine anyD_take (i := 5) (v := ?va4) [] rfl (by kernel_rfl) (by kernel_rfl) (by kernel_rfl) (by kernel_rfl) (by kernel_rfl) (by kernel_rfl) (fun _ _ _ h => h) (Or.inl ⟨by rfl, ?ha4⟩) HS ?ra4
    case ha4 => intro w' hSw; (try dsimp only at hSw); go_simp; try with_reducible rfl
    (try simp only [Act.put]); (try simp only [List.setIfInBounds_toArray]); (try simp only [List.set_cons_succ]); (try simp only [List.set_cons_zero])
    refine anyD_take (i := 6) (v := ?va5) [] rfl (by kernel_rfl) (by kernel_rfl) (by kernel_rfl) (by kernel_rfl) (by kernel_rfl) (by kernel_rfl) (fun _ _ _ h => h) (Or.inl ⟨by rfl, ?ha5⟩) HS ?ra5
    case ha5 => intro w' hSw; (try dsimp only at hSw); go_simp; try with_reducible rfl
    (try simp only [Act.put]); (try simp only [List.setIfInBounds_toArray]); (try simp only [List.set_cons_succ]); (try simp only [List.set_cons_zero])
    refine anyD_take (i := 9) (v := ?va6) [] rfl (by kernel_rfl) (by kernel_rfl) (by kernel_rfl) (by kernel_rfl) (by kernel_rfl) (by kernel_rfl) (fun _ _ _ h => h) (Or.inl ⟨by rfl, ?ha6⟩) HS ?ra6
    case ha6 => intro w' hSw; (try dsimp only at hSw); go_simp; try with_reducible rfl
    (try simp only [Act.put]); (try simp only [List.setIfInBounds_toArray]); (try simp only [List.set_cons_succ]); (try simp only [List.set_cons_zero])
    refine anyD_take (i := 10) (v := ?va7) [] rfl (by kernel_rfl) (by kernel_rfl) (by kernel_rfl) (by kernel_rfl) (by kernel_rfl) (by kernel_rfl) (fun _ _ _ h => h) (Or.inl ⟨by rfl, ?ha7⟩) HS ?ra7
    case ha7 => intro w' hSw; (try dsimp only at hSw); go_simp; try with_reducible rfl
    (try simp only [Act.put]); (try simp only [List.setIfInBounds_toArray]); (try simp only [List.set_cons_succ]); (try simp only [List.set_cons_zero])
    refine anyD_take (i := 11) (v := ?va8) [] rfl (by kernel_rfl) (by kernel_rfl) (by kernel_rfl) (by kernel_rfl) (by kernel_rfl) (by kernel_rfl) (fun _ _ _ h => h) (Or.inl ⟨by rfl, ?ha8⟩) HS ?ra8
    case ha8 => intro w' hSw; (try dsimp only at hSw); go_simp; try with_reducible rfl
    (try simp only [Act.put]); (try simp only [List.setIfInBounds_toArray]); (try simp only [List.set_cons_succ]); (try simp only [List.set_cons_zero])
    refine anyD_take (i := 12) (v := ?va9) [] rfl (by kernel_rfl) (by kernel_rfl) (by kernel_rfl) (by kernel_rfl) (by kernel_rfl) (by kernel_rfl) (fun _ _ _ h => h) (Or.inl ⟨by rfl, ?ha9⟩) HS ?ra9
    case ha9 => intro w' hSw; (try dsimp only at hSw); go_simp; try with_reducible rfl
    (try simp only [Act.put]); (try simp only [List.setIfInBounds_toArray]); (try simp only [List.set_cons_succ]); (try simp only [List.set_cons_zero])
    refine anyD_take (i := 13) (v := ?va10) [] rfl (by kernel_rfl) (by kernel_rfl) (by kernel_rfl) (by kernel_rfl) (by kernel_rfl) (by kernel_rfl) (fun _ _ _ h => h) (Or.inl ⟨by rfl, ?ha10⟩) HS ?ra10
    case ha10 => intro w' hSw; (try dsimp only at hSw); go_simp; try with_reducible rfl
    (try simp only [Act.put]); (try simp only [List.setIfInBounds_toArray]); (try simp only [List.set_cons_succ]); (try simp only [List.set_cons_zero])
    refine anyD_ready (rs := [2]) (by kernel_rfl) (by simp) (AllD.cons rfl (fun K hK => ?_) AllD.nil)
    go_simp
    go_at_call 24
    refine (bit_any p.session 1 _).mono ?_
    rintro e' za11 ⟨rfl, hb⟩
    subst hb
    go_simp
    refine hK.out _ _ (fun _ => HS) ?_
    clear hK K
    (try simp only [Act.put]); (try simp only [List.setIfInBounds_toArray]); (try simp only [List.set_cons_succ]); (try simp only [List.set_cons_zero])
    refine anyD_take (i := 3) (v := ?va12) [] rfl (by kernel_rfl) (by kernel_rfl) (by kernel_rfl) (by kernel_rfl) (by kernel_rfl) (by kernel_rfl) (fun _ _ _ h => h) (Or.inl ⟨by rfl, ?ha12⟩) HS ?ra12
    case ha12 => intro w' hSw; (try dsimp only at hSw); go_simp; try with_reducible rfl
    (try simp only [Act.put]); (try simp only [List.setIfInBounds_toArray]); (try simp only [List.set_cons_succ]); (try simp only [List.set_cons_zero])
    refine anyD_ready (rs := [7, 14]) (by kernel_rfl) (by simp) (AllD.cons rfl (fun K hK => ?ma13) (AllD.cons rfl (fun K hK => ?ma14) AllD.nil))
    case ma13 =>
      have Ja15 := Lib.hid (J0.out.alloc (.cells #[.int .u8 (b0.toNat : Int), .int .u8 (b1.toNat : Int)] 5)); have Ba15 := Lib.hid (Below.refl (WX.alloc (.cells #[.int .u8 (b0.toNat : Int), .int .u8 (b1.toNat : Int)] 5)).heap.size (WX.alloc (.cells #[.int .u8 (b0.toNat : Int), .int .u8 (b1.toNat : Int)] 5))); have Ca15 := Lib.hid (fun (z : World) hb => conv_two8 (W := WX) (z := z) b0 b1 hb); clear HS
      have HS := And.intro ((Ja15.out.cell 0 rfl 20).trans (pkC_20 _ _)) (And.intro ((Ja15.out.cell 0 rfl 21).trans (pkC_21 _ _)) (And.intro ((Ja15.out.cell 0 rfl 0).trans (pkC_0 _ _)) ((Ja15.out.cell 0 rfl 24).trans (pkC_24 _ _))))
      go_simp
      refine hK.out _ _ (fun _ => HS) ?_
      clear hK K
      (try simp only [Act.put]); (try simp only [List.setIfInBounds_toArray]); (try simp only [List.set_cons_succ]); (try simp only [List.set_cons_zero])
      refine anyD_ready (rs := [8, 14]) (by kernel_rfl) (by simp) (AllD.cons rfl (fun K hK => ?ma16) (AllD.cons rfl (fun K hK => ?ma17) AllD.nil))
      case ma16 =>
        have hcv := Ca15.out _ Ba15.out
        go_simp
        refine hK.out _ _ (fun _ => HS) ?_
        clear hK K hcv
        (try simp only [Act.put]); (try simp only [List.setIfInBounds_toArray]); (try simp only [List.set_cons_succ]); (try simp only [List.set_cons_zero])
        refine anyD_ready (rs := [14]) (by kernel_rfl) (by simp) (AllD.cons rfl (fun K hK => ?_) AllD.nil)
        go_simp
        go_at_call 25
        refine (TT.out _ (Ja15.out.into 0 rfl).props (Ja15.out.into 0 rfl).caps.2.2.2).mono ?_
        rintro e' za18 ⟨rfl, hb⟩
        have Ja18 := Lib.hid (Ja15.out.below hb)
        clear hb HS
        have HS := And.intro ((Ja18.out.cell 0 rfl 20).trans (pkC_20 _ _)) (And.intro ((Ja18.out.cell 0 rfl 21).trans (pkC_21 _ _)) (And.intro ((Ja18.out.cell 0 rfl 0).trans (pkC_0 _ _)) ((Ja18.out.cell 0 rfl 24).trans (pkC_24 _ _))))
        go_simp
        refine hK.out _ _ (fun _ => HS) ?_
        clear hK K
        (try simp only [Act.put]); (try simp only [List.setIfInBounds_toArray]); (try simp only [List.set_cons_succ]); (try simp only [List.set_cons_zero])
        refine anyD_take (i := 15) (v := ?va19) [] rfl (by kernel_rfl) (by kernel_rfl) (by kernel_rfl) (by kernel_rfl) (by kernel_rfl) (by kernel_rfl) (fun _ _ _ h => h) (Or.inl ⟨by rfl, ?ha19⟩) HS ?ra19
        case ha19 => intro w' hSw; (try dsimp only at hSw); go_simp; try with_reducible rfl
        (try simp only [Act.put]); (try simp only [List.setIfInBounds_toArray]); (try simp only [List.set_cons_succ]); (try simp only [List.set_cons_zero])
        refine anyD_ready (rs := [16]) (by kernel_rfl) (by simp) (AllD.cons rfl (fun K hK => ?_) AllD.nil)
        go_simp
        refine hK.out _ _ (fun _ => HS) ?_
        clear hK K
        (try simp only [Act.put]); (try simp only [List.setIfInBounds_toArray]); (try simp only [List.set_cons_succ]); (try simp only [List.set_cons_zero])
        refine anyD_ready (rs := [17]) (by kernel_rfl) (by simp) (AllD.cons rfl (fun K hK => ?_) AllD.nil)
        go_simp
        refine hK.out _ _ (fun _ => HS) ?_
        clear hK K
        (try simp only [Act.put]); (try simp only [List.setIfInBounds_toArray]); (try simp only [List.set_cons_succ]); (try simp only [List.set_cons_zero])
        refine anyD_done (by kernel_rfl) ?_ _
        go_wp2
        go_meet
        case rel => exact ⟨rfl, rfl, Ja18.out⟩
      case ma17 =>
        go_simp
        go_at_call 25
        refine (TT.out _ (Ja15.out.into 0 rfl).props (Ja15.out.into 0 rfl).caps.2.2.2).mono ?_
        rintro e' za20 ⟨rfl, hb⟩
        have Ja20 := Lib.hid (Ja15.out.below hb)
        have Ba20 := Lib.hid (Ba15.out.trans (hb.mono Ba15.out.size))
        clear hb HS
        have HS := And.intro ((Ja20.out.cell 0 rfl 20).trans (pkC_20 _ _)) (And.intro ((Ja20.out.cell 0 rfl 21).trans (pkC_21 _ _)) (And.intro ((Ja20.out.cell 0 rfl 0).trans (pkC_0 _ _)) ((Ja20.out.cell 0 rfl 24).trans (pkC_24 _ _))))
        go_simp
        refine hK.out _ _ (fun _ => HS) ?_
        clear hK K
        (try simp only [Act.put]); (try simp only [List.setIfInBounds_toArray]); (try simp only [List.set_cons_succ]); (try simp only [List.set_cons_zero])
        refine anyD_ready (rs := [8]) (by kernel_rfl) (by simp) (AllD.cons rfl (fun K hK => ?_) AllD.nil)
        have hcv := Ca15.out _ Ba20.out
        go_simp
        refine hK.out _ _ (fun _ => HS) ?_
        clear hK K hcv
        (try simp only [Act.put]); (try simp only [List.setIfInBounds_toArray]); (try simp only [List.set_cons_succ]); (try simp only [List.set_cons_zero])
        refine anyD_take (i := 15) (v := ?va21) [] rfl (by kernel_rfl) (by kernel_rfl) (by kernel_rfl) (by kernel_rfl) (by kernel_rfl) (by kernel_rfl) (fun _ _ _ h => h) (Or.inl ⟨by rfl, ?ha21⟩) HS ?ra21
        case ha21 => intro w' hSw; (try dsimp only at hSw); go_simp; try with_reducible rfl
        (try simp only [Act.put]); (try simp only [List.setIfInBounds_toArray]); (try simp only [List.set_cons_succ]); (try simp only [List.set_cons_zero])
        refine anyD_ready (rs := [16]) (by kernel_rfl) (by simp) (AllD.cons rfl (fun K hK => ?_) AllD.nil)
        go_simp
        refine hK.out _ _ (fun _ => HS) ?_
        clear hK K
        (try simp only [Act.put]); (try simp only [List.setIfInBounds_toArray]); (try simp only [List.set_cons_succ]); (try simp only [List.set_cons_zero])
        refine anyD_ready (rs := [17]) (by kernel_rfl) (by simp) (AllD.cons rfl (fun K hK => ?_) AllD.nil)
        go_simp
        refine hK.out _ _ (fun _ => HS) ?_
        clear hK K
        (try simp only [Act.put]); (try simp only [List.setIfInBounds_toArray]); (try simp only [List.set_cons_succ]); (try simp only [List.set_cons_zero])
        refine anyD_done (by kernel_rfl) ?_ _
        go_wp2
        go_meet
        case rel => exact ⟨rfl, rfl, Ja20.out⟩
    case ma14 =>
      go_simp
      go_at_call 25
      refine (TT.out _ (J0.out.into 0 rfl).props (J0.out.into 0 rfl).caps.2.2.2).mono ?_
      rintro e' za22 ⟨rfl, hb⟩
      have Ja22 := Lib.hid (J0.out.below hb)
      clear hb HS
      have HS := And.intro ((Ja22.out.cell 0 rfl 20).trans (pkC_20 _ _)) (And.intro ((Ja22.out.cell 0 rfl 21).trans (pkC_21 _ _)) (And.intro ((Ja22.out.cell 0 rfl 0).trans (pkC_0 _ _)) ((Ja22.out.cell 0 rfl 24).trans (pkC_24 _ _))))
      go_simp
      refine hK.out _ _ (fun _ => HS) ?_
      clear hK K
      (try simp only [Act.put]); (try simp only [List.setIfInBounds_toArray]); (try simp only [List.set_cons_succ]); (try simp only [List.set_cons_zero])
      refine anyD_ready (rs := [7]) (by kernel_rfl) (by simp) (AllD.cons rfl (fun K hK => ?_) AllD.nil)
      have Ja23 := Lib.hid (Ja22.out.alloc (.cells #[.int .u8 (b0.toNat : Int), .int .u8 (b1.toNat : Int)] 5)); have Ba23 := Lib.hid (Below.refl (za22.alloc (.cells #[.int .u8 (b0.toNat : Int), .int .u8 (b1.toNat : Int)] 5)).heap.size (za22.alloc (.cells #[.int .u8 (b0.toNat : Int), .int .u8 (b1.toNat : Int)] 5))); have Ca23 := Lib.hid (fun (z : World) hb => conv_two8 (W := za22) (z := z) b0 b1 hb); clear HS
      have HS := And.intro ((Ja23.out.cell 0 rfl 20).trans (pkC_20 _ _)) (And.intro ((Ja23.out.cell 0 rfl 21).trans (pkC_21 _ _)) (And.intro ((Ja23.out.cell 0 rfl 0).trans (pkC_0 _ _)) ((Ja23.out.cell 0 rfl 24).trans (pkC_24 _ _))))
      go_simp
      refine hK.out _ _ (fun _ => HS) ?_
      clear hK K
      (try simp only [Act.put]); (try simp only [List.setIfInBounds_toArray]); (try simp only [List.set_cons_succ]); (try simp only [List.set_cons_zero])
      refine anyD_ready (rs := [8]) (by kernel_rfl) (by simp) (AllD.cons rfl (fun K hK => ?_) AllD.nil)
      have hcv := Ca23.out _ Ba23.out
      go_simp
      refine hK.out _ _ (fun _ => HS) ?_
      clear hK K hcv
      (try simp only [Act.put]); (try simp only [List.setIfInBounds_toArray]); (try simp only [List.set_cons_succ]); (try simp only [List.set_cons_zero])
      refine anyD_take (i := 15) (v := ?va24) [] rfl (by kernel_rfl) (by kernel_rfl) (by kernel_rfl) (by kernel_rfl) (by kernel_rfl) (by kernel_rfl) (fun _ _ _ h => h) (Or.inl ⟨by rfl, ?ha24⟩) HS ?ra24
      case ha24 => intro w' hSw; (try dsimp only at hSw); go_simp; try with_reducible rfl
      (try simp only [Act.put]); (try simp only [List.setIfInBounds_toArray]); (try simp only [List.set_cons_succ]); (try simp only [List.set_cons_zero])
      refine anyD_ready (rs := [16]) (by kernel_rfl) (by simp) (AllD.cons rfl (fun K hK => ?_) AllD.nil)
      go_simp
      refine hK.out _ _ (fun _ => HS) ?_
      clear hK K
      (try simp only [Act.put]); (try simp only [List.setIfInBounds_toArray]); (try simp only [List.set_cons_succ]); (try simp only [List.set_cons_zero])
      refine anyD_ready (rs := [17]) (by kernel_rfl) (by simp) (AllD.cons rfl (fun K hK => ?_) AllD.nil)
      go_simp
      refine hK.out _ _ (fun _ => HS) ?_
      clear hK K
      (try simp only [Act.put]); (try simp only [List.setIfInBounds_toArray]); (try simp only [List.set_cons_succ]); (try simp only [List.set_cons_zero])
      refine anyD_done (by kernel_rfl) ?_ _
      go_wp2
      go_meet
      case rel => exact ⟨rfl, rfl, Ja23.out⟩
  obtain ⟨rfl, rfl, hst⟩ := hcut
  go_wp2
  go_ret2
  refine ⟨?_, hst.kept⟩
  rw [HX.out, HQ2.out]
  rfl
end Go.Proofs.YtngnaenbnmajdaaGreat

namespace Go.Proofs.YtngnaenbnmajdaaGreat
open Go.RowKit
attribute [local go_sem ↓] to_ldPk to_bxPk to_bdPk to_alPk to_stPk
attribute [local go_sem] run_bxPk run_bxPk_agg ld_fresh run_alPk run_bd0 run_bdK run_bdKI run_bdKIC run_bdKC run_bdKICP run_stPk_fresh pkC_0 pkC_1 pkC_2 pkC_3 pkC_4 pkC_5 pkC_6 pkC_7 pkC_8 pkC_9 pkC_10 pkC_11 pkC_12 pkC_13 pkC_14 pkC_15 pkC_16 pkC_17 pkC_18 pkC_19 pkC_20 pkC_21 pkC_22 pkC_23 pkC_24

theorem two_byte (n : Int) (h : 0 ≤ n ∧ n < 256) : ∃ b : UInt8, Hid (putL n.toNat 1 = [b]) ∧ IntKind.u8.wrap n = (b.toNat : Int) := by
  refine ⟨UInt8.ofNat n.toNat, Lib.hid (by simp [putL]), ?_⟩
  rw [IntKind.wrap_u8]
  simp [UInt8.toNat_ofNat']
  omega
theorem cat_two (a b : ByteArray) : catL [a, b] = a ++ b := by refine ls_ext ?_; simp [catL, ls]
theorem mqtt_data : dataB ⟨#[77, 81, 84, 84]⟩ = cntName := by decide +kernel
set_option maxHeartbeats 8000000 in
set_option maxRecDepth 10000 in
theorem ref8Body1_any (v : Int) (p : Pk) (h : Hs) (w : World) (ip : PkIn w w.heap.size p h) (ok : PkOk p) (h2 : p.kind ≠ 2) :
    Calls Tryz.prog 8 #[.int .i64 v, pkV p h] w fun e w' => e = .returned (.tuple #[.string (if cntE v p = 0 then (cntS v p, (0 : Int)) else (⟨#[]⟩, cntE v p)).1, .int .i64 (if cntE v p = 0 then (cntS v p, (0 : Int)) else (⟨#[]⟩, cntE v p)).2]) ∧ Below w.heap.size w w' := by
  have OK := Lib.hid ok
  have S0 := Lib.hid ((St.start w).push ip)
  obtain ⟨B, hB⟩ : ∃ B, (if cntE v p = 0 then (cntS v p, (0 : Int)) else (⟨#[]⟩, cntE v p)) = B := ⟨_, rfl⟩
  rw [hB]
  have HE := Lib.hid hB.symm
  have l0 := S0.out.ld 0 rfl
  have H2 := Lib.hid h2
  clear ip ok h2 hB
  go_enter Tryz.func8, Tryz.ntmps8
  go_wp2_with fail
  refine (refCntValid_any v p h _ (S0.out.into 0 rfl) OK.out).mono ?_
  rintro e w1 ⟨rfl, hb⟩
  have S1 := Lib.hid (S0.out.below hb); clear hb l0
  by_cases he : cntE v p = 0
  rotate_left
  · have e0 : (cntE v p != 0) = true := bne_iff_ne.2 he
    have HX : Hid (B = (⟨#[]⟩, cntE v p)) := Lib.hid (by rw [HE.out, if_neg he])
    clear he
    go_wp2
    go_ret2
    exact ⟨by rw [HX.out]; rfl, S1.out.kept⟩
  have HX : Hid (B = (cntS v p, 0)) := Lib.hid (by rw [HE.out, if_pos he])
  have HG := Lib.hid (cntE_one he H2.out)
  have HP := Lib.hid (cntE_parts he)
  rw [he]
  obtain ⟨b0, hb0, hw0⟩ := two_byte v (by have := HG.out.2.1; omega)
  obtain ⟨FQ, hFQ⟩ : ∃ FQ, flQ p = FQ := ⟨_, rfl⟩
  have HFQ : Hid (flN p = FQ) := Lib.hid (by rw [← hFQ]; exact (if_pos HG.out.1).symm)
  have FF : Hid (∀ x : World, Calls Tryz.prog 15 #[pkV p h] x fun e w' => e = .returned (.int .i64 FQ) ∧ Below x.heap.size x w') := Lib.hid (fun x => by rw [← hFQ]; exact refFlags8_any p h x)
  clear hFQ
  obtain ⟨b1, hb1, hw1⟩ := two_byte FQ (by rw [← HFQ.out]; exact flN_range p)
  obtain ⟨an, han, hw3⟩ : ∃ m : Nat, Hid (p.alive.toNat = m) ∧ IntKind.u64.wrap p.alive = (m : Int) := ⟨_, Lib.hid rfl, by rw [IntKind.wrap_u64]; have := HG.out.2.2; omega⟩
  have HAN : Hid (an < 65536) := Lib.hid (by have := han.out; have := HG.out.2.2; omega)
  have HTS := Lib.hid (tail8_size v p.kind p.props)
  have HCS := Lib.hid (dataB_size p.client)
  have HQ1 : Hid (cntS1 v p = catL [cntName, ⟨(putL v.toNat 1).toArray⟩, ⟨(putL (flN p).toNat 1).toArray⟩, ⟨(putL p.alive.toNat 2).toArray⟩, tail8 v p.kind p.props, dataB p.client]) := Lib.hid rfl
  rw [HFQ.out, han.out, hb0.out, hb1.out] at HQ1
  have TT := Lib.hid (fun (x : World) hr hc => refTail_any v p.kind p.props _ rfl OK.out.props h.props.a h.props.c x hr OK.out.len.2.2.2 hc)
  simp only [tail_eq] at TT
  have N1 := Lib.hid (fun x : World => text8_any ⟨#[77, 81, 84, 84]⟩ x (by decide))
  rw [mqtt_data] at N1
  have P3 := Lib.hid (fun x : World => refPut_any an 2 x (by have := HAN.out; omega) (by omega) (by omega))
  have D4 := Lib.hid (fun x : World => text8_any p.client x (valid_size HP.out.2.1.1))
  rw [show ((2 : Nat) : Int) = 2 from rfl] at P3
  obtain ⟨T, hT⟩ : ∃ T, tail8 v p.kind p.props = T := ⟨_, rfl⟩
  obtain ⟨M, hM⟩ : ∃ X, cntName = X := ⟨_, rfl⟩
  obtain ⟨X3, hX3⟩ : ∃ X : ByteArray, (⟨(putL an 2).toArray⟩ : ByteArray) = X := ⟨_, rfl⟩
  obtain ⟨D1, hD1⟩ : ∃ X : ByteArray, dataB p.client = X := ⟨_, rfl⟩
  rw [hT, hM, hX3, hD1] at HQ1
  rw [hT] at TT HTS
  rw [hM] at N1
  rw [hX3] at P3
  rw [hD1] at D4 HCS
  have HX3S : X3.size = 2 := by rw [← hX3, mk_size, putL_len]
  have HMS : M.size = 6 := by rw [← hM]; rfl
  have HL := Lib.hid HMS; have HL3 := Lib.hid HX3S
  have HQ2 : Hid (cntS1 v p = M ++ ⟨#[b0, b1]⟩ ++ X3 ++ T ++ D1) := Lib.hid (by
    rw [HQ1.out]
    refine ls_ext ?_
    simp [catL, ls])
  have HZ1 : Hid ((cntS1 v p).size ≤ 131140700) := Lib.hid (by
    rw [HQ2.out]
    simp only [ByteArray.size_append]
    have := HTS.out; have := HCS.out
    show M.size + 2 + X3.size + T.size + D1.size ≤ _
    omega)
  have hs2 : (⟨#[b0, b1]⟩ : ByteArray).size = 2 := rfl
  have hsA : ¬ (9223372036854775807 < 10 + T.size) := by have := HTS.out; omega
  have hsB : ¬ (9223372036854775807 < 10 + T.size + D1.size) := by have := HTS.out; have := HCS.out; omega
  have k0 := (S1.out.cell 0 rfl 0).trans (pkC_0 _ _)
  have e2 : (p.kind == 2) = false := beq_eq_false_iff_ne.2 H2.out
  have HOK : Hid (p.user.size ≤ 65535 ∧ p.pass.size ≤ 65535 ∧ p.will.payload.size ≤ 65535 ∧ (p.hasWill = true → p.will.topic.size ≤ 65535)) := Lib.hid ⟨valid_size HP.out.2.1.2, HP.out.2.2.2.1.2, HP.out.2.2.2.1.1, fun y => valid_size (nameB_valid (HP.out.2.2.1 y))⟩
  clear he hT hM hX3 hD1 HP
  go_wp2_with fail
  clear k0
  go_cut [7] (fun a wx => a = .string (M ++ ⟨#[b0, b1]⟩ ++ X3 ++ T ++ D1) ∧ St w [(w.heap.size, p, h)] wx)
  case first =>
    have J0 := Lib.hid S1.out.drew
    obtain ⟨WX, hWX⟩ : ∃ W, w1.drew = W := ⟨_, rfl⟩
    have HS := And.intro (J0.out.ld 0 rfl) (And.intro ((J0.out.cell 0 rfl 0).trans (pkC_0 _ _)) (And.intro ((J0.out.cell 0 rfl 8).trans (pkC_8 _ _)) (And.intro ((J0.out.cell 0 rfl 9).trans (pkC_9 _ _)) ((J0.out.cell 0 rfl 24).trans (pkC_24 _ _)))))
    refine wp_region_D (fun w' => (ldPk (.pointer (some ⟨w.heap.size, 0, none⟩))).run Tryz.prog w' = .ok (pkV p h) w' ∧ w'.cell? ⟨w.heap.size, 0, none⟩ = some (.int .i64 p.kind) ∧ w'.cell? ⟨w.heap.size, 8, none⟩ = some (.int .i64 p.alive) ∧ w'.cell? ⟨w.heap.size, 9, none⟩ = some (.string p.client) ∧ w'.cell? ⟨w.heap.size, 24, none⟩ = some (.slice h.props.a p.props.length h.props.c)) [] (by kernel_rfl) ?_
    rw [hWX] at J0 HS ⊢
    clear hWX
    refine anyD_take (i := 1) (v := ?vb1) [] rfl (by kernel_rfl) (by kernel_rfl) (by kernel_rfl) (by kernel_rfl) (by kernel_rfl) (by kernel_rfl) (fun _ _ _ h => h) (Or.inl ⟨by rfl, ?hb1⟩) HS ?rb1
    case hb1 => intro w' hSw; (try dsimp only at hSw); go_simp; try with_reducible rfl
    (try simp only [Act.put]); (try simp only [List.setIfInBounds_toArray]); (try simp only [List.set_cons_succ]); (try simp only [List.set_cons_zero])
    refine anyD_take (i := 2) (v := ?vb2) [] rfl (by kernel_rfl) (by kernel_rfl) (by kernel_rfl) (by kernel_rfl) (by kernel_rfl) (by kernel_rfl) (fun _ _ _ h => h) (Or.inl ⟨by rfl, ?hb2⟩) HS ?rb2
    case hb2 => intro w' hSw; (try dsimp only at hSw); go_simp; try with_reducible rfl
    (try simp only [Act.put]); (try simp only [List.setIfInBounds_toArray]); (try simp only [List.set_cons_succ]); (try simp only [List.set_cons_zero])
    refine anyD_take (i := 3) (v := ?vb3) [] rfl (by kernel_rfl) (by kernel_rfl) (by kernel_rfl) (by kernel_rfl) (by kernel_rfl) (by kernel_rfl) (fun _ _ _ h => h) (Or.inl ⟨by rfl, ?hb3⟩) HS ?rb3
    case hb3 => intro w' hSw; (try dsimp only at hSw); go_simp; try with_reducible rfl
    (try simp only [Act.put]); (try simp only [List.setIfInBounds_toArray]); (try simp only [List.set_cons_succ]); (try simp only [List.set_cons_zero])
    refine anyD_take (i := 9) (v := ?vb4) [] rfl (by kernel_rfl) (by kernel_rfl) (by kernel_rfl) (by kernel_rfl) (by kernel_rfl) (by kernel_rfl) (fun _ _ _ h => h) (Or.inl ⟨by rfl, ?hb4⟩) HS ?rb4
    case hb4 => intro w' hSw; (try dsimp only at hSw); go_simp; try with_reducible rfl
    (try simp only [Act.put]); (try simp only [List.setIfInBounds_toArray]); (try simp only [List.set_cons_succ]); (try simp only [List.set_cons_zero])
    refine anyD_take (i := 10) (v := ?vb5) [] rfl (by kernel_rfl) (by kernel_rfl) (by kernel_rfl) (by kernel_rfl) (by kernel_rfl) (by kernel_rfl) (fun _ _ _ h => h) (Or.inl ⟨by rfl, ?hb5⟩) HS ?rb5
    case hb5 => intro w' hSw; (try dsimp only at hSw); go_simp; try with_reducible rfl
    (try simp only [Act.put]); (try simp only [List.setIfInBounds_toArray]); (try simp only [List.set_cons_succ]); (try simp only [List.set_cons_zero])
    refine anyD_take (i := 11) (v := ?vb6) [] rfl (by kernel_rfl) (by kernel_rfl) (by kernel_rfl) (by kernel_rfl) (by kernel_rfl) (by kernel_rfl) (fun _ _ _ h => h) (Or.inl ⟨by rfl, ?hb6⟩) HS ?rb6
    case hb6 => intro w' hSw; (try dsimp only at hSw); go_simp; try with_reducible rfl
    (try simp only [Act.put]); (try simp only [List.setIfInBounds_toArray]); (try simp only [List.set_cons_succ]); (try simp only [List.set_cons_zero])
    refine anyD_take (i := 14) (v := ?vb7) [] rfl (by kernel_rfl) (by kernel_rfl) (by kernel_rfl) (by kernel_rfl) (by kernel_rfl) (by kernel_rfl) (fun _ _ _ h => h) (Or.inl ⟨by rfl, ?hb7⟩) HS ?rb7
    case hb7 => intro w' hSw; (try dsimp only at hSw); go_simp; try with_reducible rfl
    (try simp only [Act.put]); (try simp only [List.setIfInBounds_toArray]); (try simp only [List.set_cons_succ]); (try simp only [List.set_cons_zero])
    refine anyD_take (i := 15) (v := ?vb8) [] rfl (by kernel_rfl) (by kernel_rfl) (by kernel_rfl) (by kernel_rfl) (by kernel_rfl) (by kernel_rfl) (fun _ _ _ h => h) (Or.inl ⟨by rfl, ?hb8⟩) HS ?rb8
    case hb8 => intro w' hSw; (try dsimp only at hSw); go_simp; try with_reducible rfl
    (try simp only [Act.put]); (try simp only [List.setIfInBounds_toArray]); (try simp only [List.set_cons_succ]); (try simp only [List.set_cons_zero])
    refine anyD_take (i := 16) (v := ?vb9) [] rfl (by kernel_rfl) (by kernel_rfl) (by kernel_rfl) (by kernel_rfl) (by kernel_rfl) (by kernel_rfl) (fun _ _ _ h => h) (Or.inl ⟨by rfl, ?hb9⟩) HS ?rb9
    case hb9 => intro w' hSw; (try dsimp only at hSw); go_simp; try with_reducible rfl
    (try simp only [Act.put]); (try simp only [List.setIfInBounds_toArray]); (try simp only [List.set_cons_succ]); (try simp only [List.set_cons_zero])
    refine anyD_take (i := 17) (v := ?vb10) [] rfl (by kernel_rfl) (by kernel_rfl) (by kernel_rfl) (by kernel_rfl) (by kernel_rfl) (by kernel_rfl) (fun _ _ _ h => h) (Or.inl ⟨by rfl, ?hb10⟩) HS ?rb10
    case hb10 => intro w' hSw; (try dsimp only at hSw); go_simp; try with_reducible rfl
    (try simp only [Act.put]); (try simp only [List.setIfInBounds_toArray]); (try simp only [List.set_cons_succ]); (try simp only [List.set_cons_zero])
    refine anyD_take (i := 18) (v := ?vb11) [] rfl (by kernel_rfl) (by kernel_rfl) (by kernel_rfl) (by kernel_rfl) (by kernel_rfl) (by kernel_rfl) (fun _ _ _ h => h) (Or.inl ⟨by rfl, ?hb11⟩) HS ?rb11
    case hb11 => intro w' hSw; (try dsimp only at hSw); go_simp; try with_reducible rfl
    (try simp only [Act.put]); (try simp only [List.setIfInBounds_toArray]); (try simp only [List.set_cons_succ]); (try simp only [List.set_cons_zero])
    refine anyD_take (i := 21) (v := ?vb12) [] rfl (by kernel_rfl) (by kernel_rfl) (by kernel_rfl) (by kernel_rfl) (by kernel_rfl) (by kernel_rfl) (fun _ _ _ h => h) (Or.inl ⟨by rfl, ?hb12⟩) HS ?rb12
    case hb12 => intro w' hSw; (try dsimp only at hSw); go_simp; try with_reducible rfl
    (try simp only [Act.put]); (try simp only [List.setIfInBounds_toArray]); (try simp only [List.set_cons_succ]); (try simp only [List.set_cons_zero])
    refine anyD_take (i := 22) (v := ?vb13) [] rfl (by kernel_rfl) (by kernel_rfl) (by kernel_rfl) (by kernel_rfl) (by kernel_rfl) (by kernel_rfl) (fun _ _ _ h => h) (Or.inl ⟨by rfl, ?hb13⟩) HS ?rb13
    case hb13 => intro w' hSw; (try dsimp only at hSw); go_simp; try with_reducible rfl
    (try simp only [Act.put]); (try simp only [List.setIfInBounds_toArray]); (try simp only [List.set_cons_succ]); (try simp only [List.set_cons_zero])
    refine anyD_ready (rs := [0]) (by kernel_rfl) (by simp) (AllD.cons rfl (fun K hK => ?_) AllD.nil)
    go_simp
    go_at_call 26
    refine (N1.out _).mono ?_
    rintro e' zb14 ⟨rfl, hb⟩
    have Jb14 := Lib.hid (J0.out.below hb)
    clear hb HS
    have HS := And.intro (Jb14.out.ld 0 rfl) (And.intro ((Jb14.out.cell 0 rfl 0).trans (pkC_0 _ _)) (And.intro ((Jb14.out.cell 0 rfl 8).trans (pkC_8 _ _)) (And.intro ((Jb14.out.cell 0 rfl 9).trans (pkC_9 _ _)) ((Jb14.out.cell 0 rfl 24).trans (pkC_24 _ _)))))
    go_simp
    refine hK.out _ _ (fun _ => HS) ?_
    clear hK K
    (try simp only [Act.put]); (try simp only [List.setIfInBounds_toArray]); (try simp only [List.set_cons_succ]); (try simp only [List.set_cons_zero])
    refine anyD_ready (rs := [4]) (by kernel_rfl) (by simp) (AllD.cons rfl (fun K hK => ?_) AllD.nil)
    go_simp
    go_at_call 15
    refine (FF.out _).mono ?_
    rintro e' zb15 ⟨rfl, hb⟩
    have Jb15 := Lib.hid (Jb14.out.below hb)
    clear hb HS
    have HS := And.intro (Jb15.out.ld 0 rfl) (And.intro ((Jb15.out.cell 0 rfl 0).trans (pkC_0 _ _)) (And.intro ((Jb15.out.cell 0 rfl 8).trans (pkC_8 _ _)) (And.intro ((Jb15.out.cell 0 rfl 9).trans (pkC_9 _ _)) ((Jb15.out.cell 0 rfl 24).trans (pkC_24 _ _)))))
    go_simp
    refine hK.out _ _ (fun _ => HS) ?_
    clear hK K
    (try simp only [Act.put]); (try simp only [List.setIfInBounds_toArray]); (try simp only [List.set_cons_succ]); (try simp only [List.set_cons_zero])
    refine anyD_take (i := 5) (v := ?vb16) [] rfl (by kernel_rfl) (by kernel_rfl) (by kernel_rfl) (by kernel_rfl) (by kernel_rfl) (by kernel_rfl) (fun _ _ _ h => h) (Or.inl ⟨by rfl, ?hb16⟩) HS ?rb16
    case hb16 => intro w' hSw; (try dsimp only at hSw); go_simp; try with_reducible rfl
    (try simp only [Act.put]); (try simp only [List.setIfInBounds_toArray]); (try simp only [List.set_cons_succ]); (try simp only [List.set_cons_zero])
    refine anyD_ready (rs := [6, 12]) (by kernel_rfl) (by simp) (AllD.cons rfl (fun K hK => ?mb17) (AllD.cons rfl (fun K hK => ?mb18) AllD.nil))
    case mb17 =>
      have Jb19 := Lib.hid (Jb15.out.alloc (.cells #[.int .u8 (b0.toNat : Int), .int .u8 (b1.toNat : Int)] 5)); have Bb19 := Lib.hid (Below.refl (zb15.alloc (.cells #[.int .u8 (b0.toNat : Int), .int .u8 (b1.toNat : Int)] 5)).heap.size (zb15.alloc (.cells #[.int .u8 (b0.toNat : Int), .int .u8 (b1.toNat : Int)] 5))); have Cb19 := Lib.hid (fun (z : World) hb => conv_two8 (W := zb15) (z := z) b0 b1 hb); clear HS
      have HS := And.intro (Jb19.out.ld 0 rfl) (And.intro ((Jb19.out.cell 0 rfl 0).trans (pkC_0 _ _)) (And.intro ((Jb19.out.cell 0 rfl 8).trans (pkC_8 _ _)) (And.intro ((Jb19.out.cell 0 rfl 9).trans (pkC_9 _ _)) ((Jb19.out.cell 0 rfl 24).trans (pkC_24 _ _)))))
      go_simp
      refine hK.out _ _ (fun _ => HS) ?_
      clear hK K
      (try simp only [Act.put]); (try simp only [List.setIfInBounds_toArray]); (try simp only [List.set_cons_succ]); (try simp only [List.set_cons_zero])
      refine anyD_ready (rs := [7, 12]) (by kernel_rfl) (by simp) (AllD.cons rfl (fun K hK => ?mb20) (AllD.cons rfl (fun K hK => ?mb21) AllD.nil))
      case mb20 =>
        have hcv := Cb19.out _ Bb19.out
        go_simp
        refine hK.out _ _ (fun _ => HS) ?_
        clear hK K hcv
        (try simp only [Act.put]); (try simp only [List.setIfInBounds_toArray]); (try simp only [List.set_cons_succ]); (try simp only [List.set_cons_zero])
        refine anyD_take (i := 8) (v := ?vb22) [] rfl (by kernel_rfl) (by kernel_rfl) (by kernel_rfl) (by kernel_rfl) (by kernel_rfl) (by kernel_rfl) (fun _ _ _ h => h) (Or.inl ⟨by rfl, ?hb22⟩) HS ?rb22
        case hb22 => intro w' hSw; (try dsimp only at hSw); go_simp; try with_reducible rfl
        (try simp only [Act.put]); (try simp only [List.setIfInBounds_toArray]); (try simp only [List.set_cons_succ]); (try simp only [List.set_cons_zero])
        refine anyD_ready (rs := [12]) (by kernel_rfl) (by simp) (AllD.cons rfl (fun K hK => ?_) AllD.nil)
        go_simp
        go_at_call 27
        refine (P3.out _).mono ?_
        rintro e' zb23 ⟨rfl, hb⟩
        have Jb23 := Lib.hid (Jb19.out.below hb)
        clear hb HS
        have HS := And.intro (Jb23.out.ld 0 rfl) (And.intro ((Jb23.out.cell 0 rfl 0).trans (pkC_0 _ _)) (And.intro ((Jb23.out.cell 0 rfl 8).trans (pkC_8 _ _)) (And.intro ((Jb23.out.cell 0 rfl 9).trans (pkC_9 _ _)) ((Jb23.out.cell 0 rfl 24).trans (pkC_24 _ _)))))
        go_simp
        refine hK.out _ _ (fun _ => HS) ?_
        clear hK K
        (try simp only [Act.put]); (try simp only [List.setIfInBounds_toArray]); (try simp only [List.set_cons_succ]); (try simp only [List.set_cons_zero])
        refine anyD_take (i := 13) (v := ?vb24) [] rfl (by kernel_rfl) (by kernel_rfl) (by kernel_rfl) (by kernel_rfl) (by kernel_rfl) (by kernel_rfl) (fun _ _ _ h => h) (Or.inl ⟨by rfl, ?hb24⟩) HS ?rb24
        case hb24 => intro w' hSw; (try dsimp only at hSw); go_simp; try with_reducible rfl
        (try simp only [Act.put]); (try simp only [List.setIfInBounds_toArray]); (try simp only [List.set_cons_succ]); (try simp only [List.set_cons_zero])
        refine anyD_ready (rs := [19]) (by kernel_rfl) (by simp) (AllD.cons rfl (fun K hK => ?_) AllD.nil)
        go_simp
        go_at_call 25
        refine (TT.out _ (Jb23.out.into 0 rfl).props (Jb23.out.into 0 rfl).caps.2.2.2).mono ?_
        rintro e' zb25 ⟨rfl, hb⟩
        have Jb25 := Lib.hid (Jb23.out.below hb)
        clear hb HS
        have HS := And.intro (Jb25.out.ld 0 rfl) (And.intro ((Jb25.out.cell 0 rfl 0).trans (pkC_0 _ _)) (And.intro ((Jb25.out.cell 0 rfl 8).trans (pkC_8 _ _)) (And.intro ((Jb25.out.cell 0 rfl 9).trans (pkC_9 _ _)) ((Jb25.out.cell 0 rfl 24).trans (pkC_24 _ _)))))
        go_simp
        refine hK.out _ _ (fun _ => HS) ?_
        clear hK K
        (try simp only [Act.put]); (try simp only [List.setIfInBounds_toArray]); (try simp only [List.set_cons_succ]); (try simp only [List.set_cons_zero])
        refine anyD_take (i := 20) (v := ?vb26) [] rfl (by kernel_rfl) (by kernel_rfl) (by kernel_rfl) (by kernel_rfl) (by kernel_rfl) (by kernel_rfl) (fun _ _ _ h => h) (Or.inl ⟨by rfl, ?hb26⟩) HS ?rb26
        case hb26 => intro w' hSw; (try dsimp only at hSw); go_simp; try with_reducible rfl
        (try simp only [Act.put]); (try simp only [List.setIfInBounds_toArray]); (try simp only [List.set_cons_succ]); (try simp only [List.set_cons_zero])
        refine anyD_ready (rs := [23]) (by kernel_rfl) (by simp) (AllD.cons rfl (fun K hK => ?_) AllD.nil)
        go_simp
        go_at_call 26
        refine (D4.out _).mono ?_
        rintro e' zb27 ⟨rfl, hb⟩
        have Jb27 := Lib.hid (Jb25.out.below hb)
        clear hb HS
        have HS := And.intro (Jb27.out.ld 0 rfl) (And.intro ((Jb27.out.cell 0 rfl 0).trans (pkC_0 _ _)) (And.intro ((Jb27.out.cell 0 rfl 8).trans (pkC_8 _ _)) (And.intro ((Jb27.out.cell 0 rfl 9).trans (pkC_9 _ _)) ((Jb27.out.cell 0 rfl 24).trans (pkC_24 _ _)))))
        go_simp
        refine hK.out _ _ (fun _ => HS) ?_
        clear hK K
        (try simp only [Act.put]); (try simp only [List.setIfInBounds_toArray]); (try simp only [List.set_cons_succ]); (try simp only [List.set_cons_zero])
        refine anyD_take (i := 24) (v := ?vb28) [] rfl (by kernel_rfl) (by kernel_rfl) (by kernel_rfl) (by kernel_rfl) (by kernel_rfl) (by kernel_rfl) (fun _ _ _ h => h) (Or.inl ⟨by rfl, ?hb28⟩) HS ?rb28
        case hb28 => intro w' hSw; (try dsimp only at hSw); go_simp; try with_reducible rfl
        (try simp only [Act.put]); (try simp only [List.setIfInBounds_toArray]); (try simp only [List.set_cons_succ]); (try simp only [List.set_cons_zero])
        refine anyD_ready (rs := [25]) (by kernel_rfl) (by simp) (AllD.cons rfl (fun K hK => ?_) AllD.nil)
        go_simp
        refine hK.out _ _ (fun _ => HS) ?_
        clear hK K
        (try simp only [Act.put]); (try simp only [List.setIfInBounds_toArray]); (try simp only [List.set_cons_succ]); (try simp only [List.set_cons_zero])
        refine anyD_done (by kernel_rfl) ?_ _
        go_wp2
        go_meet
        case rel => exact ⟨rfl, Jb27.out⟩
      case mb21 =>
        go_simp
        go_at_call 27
        refine (P3.out _).mono ?_
        rintro e' zb29 ⟨rfl, hb⟩
        have Jb29 := Lib.hid (Jb19.out.below hb)
        have Bb29 := Lib.hid (Bb19.out.trans (hb.mono Bb19.out.size))
        clear hb HS
        have HS := And.intro (Jb29.out.ld 0 rfl) (And.intro ((Jb29.out.cell 0 rfl 0).trans (pkC_0 _ _)) (And.intro ((Jb29.out.cell 0 rfl 8).trans (pkC_8 _ _)) (And.intro ((Jb29.out.cell 0 rfl 9).trans (pkC_9 _ _)) ((Jb29.out.cell 0 rfl 24).trans (pkC_24 _ _)))))
        go_simp
        refine hK.out _ _ (fun _ => HS) ?_
        clear hK K
        (try simp only [Act.put]); (try simp only [List.setIfInBounds_toArray]); (try simp only [List.set_cons_succ]); (try simp only [List.set_cons_zero])
        refine anyD_ready (rs := [7, 19]) (by kernel_rfl) (by simp) (AllD.cons rfl (fun K hK => ?mb30) (AllD.cons rfl (fun K hK => ?mb31) AllD.nil))
        case mb30 =>
          have hcv := Cb19.out _ Bb29.out
          go_simp
          refine hK.out _ _ (fun _ => HS) ?_
          clear hK K hcv
          (try simp only [Act.put]); (try simp only [List.setIfInBounds_toArray]); (try simp only [List.set_cons_succ]); (try simp only [List.set_cons_zero])
          refine anyD_take (i := 8) (v := ?vb32) [] rfl (by kernel_rfl) (by kernel_rfl) (by kernel_rfl) (by kernel_rfl) (by kernel_rfl) (by kernel_rfl) (fun _ _ _ h => h) (Or.inl ⟨by rfl, ?hb32⟩) HS ?rb32
          case hb32 => intro w' hSw; (try dsimp only at hSw); go_simp; try with_reducible rfl
          (try simp only [Act.put]); (try simp only [List.setIfInBounds_toArray]); (try simp only [List.set_cons_succ]); (try simp only [List.set_cons_zero])
          refine anyD_take (i := 13) (v := ?vb33) [] rfl (by kernel_rfl) (by kernel_rfl) (by kernel_rfl) (by kernel_rfl) (by kernel_rfl) (by kernel_rfl) (fun _ _ _ h => h) (Or.inl ⟨by rfl, ?hb33⟩) HS ?rb33
          case hb33 => intro w' hSw; (try dsimp only at hSw); go_simp; try with_reducible rfl
          (try simp only [Act.put]); (try simp only [List.setIfInBounds_toArray]); (try simp only [List.set_cons_succ]); (try simp only [List.set_cons_zero])
          refine anyD_ready (rs := [19]) (by kernel_rfl) (by simp) (AllD.cons rfl (fun K hK => ?_) AllD.nil)
          go_simp
          go_at_call 25
          refine (TT.out _ (Jb29.out.into 0 rfl).props (Jb29.out.into 0 rfl).caps.2.2.2).mono ?_
          rintro e' zb34 ⟨rfl, hb⟩
          have Jb34 := Lib.hid (Jb29.out.below hb)
          clear hb HS
          have HS := And.intro (Jb34.out.ld 0 rfl) (And.intro ((Jb34.out.cell 0 rfl 0).trans (pkC_0 _ _)) (And.intro ((Jb34.out.cell 0 rfl 8).trans (pkC_8 _ _)) (And.intro ((Jb34.out.cell 0 rfl 9).trans (pkC_9 _ _)) ((Jb34.out.cell 0 rfl 24).trans (pkC_24 _ _)))))
          go_simp
          refine hK.out _ _ (fun _ => HS) ?_
          clear hK K
          (try simp only [Act.put]); (try simp only [List.setIfInBounds_toArray]); (try simp only [List.set_cons_succ]); (try simp only [List.set_cons_zero])
          refine anyD_take (i := 20) (v := ?vb35) [] rfl (by kernel_rfl) (by kernel_rfl) (by kernel_rfl) (by kernel_rfl) (by kernel_rfl) (by kernel_rfl) (fun _ _ _ h => h) (Or.inl ⟨by rfl, ?hb35⟩) HS ?rb35
          case hb35 => intro w' hSw; (try dsimp only at hSw); go_simp; try with_reducible rfl
          (try simp only [Act.put]); (try simp only [List.setIfInBounds_toArray]); (try simp only [List.set_cons_succ]); (try simp only [List.set_cons_zero])
          refine anyD_ready (rs := [23]) (by kernel_rfl) (by simp) (AllD.cons rfl (fun K hK => ?_) AllD.nil)
          go_simp
          go_at_call 26
          refine (D4.out _).mono ?_
          rintro e' zb36 ⟨rfl, hb⟩
          have Jb36 := Lib.hid (Jb34.out.below hb)
          clear hb HS
          have HS := And.intro (Jb36.out.ld 0 rfl) (And.intro ((Jb36.out.cell 0 rfl 0).trans (pkC_0 _ _)) (And.intro ((Jb36.out.cell 0 rfl 8).trans (pkC_8 _ _)) (And.intro ((Jb36.out.cell 0 rfl 9).trans (pkC_9 _ _)) ((Jb36.out.cell 0 rfl 24).trans (pkC_24 _ _)))))
          go_simp
          refine hK.out _ _ (fun _ => HS) ?_
          clear hK K
          (try simp only [Act.put]); (try simp only [List.setIfInBounds_toArray]); (try simp only [List.set_cons_succ]); (try simp only [List.set_cons_zero])
          refine anyD_take (i := 24) (v := ?vb37) [] rfl (by kernel_rfl) (by kernel_rfl) (by kernel_rfl) (by kernel_rfl) (by kernel_rfl) (by kernel_rfl) (fun _ _ _ h => h) (Or.inl ⟨by rfl, ?hb37⟩) HS ?rb37
          case hb37 => intro w' hSw; (try dsimp only at hSw); go_simp; try with_reducible rfl
          (try simp only [Act.put]); (try simp only [List.setIfInBounds_toArray]); (try simp only [List.set_cons_succ]); (try simp only [List.set_cons_zero])
          refine anyD_ready (rs := [25]) (by kernel_rfl) (by simp) (AllD.cons rfl (fun K hK => ?_) AllD.nil)
          go_simp
          refine hK.out _ _ (fun _ => HS) ?_
          clear hK K
          (try simp only [Act.put]); (try simp only [List.setIfInBounds_toArray]); (try simp only [List.set_cons_succ]); (try simp only [List.set_cons_zero])
          refine anyD_done (by kernel_rfl) ?_ _
          go_wp2
          go_meet
          case rel => exact ⟨rfl, Jb36.out⟩
        case mb31 =>
          go_simp
          go_at_call 25
          refine (TT.out _ (Jb29.out.into 0 rfl).props (Jb29.out.into 0 rfl).caps.2.2.2).mono ?_
          rintro e' zb38 ⟨rfl, hb⟩
          have Jb38 := Lib.hid (Jb29.out.below hb)
          have Bb38 := Lib.hid (Bb29.out.trans (hb.mono Bb29.out.size))
          clear hb HS
          have HS := And.intro (Jb38.out.ld 0 rfl) (And.intro ((Jb38.out.cell 0 rfl 0).trans (pkC_0 _ _)) (And.intro ((Jb38.out.cell 0 rfl 8).trans (pkC_8 _ _)) (And.intro ((Jb38.out.cell 0 rfl 9).trans (pkC_9 _ _)) ((Jb38.out.cell 0 rfl 24).trans (pkC_24 _ _)))))
          go_simp
          refine hK.out _ _ (fun _ => HS) ?_
          clear hK K
          (try simp only [Act.put]); (try simp only [List.setIfInBounds_toArray]); (try simp only [List.set_cons_succ]); (try simp only [List.set_cons_zero])
          refine anyD_ready (rs := [7, 23]) (by kernel_rfl) (by simp) (AllD.cons rfl (fun K hK => ?mb39) (AllD.cons rfl (fun K hK => ?mb40) AllD.nil))
          case mb39 =>
            have hcv := Cb19.out _ Bb38.out
            go_simp
            refine hK.out _ _ (fun _ => HS) ?_
            clear hK K hcv
            (try simp only [Act.put]); (try simp only [List.setIfInBounds_toArray]); (try simp only [List.set_cons_succ]); (try simp only [List.set_cons_zero])
            refine anyD_take (i := 8) (v := ?vb41) [] rfl (by kernel_rfl) (by kernel_rfl) (by kernel_rfl) (by kernel_rfl) (by kernel_rfl) (by kernel_rfl) (fun _ _ _ h => h) (Or.inl ⟨by rfl, ?hb41⟩) HS ?rb41
            case hb41 => intro w' hSw; (try dsimp only at hSw); go_simp; try with_reducible rfl
            (try simp only [Act.put]); (try simp only [List.setIfInBounds_toArray]); (try simp only [List.set_cons_succ]); (try simp only [List.set_cons_zero])
            refine anyD_take (i := 13) (v := ?vb42) [] rfl (by kernel_rfl) (by kernel_rfl) (by kernel_rfl) (by kernel_rfl) (by kernel_rfl) (by kernel_rfl) (fun _ _ _ h => h) (Or.inl ⟨by rfl, ?hb42⟩) HS ?rb42
            case hb42 => intro w' hSw; (try dsimp only at hSw); go_simp; try with_reducible rfl
            (try simp only [Act.put]); (try simp only [List.setIfInBounds_toArray]); (try simp only [List.set_cons_succ]); (try simp only [List.set_cons_zero])
            refine anyD_take (i := 20) (v := ?vb43) [] rfl (by kernel_rfl) (by kernel_rfl) (by kernel_rfl) (by kernel_rfl) (by kernel_rfl) (by kernel_rfl) (fun _ _ _ h => h) (Or.inl ⟨by rfl, ?hb43⟩) HS ?rb43
            case hb43 => intro w' hSw; (try dsimp only at hSw); go_simp; try with_reducible rfl
            (try simp only [Act.put]); (try simp only [List.setIfInBounds_toArray]); (try simp only [List.set_cons_succ]); (try simp only [List.set_cons_zero])
            refine anyD_ready (rs := [23]) (by kernel_rfl) (by simp) (AllD.cons rfl (fun K hK => ?_) AllD.nil)
            go_simp
            go_at_call 26
            refine (D4.out _).mono ?_
            rintro e' zb44 ⟨rfl, hb⟩
            have Jb44 := Lib.hid (Jb38.out.below hb)
            clear hb HS
            have HS := And.intro (Jb44.out.ld 0 rfl) (And.intro ((Jb44.out.cell 0 rfl 0).trans (pkC_0 _ _)) (And.intro ((Jb44.out.cell 0 rfl 8).trans (pkC_8 _ _)) (And.intro ((Jb44.out.cell 0 rfl 9).trans (pkC_9 _ _)) ((Jb44.out.cell 0 rfl 24).trans (pkC_24 _ _)))))
            go_simp
            refine hK.out _ _ (fun _ => HS) ?_
            clear hK K
            (try simp only [Act.put]); (try simp only [List.setIfInBounds_toArray]); (try simp only [List.set_cons_succ]); (try simp only [List.set_cons_zero])
            refine anyD_take (i := 24) (v := ?vb45) [] rfl (by kernel_rfl) (by kernel_rfl) (by kernel_rfl) (by kernel_rfl) (by kernel_rfl) (by kernel_rfl) (fun _ _ _ h => h) (Or.inl ⟨by rfl, ?hb45⟩) HS ?rb45
            case hb45 => intro w' hSw; (try dsimp only at hSw); go_simp; try with_reducible rfl
            (try simp only [Act.put]); (try simp only [List.setIfInBounds_toArray]); (try simp only [List.set_cons_succ]); (try simp only [List.set_cons_zero])
            refine anyD_ready (rs := [25]) (by kernel_rfl) (by simp) (AllD.cons rfl (fun K hK => ?_) AllD.nil)
            go_simp
            refine hK.out _ _ (fun _ => HS) ?_
            clear hK K
            (try simp only [Act.put]); (try simp only [List.setIfInBounds_toArray]); (try simp only [List.set_cons_succ]); (try simp only [List.set_cons_zero])
            refine anyD_done (by kernel_rfl) ?_ _
            go_wp2
            go_meet
            case rel => exact ⟨rfl, Jb44.out⟩
          case mb40 =>
            go_simp
            go_at_call 26
            refine (D4.out _).mono ?_
            rintro e' zb46 ⟨rfl, hb⟩
            have Jb46 := Lib.hid (Jb38.out.below hb)
            have Bb46 := Lib.hid (Bb38.out.trans (hb.mono Bb38.out.size))
            clear hb HS
            have HS := And.intro (Jb46.out.ld 0 rfl) (And.intro ((Jb46.out.cell 0 rfl 0).trans (pkC_0 _ _)) (And.intro ((Jb46.out.cell 0 rfl 8).trans (pkC_8 _ _)) (And.intro ((Jb46.out.cell 0 rfl 9).trans (pkC_9 _ _)) ((Jb46.out.cell 0 rfl 24).trans (pkC_24 _ _)))))
            go_simp
            refine hK.out _ _ (fun _ => HS) ?_
            clear hK K
            (try simp only [Act.put]); (try simp only [List.setIfInBounds_toArray]); (try simp only [List.set_cons_succ]); (try simp only [List.set_cons_zero])
            refine anyD_ready (rs := [7]) (by kernel_rfl) (by simp) (AllD.cons rfl (fun K hK => ?_) AllD.nil)
            have hcv := Cb19.out _ Bb46.out
            go_simp
            refine hK.out _ _ (fun _ => HS) ?_
            clear hK K hcv
            (try simp only [Act.put]); (try simp only [List.setIfInBounds_toArray]); (try simp only [List.set_cons_succ]); (try simp only [List.set_cons_zero])
            refine anyD_take (i := 8) (v := ?vb47) [] rfl (by kernel_rfl) (by kernel_rfl) (by kernel_rfl) (by kernel_rfl) (by kernel_rfl) (by kernel_rfl) (fun _ _ _ h => h) (Or.inl ⟨by rfl, ?hb47⟩) HS ?rb47
            case hb47 => intro w' hSw; (try dsimp only at hSw); go_simp; try with_reducible rfl
            (try simp only [Act.put]); (try simp only [List.setIfInBounds_toArray]); (try simp only [List.set_cons_succ]); (try simp only [List.set_cons_zero])
            refine anyD_take (i := 13) (v := ?vb48) [] rfl (by kernel_rfl) (by kernel_rfl) (by kernel_rfl) (by kernel_rfl) (by kernel_rfl) (by kernel_rfl) (fun _ _ _ h => h) (Or.inl ⟨by rfl, ?hb48⟩) HS ?rb48
            case hb48 => intro w' hSw; (try dsimp only at hSw); go_simp; try with_reducible rfl
            (try simp only [Act.put]); (try simp only [List.setIfInBounds_toArray]); (try simp only [List.set_cons_succ]); (try simp only [List.set_cons_zero])
            refine anyD_take (i := 20) (v := ?vb49) [] rfl (by kernel_rfl) (by kernel_rfl) (by kernel_rfl) (by kernel_rfl) (by kernel_rfl) (by kernel_rfl) (fun _ _ _ h => h) (Or.inl ⟨by rfl, ?hb49⟩) HS ?rb49
            case hb49 => intro w' hSw; (try dsimp only at hSw); go_simp; try with_reducible rfl
            (try simp only [Act.put]); (try simp only [List.setIfInBounds_toArray]); (try simp only [List.set_cons_succ]); (try simp only [List.set_cons_zero])
            refine anyD_take (i := 24) (v := ?vb50) [] rfl (by kernel_rfl) (by kernel_rfl) (by kernel_rfl) (by kernel_rfl) (by kernel_rfl) (by kernel_rfl) (fun _ _ _ h => h) (Or.inl ⟨by rfl, ?hb50⟩) HS ?rb50
            case hb50 => intro w' hSw; (try dsimp only at hSw); go_simp; try with_reducible rfl
            (try simp only [Act.put]); (try simp only [List.setIfInBounds_toArray]); (try simp only [List.set_cons_succ]); (try simp only [List.set_cons_zero])
            refine anyD_ready (rs := [25]) (by kernel_rfl) (by simp) (AllD.cons rfl (fun K hK => ?_) AllD.nil)
            go_simp
            refine hK.out _ _ (fun _ => HS) ?_
            clear hK K
            (try simp only [Act.put]); (try simp only [List.setIfInBounds_toArray]); (try simp only [List.set_cons_succ]); (try simp only [List.set_cons_zero])
            refine anyD_done (by kernel_rfl) ?_ _
            go_wp2
            go_meet
            case rel => exact ⟨rfl, Jb46.out⟩
    case mb18 =>
      go_simp
      go_at_call 27
      refine (P3.out _).mono ?_
      rintro e' zb51 ⟨rfl, hb⟩
      have Jb51 := Lib.hid (Jb15.out.below hb)
      clear hb HS
      have HS := And.intro (Jb51.out.ld 0 rfl) (And.intro ((Jb51.out.cell 0 rfl 0).trans (pkC_0 _ _)) (And.intro ((Jb51.out.cell 0 rfl 8).trans (pkC_8 _ _)) (And.intro ((Jb51.out.cell 0 rfl 9).trans (pkC_9 _ _)) ((Jb51.out.cell 0 rfl 24).trans (pkC_24 _ _)))))
      go_simp
      refine hK.out _ _ (fun _ => HS) ?_
      clear hK K
      (try simp only [Act.put]); (try simp only [List.setIfInBounds_toArray]); (try simp only [List.set_cons_succ]); (try simp only [List.set_cons_zero])
      refine anyD_ready (rs := [6, 19]) (by kernel_rfl) (by simp) (AllD.cons rfl (fun K hK => ?mb52) (AllD.cons rfl (fun K hK => ?mb53) AllD.nil))
      case mb52 =>
        have Jb54 := Lib.hid (Jb51.out.alloc (.cells #[.int .u8 (b0.toNat : Int), .int .u8 (b1.toNat : Int)] 5)); have Bb54 := Lib.hid (Below.refl (zb51.alloc (.cells #[.int .u8 (b0.toNat : Int), .int .u8 (b1.toNat : Int)] 5)).heap.size (zb51.alloc (.cells #[.int .u8 (b0.toNat : Int), .int .u8 (b1.toNat : Int)] 5))); have Cb54 := Lib.hid (fun (z : World) hb => conv_two8 (W := zb51) (z := z) b0 b1 hb); clear HS
        have HS := And.intro (Jb54.out.ld 0 rfl) (And.intro ((Jb54.out.cell 0 rfl 0).trans (pkC_0 _ _)) (And.intro ((Jb54.out.cell 0 rfl 8).trans (pkC_8 _ _)) (And.intro ((Jb54.out.cell 0 rfl 9).trans (pkC_9 _ _)) ((Jb54.out.cell 0 rfl 24).trans (pkC_24 _ _)))))
        go_simp
        refine hK.out _ _ (fun _ => HS) ?_
        clear hK K
        (try simp only [Act.put]); (try simp only [List.setIfInBounds_toArray]); (try simp only [List.set_cons_succ]); (try simp only [List.set_cons_zero])
        refine anyD_ready (rs := [7, 19]) (by kernel_rfl) (by simp) (AllD.cons rfl (fun K hK => ?mb55) (AllD.cons rfl (fun K hK => ?mb56) AllD.nil))
        case mb55 =>
          have hcv := Cb54.out _ Bb54.out
          go_simp
          refine hK.out _ _ (fun _ => HS) ?_
          clear hK K hcv
          (try simp only [Act.put]); (try simp only [List.setIfInBounds_toArray]); (try simp only [List.set_cons_succ]); (try simp only [List.set_cons_zero])
          refine anyD_take (i := 8) (v := ?vb57) [] rfl (by kernel_rfl) (by kernel_rfl) (by kernel_rfl) (by kernel_rfl) (by kernel_rfl) (by kernel_rfl) (fun _ _ _ h => h) (Or.inl ⟨by rfl, ?hb57⟩) HS ?rb57
          case hb57 => intro w' hSw; (try dsimp only at hSw); go_simp; try with_reducible rfl
          (try simp only [Act.put]); (try simp only [List.setIfInBounds_toArray]); (try simp only [List.set_cons_succ]); (try simp only [List.set_cons_zero])
          refine anyD_take (i := 13) (v := ?vb58) [] rfl (by kernel_rfl) (by kernel_rfl) (by kernel_rfl) (by kernel_rfl) (by kernel_rfl) (by kernel_rfl) (fun _ _ _ h => h) (Or.inl ⟨by rfl, ?hb58⟩) HS ?rb58
          case hb58 => intro w' hSw; (try dsimp only at hSw); go_simp; try with_reducible rfl
          (try simp only [Act.put]); (try simp only [List.setIfInBounds_toArray]); (try simp only [List.set_cons_succ]); (try simp only [List.set_cons_zero])
          refine anyD_ready (rs := [19]) (by kernel_rfl) (by simp) (AllD.cons rfl (fun K hK => ?_) AllD.nil)
          go_simp
          go_at_call 25
          refine (TT.out _ (Jb54.out.into 0 rfl).props (Jb54.out.into 0 rfl).caps.2.2.2).mono ?_
          rintro e' zb59 ⟨rfl, hb⟩
          have Jb59 := Lib.hid (Jb54.out.below hb)
          clear hb HS
          have HS := And.intro (Jb59.out.ld 0 rfl) (And.intro ((Jb59.out.cell 0 rfl 0).trans (pkC_0 _ _)) (And.intro ((Jb59.out.cell 0 rfl 8).trans (pkC_8 _ _)) (And.intro ((Jb59.out.cell 0 rfl 9).trans (pkC_9 _ _)) ((Jb59.out.cell 0 rfl 24).trans (pkC_24 _ _)))))
          go_simp
          refine hK.out _ _ (fun _ => HS) ?_
          clear hK K
          (try simp only [Act.put]); (try simp only [List.setIfInBounds_toArray]); (try simp only [List.set_cons_succ]); (try simp only [List.set_cons_zero])
          refine anyD_take (i := 20) (v := ?vb60) [] rfl (by kernel_rfl) (by kernel_rfl) (by kernel_rfl) (by kernel_rfl) (by kernel_rfl) (by kernel_rfl) (fun _ _ _ h => h) (Or.inl ⟨by rfl, ?hb60⟩) HS ?rb60
          case hb60 => intro w' hSw; (try dsimp only at hSw); go_simp; try with_reducible rfl
          (try simp only [Act.put]); (try simp only [List.setIfInBounds_toArray]); (try simp only [List.set_cons_succ]); (try simp only [List.set_cons_zero])
          refine anyD_ready (rs := [23]) (by kernel_rfl) (by simp) (AllD.cons rfl (fun K hK => ?_) AllD.nil)
          go_simp
          go_at_call 26
          refine (D4.out _).mono ?_
          rintro e' zb61 ⟨rfl, hb⟩
          have Jb61 := Lib.hid (Jb59.out.below hb)
          clear hb HS
          have HS := And.intro (Jb61.out.ld 0 rfl) (And.intro ((Jb61.out.cell 0 rfl 0).trans (pkC_0 _ _)) (And.intro ((Jb61.out.cell 0 rfl 8).trans (pkC_8 _ _)) (And.intro ((Jb61.out.cell 0 rfl 9).trans (pkC_9 _ _)) ((Jb61.out.cell 0 rfl 24).trans (pkC_24 _ _)))))
          go_simp
          refine hK.out _ _ (fun _ => HS) ?_
          clear hK K
          (try simp only [Act.put]); (try simp only [List.setIfInBounds_toArray]); (try simp only [List.set_cons_succ]); (try simp only [List.set_cons_zero])
          refine anyD_take (i := 24) (v := ?vb62) [] rfl (by kernel_rfl) (by kernel_rfl) (by kernel_rfl) (by kernel_rfl) (by kernel_rfl) (by kernel_rfl) (fun _ _ _ h => h) (Or.inl ⟨by rfl, ?hb62⟩) HS ?rb62
          case hb62 => intro w' hSw; (try dsimp only at hSw); go_simp; try with_reducible rfl
          (try simp only [Act.put]); (try simp only [List.setIfInBounds_toArray]); (try simp only [List.set_cons_succ]); (try simp only [List.set_cons_zero])
          refine anyD_ready (rs := [25]) (by kernel_rfl) (by simp) (AllD.cons rfl (fun K hK => ?_) AllD.nil)
          go_simp
          refine hK.out _ _ (fun _ => HS) ?_
          clear hK K
          (try simp only [Act.put]); (try simp only [List.setIfInBounds_toArray]); (try simp only [List.set_cons_succ]); (try simp only [List.set_cons_zero])
          refine anyD_done (by kernel_rfl) ?_ _
          go_wp2
          go_meet
          case rel => exact ⟨rfl, Jb61.out⟩
        case mb56 =>
          go_simp
          go_at_call 25
          refine (TT.out _ (Jb54.out.into 0 rfl).props (Jb54.out.into 0 rfl).caps.2.2.2).mono ?_
          rintro e' zb63 ⟨rfl, hb⟩
          have Jb63 := Lib.hid (Jb54.out.below hb)
          have Bb63 := Lib.hid (Bb54.out.trans (hb.mono Bb54.out.size))
          clear hb HS
          have HS := And.intro (Jb63.out.ld 0 rfl) (And.intro ((Jb63.out.cell 0 rfl 0).trans (pkC_0 _ _)) (And.intro ((Jb63.out.cell 0 rfl 8).trans (pkC_8 _ _)) (And.intro ((Jb63.out.cell 0 rfl 9).trans (pkC_9 _ _)) ((Jb63.out.cell 0 rfl 24).trans (pkC_24 _ _)))))
          go_simp
          refine hK.out _ _ (fun _ => HS) ?_
          clear hK K
          (try simp only [Act.put]); (try simp only [List.setIfInBounds_toArray]); (try simp only [List.set_cons_succ]); (try simp only [List.set_cons_zero])
          refine anyD_ready (rs := [7, 23]) (by kernel_rfl) (by simp) (AllD.cons rfl (fun K hK => ?mb64) (AllD.cons rfl (fun K hK => ?mb65) AllD.nil))
          case mb64 =>
            have hcv := Cb54.out _ Bb63.out
            go_simp
            refine hK.out _ _ (fun _ => HS) ?_
            clear hK K hcv
            (try simp only [Act.put]); (try simp only [List.setIfInBounds_toArray]); (try simp only [List.set_cons_succ]); (try simp only [List.set_cons_zero])
            refine anyD_take (i := 8) (v := ?vb66) [] rfl (by kernel_rfl) (by kernel_rfl) (by kernel_rfl) (by kernel_rfl) (by kernel_rfl) (by kernel_rfl) (fun _ _ _ h => h) (Or.inl ⟨by rfl, ?hb66⟩) HS ?rb66
            case hb66 => intro w' hSw; (try dsimp only at hSw); go_simp; try with_reducible rfl
            (try simp only [Act.put]); (try simp only [List.setIfInBounds_toArray]); (try simp only [List.set_cons_succ]); (try simp only [List.set_cons_zero])
            refine anyD_take (i := 13) (v := ?vb67) [] rfl (by kernel_rfl) (by kernel_rfl) (by kernel_rfl) (by kernel_rfl) (by kernel_rfl) (by kernel_rfl) (fun _ _ _ h => h) (Or.inl ⟨by rfl, ?hb67⟩) HS ?rb67
            case hb67 => intro w' hSw; (try dsimp only at hSw); go_simp; try with_reducible rfl
            (try simp only [Act.put]); (try simp only [List.setIfInBounds_toArray]); (try simp only [List.set_cons_succ]); (try simp only [List.set_cons_zero])
            refine anyD_take (i := 20) (v := ?vb68) [] rfl (by kernel_rfl) (by kernel_rfl) (by kernel_rfl) (by kernel_rfl) (by kernel_rfl) (by kernel_rfl) (fun _ _ _ h => h) (Or.inl ⟨by rfl, ?hb68⟩) HS ?rb68
            case hb68 => intro w' hSw; (try dsimp only at hSw); go_simp; try with_reducible rfl
            (try simp only [Act.put]); (try simp only [List.setIfInBounds_toArray]); (try simp only [List.set_cons_succ]); (try simp only [List.set_cons_zero])
            refine anyD_ready (rs := [23]) (by kernel_rfl) (by simp) (AllD.cons rfl (fun K hK => ?_) AllD.nil)
            go_simp
            go_at_call 26
            refine (D4.out _).mono ?_
            rintro e' zb69 ⟨rfl, hb⟩
            have Jb69 := Lib.hid (Jb63.out.below hb)
            clear hb HS
            have HS := And.intro (Jb69.out.ld 0 rfl) (And.intro ((Jb69.out.cell 0 rfl 0).trans (pkC_0 _ _)) (And.intro ((Jb69.out.cell 0 rfl 8).trans (pkC_8 _ _)) (And.intro ((Jb69.out.cell 0 rfl 9).trans (pkC_9 _ _)) ((Jb69.out.cell 0 rfl 24).trans (pkC_24 _ _)))))
            go_simp
            refine hK.out _ _ (fun _ => HS) ?_
            clear hK K
            (try simp only [Act.put]); (try simp only [List.setIfInBounds_toArray]); (try simp only [List.set_cons_succ]); (try simp only [List.set_cons_zero])
            refine anyD_take (i := 24) (v := ?vb70) [] rfl (by kernel_rfl) (by kernel_rfl) (by kernel_rfl) (by kernel_rfl) (by kernel_rfl) (by kernel_rfl) (fun _ _ _ h => h) (Or.inl ⟨by rfl, ?hb70⟩) HS ?rb70
            case hb70 => intro w' hSw; (try dsimp only at hSw); go_simp; try with_reducible rfl
            (try simp only [Act.put]); (try simp only [List.setIfInBounds_toArray]); (try simp only [List.set_cons_succ]); (try simp only [List.set_cons_zero])
            refine anyD_ready (rs := [25]) (by kernel_rfl) (by simp) (AllD.cons rfl (fun K hK => ?_) AllD.nil)
            go_simp
            refine hK.out _ _ (fun _ => HS) ?_
            clear hK K
            (try simp only [Act.put]); (try simp only [List.setIfInBounds_toArray]); (try simp only [List.set_cons_succ]); (try simp only [List.set_cons_zero])
            refine anyD_done (by kernel_rfl) ?_ _
            go_wp2
            go_meet
            case rel => exact ⟨rfl, Jb69.out⟩
          case mb65 =>
            go_simp
            go_at_call 26
            refine (D4.out _).mono ?_
            rintro e' zb71 ⟨rfl, hb⟩
            have Jb71 := Lib.hid (Jb63.out.below hb)
            have Bb71 := Lib.hid (Bb63.out.trans (hb.mono Bb63.out.size))
            clear hb HS
            have HS := And.intro (Jb71.out.ld 0 rfl) (And.intro ((Jb71.out.cell 0 rfl 0).trans (pkC_0 _ _)) (And.intro ((Jb71.out.cell 0 rfl 8).trans (pkC_8 _ _)) (And.intro ((Jb71.out.cell 0 rfl 9).trans (pkC_9 _ _)) ((Jb71.out.cell 0 rfl 24).trans (pkC_24 _ _)))))
            go_simp
            refine hK.out _ _ (fun _ => HS) ?_
            clear hK K
            (try simp only [Act.put]); (try simp only [List.setIfInBounds_toArray]); (try simp only [List.set_cons_succ]); (try simp only [List.set_cons_zero])
            refine anyD_ready (rs := [7]) (by kernel_rfl) (by simp) (AllD.cons rfl (fun K hK => ?_) AllD.nil)
            have hcv := Cb54.out _ Bb71.out
            go_simp
            refine hK.out _ _ (fun _ => HS) ?_
            clear hK K hcv
            (try simp only [Act.put]); (try simp only [List.setIfInBounds_toArray]); (try simp only [List.set_cons_succ]); (try simp only [List.set_cons_zero])
            refine anyD_take (i := 8) (v := ?vb72) [] rfl (by kernel_rfl) (by kernel_rfl) (by kernel_rfl) (by kernel_rfl) (by kernel_rfl) (by kernel_rfl) (fun _ _ _ h => h) (Or.inl ⟨by rfl, ?hb72⟩) HS ?rb72
            case hb72 => intro w' hSw; (try dsimp only at hSw); go_simp; try with_reducible rfl
            (try simp only [Act.put]); (try simp only [List.setIfInBounds_toArray]); (try simp only [List.set_cons_succ]); (try simp only [List.set_cons_zero])
            refine anyD_take (i := 13) (v := ?vb73) [] rfl (by kernel_rfl) (by kernel_rfl) (by kernel_rfl) (by kernel_rfl) (by kernel_rfl) (by kernel_rfl) (fun _ _ _ h => h) (Or.inl ⟨by rfl, ?hb73⟩) HS ?rb73
            case hb73 => intro w' hSw; (try dsimp only at hSw); go_simp; try with_reducible rfl
            (try simp only [Act.put]); (try simp only [List.setIfInBounds_toArray]); (try simp only [List.set_cons_succ]); (try simp only [List.set_cons_zero])
            refine anyD_take (i := 20) (v := ?vb74) [] rfl (by kernel_rfl) (by kernel_rfl) (by kernel_rfl) (by kernel_rfl) (by kernel_rfl) (by kernel_rfl) (fun _ _ _ h => h) (Or.inl ⟨by rfl, ?hb74⟩) HS ?rb74
            case hb74 => intro w' hSw; (try dsimp only at hSw); go_simp; try with_reducible rfl
            (try simp only [Act.put]); (try simp only [List.setIfInBounds_toArray]); (try simp only [List.set_cons_succ]); (try simp only [List.set_cons_zero])
            refine anyD_take (i := 24) (v := ?vb75) [] rfl (by kernel_rfl) (by kernel_rfl) (by kernel_rfl) (by kernel_rfl) (by kernel_rfl) (by kernel_rfl) (fun _ _ _ h => h) (Or.inl ⟨by rfl, ?hb75⟩) HS ?rb75
            case hb75 => intro w' hSw; (try dsimp only at hSw); go_simp; try with_reducible rfl
            (try simp only [Act.put]); (try simp only [List.setIfInBounds_toArray]); (try simp only [List.set_cons_succ]); (try simp only [List.set_cons_zero])
            refine anyD_ready (rs := [25]) (by kernel_rfl) (by simp) (AllD.cons rfl (fun K hK => ?_) AllD.nil)
            go_simp
            refine hK.out _ _ (fun _ => HS) ?_
            clear hK K
            (try simp only [Act.put]); (try simp only [List.setIfInBounds_toArray]); (try simp only [List.set_cons_succ]); (try simp only [List.set_cons_zero])
            refine anyD_done (by kernel_rfl) ?_ _
            go_wp2
            go_meet
            case rel => exact ⟨rfl, Jb71.out⟩
      case mb53 =>
        go_simp
        go_at_call 25
        refine (TT.out _ (Jb51.out.into 0 rfl).props (Jb51.out.into 0 rfl).caps.2.2.2).mono ?_
        rintro e' zb76 ⟨rfl, hb⟩
        have Jb76 := Lib.hid (Jb51.out.below hb)
        clear hb HS
        have HS := And.intro (Jb76.out.ld 0 rfl) (And.intro ((Jb76.out.cell 0 rfl 0).trans (pkC_0 _ _)) (And.intro ((Jb76.out.cell 0 rfl 8).trans (pkC_8 _ _)) (And.intro ((Jb76.out.cell 0 rfl 9).trans (pkC_9 _ _)) ((Jb76.out.cell 0 rfl 24).trans (pkC_24 _ _)))))
        go_simp
        refine hK.out _ _ (fun _ => HS) ?_
        clear hK K
        (try simp only [Act.put]); (try simp only [List.setIfInBounds_toArray]); (try simp only [List.set_cons_succ]); (try simp only [List.set_cons_zero])
        refine anyD_ready (rs := [6, 23]) (by kernel_rfl) (by simp) (AllD.cons rfl (fun K hK => ?mb77) (AllD.cons rfl (fun K hK => ?mb78) AllD.nil))
        case mb77 =>
          have Jb79 := Lib.hid (Jb76.out.alloc (.cells #[.int .u8 (b0.toNat : Int), .int .u8 (b1.toNat : Int)] 5)); have Bb79 := Lib.hid (Below.refl (zb76.alloc (.cells #[.int .u8 (b0.toNat : Int), .int .u8 (b1.toNat : Int)] 5)).heap.size (zb76.alloc (.cells #[.int .u8 (b0.toNat : Int), .int .u8 (b1.toNat : Int)] 5))); have Cb79 := Lib.hid (fun (z : World) hb => conv_two8 (W := zb76) (z := z) b0 b1 hb); clear HS
          have HS := And.intro (Jb79.out.ld 0 rfl) (And.intro ((Jb79.out.cell 0 rfl 0).trans (pkC_0 _ _)) (And.intro ((Jb79.out.cell 0 rfl 8).trans (pkC_8 _ _)) (And.intro ((Jb79.out.cell 0 rfl 9).trans (pkC_9 _ _)) ((Jb79.out.cell 0 rfl 24).trans (pkC_24 _ _)))))
          go_simp
          refine hK.out _ _ (fun _ => HS) ?_
          clear hK K
          (try simp only [Act.put]); (try simp only [List.setIfInBounds_toArray]); (try simp only [List.set_cons_succ]); (try simp only [List.set_cons_zero])
          refine anyD_ready (rs := [7, 23]) (by kernel_rfl) (by simp) (AllD.cons rfl (fun K hK => ?mb80) (AllD.cons rfl (fun K hK => ?mb81) AllD.nil))
          case mb80 =>
            have hcv := Cb79.out _ Bb79.out
            go_simp
            refine hK.out _ _ (fun _ => HS) ?_
            clear hK K hcv
            (try simp only [Act.put]); (try simp only [List.setIfInBounds_toArray]); (try simp only [List.set_cons_succ]); (try simp only [List.set_cons_zero])
            refine anyD_take (i := 8) (v := ?vb82) [] rfl (by kernel_rfl) (by kernel_rfl) (by kernel_rfl) (by kernel_rfl) (by kernel_rfl) (by kernel_rfl) (fun _ _ _ h => h) (Or.inl ⟨by rfl, ?hb82⟩) HS ?rb82
            case hb82 => intro w' hSw; (try dsimp only at hSw); go_simp; try with_reducible rfl
            (try simp only [Act.put]); (try simp only [List.setIfInBounds_toArray]); (try simp only [List.set_cons_succ]); (try simp only [List.set_cons_zero])
            refine anyD_take (i := 13) (v := ?vb83) [] rfl (by kernel_rfl) (by kernel_rfl) (by kernel_rfl) (by kernel_rfl) (by kernel_rfl) (by kernel_rfl) (fun _ _ _ h => h) (Or.inl ⟨by rfl, ?hb83⟩) HS ?rb83
            case hb83 => intro w' hSw; (try dsimp only at hSw); go_simp; try with_reducible rfl
            (try simp only [Act.put]); (try simp only [List.setIfInBounds_toArray]); (try simp only [List.set_cons_succ]); (try simp only [List.set_cons_zero])
            refine anyD_take (i := 20) (v := ?vb84) [] rfl (by kernel_rfl) (by kernel_rfl) (by kernel_rfl) (by kernel_rfl) (by kernel_rfl) (by kernel_rfl) (fun _ _ _ h => h) (Or.inl ⟨by rfl, ?hb84⟩) HS ?rb84
            case hb84 => intro w' hSw; (try dsimp only at hSw); go_simp; try with_reducible rfl
            (try simp only [Act.put]); (try simp only [List.setIfInBounds_toArray]); (try simp only [List.set_cons_succ]); (try simp only [List.set_cons_zero])
            refine anyD_ready (rs := [23]) (by kernel_rfl) (by simp) (AllD.cons rfl (fun K hK => ?_) AllD.nil)
            go_simp
            go_at_call 26
            refine (D4.out _).mono ?_
            rintro e' zb85 ⟨rfl, hb⟩
            have Jb85 := Lib.hid (Jb79.out.below hb)
            clear hb HS
            have HS := And.intro (Jb85.out.ld 0 rfl) (And.intro ((Jb85.out.cell 0 rfl 0).trans (pkC_0 _ _)) (And.intro ((Jb85.out.cell 0 rfl 8).trans (pkC_8 _ _)) (And.intro ((Jb85.out.cell 0 rfl 9).trans (pkC_9 _ _)) ((Jb85.out.cell 0 rfl 24).trans (pkC_24 _ _)))))
            go_simp
            refine hK.out _ _ (fun _ => HS) ?_
            clear hK K
            (try simp only [Act.put]); (try simp only [List.setIfInBounds_toArray]); (try simp only [List.set_cons_succ]); (try simp only [List.set_cons_zero])
            refine anyD_take (i := 24) (v := ?vb86) [] rfl (by kernel_rfl) (by kernel_rfl) (by kernel_rfl) (by kernel_rfl) (by kernel_rfl) (by kernel_rfl) (fun _ _ _ h => h) (Or.inl ⟨by rfl, ?hb86⟩) HS ?rb86
            case hb86 => intro w' hSw; (try dsimp only at hSw); go_simp; try with_reducible rfl
            (try simp only [Act.put]); (try simp only [List.setIfInBounds_toArray]); (try simp only [List.set_cons_succ]); (try simp only [List.set_cons_zero])
            refine anyD_ready (rs := [25]) (by kernel_rfl) (by simp) (AllD.cons rfl (fun K hK => ?_) AllD.nil)
            go_simp
            refine hK.out _ _ (fun _ => HS) ?_
            clear hK K
            (try simp only [Act.put]); (try simp only [List.setIfInBounds_toArray]); (try simp only [List.set_cons_succ]); (try simp only [List.set_cons_zero])
            refine anyD_done (by kernel_rfl) ?_ _
            go_wp2
            go_meet
            case rel => exact ⟨rfl, Jb85.out⟩
          case mb81 =>
            go_simp
            go_at_call 26
            refine (D4.out _).mono ?_
            rintro e' zb87 ⟨rfl, hb⟩
            have Jb87 := Lib.hid (Jb79.out.below hb)
            have Bb87 := Lib.hid (Bb79.out.trans (hb.mono Bb79.out.size))
            clear hb HS
            have HS := And.intro (Jb87.out.ld 0 rfl) (And.intro ((Jb87.out.cell 0 rfl 0).trans (pkC_0 _ _)) (And.intro ((Jb87.out.cell 0 rfl 8).trans (pkC_8 _ _)) (And.intro ((Jb87.out.cell 0 rfl 9).trans (pkC_9 _ _)) ((Jb87.out.cell 0 rfl 24).trans (pkC_24 _ _)))))
            go_simp
            refine hK.out _ _ (fun _ => HS) ?_
            clear hK K
            (try simp only [Act.put]); (try simp only [List.setIfInBounds_toArray]); (try simp only [List.set_cons_succ]); (try simp only [List.set_cons_zero])
            refine anyD_ready (rs := [7]) (by kernel_rfl) (by simp) (AllD.cons rfl (fun K hK => ?_) AllD.nil)
            have hcv := Cb79.out _ Bb87.out
            go_simp
            refine hK.out _ _ (fun _ => HS) ?_
            clear hK K hcv
            (try simp only [Act.put]); (try simp only [List.setIfInBounds_toArray]); (try simp only [List.set_cons_succ]); (try simp only [List.set_cons_zero])
            refine anyD_take (i := 8) (v := ?vb88) [] rfl (by kernel_rfl) (by kernel_rfl) (by kernel_rfl) (by kernel_rfl) (by kernel_rfl) (by kernel_rfl) (fun _ _ _ h => h) (Or.inl ⟨by rfl, ?hb88⟩) HS ?rb88
            case hb88 => intro w' hSw; (try dsimp only at hSw); go_simp; try with_reducible rfl
            (try simp only [Act.put]); (try simp only [List.setIfInBounds_toArray]); (try simp only [List.set_cons_succ]); (try simp only [List.set_cons_zero])
            refine anyD_take (i := 13) (v := ?vb89) [] rfl (by kernel_rfl) (by kernel_rfl) (by kernel_rfl) (by kernel_rfl) (by kernel_rfl) (by kernel_rfl) (fun _ _ _ h => h) (Or.inl ⟨by rfl, ?hb89⟩) HS ?rb89
            case hb89 => intro w' hSw; (try dsimp only at hSw); go_simp; try with_reducible rfl
            (try simp only [Act.put]); (try simp only [List.setIfInBounds_toArray]); (try simp only [List.set_cons_succ]); (try simp only [List.set_cons_zero])
            refine anyD_take (i := 20) (v := ?vb90) [] rfl (by kernel_rfl) (by kernel_rfl) (by kernel_rfl) (by kernel_rfl) (by kernel_rfl) (by kernel_rfl) (fun _ _ _ h => h) (Or.inl ⟨by rfl, ?hb90⟩) HS ?rb90
            case hb90 => intro w' hSw; (try dsimp only at hSw); go_simp; try with_reducible rfl
            (try simp only [Act.put]); (try simp only [List.setIfInBounds_toArray]); (try simp only [List.set_cons_succ]); (try simp only [List.set_cons_zero])
            refine anyD_take (i := 24) (v := ?vb91) [] rfl (by kernel_rfl) (by kernel_rfl) (by kernel_rfl) (by kernel_rfl) (by kernel_rfl) (by kernel_rfl) (fun _ _ _ h => h) (Or.inl ⟨by rfl, ?hb91⟩) HS ?rb91
            case hb91 => intro w' hSw; (try dsimp only at hSw); go_simp; try with_reducible rfl
            (try simp only [Act.put]); (try simp only [List.setIfInBounds_toArray]); (try simp only [List.set_cons_succ]); (try simp only [List.set_cons_zero])
            refine anyD_ready (rs := [25]) (by kernel_rfl) (by simp) (AllD.cons rfl (fun K hK => ?_) AllD.nil)
            go_simp
            refine hK.out _ _ (fun _ => HS) ?_
            clear hK K
            (try simp only [Act.put]); (try simp only [List.setIfInBounds_toArray]); (try simp only [List.set_cons_succ]); (try simp only [List.set_cons_zero])
            refine anyD_done (by kernel_rfl) ?_ _
            go_wp2
            go_meet
            case rel => exact ⟨rfl, Jb87.out⟩
        case mb78 =>
          go_simp
          go_at_call 26
          refine (D4.out _).mono ?_
          rintro e' zb92 ⟨rfl, hb⟩
          have Jb92 := Lib.hid (Jb76.out.below hb)
          clear hb HS
          have HS := And.intro (Jb92.out.ld 0 rfl) (And.intro ((Jb92.out.cell 0 rfl 0).trans (pkC_0 _ _)) (And.intro ((Jb92.out.cell 0 rfl 8).trans (pkC_8 _ _)) (And.intro ((Jb92.out.cell 0 rfl 9).trans (pkC_9 _ _)) ((Jb92.out.cell 0 rfl 24).trans (pkC_24 _ _)))))
          go_simp
          refine hK.out _ _ (fun _ => HS) ?_
          clear hK K
          (try simp only [Act.put]); (try simp only [List.setIfInBounds_toArray]); (try simp only [List.set_cons_succ]); (try simp only [List.set_cons_zero])
          refine anyD_ready (rs := [6]) (by kernel_rfl) (by simp) (AllD.cons rfl (fun K hK => ?_) AllD.nil)
          have Jb93 := Lib.hid (Jb92.out.alloc (.cells #[.int .u8 (b0.toNat : Int), .int .u8 (b1.toNat : Int)] 5)); have Bb93 := Lib.hid (Below.refl (zb92.alloc (.cells #[.int .u8 (b0.toNat : Int), .int .u8 (b1.toNat : Int)] 5)).heap.size (zb92.alloc (.cells #[.int .u8 (b0.toNat : Int), .int .u8 (b1.toNat : Int)] 5))); have Cb93 := Lib.hid (fun (z : World) hb => conv_two8 (W := zb92) (z := z) b0 b1 hb); clear HS
          have HS := And.intro (Jb93.out.ld 0 rfl) (And.intro ((Jb93.out.cell 0 rfl 0).trans (pkC_0 _ _)) (And.intro ((Jb93.out.cell 0 rfl 8).trans (pkC_8 _ _)) (And.intro ((Jb93.out.cell 0 rfl 9).trans (pkC_9 _ _)) ((Jb93.out.cell 0 rfl 24).trans (pkC_24 _ _)))))
          go_simp
          refine hK.out _ _ (fun _ => HS) ?_
          clear hK K
          (try simp only [Act.put]); (try simp only [List.setIfInBounds_toArray]); (try simp only [List.set_cons_succ]); (try simp only [List.set_cons_zero])
          refine anyD_ready (rs := [7]) (by kernel_rfl) (by simp) (AllD.cons rfl (fun K hK => ?_) AllD.nil)
          have hcv := Cb93.out _ Bb93.out
          go_simp
          refine hK.out _ _ (fun _ => HS) ?_
          clear hK K hcv
          (try simp only [Act.put]); (try simp only [List.setIfInBounds_toArray]); (try simp only [List.set_cons_succ]); (try simp only [List.set_cons_zero])
          refine anyD_take (i := 8) (v := ?vb94) [] rfl (by kernel_rfl) (by kernel_rfl) (by kernel_rfl) (by kernel_rfl) (by kernel_rfl) (by kernel_rfl) (fun _ _ _ h => h) (Or.inl ⟨by rfl, ?hb94⟩) HS ?rb94
          case hb94 => intro w' hSw; (try dsimp only at hSw); go_simp; try with_reducible rfl
          (try simp only [Act.put]); (try simp only [List.setIfInBounds_toArray]); (try simp only [List.set_cons_succ]); (try simp only [List.set_cons_zero])
          refine anyD_take (i := 13) (v := ?vb95) [] rfl (by kernel_rfl) (by kernel_rfl) (by kernel_rfl) (by kernel_rfl) (by kernel_rfl) (by kernel_rfl) (fun _ _ _ h => h) (Or.inl ⟨by rfl, ?hb95⟩) HS ?rb95
          case hb95 => intro w' hSw; (try dsimp only at hSw); go_simp; try with_reducible rfl
          (try simp only [Act.put]); (try simp only [List.setIfInBounds_toArray]); (try simp only [List.set_cons_succ]); (try simp only [List.set_cons_zero])
          refine anyD_take (i := 20) (v := ?vb96) [] rfl (by kernel_rfl) (by kernel_rfl) (by kernel_rfl) (by kernel_rfl) (by kernel_rfl) (by kernel_rfl) (fun _ _ _ h => h) (Or.inl ⟨by rfl, ?hb96⟩) HS ?rb96
          case hb96 => intro w' hSw; (try dsimp only at hSw); go_simp; try with_reducible rfl
          (try simp only [Act.put]); (try simp only [List.setIfInBounds_toArray]); (try simp only [List.set_cons_succ]); (try simp only [List.set_cons_zero])
          refine anyD_take (i := 24) (v := ?vb97) [] rfl (by kernel_rfl) (by kernel_rfl) (by kernel_rfl) (by kernel_rfl) (by kernel_rfl) (by kernel_rfl) (fun _ _ _ h => h) (Or.inl ⟨by rfl, ?hb97⟩) HS ?rb97
          case hb97 => intro w' hSw; (try dsimp only at hSw); go_simp; try with_reducible rfl
          (try simp only [Act.put]); (try simp only [List.setIfInBounds_toArray]); (try simp only [List.set_cons_succ]); (try simp only [List.set_cons_zero])
          refine anyD_ready (rs := [25]) (by kernel_rfl) (by simp) (AllD.cons rfl (fun K hK => ?_) AllD.nil)
          go_simp
          refine hK.out _ _ (fun _ => HS) ?_
          clear hK K
          (try simp only [Act.put]); (try simp only [List.setIfInBounds_toArray]); (try simp only [List.set_cons_succ]); (try simp only [List.set_cons_zero])
          refine anyD_done (by kernel_rfl) ?_ _
          go_wp2
          go_meet
          case rel => exact ⟨rfl, Jb93.out⟩
  obtain ⟨rfl, hst⟩ := hcut
  have S7 := Lib.hid hst
  clear hst FF TT N1 P3 D4 hw0 hw1 hw3 HX3S HMS hs2 hsA hsB e2
  rw [← HQ2.out]
  have HS2 : Hid (cntS2 v p = if p.hasWill = true then catL [cntS1 v p, tail8 v 16 p.will.props, dataB p.will.topic, dataB p.will.payload] else cntS1 v p) := Lib.hid rfl
  have HS3 : Hid (cntS3 v p = if p.hasUser = true then catL [cntS2 v p, dataB p.user] else cntS2 v p) := Lib.hid rfl
  have HS4 : Hid (cntS v p = if p.hasPass = true then catL [cntS3 v p, dataB p.pass] else cntS3 v p) := Lib.hid rfl
  obtain ⟨O1, hO1⟩ : ∃ O, cntS1 v p = O := ⟨_, rfl⟩
  rw [hO1] at HZ1 HS2 ⊢
  clear hO1 HQ1 HQ2 HTS HCS HL HL3
  have k14 := (S7.out.cell 0 rfl 14).trans (pkC_14 _ _)
  obtain ⟨wb, hwb⟩ : ∃ b, p.hasWill = b := ⟨_, rfl⟩
  rw [hwb] at k14 HS2 HOK
  clear hwb
  cases wb
  · rw [if_neg (by decide)] at HS2
    rw [HS2.out] at HS3
    have uk := (S7.out.cell 0 rfl 10).trans (pkC_10 _ _)
    obtain ⟨ub, hub⟩ : ∃ b, p.hasUser = b := ⟨_, rfl⟩
    rw [hub] at uk HS3
    clear hub
    cases ub
    · rw [if_neg (by decide)] at HS3
      rw [HS3.out] at HS4
      have qk := (S7.out.cell 0 rfl 12).trans (pkC_12 _ _)
      obtain ⟨qb, hqb⟩ : ∃ b, p.hasPass = b := ⟨_, rfl⟩
      rw [hqb] at qk HS4
      clear hqb
      cases qb
      · rw [if_neg (by decide)] at HS4
        go_wp2
        go_ret2
        exact ⟨by rw [HX.out, HS4.out]; rfl, S7.out.kept⟩
      · rw [if_pos rfl] at HS4
        have qf := (S7.out.cell 0 rfl 13).trans (pkC_13 _ _)
        go_wp2_with fail
        refine (text8_any p.pass _ HOK.out.2.1).mono ?_
        rintro e yq ⟨rfl, hb⟩
        have S7p := Lib.hid (S7.out.below hb); clear hb qk qf
        have qD := Lib.hid (dataB_size p.pass)
        obtain ⟨qX, hqX⟩ : ∃ X, dataB p.pass = X := ⟨_, rfl⟩
        rw [hqX] at HS4 qD ⊢
        clear hqX
        have qs : ¬ (9223372036854775807 < O1.size + qX.size) := by have := HZ1.out; have := qD.out; omega
        have HZp : Hid ((O1 ++ qX).size ≤ 131280700) := Lib.hid (by rw [ByteArray.size_append]; have := HZ1.out; have := qD.out; omega)
        have qc : catL [O1, qX] = O1 ++ qX := cat_two _ _
        rw [qc] at HS4
        clear qc
        obtain ⟨Op1, hOp1⟩ : ∃ O, O1 ++ qX = O := ⟨_, rfl⟩
        rw [hOp1] at HS4 HZp
        go_wp2
        go_ret2
        exact ⟨by rw [HX.out, HS4.out]; rfl, S7p.out.kept⟩
    · rw [if_pos rfl] at HS3
      have uf := (S7.out.cell 0 rfl 11).trans (pkC_11 _ _)
      go_wp2_with fail
      refine (text8_any p.user _ HOK.out.1).mono ?_
      rintro e yu ⟨rfl, hb⟩
      have S7u := Lib.hid (S7.out.below hb); clear hb uk uf
      have uD := Lib.hid (dataB_size p.user)
      obtain ⟨uX, huX⟩ : ∃ X, dataB p.user = X := ⟨_, rfl⟩
      rw [huX] at HS3 uD ⊢
      clear huX
      have us : ¬ (9223372036854775807 < O1.size + uX.size) := by have := HZ1.out; have := uD.out; omega
      have HZu : Hid ((O1 ++ uX).size ≤ 131210700) := Lib.hid (by rw [ByteArray.size_append]; have := HZ1.out; have := uD.out; omega)
      have uc : catL [O1, uX] = O1 ++ uX := cat_two _ _
      rw [uc] at HS3
      clear uc
      obtain ⟨Ou1, hOu1⟩ : ∃ O, O1 ++ uX = O := ⟨_, rfl⟩
      rw [hOu1] at HS3 HZu
      rw [HS3.out] at HS4
      have qk := (S7u.out.cell 0 rfl 12).trans (pkC_12 _ _)
      obtain ⟨qb, hqb⟩ : ∃ b, p.hasPass = b := ⟨_, rfl⟩
      rw [hqb] at qk HS4
      clear hqb
      cases qb
      · rw [if_neg (by decide)] at HS4
        go_wp2
        go_ret2
        exact ⟨by rw [HX.out, HS4.out]; rfl, S7u.out.kept⟩
      · rw [if_pos rfl] at HS4
        have qf := (S7u.out.cell 0 rfl 13).trans (pkC_13 _ _)
        go_wp2_with fail
        refine (text8_any p.pass _ HOK.out.2.1).mono ?_
        rintro e yq ⟨rfl, hb⟩
        have S7up := Lib.hid (S7u.out.below hb); clear hb qk qf
        have qD := Lib.hid (dataB_size p.pass)
        obtain ⟨qX, hqX⟩ : ∃ X, dataB p.pass = X := ⟨_, rfl⟩
        rw [hqX] at HS4 qD ⊢
        clear hqX
        have qs : ¬ (9223372036854775807 < Ou1.size + qX.size) := by have := HZu.out; have := qD.out; omega
        have HZp : Hid ((Ou1 ++ qX).size ≤ 131280700) := Lib.hid (by rw [ByteArray.size_append]; have := HZu.out; have := qD.out; omega)
        have qc : catL [Ou1, qX] = Ou1 ++ qX := cat_two _ _
        rw [qc] at HS4
        clear qc
        obtain ⟨Opu1, hOpu1⟩ : ∃ O, Ou1 ++ qX = O := ⟨_, rfl⟩
        rw [hOpu1] at HS4 HZp
        go_wp2
        go_ret2
        exact ⟨by rw [HX.out, HS4.out]; rfl, S7up.out.kept⟩
  · rw [if_pos rfl] at HS2
    have HWS : Hid ((tail8 v 16 p.will.props).size ≤ 131075004 ∧ (dataB p.will.topic).size ≤ 65537 ∧ (dataB p.will.payload).size ≤ 65537) := Lib.hid ⟨tail8_size _ _ _, dataB_size _, dataB_size _⟩
    have q0 : ∀ (d : Nat) (os : Array Obj), Calls Tryz.prog 25 #[.int .i64 v, .int .i64 16, .slice h.wp.a p.will.props.length h.wp.c] (Sort.grow (redrawn wc d) os) fun e w'' => e = .returned (.string (tail8 v 16 p.will.props)) ∧ ∃ p : Regrown, w'' = Sort.grow (redrawn wc p.d) p.os := regrown (fun x hx => refTail_any v 16 p.will.props _ rfl OK.out.wp h.wp.a h.wp.c x ((S7.out.below hx).into 0 rfl).wp OK.out.len.1 ((S7.out.below hx).into 0 rfl).caps.1)
    have q1 := regrown (W := wc) (fun x hx => text8_any p.will.topic x (HOK.out.2.2.2 rfl))
    have q2 := regrown (W := wc) (fun x hx => text8_any p.will.payload x HOK.out.2.2.1)
    obtain ⟨WT, hWT⟩ : ∃ X, tail8 v 16 p.will.props = X := ⟨_, rfl⟩
    obtain ⟨WA, hWA⟩ : ∃ X, dataB p.will.topic = X := ⟨_, rfl⟩
    obtain ⟨WB, hWB⟩ : ∃ X, dataB p.will.payload = X := ⟨_, rfl⟩
    rw [hWT, hWA, hWB] at HS2 HWS
    rw [hWT] at q0
    rw [hWA] at q1
    rw [hWB] at q2
    have k19 := cell_regrown (show wc.cell? ⟨w.heap.size, 19, none⟩ = some (.slice h.wp.a p.will.props.length h.wp.c) from (S7.out.cell 0 rfl 19).trans (pkC_19 _ _))
    have k15 := cell_regrown (show wc.cell? ⟨w.heap.size, 15, none⟩ = some (.string p.will.topic) from (S7.out.cell 0 rfl 15).trans (pkC_15 _ _))
    have k16 := cell_regrown (show wc.cell? ⟨w.heap.size, 16, none⟩ = some (.string p.will.payload) from (S7.out.cell 0 rfl 16).trans (pkC_16 _ _))
    have z1 : ¬ (9223372036854775807 < O1.size + WT.size) := by have := HZ1.out; have := HWS.out; omega
    have z2 : ¬ (9223372036854775807 < O1.size + WT.size + WA.size) := by have := HZ1.out; have := HWS.out; omega
    have z3 : ¬ (9223372036854775807 < O1.size + WT.size + WA.size + WB.size) := by have := HZ1.out; have := HWS.out; omega
    have HBW : Hid (∀ d os, Below wc.heap.size wc (Sort.grow (redrawn wc d) os)) := Lib.hid (fun d os => below_regrown wc d os)
    clear hWT hWA hWB
    go_wp2_with fail
    refine wp_region_quiet_below (by kernel_rfl) (by kernel_rfl) ?_
    repeat (go_big_quiet_step (first | with_reducible exact q0 _ _ | with_reducible exact q1 _ _ | with_reducible exact q2 _ _))
    refine wpQuiet_nil ?_
    intro _ hw'
    obtain ⟨⟨dq, osq⟩, hw''⟩ := hw'
    subst hw''
    have S8 := Lib.hid (S7.out.below (HBW.out dq osq))
    clear q0 q1 q2 k19 k15 k16 HBW k14 z1 z2 z3
    generalize Sort.grow (redrawn _ dq) osq = wq at *
    have HZ2 : Hid ((O1 ++ WT ++ WA ++ WB).size ≤ 262346900) := Lib.hid (by simp only [ByteArray.size_append]; have := HZ1.out; have := HWS.out; omega)
    have hc4 : catL [O1, WT, WA, WB] = O1 ++ WT ++ WA ++ WB := by refine ls_ext ?_; simp [catL, ls]
    rw [hc4] at HS2
    clear hc4
    obtain ⟨O2, hO2⟩ : ∃ O, O1 ++ WT ++ WA ++ WB = O := ⟨_, rfl⟩
    rw [hO2] at HS2 HZ2 ⊢
    clear hO2
    rw [HS2.out] at HS3
    have uk := (S8.out.cell 0 rfl 10).trans (pkC_10 _ _)
    obtain ⟨ub, hub⟩ : ∃ b, p.hasUser = b := ⟨_, rfl⟩
    rw [hub] at uk HS3
    clear hub
    cases ub
    · rw [if_neg (by decide)] at HS3
      rw [HS3.out] at HS4
      have qk := (S8.out.cell 0 rfl 12).trans (pkC_12 _ _)
      obtain ⟨qb, hqb⟩ : ∃ b, p.hasPass = b := ⟨_, rfl⟩
      rw [hqb] at qk HS4
      clear hqb
      cases qb
      · rw [if_neg (by decide)] at HS4
        go_wp2
        go_ret2
        exact ⟨by rw [HX.out, HS4.out]; rfl, S8.out.kept⟩
      · rw [if_pos rfl] at HS4
        have qf := (S8.out.cell 0 rfl 13).trans (pkC_13 _ _)
        go_wp2_with fail
        refine (text8_any p.pass _ HOK.out.2.1).mono ?_
        rintro e yq ⟨rfl, hb⟩
        have S8p := Lib.hid (S8.out.below hb); clear hb qk qf
        have qD := Lib.hid (dataB_size p.pass)
        obtain ⟨qX, hqX⟩ : ∃ X, dataB p.pass = X := ⟨_, rfl⟩
        rw [hqX] at HS4 qD ⊢
        clear hqX
        have qs : ¬ (9223372036854775807 < O2.size + qX.size) := by have := HZ2.out; have := qD.out; omega
        have HZp : Hid ((O2 ++ qX).size ≤ 262486900) := Lib.hid (by rw [ByteArray.size_append]; have := HZ2.out; have := qD.out; omega)
        have qc : catL [O2, qX] = O2 ++ qX := cat_two _ _
        rw [qc] at HS4
        clear qc
        obtain ⟨Op2, hOp2⟩ : ∃ O, O2 ++ qX = O := ⟨_, rfl⟩
        rw [hOp2] at HS4 HZp
        go_wp2
        go_ret2
        exact ⟨by rw [HX.out, HS4.out]; rfl, S8p.out.kept⟩
    · rw [if_pos rfl] at HS3
      have uf := (S8.out.cell 0 rfl 11).trans (pkC_11 _ _)
      go_wp2_with fail
      refine (text8_any p.user _ HOK.out.1).mono ?_
      rintro e yu ⟨rfl, hb⟩
      have S8u := Lib.hid (S8.out.below hb); clear hb uk uf
      have uD := Lib.hid (dataB_size p.user)
      obtain ⟨uX, huX⟩ : ∃ X, dataB p.user = X := ⟨_, rfl⟩
      rw [huX] at HS3 uD ⊢
      clear huX
      have us : ¬ (9223372036854775807 < O2.size + uX.size) := by have := HZ2.out; have := uD.out; omega
      have HZu : Hid ((O2 ++ uX).size ≤ 262416900) := Lib.hid (by rw [ByteArray.size_append]; have := HZ2.out; have := uD.out; omega)
      have uc : catL [O2, uX] = O2 ++ uX := cat_two _ _
      rw [uc] at HS3
      clear uc
      obtain ⟨Ou2, hOu2⟩ : ∃ O, O2 ++ uX = O := ⟨_, rfl⟩
      rw [hOu2] at HS3 HZu
      rw [HS3.out] at HS4
      have qk := (S8u.out.cell 0 rfl 12).trans (pkC_12 _ _)
      obtain ⟨qb, hqb⟩ : ∃ b, p.hasPass = b := ⟨_, rfl⟩
      rw [hqb] at qk HS4
      clear hqb
      cases qb
      · rw [if_neg (by decide)] at HS4
        go_wp2
        go_ret2
        exact ⟨by rw [HX.out, HS4.out]; rfl, S8u.out.kept⟩
      · rw [if_pos rfl] at HS4
        have qf := (S8u.out.cell 0 rfl 13).trans (pkC_13 _ _)
        go_wp2_with fail
        refine (text8_any p.pass _ HOK.out.2.1).mono ?_
        rintro e yq ⟨rfl, hb⟩
        have S8up := Lib.hid (S8u.out.below hb); clear hb qk qf
        have qD := Lib.hid (dataB_size p.pass)
        obtain ⟨qX, hqX⟩ : ∃ X, dataB p.pass = X := ⟨_, rfl⟩
        rw [hqX] at HS4 qD ⊢
        clear hqX
        have qs : ¬ (9223372036854775807 < Ou2.size + qX.size) := by have := HZu.out; have := qD.out; omega
        have HZp : Hid ((Ou2 ++ qX).size ≤ 262486900) := Lib.hid (by rw [ByteArray.size_append]; have := HZu.out; have := qD.out; omega)
        have qc : catL [Ou2, qX] = Ou2 ++ qX := cat_two _ _
        rw [qc] at HS4
        clear qc
        obtain ⟨Opu2, hOpu2⟩ : ∃ O, Ou2 ++ qX = O := ⟨_, rfl⟩
        rw [hOpu2] at HS4 HZp
        go_wp2
        go_ret2
        exact ⟨by rw [HX.out, HS4.out]; rfl, S8up.out.kept⟩
theorem ref8Body_any (v : Int) (p : Pk) (h : Hs) (w : World) (ip : PkIn w w.heap.size p h) (ok : PkOk p) :
    Calls Tryz.prog 8 #[.int .i64 v, pkV p h] w fun e w' => e = .returned (.tuple #[.string (cntB v p).1, .int .i64 (cntB v p).2]) ∧ Below w.heap.size w w' := by
  by_cases h2 : p.kind = 2
  · have hB : cntB v p = cntB2 v p := if_pos h2
    rw [hB]
    exact ref8Body2_any v p h w ip ok h2
  · have hB : cntB v p = if cntE v p = 0 then (cntS v p, 0) else (⟨#[]⟩, cntE v p) := if_neg h2
    rw [hB]
    exact ref8Body1_any v p h w ip ok h2
end Go.Proofs.YtngnaenbnmajdaaGreat
