/- ustring: the walks of ReadBinary, Read. -/
import Derived.Test.YtpcaffimahapjaaGreatAckL
namespace Go.Proofs.YtpcaffimahapjaaGreat
open Go.RowKit
set_option maxHeartbeats 400000 in
theorem at8_any (g a : Nat) (t : ByteArray) (e : Int) (w : World) (h : Cur w g t a e) :
    Calls Tryz.prog 246 #[.pointer (some ⟨g, 0, none⟩)] w fun e' w' => e' = .returned (.int .i64 a) ∧ w = w' := by
  obtain ⟨⟨c0, c1, c2⟩, f0, f1, f2⟩ := h.cells
  clear h
  go_enter Tryz.func246, Tryz.ntmps246
  go_wp2
  go_ret
  exact ⟨rfl, rfl⟩
/-- Data that bytes begin with. -/
def readB (s : ByteArray) : ByteArray × Nat × Int :=
  if s.size < 2 then (⟨#[]⟩, 0, 3) else if s.size < 2 + numS s 0 0 2 then (⟨#[]⟩, 0, 3) else (s.extract 2 (2 + numS s 0 0 2), 2 + numS s 0 0 2, 0)
def readU (s : ByteArray) : ByteArray × Nat × Int := if (readB s).2.2 = 0 ∧ validB (readB s).1 = false then (⟨#[]⟩, 0, 6) else readB s
set_option maxHeartbeats 2000000 in
set_option maxRecDepth 10000 in
theorem readB_any (s : ByteArray) (w : World) (hs : s.size ≤ 4611686018427387904) :
    Calls Tryz.prog 207 #[.string s] w fun e w' => e = .returned (.tuple #[.string (readB s).1, .int .i64 (readB s).2.1, .int .i64 (readB s).2.2]) ∧ Below w.heap.size w w' := by
  have HS := Lib.hid hs
  go_enter Tryz.func207, Tryz.ntmps207
  go_wp2_with fail
  refine (newCur_any s _ hs).mono ?_
  rintro e w1 ⟨rfl, hc, hb⟩
  have HB1 := Lib.hid hb; have HC1 := Lib.hid hc; clear hb hc
  go_wp2_with fail
  refine (number_any w.heap.size 0 s 0 2 _ HC1.out (by decide)).mono ?_
  rintro e w2 ⟨rfl, hc, hm⟩
  have HB2 := Lib.hid (below_mod HB1.out hm HB1.out.size (Nat.le_refl _)); have HC2 := Lib.hid hc; clear hc hm
  have hlt : numS s 0 0 2 < 65536 := by
    unfold numS
    have h1 := getL_lt (ls (takeS s 0 0 2).1)
    have h2 : (ls (takeS s 0 0 2).1).length ≤ 2 := by rw [ls_len]; exact takeS_size (by omega) 0 2 2 (by decide)
    have h3 : 256 ^ (ls (takeS s 0 0 2).1).length ≤ 256 ^ 2 := Nat.pow_le_pow_right (by omega) h2
    omega
  have HE : Hid (readB s = if s.size < 2 then (⟨#[]⟩, 0, 3) else if s.size < 2 + numS s 0 0 2 then (⟨#[]⟩, 0, 3) else (s.extract 2 (2 + numS s 0 0 2), 2 + numS s 0 0 2, 0)) := Lib.hid rfl
  have HT2 : Hid (¬ s.size < 2 → takeS s 0 0 2 = (s.extract 0 2, 2, 0)) := Lib.hid fun h => take_yes (k := 2) (by omega)
  have HT3 : Hid (s.size < 2 → takeS s 0 0 2 = (⟨#[]⟩, 0, 3)) := Lib.hid fun h => take_no (k := 2) (by omega)
  generalize numS s 0 0 2 = m at *
  have hw : IntKind.i64.wrap (m : Int) = (m : Int) := by rw [IntKind.wrap_i64]; omega
  by_cases h2 : s.size < 2
  · have HX : Hid (readB s = (⟨#[]⟩, 0, 3)) := Lib.hid (by rw [HE.out, if_pos h2])
    have hc3 := HC2.out
    rw [HT3.out h2] at hc3
    have HC3 := Lib.hid hc3
    clear hc3 h2
    go_wp2_with fail
    refine (take_any w.heap.size 0 s 3 m _ HC3.out).mono ?_
    rintro e w3 ⟨rfl, hc, hm⟩
    rw [takeS_bad (by decide)] at hc ⊢
    have HB3 := Lib.hid (below_mod HB2.out hm HB2.out.size (Nat.le_refl _)); have HC4 := Lib.hid hc; clear hc hm
    go_wp2_with fail
    refine (err_any w.heap.size 0 s 3 _ HC4.out).mono ?_
    rintro e w4 ⟨rfl, rfl⟩
    go_wp2
    go_ret3
    exact ⟨by rw [HX.out]; rfl, HB3.out⟩
  have hc3 := HC2.out
  rw [HT2.out h2] at hc3
  have HC3 := Lib.hid hc3
  clear hc3
  by_cases h3 : s.size < 2 + m
  · have HX : Hid (readB s = (⟨#[]⟩, 0, 3)) := Lib.hid (by rw [HE.out, if_neg h2, if_pos h3])
    have HT : Hid (takeS s 2 0 m = (⟨#[]⟩, 2, 3)) := Lib.hid (take_no (by omega))
    clear h2 h3
    go_wp2_with fail
    refine (take_any w.heap.size 2 s 0 m _ HC3.out).mono ?_
    rintro e w3 ⟨rfl, hc, hm⟩
    rw [HT.out] at hc ⊢
    have HB3 := Lib.hid (below_mod HB2.out hm HB2.out.size (Nat.le_refl _)); have HC4 := Lib.hid hc; clear hc hm
    go_wp2_with fail
    refine (err_any w.heap.size 2 s 3 _ HC4.out).mono ?_
    rintro e w4 ⟨rfl, rfl⟩
    go_wp2
    go_ret3
    exact ⟨by rw [HX.out]; rfl, HB3.out⟩
  · have HX : Hid (readB s = (s.extract 2 (2 + m), 2 + m, 0)) := Lib.hid (by rw [HE.out, if_neg h2, if_neg h3])
    have HT : Hid (takeS s 2 0 m = (s.extract 2 (2 + m), 2 + m, 0)) := Lib.hid (take_yes (by omega))
    clear h2 h3
    go_wp2_with fail
    refine (take_any w.heap.size 2 s 0 m _ HC3.out).mono ?_
    rintro e w3 ⟨rfl, hc, hm⟩
    rw [HT.out] at hc ⊢
    have HB3 := Lib.hid (below_mod HB2.out hm HB2.out.size (Nat.le_refl _)); have HC4 := Lib.hid hc; clear hc hm
    go_wp2_with fail
    refine (err_any w.heap.size (2 + m) s 0 _ HC4.out).mono ?_
    rintro e w4 ⟨rfl, rfl⟩
    go_wp2_with fail
    refine (at8_any w.heap.size (2 + m) s 0 _ HC4.out).mono ?_
    rintro e w4 ⟨rfl, rfl⟩
    go_wp2
    go_ret3
    exact ⟨by rw [HX.out]; rfl, HB3.out⟩
set_option maxHeartbeats 1000000 in
set_option maxRecDepth 10000 in
theorem readU_any (s : ByteArray) (w : World) (hs : s.size ≤ 4611686018427387904) :
    Calls Tryz.prog 134 #[.string s] w fun e w' => e = .returned (.tuple #[.string (readU s).1, .int .i64 (readU s).2.1, .int .i64 (readU s).2.2]) ∧ Below w.heap.size w w' := by
  have HE : Hid (readU s = if (readB s).2.2 = 0 ∧ validB (readB s).1 = false then (⟨#[]⟩, 0, 6) else readB s) := Lib.hid rfl
  have hz : (readB s).1.size ≤ 4611686018427387904 := by
    unfold readB
    split
    · exact Nat.zero_le _
    · split
      · exact Nat.zero_le _
      · show (s.extract _ _).size ≤ _
        rw [ByteArray.size_extract]; omega
  go_enter Tryz.func134, Tryz.ntmps134
  go_wp2_with fail
  refine (readB_any s _ hs).mono ?_
  rintro e w1 ⟨rfl, hb⟩
  have HB := Lib.hid hb; clear hb hs
  generalize readB s = R at *
  obtain ⟨x, n, e⟩ := R
  simp only at HE hz ⊢
  by_cases h0 : e = 0
  · subst h0
    go_wp2_with fail
    refine (valid_any x _ hz).mono ?_
    rintro e w2 ⟨rfl, hb⟩
    have HB2 := Lib.hid (HB.out.trans (hb.mono HB.out.size)); clear hb
    cases hv : validB x
    · have HX : Hid (readU s = (⟨#[]⟩, 0, 6)) := Lib.hid (by rw [HE.out]; simp [hv])
      clear hv
      go_wp2
      go_ret3
      exact ⟨by rw [HX.out]; rfl, HB2.out⟩
    · have HX : Hid (readU s = (x, n, 0)) := Lib.hid (by rw [HE.out]; simp [hv])
      clear hv
      go_wp2
      go_ret3
      exact ⟨by rw [HX.out]; rfl, HB2.out⟩
  · have e0 : (e == 0) = false := beq_eq_false_iff_ne.2 h0
    have HX : Hid (readU s = (x, n, e)) := Lib.hid (by rw [HE.out]; simp [h0])
    clear h0
    go_wp2
    go_ret3
    exact ⟨by rw [HX.out]; rfl, HB.out⟩
end Go.Proofs.YtpcaffimahapjaaGreat
