/- Reference 05: text, next. -/
import Derived.Test.YtpcaffimahapjaaGreatRfH
import Derived.Test.YtpcaffimahapjaaGreatMLis
namespace Go.Proofs.YtpcaffimahapjaaGreat
open Go.RowKit
attribute [local go_sem] row_f0 row_f1
/-- What text tells of s behind a place. -/
def txS (s : ByteArray) (a sh : Nat) : ByteArray × Nat × Int :=
  if (dataS s a 0).2.2 ≠ 0 then (⟨#[]⟩, 0, 5) else if sh ≠ 6 ∧ validB (dataS s a 0).1 = false then (⟨#[]⟩, 0, 6) else ((dataS s a 0).1, (dataS s a 0).2.1, 0)
theorem get_yes {t : ByteArray} {a k : Nat} (h : a + k ≤ t.size) : needS t a 0 k = (t.extract a (a + k), a + k, 0) := needS_yes h
theorem need_no {t : ByteArray} {a k : Nat} (h : ¬ a + k ≤ t.size) : needS t a 0 k = (⟨#[]⟩, a, 5) := by
  have hh : hasC t a k = false := by simp [hasC]; omega
  unfold needS
  rw [if_pos rfl, hh]
  rfl
theorem ex_ex {t : ByteArray} {a i j : Nat} (hj : a + j ≤ t.size) : (t.extract a t.size).extract i j = t.extract (a + i) (a + j) := by
  refine ls_ext ?_
  have e1 : ∀ (s : ByteArray) (i j : Nat), ls (s.extract i j) = (ls s).extract i j := fun s i j => by
    unfold ls
    simp [ByteArray.data_extract]
  rw [e1, e1, e1]
  simp only [List.extract_eq_take_drop, List.drop_take, List.drop_drop, List.take_take]
  congr 1
  rw [Nat.min_def]
  split <;> omega
/-- Binary data read behind a place are those that the cursor finds. -/
theorem readB_data {s : ByteArray} {a : Nat} (ha : a ≤ s.size) : ((dataS s a 0).2.2 ≠ 0 ∧ (readB (s.extract a s.size)).2.2 ≠ 0) ∨
    ((dataS s a 0).2.2 = 0 ∧ readB (s.extract a s.size) = ((dataS s a 0).1, (readB (s.extract a s.size)).2.1, 0) ∧ (dataS s a 0).2.1 = a + (readB (s.extract a s.size)).2.1 ∧ (dataS s a 0).2.1 ≤ s.size) := by
  have hz : (s.extract a s.size).size = s.size - a := by rw [ByteArray.size_extract]; omega
  by_cases h2 : a + 2 ≤ s.size
  · have e1 : needS s a 0 (2 : Nat) = (s.extract a (a + 2), a + 2, 0) := needS_yes h2
    have e2 : numS (s.extract a s.size) 0 0 2 = getL (ls (s.extract a (a + 2))) := by
      unfold numS
      have : takeS (s.extract a s.size) 0 0 (2 : Nat) = ((s.extract a s.size).extract 0 (0 + 2), 0 + 2, 0) := take_yes (by omega)
      rw [show ((2 : Nat) : Int) = 2 from rfl] at this
      rw [this, ex_ex (by omega)]
      show getL (ls (s.extract (a + 0) (a + (0 + 2)))) = _
      rw [Nat.add_zero, Nat.zero_add]
    have e3 : dataS s a 0 = needS s (a + 2) 0 (getL (ls (s.extract a (a + 2))) : Nat) := by
      unfold dataS
      rw [show ((2 : Nat) : Int) = 2 from rfl] at e1
      rw [e1]
    generalize hg : getL (ls (s.extract a (a + 2))) = g at *
    by_cases h3 : a + 2 + g ≤ s.size
    · right
      rw [e3, needS_yes h3]
      have : readB (s.extract a s.size) = (s.extract (a + 2) (a + (2 + g)), 2 + g, 0) := by
        unfold readB
        rw [e2, if_neg (by omega), if_neg (by omega), ex_ex (by omega)]
      rw [this]
      exact ⟨rfl, by rw [show a + (2 + g) = a + 2 + g by omega], by simp only; omega, by simp only; omega⟩
    · left
      rw [e3, need_no h3]
      refine ⟨by show (5 : Int) ≠ 0; decide, ?_⟩
      unfold readB
      rw [e2, if_neg (by omega), if_pos (by omega)]
      decide
  · left
    have e1 : needS s a 0 (2 : Nat) = (⟨#[]⟩, a, 5) := need_no h2
    have e3 : dataS s a 0 = (⟨#[]⟩, a, 5) := by
      unfold dataS
      rw [show ((2 : Nat) : Int) = 2 from rfl] at e1
      rw [e1]
      rfl
    rw [e3]
    refine ⟨by show (5 : Int) ≠ 0; decide, ?_⟩
    unfold readB
    rw [if_pos (by omega)]
    decide
theorem data_five (t : ByteArray) (a : Nat) : (dataS t a 0).2.2 = 0 ∨ (dataS t a 0).2.2 = 5 := by
  have h : ∀ (b : Nat) (e n : Int), e = 0 ∨ e = 5 → (needS t b e n).2.2 = 0 ∨ (needS t b e n).2.2 = 5 := by
    intro b e n he
    unfold needS
    split
    · split
      · exact .inl rfl
      · exact .inr rfl
    · exact he
  exact h _ _ _ (h _ _ _ (.inl rfl))
set_option maxHeartbeats 1000000 in
set_option maxRecDepth 10000 in
theorem refTx_any (s : ByteArray) (a : Nat) (A : Int) (hA : A = (a : Int)) (sh : Nat) (w : World) (ha : a ≤ s.size) (hs : s.size ≤ 4611686018427387904) :
    Calls Tryz.prog 179 #[.string s, .int .i64 A, .int .i64 sh] w fun e w' => e = .returned (.tuple #[.string (txS s a sh).1, .int .i64 (txS s a sh).2.1, .int .i64 (txS s a sh).2.2]) ∧ w = w' := by
  subst hA
  have HXX : Hid (txS s a sh = if (dataS s a 0).2.2 ≠ 0 then (⟨#[]⟩, 0, 5) else if sh ≠ 6 ∧ validB (dataS s a 0).1 = false then (⟨#[]⟩, 0, 6) else ((dataS s a 0).1, (dataS s a 0).2.1, 0)) := Lib.hid rfl
  have hz : (s.extract a s.size).size ≤ 4611686018427387904 := by rw [ByteArray.size_extract]; omega
  have i1 : (0 : Int) ≤ (a : Int) := by omega
  have i2 : (a : Int) ≤ (s.size : Int) := by omega
  have hr := readB_data ha
  obtain ⟨Z, hZ⟩ : ∃ Z, s.extract a s.size = Z := ⟨_, rfl⟩
  rw [hZ] at hz hr
  have HZ := Lib.hid hz; have HZE := Lib.hid hZ
  have hcut : s.extract a s.size = Z := hZ
  clear hz hZ
  obtain ⟨T, N, F, hR⟩ : ∃ T N F, readB Z = (T, N, F) := ⟨_, _, _, rfl⟩
  rw [hR] at hr
  have HR := Lib.hid hR; clear hR
  rcases hr with ⟨h1, h2⟩ | ⟨h1, h2, h3, h4⟩
  · have HX : Hid (txS s a sh = (⟨#[]⟩, 0, 5)) := Lib.hid (by rw [HXX.out, if_pos h1])
    have e0 : (F != 0) = true := bne_iff_ne.2 h2
    clear h1 h2
    go_enter Tryz.func179, Tryz.ntmps179
    go_wp2_with fail
    refine (refReadB_any Z _ HZ.out).mono ?_
    rintro e w1 ⟨rfl, rfl⟩
    rw [HR.out]
    simp only
    go_wp2
    go_ret3
    exact ⟨by rw [HX.out]; rfl, rfl⟩
  obtain ⟨rfl, rfl⟩ : T = (dataS s a 0).1 ∧ F = 0 := by cases h2; exact ⟨rfl, rfl⟩
  have hX1 : txS s a sh = if sh ≠ 6 ∧ validB (dataS s a 0).1 = false then (⟨#[]⟩, 0, 6) else ((dataS s a 0).1, a + N, 0) := by rw [HXX.out, if_neg (by simpa using h1)]; simp only at h3; rw [h3]
  have HT : Hid ((dataS s a 0).1.size ≤ 4611686018427387904) := Lib.hid (by
    have := (dataS_back ha h1).1
    omega)
  have hN : a + N ≤ s.size := by simp only at h3; omega
  have HX1 := Lib.hid hX1
  have w1 : IntKind.i64.wrap ((a : Int) + (N : Int)) = (a : Int) + (N : Int) := by rw [IntKind.wrap_i64]; omega
  clear h1 h2 h3 h4 hX1 HXX
  generalize (dataS s a 0).1 = T at *
  by_cases h6 : sh = 6
  · have HX : Hid (txS s a sh = (T, a + N, 0)) := Lib.hid (by rw [HX1.out, if_neg (fun x => x.1 h6)])
    have e6 : ((sh : Int) != 6) = false := by simp; omega
    clear h6
    go_enter Tryz.func179, Tryz.ntmps179
    go_wp2_with fail
    refine (refReadB_any Z _ HZ.out).mono ?_
    rintro e w1 ⟨rfl, rfl⟩
    rw [HR.out]
    simp only
    go_wp2
    go_ret3
    exact ⟨by rw [HX.out]; rfl, rfl⟩
  have e6 : ((sh : Int) != 6) = true := bne_iff_ne.2 (by omega)
  cases hv : validB T
  · have HX : Hid (txS s a sh = (⟨#[]⟩, 0, 6)) := Lib.hid (by rw [HX1.out, if_pos ⟨h6, hv⟩])
    have HV := Lib.hid hv; clear hv h6
    go_enter Tryz.func179, Tryz.ntmps179
    go_wp2_with fail
    refine (refReadB_any Z _ HZ.out).mono ?_
    rintro e w1 ⟨rfl, rfl⟩
    rw [HR.out]
    simp only
    go_wp2_with fail
    refine (refValid_any T _ HT.out).mono ?_
    rintro e w1 ⟨rfl, rfl⟩
    rw [HV.out]
    go_wp2
    go_ret3
    exact ⟨by rw [HX.out]; rfl, rfl⟩
  · have HX : Hid (txS s a sh = (T, a + N, 0)) := Lib.hid (by rw [HX1.out, if_neg (fun x => by rw [hv] at x; cases x.2)])
    have HV := Lib.hid hv; clear hv h6
    go_enter Tryz.func179, Tryz.ntmps179
    go_wp2_with fail
    refine (refReadB_any Z _ HZ.out).mono ?_
    rintro e w1 ⟨rfl, rfl⟩
    rw [HR.out]
    simp only
    go_wp2_with fail
    refine (refValid_any T _ HT.out).mono ?_
    rintro e w1 ⟨rfl, rfl⟩
    rw [HV.out]
    go_wp2
    go_ret3
    exact ⟨by rw [HX.out]; rfl, rfl⟩
end Go.Proofs.YtpcaffimahapjaaGreat
