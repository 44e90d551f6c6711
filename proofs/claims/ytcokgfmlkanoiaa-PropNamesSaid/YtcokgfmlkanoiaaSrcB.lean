/- prop's source: the walks of vary, data, written, text, binary, pair. -/
import Derived.Test.YtcokgfmlkanoiaaSrcA
import Derived.Test.YtcokgfmlkanoiaaVarD
namespace Go.Proofs.Ytcokgfmlkanoiaa
open Go.RowKit

theorem rv_lt : ∀ (l : List UInt8) (n k : Nat), k ≤ 3 → n < 2 ^ (7 * k) → (rv l n k).1 < 268435456
  | [], n, k, _, _ => by simp [rv]
  | b :: l, n, k, hk, hn => by
    have h1 := pushN_lt b hn
    rw [rv]
    split
    · split
      · simp
      · exact rv_lt l _ _ (by omega) h1
    · split
      · simp
      · have : 2 ^ (7 * (k + 1)) ≤ 2 ^ 28 := Nat.pow_le_pow_right (by omega) (by omega)
        have h28 : (2 : Nat) ^ 28 = 268435456 := by decide
        simp only; omega
theorem readV_lt (l : List UInt8) : (readV l).1 < 268435456 := rv_lt l 0 0 (by omega) (by simp)
theorem rest_len (t : ByteArray) (a : Nat) : (t.extract a t.size).size = t.size - a := by rw [ByteArray.size_extract]; omega
theorem rest_ls (t : ByteArray) (a : Nat) : ls (t.extract a t.size) = (ls t).drop a := by
  unfold ls
  rw [Lib.extract_data, List.take_of_length_le]
  simp

/-- What vary reads, without an error before: the number, the place, the error. -/
def varS (t : ByteArray) (a : Nat) : Nat × Nat × Int :=
  if (readV ((ls t).drop a)).2.2 = 0 then ((readV ((ls t).drop a)).1, a + (readV ((ls t).drop a)).2.1, 0) else ((readV ((ls t).drop a)).1, a, 5)
set_option maxHeartbeats 1000000 in
set_option maxRecDepth 10000 in
theorem vary_src (gs gc a : Nat) (t : ByteArray) (p : Pr) (w : World) (h : Src w gs gc t a 0 p) :
    Calls Try.prog 90 #[.pointer (some ⟨gs, 0, none⟩)] w (SrcOut gs gc t (varS t a).2.1 (varS t a).2.2 { p with n := (varS t a).1 } w) := by
  have H := Lib.hid h
  obtain ⟨⟨c0, -⟩, -⟩ := h.cells
  have hle := h.2.2.1
  have hts := h.2.2.2
  clear h
  have HR := Lib.hid (rest_ls t a)
  have hlt := readV_lt ((ls t).drop a)
  have hsz := readV_size ((ls t).drop a)
  rw [List.length_drop, ls_len] at hsz
  have HD : Hid (varS t a = if (readV ((ls t).drop a)).2.2 = 0 then ((readV ((ls t).drop a)).1, a + (readV ((ls t).drop a)).2.1, 0) else ((readV ((ls t).drop a)).1, a, 5)) := Lib.hid rfl
  have HVV := Lib.hid (readV_any (t.extract a t.size))
  rw [HR.out] at HVV
  generalize readV ((ls t).drop a) = R at *
  obtain ⟨m, k, x⟩ := R
  simp only at hlt hsz HD HVV
  have hw : IntKind.u32.wrap (m : Int) = (m : Int) := by rw [IntKind.wrap_u32]; omega
  have hrl := rest_len t a
  have HRL := Lib.hid hrl; clear hrl
  by_cases hx : x = 0
  · have HV : Hid (varS t a = (m, a + k, 0)) := Lib.hid (by rw [HD.out, if_pos hx])
    have HT : Hid (takeS t a 0 k = (t.extract a (a + k), a + k, 0)) := Lib.hid (by
      unfold takeS
      rw [if_pos rfl, if_pos (by simp [hasC]; omega)]
      simp)
    subst hx
    clear HD
    go_enter Try.func90, Try.ntmps90
    go_wp2_with fail
    refine (rest_any gc a t 0 _ H.out.2).mono ?_
    rintro e1 w1 ⟨rfl, hb⟩
    have H1 := Lib.hid (H.out.below hb); have HB := Lib.hid hb; clear hb
    go_wp2_with fail
    refine (HVV.out _ (by have := HRL.out; omega)).mono ?_
    rintro e1 w2 ⟨rfl, hb⟩
    have H2 := Lib.hid (H1.out.below hb); have HB2 := Lib.hid (HB.out.trans (hb.mono HB.out.size)); clear hb
    obtain ⟨⟨c0', -, c2, -⟩, -, f2, -⟩ := H2.out.cells
    have H3 := Lib.hid (H2.out.set 2 (.int .u32 m) { p with n := m } rfl)
    go_wp2_with fail
    refine (take_any gc a t 0 k _ H3.out.2).mono ?_
    rintro e1 w3 ⟨rfl, hc, hm⟩
    have HF := Lib.hid (And.intro (H3.out.cur hc hm) (((Mods.of_below (S := two gs gc) HB2.out).set gs 2 (.inl (.inl rfl)) _).trans (Mods.of_grown hm (.inr rfl))))
    clear hc hm
    go_wp2
    go_end0
    refine ⟨rfl, ?_, HF.out.2⟩
    have h2 := HF.out.1
    rw [HT.out] at h2
    rw [HV.out]
    exact h2
  · have e0 : (x != 0) = true := bne_iff_ne.2 hx
    have HV : Hid (varS t a = (m, a, 5)) := Lib.hid (by rw [HD.out, if_neg hx])
    have HT : Hid (takeS t a 5 k = (⟨#[]⟩, a, 5)) := Lib.hid (by unfold takeS; rw [if_neg (by decide)])
    clear hx HD
    go_enter Try.func90, Try.ntmps90
    go_wp2_with fail
    refine (rest_any gc a t 0 _ H.out.2).mono ?_
    rintro e1 w1 ⟨rfl, hb⟩
    have H1 := Lib.hid (H.out.below hb); have HB := Lib.hid hb; clear hb
    go_wp2_with fail
    refine (HVV.out _ (by have := HRL.out; omega)).mono ?_
    rintro e1 w2 ⟨rfl, hb⟩
    have H2 := Lib.hid (H1.out.below hb); have HB2 := Lib.hid (HB.out.trans (hb.mono HB.out.size)); clear hb
    obtain ⟨⟨c0', -⟩, -⟩ := H2.out.cells
    go_wp2_with fail
    refine (fail_any gc a t 0 5 _ H2.out.2).mono ?_
    rintro e1 w3 ⟨rfl, hc, hm⟩
    rw [if_pos rfl] at hc
    have H3 := Lib.hid (H2.out.cur hc hm); have HM := Lib.hid ((Mods.of_below (S := two gs gc) HB2.out).trans (Mods.of_grown hm (.inr rfl))); clear hc hm
    obtain ⟨⟨c0'', -, c2, -⟩, -, f2, -⟩ := H3.out.cells
    have H4 := Lib.hid (H3.out.set 2 (.int .u32 m) { p with n := m } rfl)
    go_wp2_with fail
    refine (take_any gc a t 5 k _ H4.out.2).mono ?_
    rintro e1 w4 ⟨rfl, hc, hm⟩
    have HF := Lib.hid (And.intro (H4.out.cur hc hm) ((HM.out.set gs 2 (.inl (.inl rfl)) _).trans (Mods.of_grown hm (.inr rfl))))
    clear hc hm
    go_wp2
    go_end0
    refine ⟨rfl, ?_, HF.out.2⟩
    have h2 := HF.out.1
    rw [HT.out] at h2
    rw [HV.out]
    exact h2

/-- What data answers. -/
def dataS (t : ByteArray) (a : Nat) (e : Int) : ByteArray × Nat × Int := needS t (needS t a e 2).2.1 (needS t a e 2).2.2 (getL (ls (needS t a e 2).1))
set_option maxHeartbeats 1000000 in
set_option maxRecDepth 10000 in
theorem data_src (gs gc a : Nat) (t : ByteArray) (e : Int) (p : Pr) (w : World) (h : Src w gs gc t a e p) :
    Calls Try.prog 102 #[.pointer (some ⟨gs, 0, none⟩)] w fun e' w' =>
      e' = .returned (.string (dataS t a e).1) ∧ Src w' gs gc t (dataS t a e).2.1 (dataS t a e).2.2 p ∧ w.grownBy w' (some gc) := by
  have H := Lib.hid h; clear h
  have hz := needS_size t a e 2 2 (by omega)
  have HD : Hid (dataS t a e = needS t (needS t a e 2).2.1 (needS t a e 2).2.2 (getL (ls (needS t a e 2).1))) := Lib.hid rfl
  go_enter Try.func102, Try.ntmps102
  go_wp2_with fail
  refine (need_any gs gc a t e 2 p _ H.out).mono ?_
  rintro e1 w1 ⟨rfl, hs, hm⟩
  go_wp2_with fail
  refine (get_short _ _ (by omega)).mono ?_
  rintro e1 w2 ⟨rfl, rfl⟩
  have h4 := getL_four (ls (needS t a e 2).1) 2 (by rw [ls_len]; exact hz) (by omega)
  have HS := Lib.hid hs; have HM := Lib.hid hm
  clear hs hm
  generalize getL (ls (needS t a e 2).1) = q at *
  generalize (needS t a e 2).2.1 = a1 at *
  generalize (needS t a e 2).2.2 = e2 at *
  have hw : IntKind.i64.wrap (q : Int) = (q : Int) := by rw [IntKind.wrap_i64]; omega
  go_wp2_with fail
  refine (need_any gs gc a1 t e2 q p _ HS.out).mono ?_
  rintro e1 w3 ⟨rfl, hs, hm⟩
  rw [← HD.out] at hs ⊢
  have HF := Lib.hid (And.intro hs (HM.out.trans hm))
  clear hs hm
  go_wp2
  go_ret
  exact ⟨rfl, HF.out⟩

theorem needS_small (t : ByteArray) (a : Nat) (e n : Int) (h : t.size ≤ 4611686018427387904) : (needS t a e n).1.size ≤ 4611686018427387904 := by
  unfold needS
  split
  · split
    · show (t.extract a (a + n.toNat)).size ≤ _
      rw [ByteArray.size_extract]
      omega
    · exact Nat.zero_le _
  · exact Nat.zero_le _
/-- What written answers. -/
def writS (t : ByteArray) (a : Nat) (e : Int) : ByteArray × Nat × Int :=
  ((dataS t a e).1, (dataS t a e).2.1, if (dataS t a e).2.2 = 0 ∧ validB (dataS t a e).1 = false then 6 else (dataS t a e).2.2)
set_option maxHeartbeats 1000000 in
set_option maxRecDepth 10000 in
theorem written_src (gs gc a : Nat) (t : ByteArray) (e : Int) (p : Pr) (w : World) (h : Src w gs gc t a e p) :
    Calls Try.prog 101 #[.pointer (some ⟨gs, 0, none⟩)] w fun e' w' =>
      e' = .returned (.string (writS t a e).1) ∧ Src w' gs gc t (writS t a e).2.1 (writS t a e).2.2 p ∧ w.grownBy w' (some gc) := by
  have H := Lib.hid h
  have hd : (dataS t a e).1.size ≤ 4611686018427387904 := needS_small _ _ _ _ h.2.2.2
  clear h
  have HD : Hid (writS t a e = ((dataS t a e).1, (dataS t a e).2.1, if (dataS t a e).2.2 = 0 ∧ validB (dataS t a e).1 = false then 6 else (dataS t a e).2.2)) := Lib.hid rfl
  go_enter Try.func101, Try.ntmps101
  go_wp2_with fail
  refine (data_src gs gc a t e p _ H.out).mono ?_
  rintro e1 w1 ⟨rfl, hs, hm⟩
  have HS := Lib.hid hs; have HM := Lib.hid hm; clear hs hm
  generalize dataS t a e = D at *
  obtain ⟨d, a1, e2⟩ := D
  simp only at hd HD HS
  go_wp2_with fail
  refine (valid_any d _ hd).mono ?_
  rintro e1 w2 ⟨rfl, hb⟩
  have H2 := Lib.hid (HS.out.below hb); have HM2 := Lib.hid (HM.out.trans (mod_below hb (some gc))); clear hb
  cases hv : validB d
  · have HV := Lib.hid hv; clear hv
    obtain ⟨⟨c0, -⟩, -⟩ := H2.out.cells
    go_wp2_with fail
    refine (fail_any gc a1 t e2 6 _ H2.out.2).mono ?_
    rintro e1 w3 ⟨rfl, hc, hm⟩
    have HF := Lib.hid (And.intro (H2.out.cur hc hm) (HM2.out.trans hm))
    clear hc hm
    go_wp2
    go_ret
    rw [HD.out]
    refine ⟨rfl, ?_, HF.out.2⟩
    have h2 := HF.out.1
    rw [HV.out]
    simpa using h2
  · have HV := Lib.hid hv; clear hv
    go_wp2
    go_ret
    rw [HD.out]
    refine ⟨rfl, ?_, HM2.out⟩
    have h2 := H2.out
    rw [HV.out]
    simpa using h2

set_option maxHeartbeats 1000000 in
set_option maxRecDepth 10000 in
theorem text_src (gs gc a : Nat) (t : ByteArray) (e : Int) (p : Pr) (w : World) (h : Src w gs gc t a e p) :
    Calls Try.prog 91 #[.pointer (some ⟨gs, 0, none⟩)] w (SrcOut gs gc t (writS t a e).2.1 (writS t a e).2.2 { p with text := (writS t a e).1 } w) := by
  have H := Lib.hid h; clear h
  go_enter Try.func91, Try.ntmps91
  go_wp2_with fail
  refine (written_src gs gc a t e p _ H.out).mono ?_
  rintro e1 w1 ⟨rfl, hs, hm⟩
  have HS := Lib.hid hs; have HM := Lib.hid hm
  obtain ⟨⟨-, -, -, c3, -⟩, -, -, f3, -⟩ := hs.cells
  clear hs hm
  generalize writS t a e = D at *
  obtain ⟨d, a1, e2⟩ := D
  have HF := Lib.hid (HS.out.set 3 (.string d) { p with text := d } rfl)
  go_wp2
  go_end0
  exact ⟨rfl, HF.out, (Mods.of_grown HM.out (.inr rfl)).set gs 3 (.inl (.inl rfl)) _⟩

set_option maxHeartbeats 1000000 in
set_option maxRecDepth 10000 in
theorem binary_src (gs gc a : Nat) (t : ByteArray) (e : Int) (p : Pr) (w : World) (h : Src w gs gc t a e p) :
    Calls Try.prog 92 #[.pointer (some ⟨gs, 0, none⟩)] w (SrcOut gs gc t (dataS t a e).2.1 (dataS t a e).2.2 { p with text := (dataS t a e).1 } w) := by
  have H := Lib.hid h; clear h
  go_enter Try.func92, Try.ntmps92
  go_wp2_with fail
  refine (data_src gs gc a t e p _ H.out).mono ?_
  rintro e1 w1 ⟨rfl, hs, hm⟩
  have HS := Lib.hid hs; have HM := Lib.hid hm
  obtain ⟨⟨-, -, -, c3, -⟩, -, -, f3, -⟩ := hs.cells
  clear hs hm
  generalize dataS t a e = D at *
  obtain ⟨d, a1, e2⟩ := D
  have HF := Lib.hid (HS.out.set 3 (.string d) { p with text := d } rfl)
  go_wp2
  go_end0
  exact ⟨rfl, HF.out, (Mods.of_grown HM.out (.inr rfl)).set gs 3 (.inl (.inl rfl)) _⟩

/-- What pair leaves. -/
def pairS (t : ByteArray) (a : Nat) (e : Int) : (ByteArray × ByteArray) × Nat × Int :=
  (((writS t a e).1, (writS t (writS t a e).2.1 (writS t a e).2.2).1), (writS t (writS t a e).2.1 (writS t a e).2.2).2.1, (writS t (writS t a e).2.1 (writS t a e).2.2).2.2)
set_option maxHeartbeats 1000000 in
set_option maxRecDepth 10000 in
theorem pair_src (gs gc a : Nat) (t : ByteArray) (e : Int) (p : Pr) (w : World) (h : Src w gs gc t a e p) :
    Calls Try.prog 93 #[.pointer (some ⟨gs, 0, none⟩)] w (SrcOut gs gc t (pairS t a e).2.1 (pairS t a e).2.2 { p with text := (pairS t a e).1.1, value := (pairS t a e).1.2 } w) := by
  have H := Lib.hid h; clear h
  have HP : Hid (pairS t a e = (((writS t a e).1, (writS t (writS t a e).2.1 (writS t a e).2.2).1), (writS t (writS t a e).2.1 (writS t a e).2.2).2.1, (writS t (writS t a e).2.1 (writS t a e).2.2).2.2)) := Lib.hid rfl
  go_enter Try.func93, Try.ntmps93
  go_wp2_with fail
  refine (written_src gs gc a t e p _ H.out).mono ?_
  rintro e1 w1 ⟨rfl, hs, hm⟩
  have HS := Lib.hid hs; have HM := Lib.hid hm
  obtain ⟨⟨-, -, -, c3, -⟩, -, -, f3, -⟩ := hs.cells
  clear hs hm
  generalize writS t a e = D at *
  obtain ⟨d, a1, e2⟩ := D
  simp only at HP HS
  have H2 := Lib.hid (HS.out.set 3 (.string d) { p with text := d } rfl)
  go_wp2_with fail
  refine (written_src gs gc a1 t e2 _ _ H2.out).mono ?_
  rintro e1 w2 ⟨rfl, hs, hm⟩
  have HS2 := Lib.hid hs
  have HM2 := Lib.hid ((((Mods.of_grown (S := two gs gc) HM.out (.inr rfl)).set gs 3 (.inl (.inl rfl)) _)).trans (Mods.of_grown hm (.inr rfl)))
  obtain ⟨⟨-, -, -, -, c4⟩, -, -, -, f4⟩ := hs.cells
  clear hs hm
  generalize writS t a1 e2 = D at *
  obtain ⟨d2, a2, e3⟩ := D
  simp only at HP HS2
  have HF := Lib.hid (HS2.out.set 4 (.string d2) { p with text := d, value := d2 } rfl)
  go_wp2
  go_end0
  rw [HP.out]
  exact ⟨rfl, HF.out, HM2.out.set gs 4 (.inl (.inl rfl)) _⟩
end Go.Proofs.Ytcokgfmlkanoiaa
