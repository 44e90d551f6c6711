/- A part of what the laws stand on: MLis. -/
import Derived.Test.YtbdgkkmbnahgiaaGreatDoorMsG0MPrp
namespace Go.Proofs.YtbdgkkmbnahgiaaGreatDoor
open Go.RowKit

abbrev SrT : TypeId := 183
def srcC (gc : Nat) (p : Pr) : Array Value := #[.pointer (some ⟨gc, 0, none⟩), .int .i64 p.id, .int .u32 p.n, .string p.text, .string p.value]
/-- A source: its block, its cursor's block; the text, the place, the error; the property that is read. -/
def Src (w : World) (gs gc : Nat) (t : ByteArray) (a : Nat) (e : Int) (p : Pr) : Prop := Bk w gs SrT (srcC gc p) ∧ Cur w gc t a e
def two (gs gc : Nat) : Nat → Prop := fun i => i = gs ∨ i = gc
section
variable {w w' : World} {gs gc a a' : Nat} {t : ByteArray} {e e' : Int} {p : Pr}
theorem Src.ne (h : Src w gs gc t a e p) : gs ≠ gc := by
  rintro rfl
  have h1 := h.1
  have h2 := h.2.1
  unfold Bk at h1 h2
  rw [h1] at h2
  simp only [Option.some.injEq, Obj.cells.injEq] at h2
  exact absurd h2.2.1 (by decide)
theorem Src.cells (h : Src w gs gc t a e p) : (w.cell? ⟨gs, 0, none⟩ = some (.pointer (some ⟨gc, 0, none⟩)) ∧ w.cell? ⟨gs, 1, none⟩ = some (.int .i64 p.id) ∧ w.cell? ⟨gs, 2, none⟩ = some (.int .u32 p.n) ∧ w.cell? ⟨gs, 3, none⟩ = some (.string p.text) ∧ w.cell? ⟨gs, 4, none⟩ = some (.string p.value)) ∧
    w.frozen? ⟨gs, 1, none⟩ = false ∧ w.frozen? ⟨gs, 2, none⟩ = false ∧ w.frozen? ⟨gs, 3, none⟩ = false ∧ w.frozen? ⟨gs, 4, none⟩ = false :=
  ⟨⟨h.1.cell 0, h.1.cell 1, h.1.cell 2, h.1.cell 3, h.1.cell 4⟩, h.1.free 1, h.1.free 2, h.1.free 3, h.1.free 4⟩
theorem Src.below (h : Src w gs gc t a e p) (hb : Below w.heap.size w w') : Src w' gs gc t a e p := ⟨h.1.below hb h.1.lt, h.2.below hb⟩
theorem Src.cur (h : Src w gs gc t a e p) (hc : Cur w' gc t a' e') (hm : w.grownBy w' (some gc)) : Src w' gs gc t a' e' p := ⟨(hm.block gs h.1.lt (fun x => h.ne (by cases x; rfl))).trans h.1, hc⟩
theorem Src.set (h : Src w gs gc t a e p) (i : Nat) (u : Value) (q : Pr) (hq : (srcC gc p).setIfInBounds i u = srcC gc q) : Src (w.setCell ⟨gs, i, none⟩ u) gs gc t a e q :=
  ⟨h.1.upd i u hq, h.2.1.other (Ne.symm h.ne) _, h.2.2⟩
end

/-- What need answers. -/
def needS (t : ByteArray) (a : Nat) (e n : Int) : ByteArray × Nat × Int :=
  if e = 0 then (if hasC t a n = true then (t.extract a (a + n.toNat), a + n.toNat, 0) else (⟨#[]⟩, a, 5)) else (⟨#[]⟩, a, e)
theorem needS_take (t : ByteArray) (a : Nat) (e n : Int) (h : e ≠ 0 ∨ hasC t a n = true) : needS t a e n = takeS t a e n := by
  unfold needS takeS
  rcases h with h | h
  · rw [if_neg h, if_neg h]
  · rw [h]; rfl

set_option maxHeartbeats 1000000 in
set_option maxRecDepth 10000 in
theorem need_any (gs gc a : Nat) (t : ByteArray) (e n : Int) (p : Pr) (w : World) (h : Src w gs gc t a e p) :
    Calls Tryz.prog 298 #[.pointer (some ⟨gs, 0, none⟩), .int .i64 n] w fun e' w' =>
      e' = .returned (.string (needS t a e n).1) ∧ Src w' gs gc t (needS t a e n).2.1 (needS t a e n).2.2 p ∧ w.grownBy w' (some gc) := by
  have H := Lib.hid h
  obtain ⟨⟨c0, -⟩, -⟩ := h.cells
  have hle := h.2.2.1
  have hts := h.2.2.2
  clear h
  by_cases he : e = 0
  · subst he
    by_cases hh : hasC t a n = true
    · have HN := Lib.hid (needS_take t a 0 n (.inr hh))
      have hn : 0 ≤ n ∧ n ≤ (t.size : Int) - a := by simpa [hasC] using hh
      have d1 : decide (n < 0) = false := decide_eq_false (by omega)
      have d2 : decide (((t.size - a : Nat) : Int) < n) = false := decide_eq_false (by omega)
      have hn1 : 0 ≤ n := hn.1
      have hn2 : n ≤ ((t.size - a : Nat) : Int) := by omega
      clear hh hn
      go_enter Tryz.func298, Tryz.ntmps298
      go_wp2_with fail
      refine (err_any gc a t 0 _ H.out.2).mono ?_
      rintro e1 w1 ⟨rfl, rfl⟩
      go_wp2_with fail
      refine (left_any gc a t 0 _ H.out.2).mono ?_
      rintro e1 w1 ⟨rfl, hb⟩
      have HB := Lib.hid hb
      have H1 := Lib.hid (H.out.below hb); clear hb
      obtain ⟨⟨c0', -⟩, -⟩ := H1.out.cells
      go_wp2_with fail
      refine (take_any gc a t 0 n _ H1.out.2).mono ?_
      rintro e1 w2 ⟨rfl, hc, hm⟩
      have HF := Lib.hid (And.intro (H1.out.cur hc hm) ((mod_below HB.out (some gc)).trans hm))
      clear hc hm
      go_wp2
      go_ret
      rw [HN.out]
      exact ⟨rfl, HF.out⟩
    · have HN : Hid (needS t a 0 n = (⟨#[]⟩, a, 5)) := Lib.hid (by unfold needS; rw [if_pos rfl, if_neg hh])
      have HT : Hid (takeS t a 5 n = (⟨#[]⟩, a, 5)) := Lib.hid (by unfold takeS; rw [if_neg (by decide)])
      have hn : ¬ (0 ≤ n ∧ n ≤ (t.size : Int) - a) := by simpa [hasC] using hh
      clear hh
      by_cases hneg : n < 0
      · have d1 : decide (n < 0) = true := decide_eq_true hneg
        clear hn
        go_enter Tryz.func298, Tryz.ntmps298
        go_wp2_with fail
        refine (err_any gc a t 0 _ H.out.2).mono ?_
        rintro e1 w1 ⟨rfl, rfl⟩
        go_wp2_with fail
        refine (fail_any gc a t 0 5 _ H.out.2).mono ?_
        rintro e1 w1 ⟨rfl, hc, hm⟩
        rw [if_pos rfl] at hc
        have H1 := Lib.hid (H.out.cur hc hm); have HM := Lib.hid hm; clear hc hm
        obtain ⟨⟨c0', -⟩, -⟩ := H1.out.cells
        go_wp2_with fail
        refine (take_any gc a t 5 n _ H1.out.2).mono ?_
        rintro e1 w2 ⟨rfl, hc, hm⟩
        have HF := Lib.hid (And.intro (H1.out.cur hc hm) (HM.out.trans hm))
        clear hc hm
        go_wp2
        go_ret
        rw [HN.out]
        have h2 := HF.out
        rw [HT.out] at h2 ⊢
        exact ⟨rfl, h2⟩
      · have d1 : decide (n < 0) = false := decide_eq_false hneg
        have hn1 : 0 ≤ n := by omega
        have hn2 : ((t.size - a : Nat) : Int) < n := by omega
        clear hn hneg
        go_enter Tryz.func298, Tryz.ntmps298
        go_wp2_with fail
        refine (err_any gc a t 0 _ H.out.2).mono ?_
        rintro e1 w1 ⟨rfl, rfl⟩
        go_wp2_with fail
        refine (left_any gc a t 0 _ H.out.2).mono ?_
        rintro e1 w0 ⟨rfl, hb⟩
        have HB := Lib.hid hb
        have H0 := Lib.hid (H.out.below hb); clear hb
        obtain ⟨⟨c0', -⟩, -⟩ := H0.out.cells
        go_wp2_with fail
        refine (fail_any gc a t 0 5 _ H0.out.2).mono ?_
        rintro e1 w1 ⟨rfl, hc, hm⟩
        rw [if_pos rfl] at hc
        have H1 := Lib.hid (H0.out.cur hc hm); have HM := Lib.hid hm; clear hc hm
        obtain ⟨⟨c0'', -⟩, -⟩ := H1.out.cells
        go_wp2_with fail
        refine (take_any gc a t 5 n _ H1.out.2).mono ?_
        rintro e1 w2 ⟨rfl, hc, hm⟩
        have HF := Lib.hid (And.intro (H1.out.cur hc hm) (((mod_below HB.out (some gc)).trans HM.out).trans hm))
        clear hc hm
        go_wp2
        go_ret
        rw [HN.out]
        have h2 := HF.out
        rw [HT.out] at h2 ⊢
        exact ⟨rfl, h2⟩
  · have e0 : (e == 0) = false := beq_eq_false_iff_ne.2 he
    have HN := Lib.hid (needS_take t a e n (.inl he))
    clear he
    go_enter Tryz.func298, Tryz.ntmps298
    go_wp2_with fail
    refine (err_any gc a t e _ H.out.2).mono ?_
    rintro e1 w1 ⟨rfl, rfl⟩
    go_wp2_with fail
    refine (take_any gc a t e n _ H.out.2).mono ?_
    rintro e1 w2 ⟨rfl, hc, hm⟩
    have HF := Lib.hid (And.intro (H.out.cur hc hm) hm)
    clear hc hm
    go_wp2
    go_ret
    rw [HN.out]
    exact ⟨rfl, HF.out⟩

theorem needS_size (t : ByteArray) (a : Nat) (e n : Int) (k : Nat) (hn : n ≤ k) : (needS t a e n).1.size ≤ k := by
  unfold needS
  split
  · split
    · show (t.extract a (a + n.toNat)).size ≤ k
      rw [ByteArray.size_extract]
      omega
    · exact Nat.zero_le _
  · exact Nat.zero_le _
theorem getL_four (l : List UInt8) (k : Nat) (h : l.length ≤ k) (hk : k ≤ 4) : getL l < 4294967296 := by
  have h1 := getL_lt l
  have h2 : 256 ^ l.length ≤ 256 ^ 4 := Nat.pow_le_pow_right (by omega) (by omega)
  have h3 : (256 : Nat) ^ 4 = 4294967296 := by decide
  omega

/-- What reading a number leaves. -/
def SrcOut (gs gc : Nat) (t : ByteArray) (a : Nat) (e : Int) (p : Pr) (w : World) (e' : Ending) (w' : World) : Prop := e' = .returned (.tuple #[]) ∧ Src w' gs gc t a e p ∧ Mods (two gs gc) w w'

set_option maxHeartbeats 1000000 in
set_option maxRecDepth 10000 in
theorem one_src (gs gc a : Nat) (t : ByteArray) (e : Int) (p : Pr) (w : World) (h : Src w gs gc t a e p) :
    Calls Tryz.prog 219 #[.pointer (some ⟨gs, 0, none⟩)] w (SrcOut gs gc t (needS t a e 1).2.1 (needS t a e 1).2.2 { p with n := getL (ls (needS t a e 1).1) } w) := by
  have H := Lib.hid h; clear h
  have hz := needS_size t a e 1 1 (by omega)
  go_enter Tryz.func219, Tryz.ntmps219
  go_wp2_with fail
  refine (need_any gs gc a t e 1 p _ H.out).mono ?_
  rintro e1 w1 ⟨rfl, hs, hm⟩
  go_wp2_with fail
  refine (get_short _ _ (by omega)).mono ?_
  rintro e1 w2 ⟨rfl, rfl⟩
  have h4 := getL_four (ls (needS t a e 1).1) 1 (by rw [ls_len]; exact hz) (by omega)
  have HS := Lib.hid hs; have HM := Lib.hid hm
  obtain ⟨⟨-, -, c2, -⟩, -, f2, -⟩ := hs.cells
  clear hs hm
  generalize getL (ls (needS t a e 1).1) = q at *
  have hw : IntKind.u32.wrap (q : Int) = (q : Int) := by rw [IntKind.wrap_u32]; omega
  have HF := Lib.hid (HS.out.set 2 (.int .u32 q) { p with n := q } rfl)
  go_wp2
  go_end0
  exact ⟨rfl, HF.out, (Mods.of_grown HM.out (.inr rfl)).set gs 2 (.inl (.inl rfl)) _⟩

set_option maxHeartbeats 1000000 in
set_option maxRecDepth 10000 in
theorem two_src (gs gc a : Nat) (t : ByteArray) (e : Int) (p : Pr) (w : World) (h : Src w gs gc t a e p) :
    Calls Tryz.prog 220 #[.pointer (some ⟨gs, 0, none⟩)] w (SrcOut gs gc t (needS t a e 2).2.1 (needS t a e 2).2.2 { p with n := getL (ls (needS t a e 2).1) } w) := by
  have H := Lib.hid h; clear h
  have hz := needS_size t a e 2 2 (by omega)
  go_enter Tryz.func220, Tryz.ntmps220
  go_wp2_with fail
  refine (need_any gs gc a t e 2 p _ H.out).mono ?_
  rintro e1 w1 ⟨rfl, hs, hm⟩
  go_wp2_with fail
  refine (get_short _ _ (by omega)).mono ?_
  rintro e1 w2 ⟨rfl, rfl⟩
  have h4 := getL_four (ls (needS t a e 2).1) 2 (by rw [ls_len]; exact hz) (by omega)
  have HS := Lib.hid hs; have HM := Lib.hid hm
  obtain ⟨⟨-, -, c2, -⟩, -, f2, -⟩ := hs.cells
  clear hs hm
  generalize getL (ls (needS t a e 2).1) = q at *
  have hw : IntKind.u32.wrap (q : Int) = (q : Int) := by rw [IntKind.wrap_u32]; omega
  have HF := Lib.hid (HS.out.set 2 (.int .u32 q) { p with n := q } rfl)
  go_wp2
  go_end0
  exact ⟨rfl, HF.out, (Mods.of_grown HM.out (.inr rfl)).set gs 2 (.inl (.inl rfl)) _⟩

set_option maxHeartbeats 1000000 in
set_option maxRecDepth 10000 in
theorem four_src (gs gc a : Nat) (t : ByteArray) (e : Int) (p : Pr) (w : World) (h : Src w gs gc t a e p) :
    Calls Tryz.prog 221 #[.pointer (some ⟨gs, 0, none⟩)] w (SrcOut gs gc t (needS t a e 4).2.1 (needS t a e 4).2.2 { p with n := getL (ls (needS t a e 4).1) } w) := by
  have H := Lib.hid h; clear h
  have hz := needS_size t a e 4 4 (by omega)
  go_enter Tryz.func221, Tryz.ntmps221
  go_wp2_with fail
  refine (need_any gs gc a t e 4 p _ H.out).mono ?_
  rintro e1 w1 ⟨rfl, hs, hm⟩
  go_wp2_with fail
  refine (get_short _ _ (by omega)).mono ?_
  rintro e1 w2 ⟨rfl, rfl⟩
  have h4 := getL_four (ls (needS t a e 4).1) 4 (by rw [ls_len]; exact hz) (by omega)
  have HS := Lib.hid hs; have HM := Lib.hid hm
  obtain ⟨⟨-, -, c2, -⟩, -, f2, -⟩ := hs.cells
  clear hs hm
  generalize getL (ls (needS t a e 4).1) = q at *
  have hw : IntKind.u32.wrap (q : Int) = (q : Int) := by rw [IntKind.wrap_u32]; omega
  have HF := Lib.hid (HS.out.set 2 (.int .u32 q) { p with n := q } rfl)
  go_wp2
  go_end0
  exact ⟨rfl, HF.out, (Mods.of_grown HM.out (.inr rfl)).set gs 2 (.inl (.inl rfl)) _⟩

end Go.Proofs.YtbdgkkmbnahgiaaGreatDoor

namespace Go.Proofs.YtbdgkkmbnahgiaaGreatDoor
open Go.RowKit

theorem rv_lt : ∀ (l : List UInt8) (n k : Nat), k ≤ 3 → n < 2 ^ (7 * k) → (rv l n k).1 < 268435456
  | [], n, k, _, _ => by simp [rv]
  | b :: l, n, k, hk, hn => by
    have h1 := pushN_lt b hn
    rw [rv]
    split
    · split
      · simp
      · exact rv_lt l _ _ (by omega) h1
    · split
      · simp
      · have : 2 ^ (7 * (k + 1)) ≤ 2 ^ 28 := Nat.pow_le_pow_right (by omega) (by omega)
        have h28 : (2 : Nat) ^ 28 = 268435456 := by decide
        simp only; omega
theorem readV_lt (l : List UInt8) : (readV l).1 < 268435456 := rv_lt l 0 0 (by omega) (by simp)
theorem rest_len (t : ByteArray) (a : Nat) : (t.extract a t.size).size = t.size - a := by rw [ByteArray.size_extract]; omega
theorem rest_ls (t : ByteArray) (a : Nat) : ls (t.extract a t.size) = (ls t).drop a := by
  unfold ls
  rw [Lib.extract_data, List.take_of_length_le]
  simp

/-- What vary reads, without an error before: the number, the place, the error. -/
def varS (t : ByteArray) (a : Nat) : Nat × Nat × Int :=
  if (readV ((ls t).drop a)).2.2 = 0 then ((readV ((ls t).drop a)).1, a + (readV ((ls t).drop a)).2.1, 0) else ((readV ((ls t).drop a)).1, a, 5)
set_option maxHeartbeats 1000000 in
set_option maxRecDepth 10000 in
theorem vary_src (gs gc a : Nat) (t : ByteArray) (p : Pr) (w : World) (h : Src w gs gc t a 0 p) :
    Calls Tryz.prog 222 #[.pointer (some ⟨gs, 0, none⟩)] w (SrcOut gs gc t (varS t a).2.1 (varS t a).2.2 { p with n := (varS t a).1 } w) := by
  have H := Lib.hid h
  obtain ⟨⟨c0, -⟩, -⟩ := h.cells
  have hle := h.2.2.1
  have hts := h.2.2.2
  clear h
  have HR := Lib.hid (rest_ls t a)
  have hlt := readV_lt ((ls t).drop a)
  have hsz := readV_size ((ls t).drop a)
  rw [List.length_drop, ls_len] at hsz
  have HD : Hid (varS t a = if (readV ((ls t).drop a)).2.2 = 0 then ((readV ((ls t).drop a)).1, a + (readV ((ls t).drop a)).2.1, 0) else ((readV ((ls t).drop a)).1, a, 5)) := Lib.hid rfl
  have HVV := Lib.hid (readV_any (t.extract a t.size))
  rw [HR.out] at HVV
  generalize readV ((ls t).drop a) = R at *
  obtain ⟨m, k, x⟩ := R
  simp only at hlt hsz HD HVV
  have hw : IntKind.u32.wrap (m : Int) = (m : Int) := by rw [IntKind.wrap_u32]; omega
  have hrl := rest_len t a
  have HRL := Lib.hid hrl; clear hrl
  by_cases hx : x = 0
  · have HV : Hid (varS t a = (m, a + k, 0)) := Lib.hid (by rw [HD.out, if_pos hx])
    have HT : Hid (takeS t a 0 k = (t.extract a (a + k), a + k, 0)) := Lib.hid (by
      unfold takeS
      rw [if_pos rfl, if_pos (by simp [hasC]; omega)]
      simp)
    subst hx
    clear HD
    go_enter Tryz.func222, Tryz.ntmps222
    go_wp2_with fail
    refine (rest_any gc a t 0 _ H.out.2).mono ?_
    rintro e1 w1 ⟨rfl, hb⟩
    have H1 := Lib.hid (H.out.below hb); have HB := Lib.hid hb; clear hb
    go_wp2_with fail
    refine (HVV.out _ (by have := HRL.out; omega)).mono ?_
    rintro e1 w2 ⟨rfl, hb⟩
    have H2 := Lib.hid (H1.out.below hb); have HB2 := Lib.hid (HB.out.trans (hb.mono HB.out.size)); clear hb
    obtain ⟨⟨c0', -, c2, -⟩, -, f2, -⟩ := H2.out.cells
    have H3 := Lib.hid (H2.out.set 2 (.int .u32 m) { p with n := m } rfl)
    go_wp2_with fail
    refine (take_any gc a t 0 k _ H3.out.2).mono ?_
    rintro e1 w3 ⟨rfl, hc, hm⟩
    have HF := Lib.hid (And.intro (H3.out.cur hc hm) (((Mods.of_below (S := two gs gc) HB2.out).set gs 2 (.inl (.inl rfl)) _).trans (Mods.of_grown hm (.inr rfl))))
    clear hc hm
    go_wp2
    go_end0
    refine ⟨rfl, ?_, HF.out.2⟩
    have h2 := HF.out.1
    rw [HT.out] at h2
    rw [HV.out]
    exact h2
  · have e0 : (x != 0) = true := bne_iff_ne.2 hx
    have HV : Hid (varS t a = (m, a, 5)) := Lib.hid (by rw [HD.out, if_neg hx])
    have HT : Hid (takeS t a 5 k = (⟨#[]⟩, a, 5)) := Lib.hid (by unfold takeS; rw [if_neg (by decide)])
    clear hx HD
    go_enter Tryz.func222, Tryz.ntmps222
    go_wp2_with fail
    refine (rest_any gc a t 0 _ H.out.2).mono ?_
    rintro e1 w1 ⟨rfl, hb⟩
    have H1 := Lib.hid (H.out.below hb); have HB := Lib.hid hb; clear hb
    go_wp2_with fail
    refine (HVV.out _ (by have := HRL.out; omega)).mono ?_
    rintro e1 w2 ⟨rfl, hb⟩
    have H2 := Lib.hid (H1.out.below hb); have HB2 := Lib.hid (HB.out.trans (hb.mono HB.out.size)); clear hb
    obtain ⟨⟨c0', -⟩, -⟩ := H2.out.cells
    go_wp2_with fail
    refine (fail_any gc a t 0 5 _ H2.out.2).mono ?_
    rintro e1 w3 ⟨rfl, hc, hm⟩
    rw [if_pos rfl] at hc
    have H3 := Lib.hid (H2.out.cur hc hm); have HM := Lib.hid ((Mods.of_below (S := two gs gc) HB2.out).trans (Mods.of_grown hm (.inr rfl))); clear hc hm
    obtain ⟨⟨c0'', -, c2, -⟩, -, f2, -⟩ := H3.out.cells
    have H4 := Lib.hid (H3.out.set 2 (.int .u32 m) { p with n := m } rfl)
    go_wp2_with fail
    refine (take_any gc a t 5 k _ H4.out.2).mono ?_
    rintro e1 w4 ⟨rfl, hc, hm⟩
    have HF := Lib.hid (And.intro (H4.out.cur hc hm) ((HM.out.set gs 2 (.inl (.inl rfl)) _).trans (Mods.of_grown hm (.inr rfl))))
    clear hc hm
    go_wp2
    go_end0
    refine ⟨rfl, ?_, HF.out.2⟩
    have h2 := HF.out.1
    rw [HT.out] at h2
    rw [HV.out]
    exact h2

/-- What data answers. -/
def dataS (t : ByteArray) (a : Nat) (e : Int) : ByteArray × Nat × Int := needS t (needS t a e 2).2.1 (needS t a e 2).2.2 (getL (ls (needS t a e 2).1))
set_option maxHeartbeats 1000000 in
set_option maxRecDepth 10000 in
theorem data_src (gs gc a : Nat) (t : ByteArray) (e : Int) (p : Pr) (w : World) (h : Src w gs gc t a e p) :
    Calls Tryz.prog 300 #[.pointer (some ⟨gs, 0, none⟩)] w fun e' w' =>
      e' = .returned (.string (dataS t a e).1) ∧ Src w' gs gc t (dataS t a e).2.1 (dataS t a e).2.2 p ∧ w.grownBy w' (some gc) := by
  have H := Lib.hid h; clear h
  have hz := needS_size t a e 2 2 (by omega)
  have HD : Hid (dataS t a e = needS t (needS t a e 2).2.1 (needS t a e 2).2.2 (getL (ls (needS t a e 2).1))) := Lib.hid rfl
  go_enter Tryz.func300, Tryz.ntmps300
  go_wp2_with fail
  refine (need_any gs gc a t e 2 p _ H.out).mono ?_
  rintro e1 w1 ⟨rfl, hs, hm⟩
  go_wp2_with fail
  refine (get_short _ _ (by omega)).mono ?_
  rintro e1 w2 ⟨rfl, rfl⟩
  have h4 := getL_four (ls (needS t a e 2).1) 2 (by rw [ls_len]; exact hz) (by omega)
  have HS := Lib.hid hs; have HM := Lib.hid hm
  clear hs hm
  generalize getL (ls (needS t a e 2).1) = q at *
  generalize (needS t a e 2).2.1 = a1 at *
  generalize (needS t a e 2).2.2 = e2 at *
  have hw : IntKind.i64.wrap (q : Int) = (q : Int) := by rw [IntKind.wrap_i64]; omega
  go_wp2_with fail
  refine (need_any gs gc a1 t e2 q p _ HS.out).mono ?_
  rintro e1 w3 ⟨rfl, hs, hm⟩
  rw [← HD.out] at hs ⊢
  have HF := Lib.hid (And.intro hs (HM.out.trans hm))
  clear hs hm
  go_wp2
  go_ret
  exact ⟨rfl, HF.out⟩

theorem needS_small (t : ByteArray) (a : Nat) (e n : Int) (h : t.size ≤ 4611686018427387904) : (needS t a e n).1.size ≤ 4611686018427387904 := by
  unfold needS
  split
  · split
    · show (t.extract a (a + n.toNat)).size ≤ _
      rw [ByteArray.size_extract]
      omega
    · exact Nat.zero_le _
  · exact Nat.zero_le _
/-- What written answers. -/
def writS (t : ByteArray) (a : Nat) (e : Int) : ByteArray × Nat × Int :=
  ((dataS t a e).1, (dataS t a e).2.1, if (dataS t a e).2.2 = 0 ∧ validB (dataS t a e).1 = false then 6 else (dataS t a e).2.2)
set_option maxHeartbeats 1000000 in
set_option maxRecDepth 10000 in
theorem written_src (gs gc a : Nat) (t : ByteArray) (e : Int) (p : Pr) (w : World) (h : Src w gs gc t a e p) :
    Calls Tryz.prog 299 #[.pointer (some ⟨gs, 0, none⟩)] w fun e' w' =>
      e' = .returned (.string (writS t a e).1) ∧ Src w' gs gc t (writS t a e).2.1 (writS t a e).2.2 p ∧ w.grownBy w' (some gc) := by
  have H := Lib.hid h
  have hd : (dataS t a e).1.size ≤ 4611686018427387904 := needS_small _ _ _ _ h.2.2.2
  clear h
  have HD : Hid (writS t a e = ((dataS t a e).1, (dataS t a e).2.1, if (dataS t a e).2.2 = 0 ∧ validB (dataS t a e).1 = false then 6 else (dataS t a e).2.2)) := Lib.hid rfl
  go_enter Tryz.func299, Tryz.ntmps299
  go_wp2_with fail
  refine (data_src gs gc a t e p _ H.out).mono ?_
  rintro e1 w1 ⟨rfl, hs, hm⟩
  have HS := Lib.hid hs; have HM := Lib.hid hm; clear hs hm
  generalize dataS t a e = D at *
  obtain ⟨d, a1, e2⟩ := D
  simp only at hd HD HS
  go_wp2_with fail
  refine (valid_any d _ hd).mono ?_
  rintro e1 w2 ⟨rfl, hb⟩
  have H2 := Lib.hid (HS.out.below hb); have HM2 := Lib.hid (HM.out.trans (mod_below hb (some gc))); clear hb
  cases hv : validB d
  · have HV := Lib.hid hv; clear hv
    obtain ⟨⟨c0, -⟩, -⟩ := H2.out.cells
    go_wp2_with fail
    refine (fail_any gc a1 t e2 6 _ H2.out.2).mono ?_
    rintro e1 w3 ⟨rfl, hc, hm⟩
    have HF := Lib.hid (And.intro (H2.out.cur hc hm) (HM2.out.trans hm))
    clear hc hm
    go_wp2
    go_ret
    rw [HD.out]
    refine ⟨rfl, ?_, HF.out.2⟩
    have h2 := HF.out.1
    rw [HV.out]
    simpa using h2
  · have HV := Lib.hid hv; clear hv
    go_wp2
    go_ret
    rw [HD.out]
    refine ⟨rfl, ?_, HM2.out⟩
    have h2 := H2.out
    rw [HV.out]
    simpa using h2

set_option maxHeartbeats 1000000 in
set_option maxRecDepth 10000 in
theorem text_src (gs gc a : Nat) (t : ByteArray) (e : Int) (p : Pr) (w : World) (h : Src w gs gc t a e p) :
    Calls Tryz.prog 223 #[.pointer (some ⟨gs, 0, none⟩)] w (SrcOut gs gc t (writS t a e).2.1 (writS t a e).2.2 { p with text := (writS t a e).1 } w) := by
  have H := Lib.hid h; clear h
  go_enter Tryz.func223, Tryz.ntmps223
  go_wp2_with fail
  refine (written_src gs gc a t e p _ H.out).mono ?_
  rintro e1 w1 ⟨rfl, hs, hm⟩
  have HS := Lib.hid hs; have HM := Lib.hid hm
  obtain ⟨⟨-, -, -, c3, -⟩, -, -, f3, -⟩ := hs.cells
  clear hs hm
  generalize writS t a e = D at *
  obtain ⟨d, a1, e2⟩ := D
  have HF := Lib.hid (HS.out.set 3 (.string d) { p with text := d } rfl)
  go_wp2
  go_end0
  exact ⟨rfl, HF.out, (Mods.of_grown HM.out (.inr rfl)).set gs 3 (.inl (.inl rfl)) _⟩

set_option maxHeartbeats 1000000 in
set_option maxRecDepth 10000 in
theorem binary_src (gs gc a : Nat) (t : ByteArray) (e : Int) (p : Pr) (w : World) (h : Src w gs gc t a e p) :
    Calls Tryz.prog 224 #[.pointer (some ⟨gs, 0, none⟩)] w (SrcOut gs gc t (dataS t a e).2.1 (dataS t a e).2.2 { p with text := (dataS t a e).1 } w) := by
  have H := Lib.hid h; clear h
  go_enter Tryz.func224, Tryz.ntmps224
  go_wp2_with fail
  refine (data_src gs gc a t e p _ H.out).mono ?_
  rintro e1 w1 ⟨rfl, hs, hm⟩
  have HS := Lib.hid hs; have HM := Lib.hid hm
  obtain ⟨⟨-, -, -, c3, -⟩, -, -, f3, -⟩ := hs.cells
  clear hs hm
  generalize dataS t a e = D at *
  obtain ⟨d, a1, e2⟩ := D
  have HF := Lib.hid (HS.out.set 3 (.string d) { p with text := d } rfl)
  go_wp2
  go_end0
  exact ⟨rfl, HF.out, (Mods.of_grown HM.out (.inr rfl)).set gs 3 (.inl (.inl rfl)) _⟩

/-- What pair leaves. -/
def pairS (t : ByteArray) (a : Nat) (e : Int) : (ByteArray × ByteArray) × Nat × Int :=
  (((writS t a e).1, (writS t (writS t a e).2.1 (writS t a e).2.2).1), (writS t (writS t a e).2.1 (writS t a e).2.2).2.1, (writS t (writS t a e).2.1 (writS t a e).2.2).2.2)
set_option maxHeartbeats 1000000 in
set_option maxRecDepth 10000 in
theorem pair_src (gs gc a : Nat) (t : ByteArray) (e : Int) (p : Pr) (w : World) (h : Src w gs gc t a e p) :
    Calls Tryz.prog 225 #[.pointer (some ⟨gs, 0, none⟩)] w (SrcOut gs gc t (pairS t a e).2.1 (pairS t a e).2.2 { p with text := (pairS t a e).1.1, value := (pairS t a e).1.2 } w) := by
  have H := Lib.hid h; clear h
  have HP : Hid (pairS t a e = (((writS t a e).1, (writS t (writS t a e).2.1 (writS t a e).2.2).1), (writS t (writS t a e).2.1 (writS t a e).2.2).2.1, (writS t (writS t a e).2.1 (writS t a e).2.2).2.2)) := Lib.hid rfl
  go_enter Tryz.func225, Tryz.ntmps225
  go_wp2_with fail
  refine (written_src gs gc a t e p _ H.out).mono ?_
  rintro e1 w1 ⟨rfl, hs, hm⟩
  have HS := Lib.hid hs; have HM := Lib.hid hm
  obtain ⟨⟨-, -, -, c3, -⟩, -, -, f3, -⟩ := hs.cells
  clear hs hm
  generalize writS t a e = D at *
  obtain ⟨d, a1, e2⟩ := D
  simp only at HP HS
  have H2 := Lib.hid (HS.out.set 3 (.string d) { p with text := d } rfl)
  go_wp2_with fail
  refine (written_src gs gc a1 t e2 _ _ H2.out).mono ?_
  rintro e1 w2 ⟨rfl, hs, hm⟩
  have HS2 := Lib.hid hs
  have HM2 := Lib.hid ((((Mods.of_grown (S := two gs gc) HM.out (.inr rfl)).set gs 3 (.inl (.inl rfl)) _)).trans (Mods.of_grown hm (.inr rfl)))
  obtain ⟨⟨-, -, -, -, c4⟩, -, -, -, f4⟩ := hs.cells
  clear hs hm
  generalize writS t a1 e2 = D at *
  obtain ⟨d2, a2, e3⟩ := D
  simp only at HP HS2
  have HF := Lib.hid (HS2.out.set 4 (.string d2) { p with text := d, value := d2 } rfl)
  go_wp2
  go_end0
  rw [HP.out]
  exact ⟨rfl, HF.out, HM2.out.set gs 4 (.inl (.inl rfl)) _⟩
end Go.Proofs.YtbdgkkmbnahgiaaGreatDoor

namespace Go.Proofs.YtbdgkkmbnahgiaaGreatDoor
open Go.RowKit

def rdF (sh : Nat) : FuncId :=
  if sh = 1 then 219 else if sh = 2 then 220 else if sh = 3 then 221 else if sh = 4 then 222
  else if sh = 5 then 223 else if sh = 6 then 224 else 225
def fnV (f : FuncId) : Value := .func (.func f) #[] #[]
def rdTab : List (Int × Value) := [(1, fnV 219), (2, fnV 220), (3, fnV 221), (4, fnV 222), (5, fnV 223), (6, fnV 224), (7, fnV 225)]
theorem lookI_rd (sh : Nat) (h1 : 1 ≤ sh) (h7 : sh ≤ 7) : lookI rdTab sh = some (fnV (rdF sh)) := by
  obtain rfl | rfl | rfl | rfl | rfl | rfl | rfl : sh = 1 ∨ sh = 2 ∨ sh = 3 ∨ sh = 4 ∨ sh = 5 ∨ sh = 6 ∨ sh = 7 := by omega
  all_goals rfl

set_option maxHeartbeats 1000000 in
set_option maxRecDepth 10000 in
theorem readers_any (w : World) : Calls Tryz.prog 165 #[] w fun e w' => e = .returned (.map (some w.heap.size)) ∧ IMap .i64 w' w.heap.size rdTab ∧ Below w.heap.size w w' := by
  have hmm := @run_makeMap Tryz.prog
  have HT := Lib.hid (IMap.made w .i64)
  have HB := Lib.hid ((Below.refl w.heap.size w).alloc (Nat.le_refl _) (.map #[] 0))
  go_enter Tryz.func165, Tryz.ntmps165
  go_wp2_with (refine wpList_mput _ rfl _ _ _ 180 rfl 3 184 (by kernel_rfl) (by kernel_rfl) w.heap.size _ rfl HT.out _ _ rfl rfl rfl ?_; intro w1 hT hg; have hb := HB.out.grown hg (HB.out.size) (fun k hk => by cases hk; exact Nat.le_refl _); clear HT HB hg; have HT := Lib.hid hT; have HB := Lib.hid hb; clear hT hb)
  exact bodyPost_ret (v := .map (some w.heap.size)) (by simp [results, Tryz.results165, go_sem]) rfl ⟨rfl, HT.out, HB.out⟩

theorem run_enter {P : Program} {f : FuncId} {fn : Func} {c : Code} (hf : P.funcs[f]? = some fn) (hname : (fn.name == "runtime.NumGoroutine") = false) (hb : fn.body = some c) (args : Array Value) (w : World) :
    (callFunc f args).run P w = .ok (.enter f args) w := by
  have h1 : fn.name ≠ "runtime.NumGoroutine" := by simpa using hname
  simp [callFunc, hf, h1, hb]
theorem enter_rd (sh : Nat) (h1 : 1 ≤ sh) (h7 : sh ≤ 7) (args : Array Value) (w : World) : (callFunc (rdF sh) args).run Tryz.prog w = .ok (.enter (rdF sh) args) w := by
  obtain rfl | rfl | rfl | rfl | rfl | rfl | rfl : sh = 1 ∨ sh = 2 ∨ sh = 3 ∨ sh = 4 ∨ sh = 5 ∨ sh = 6 ∨ sh = 7 := by omega
  · exact run_enter Tryz.func219 (by kernel_rfl) rfl args w
  · exact run_enter Tryz.func220 (by kernel_rfl) rfl args w
  · exact run_enter Tryz.func221 (by kernel_rfl) rfl args w
  · exact run_enter Tryz.func222 (by kernel_rfl) rfl args w
  · exact run_enter Tryz.func223 (by kernel_rfl) rfl args w
  · exact run_enter Tryz.func224 (by kernel_rfl) rfl args w
  · exact run_enter Tryz.func225 (by kernel_rfl) rfl args w

/-- A value that is read: the number, the texts, the place, the error. -/
structure VRead where
  n : Nat
  text : ByteArray
  value : ByteArray
  at_ : Nat
  err : Int
def valS (sh : Nat) (t : ByteArray) (a : Nat) : VRead :=
  if sh = 1 then ⟨getL (ls (needS t a 0 1).1), ⟨#[]⟩, ⟨#[]⟩, (needS t a 0 1).2.1, (needS t a 0 1).2.2⟩
  else if sh = 2 then ⟨getL (ls (needS t a 0 2).1), ⟨#[]⟩, ⟨#[]⟩, (needS t a 0 2).2.1, (needS t a 0 2).2.2⟩
  else if sh = 3 then ⟨getL (ls (needS t a 0 4).1), ⟨#[]⟩, ⟨#[]⟩, (needS t a 0 4).2.1, (needS t a 0 4).2.2⟩
  else if sh = 4 then ⟨(varS t a).1, ⟨#[]⟩, ⟨#[]⟩, (varS t a).2.1, (varS t a).2.2⟩
  else if sh = 5 then ⟨0, (writS t a 0).1, ⟨#[]⟩, (writS t a 0).2.1, (writS t a 0).2.2⟩
  else if sh = 6 then ⟨0, (dataS t a 0).1, ⟨#[]⟩, (dataS t a 0).2.1, (dataS t a 0).2.2⟩
  else ⟨0, (pairS t a 0).1.1, (pairS t a 0).1.2, (pairS t a 0).2.1, (pairS t a 0).2.2⟩
theorem val_src (sh : Nat) (h1 : 1 ≤ sh) (h7 : sh ≤ 7) (gs gc a : Nat) (t : ByteArray) (id : Int) (w : World) (h : Src w gs gc t a 0 ⟨id, 0, ⟨#[]⟩, ⟨#[]⟩⟩) :
    Calls Tryz.prog (rdF sh) #[.pointer (some ⟨gs, 0, none⟩)] w (SrcOut gs gc t (valS sh t a).at_ (valS sh t a).err ⟨id, (valS sh t a).n, (valS sh t a).text, (valS sh t a).value⟩ w) := by
  obtain rfl | rfl | rfl | rfl | rfl | rfl | rfl : sh = 1 ∨ sh = 2 ∨ sh = 3 ∨ sh = 4 ∨ sh = 5 ∨ sh = 6 ∨ sh = 7 := by omega
  · exact one_src gs gc a t 0 _ w h
  · exact two_src gs gc a t 0 _ w h
  · exact four_src gs gc a t 0 _ w h
  · exact vary_src gs gc a t _ w h
  · exact text_src gs gc a t 0 _ w h
  · exact binary_src gs gc a t 0 _ w h
  · exact pair_src gs gc a t 0 _ w h
end Go.Proofs.YtbdgkkmbnahgiaaGreatDoor

namespace Go.Proofs.YtbdgkkmbnahgiaaGreatDoor
open Go.RowKit

def idAt (t : ByteArray) (a : Nat) : Nat := ((ls t).getD a 0).toNat
/-- What the list's reading goes on to from a place, with what has been counted and read. -/
def listGo (kind : Int) (t : ByteArray) : Nat → Nat → (Nat → Nat) → List Pr → List Pr × Int
  | 0, _, _, _ => ([], 9)
  | m + 1, a, f, out =>
    if t.size ≤ a then (if loneB f = true then ([], 9) else (out, 0))
    else if hasR (ruleOf (idAt t a)) kind = false then ([], 9)
    else if (valS (ruleOf (idAt t a)).shape t (a + 1)).err ≠ 0 then ([], (valS (ruleOf (idAt t a)).shape t (a + 1)).err)
    else if checkE (ruleOf (idAt t a)) kind ⟨idAt t a, (valS (ruleOf (idAt t a)).shape t (a + 1)).n, (valS (ruleOf (idAt t a)).shape t (a + 1)).text, (valS (ruleOf (idAt t a)).shape t (a + 1)).value⟩ ≠ 0 then
      ([], checkE (ruleOf (idAt t a)) kind ⟨idAt t a, (valS (ruleOf (idAt t a)).shape t (a + 1)).n, (valS (ruleOf (idAt t a)).shape t (a + 1)).text, (valS (ruleOf (idAt t a)).shape t (a + 1)).value⟩)
    else if againB f kind (idAt t a) = true then ([], 9)
    else if out.length = 1000 then ([], 4)
    else listGo kind t m (valS (ruleOf (idAt t a)).shape t (a + 1)).at_ (upd f (idAt t a) (f (idAt t a) + 1)) (out ++ [⟨idAt t a, (valS (ruleOf (idAt t a)).shape t (a + 1)).n, (valS (ruleOf (idAt t a)).shape t (a + 1)).text, (valS (ruleOf (idAt t a)).shape t (a + 1)).value⟩])
def listS (kind : Int) (t : ByteArray) : List Pr × Int := listGo kind t (t.size + 1) 0 (fun _ => 0) []

/-- A value's numbers and texts are small; its place is not before. -/
theorem needS_at {t : ByteArray} {a : Nat} (h : a ≤ t.size) (e n : Int) : a ≤ (needS t a e n).2.1 ∧ (needS t a e n).2.1 ≤ t.size := by
  unfold needS
  split
  · split
    · rename_i h1
      simp only [hasC, Bool.and_eq_true, decide_eq_true_iff] at h1
      simp only; omega
    · exact ⟨Nat.le_refl _, h⟩
  · exact ⟨Nat.le_refl _, h⟩
theorem dataS_at {t : ByteArray} {a : Nat} (h : a ≤ t.size) (e : Int) : a ≤ (dataS t a e).2.1 ∧ (dataS t a e).2.1 ≤ t.size := by
  have h1 := needS_at h e 2
  have h2 := needS_at h1.2 (needS t a e 2).2.2 (getL (ls (needS t a e 2).1))
  unfold dataS
  omega
theorem needS_len (t : ByteArray) (a : Nat) (e n : Int) : (needS t a e n).1.size ≤ t.size := by
  unfold needS
  split
  · split
    · show (t.extract a (a + n.toNat)).size ≤ _
      rw [ByteArray.size_extract]; omega
    · exact Nat.zero_le _
  · exact Nat.zero_le _
theorem valS_at {t : ByteArray} {a : Nat} (h : a ≤ t.size) (sh : Nat) : a ≤ (valS sh t a).at_ ∧ (valS sh t a).at_ ≤ t.size := by
  unfold valS
  split
  · exact needS_at h _ _
  · split
    · exact needS_at h _ _
    · split
      · exact needS_at h _ _
      · split
        · have := readV_size ((ls t).drop a)
          rw [List.length_drop, ls_len] at this
          unfold varS
          split
          · simp only; omega
          · exact ⟨Nat.le_refl _, h⟩
        · split
          · exact dataS_at h _
          · split
            · exact dataS_at h _
            · have h1 := dataS_at h 0
              have h2 := dataS_at h1.2 (writS t a 0).2.2
              unfold pairS writS at *
              simp only at *
              omega
theorem valS_ok {t : ByteArray} {a : Nat} (ht : t.size ≤ 140737488351232) (sh : Nat) : (valS sh t a).n < 4294967296 ∧ (valS sh t a).text.size ≤ 140737488351232 ∧ (valS sh t a).value.size ≤ 140737488351232 := by
  have hn : ∀ k : Nat, k ≤ 4 → getL (ls (needS t a 0 k).1) < 4294967296 := fun k hk => getL_four _ k (by rw [ls_len]; exact needS_size t a 0 k k (by omega)) hk
  have hd : ∀ (b : Nat) (e : Int), (dataS t b e).1.size ≤ 140737488351232 := fun b e => by
    unfold dataS
    exact Nat.le_trans (needS_len _ _ _ _) ht
  unfold valS
  split
  · exact ⟨hn 1 (by omega), by simp [ByteArray.size], by simp [ByteArray.size]⟩
  · split
    · exact ⟨hn 2 (by omega), by simp [ByteArray.size], by simp [ByteArray.size]⟩
    · split
      · exact ⟨hn 4 (by omega), by simp [ByteArray.size], by simp [ByteArray.size]⟩
      · split
        · refine ⟨?_, by simp [ByteArray.size], by simp [ByteArray.size]⟩
          have := readV_lt ((ls t).drop a)
          unfold varS
          split <;> (simp only; omega)
        · split
          · exact ⟨by simp, hd _ _, by simp [ByteArray.size]⟩
          · split
            · exact ⟨by simp, hd _ _, by simp [ByteArray.size]⟩
            · exact ⟨by simp, hd _ _, hd _ _⟩

/-- The place of a cursor. -/
def posOf (w : World) (gc : Nat) : Nat := match w.cell? ⟨gc, 1, none⟩ with | some v => (intOf v).toNat | none => 0
theorem posOf_cur {w : World} {gc a : Nat} {t : ByteArray} {e : Int} (h : Cur w gc t a e) : posOf w gc = a := by
  unfold posOf
  rw [h.cells.1.2.1]
  simp [intOf]

/-- What stands while list runs. -/
structure LInv (w0 : World) (r1 r2 g gs gc B0 : Nat) (t : ByteArray) (f : Nat → Nat) (a : Nat) (e : Int) (p : Pr) (w : World) : Prop where
  kept : Kept w0 w
  tab : Tab w r1
  rd : IMap .i64 w r2 rdTab
  seen : Bk w g ST (seenC f)
  src : Src w gs gc t a e p
  base : B0 ≤ w.heap.size
  nums : r1 < B0 ∧ r2 < B0 ∧ g < B0 ∧ gs < B0 ∧ gc < B0 ∧ w0.heap.size ≤ g ∧ w0.heap.size ≤ gs ∧ w0.heap.size ≤ gc ∧ g ≠ gs ∧ g ≠ gc ∧ r1 ≠ gs ∧ r1 ≠ gc ∧ r2 ≠ gs ∧ r2 ≠ gc ∧ r1 ≠ g ∧ r2 ≠ g ∧ w0.heap.size ≤ B0
section
variable {w0 w w' : World} {r1 r2 g gs gc B0 a : Nat} {t : ByteArray} {f : Nat → Nat} {e : Int} {p : Pr}
theorem LInv.below (h : LInv w0 r1 r2 g gs gc B0 t f a e p w) (hb : Below w.heap.size w w') : LInv w0 r1 r2 g gs gc B0 t f a e p w' :=
  ⟨h.kept.below hb, h.tab.below hb h.tab.lt, h.rd.below hb h.rd.lt, h.seen.below hb h.seen.lt, h.src.below hb, Nat.le_trans h.base hb.size, h.nums⟩
theorem LInv.alloc (h : LInv w0 r1 r2 g gs gc B0 t f a e p w) (o : Obj) : LInv w0 r1 r2 g gs gc B0 t f a e p (w.alloc o) := h.below ((Below.refl _ _).alloc (Nat.le_refl _) o)
theorem LInv.mods {a' : Nat} {e' : Int} {p' : Pr} (h : LInv w0 r1 r2 g gs gc B0 t f a e p w) (hm : Mods (two gs gc) w w') (hs : Src w' gs gc t a' e' p') : LInv w0 r1 r2 g gs gc B0 t f a' e' p' w' := by
  have hn := h.nums
  refine ⟨hm.below h.kept (by have := h.base; omega) (fun i hi => by rcases hi with rfl | rfl <;> omega), ?_, h.rd.mods hm (by rintro (x | x) <;> omega), h.seen.mods hm (by rintro (x | x) <;> omega), hs, Nat.le_trans h.base hm.size, hn⟩
  exact (hm.block r1 h.tab.lt (by rintro (x | x) <;> omega)).trans h.tab
theorem LInv.again {f' : Nat → Nat} (h : LInv w0 r1 r2 g gs gc B0 t f a e p w) (hm : w.grownBy w' (some g)) (hs : Bk w' g ST (seenC f')) : LInv w0 r1 r2 g gs gc B0 t f' a e p w' := by
  have hn := h.nums
  have hb : ∀ i, i < w.heap.size → i ≠ g → w'.heap[i]? = w.heap[i]? := fun i hi hne => hm.block i hi (fun x => hne (by cases x; rfl))
  refine ⟨Below.grown h.kept hm (by have := h.base; omega) (fun k hk => by cases hk; omega), (hb r1 h.tab.lt (by omega)).trans h.tab, (hb r2 h.rd.lt (by omega)).trans h.rd, hs, ⟨(hb gs h.src.1.lt (by omega)).trans h.src.1, (hb gc h.src.2.lt (by omega)).trans h.src.2.1, h.src.2.2⟩, Nat.le_trans h.base hm.size, hn⟩
theorem LInv.app {v : Value} (h : LInv w0 r1 r2 g gs gc B0 t f a e p w) (hg : w.grownBy w' v.ownBlock) (hv : ∀ k, v.ownBlock = some k → B0 ≤ k) : LInv w0 r1 r2 g gs gc B0 t f a e p w' := by
  have hn := h.nums
  have hb : ∀ i, i < w.heap.size → i < B0 → w'.heap[i]? = w.heap[i]? := fun i hi hne => hg.block i hi (fun x => by have := hv i x.symm; omega)
  refine ⟨h.kept.app hg (fun k hk => by have := hv k hk; omega), (hb r1 h.tab.lt (by omega)).trans h.tab, (hb r2 h.rd.lt (by omega)).trans h.rd, (hb g h.seen.lt (by omega)).trans h.seen, ⟨(hb gs h.src.1.lt (by omega)).trans h.src.1, (hb gc h.src.2.lt (by omega)).trans h.src.2.1, h.src.2.2⟩, Nat.le_trans h.base hg.size, hn⟩
end
/-- Four cells of the source, written at once. -/
theorem Src.put {w : World} {gs gc a : Nat} {t : ByteArray} {e : Int} {p : Pr} (h : Src w gs gc t a e p) (q : Pr) :
    Src ((((w.setCell ⟨gs, 1, none⟩ (.int .i64 q.id)).setCell ⟨gs, 2, none⟩ (.int .u32 q.n)).setCell ⟨gs, 3, none⟩ (.string q.text)).setCell ⟨gs, 4, none⟩ (.string q.value)) gs gc t a e q := by
  have h1 := h.set 1 (.int .i64 q.id) { p with id := q.id } rfl
  have h2 := h1.set 2 (.int .u32 q.n) { p with id := q.id, n := q.n } rfl
  have h3 := h2.set 3 (.string q.text) { q with value := p.value } rfl
  exact h3.set 4 (.string q.value) q rfl
theorem put_mods (w : World) (gs gc : Nat) (a b c d : Value) : Mods (two gs gc) w ((((w.setCell ⟨gs, 1, none⟩ a).setCell ⟨gs, 2, none⟩ b).setCell ⟨gs, 3, none⟩ c).setCell ⟨gs, 4, none⟩ d) :=
  ((((Mods.refl w).set gs 1 (.inl (.inl rfl)) a).set gs 2 (.inl (.inl rfl)) b).set gs 3 (.inl (.inl rfl)) c).set gs 4 (.inl (.inl rfl)) d
theorem num_one (t : ByteArray) (a : Nat) (h : a < t.size) : numS t a 0 1 = idAt t a ∧ (takeS t a 0 1).2 = (a + 1, 0) := by
  have hh : hasC t a 1 = true := by simp [hasC]; omega
  have e : takeS t a 0 1 = (t.extract a (a + 1), a + 1, 0) := by unfold takeS; rw [if_pos rfl, if_pos hh]; rfl
  refine ⟨?_, by rw [e]⟩
  unfold numS idAt
  rw [e]
  have : ls (t.extract a (a + 1)) = [(ls t)[a]'(by rw [ls_len]; exact h)] := by
    unfold ls
    rw [Lib.extract_data]
    apply List.ext_getElem?
    intro i
    cases i with
    | zero => simp [List.getElem?_drop]
    | succ i => simp [List.getElem?_take]
  rw [this]
  simp [getL, List.getD, List.getElem?_eq_getElem (show a < (ls t).length by rw [ls_len]; exact h)]
end Go.Proofs.YtbdgkkmbnahgiaaGreatDoor

namespace Go.Proofs.YtbdgkkmbnahgiaaGreatDoor
open Go.RowKit

/-- What a list's reading leaves: the list, owned by the call; the error. -/
def ListOut (r : List Pr × Int) (w : World) (e : Ending) (w' : World) : Prop :=
  ∃ A c, e = .returned (.tuple #[.slice A r.1.length c, .int .i64 r.2]) ∧ r.1.length ≤ c ∧ Rd w' w'.heap.size 4 A r.1.length (prs r.1) ∧ Below w.heap.size w w'
theorem listOut_bad {r : List Pr × Int} {x : Int} {w w' : World} (h : r = ([], x)) (hb : Below w.heap.size w w') : ListOut r w (.returned (.tuple #[.slice none 0 0, .int .i64 x])) w' := by
  subst h
  exact ⟨none, 0, rfl, Nat.le_refl _, Rd.nil _ _ _ _, hb⟩

theorem shape_of_has {id : Int} {r : Rule} {kind : Int} (h : ruleOf id = r) (hh : hasR r kind = true) : 1 ≤ r.shape ∧ r.shape ≤ 7 := by
  subst h
  unfold ruleOf at hh ⊢
  cases hf : ruleTab.find? fun q => (q.1 : Int) == id with
  | none => rw [hf] at hh; simp [hasR] at hh
  | some q =>
    have ht : ∀ q ∈ ruleTab, 1 ≤ q.2.shape ∧ q.2.shape ≤ 7 := by decide
    exact ht q (List.mem_of_find?_eq_some hf)
theorem heap_alloc_size (w : World) (o : Obj) : (w.alloc o).heap.size = w.heap.size + 1 := by simp
set_option maxHeartbeats 8000000 in
set_option maxRecDepth 10000 in
theorem list_any (kind : Int) (t : ByteArray) (w : World) (ht : t.size ≤ 140737488351232) :
    Calls Tryz.prog 111 #[.int .i64 kind, .string t] w (ListOut (listS kind t) w) := by
  have HT := Lib.hid ht; clear ht
  go_enter Tryz.func111, Tryz.ntmps111
  go_wp2_with fail
  refine (rules_any _).mono ?_
  rintro e w1 ⟨rfl, hT, hb1⟩
  have HT1 := Lib.hid hT; have HB1 := Lib.hid hb1; clear hT hb1
  go_wp2_with fail
  refine (readers_any _).mono ?_
  rintro e w2 ⟨rfl, hR, hb2⟩
  have hz1 : w.heap.size < w1.heap.size := HT1.out.lt
  have hz2 : w1.heap.size < w2.heap.size := hR.lt
  have HR2 := Lib.hid hR; have HB2 := Lib.hid hb2; clear hR hb2
  have HS3 := Lib.hid (Bk.fresh w2 ST (seenC fun _ => 0))
  have HB3 := Lib.hid ((Below.refl w2.heap.size w2).alloc (Nat.le_refl _) (.cells (seenC fun _ => 0) ST))
  rw [seenC_zero] at HS3 HB3
  go_wp2_with fail
  refine (newCur_any t _ (by have := HT.out; omega)).mono ?_
  rintro e w4 ⟨rfl, hc4, hb4⟩
  rw [heap_alloc_size] at hc4 hb4
  have hz4 : w2.heap.size + 1 < w4.heap.size := hc4.lt
  have HC4 := Lib.hid hc4; have HB4 := Lib.hid hb4; clear hc4 hb4
  have HI : Hid (LInv w w.heap.size w1.heap.size w2.heap.size w4.heap.size (w2.heap.size + 1) (w4.heap.size + 1) t (fun _ => 0) 0 0 ⟨0, 0, ⟨#[]⟩, ⟨#[]⟩⟩ (w4.alloc (.cells #[.pointer (some ⟨w2.heap.size + 1, 0, none⟩), .int .i64 0, .int .u32 0, .string ⟨#[]⟩, .string ⟨#[]⟩] SrT))) := Lib.hid (by
    have hb4 : Below (w2.heap.size + 1) (w2.alloc (.cells (seenC fun _ => 0) ST)) w4 := by rw [seenC_zero]; exact HB4.out
    have k1 : Kept w w1 := HB1.out
    have k2 : Kept w w2 := k1.below HB2.out
    have k4 : Kept w w4 := (k2.alloc (.cells (seenC fun _ => 0) ST)).below (by simpa using hb4)
    refine ⟨k4.alloc _, ?_, ?_, ?_, ⟨Bk.fresh _ _ _, HC4.out.1.alloc _, HC4.out.2⟩, by simp, by refine ⟨?_, ?_, ?_, ?_, ?_, ?_, ?_, ?_, ?_, ?_, ?_, ?_, ?_, ?_, ?_, ?_, ?_⟩ <;> omega⟩
    · exact (((HT1.out.below HB2.out HT1.out.lt).alloc (.cells (seenC fun _ => 0) ST)).below hb4 (by omega)).alloc _
    · exact (((HR2.out).alloc (.cells (seenC fun _ => 0) ST)).below hb4 (by omega)).alloc _
    · have := HS3.out
      rw [← seenC_zero] at this
      exact (this.below hb4 (by omega)).alloc _)
  go_wp2
  go_loopw [8] (fun v wr => ∃ (a m : Nat) (f : Nat → Nat) (out : List Pr) (p : Pr), a ≤ t.size ∧ t.size < a + m ∧ listS kind t = listGo kind t m a f out ∧ out.length ≤ 1000 ∧ (∀ i, f i ≤ out.length) ∧
      LInv w w.heap.size w1.heap.size w2.heap.size w4.heap.size (w2.heap.size + 1) (w4.heap.size + 1) t f a 0 p wr ∧ wr.ownsRow (w4.heap.size + 1) 102 4 v out.length (prs out)) (fun _ wr => t.size - posOf wr (w2.heap.size + 1))
  case atStart => exact ⟨0, t.size + 1, fun _ => 0, [], _, by omega, by omega, rfl, by simp, by simp, HI.out, World.ownsRow_nil _ _ _ _⟩
  case round =>
    obtain ⟨a, m, f, out, p, ha, hm, hgo, hol, hf, hinv, hown⟩ := hrel
    have HGO := Lib.hid hgo; have HF := Lib.hid hf; have HINV := Lib.hid hinv; have HOWN := Lib.hid hown
    have HPOS := Lib.hid (posOf_cur hinv.src.2)
    clear hgo hf hown
    obtain ⟨⟨c0, -⟩, -⟩ := hinv.src.cells
    clear hinv
    by_cases hlt : a < t.size
    · have hp : (0 : Int) < ((t.size - a : Nat) : Int) := by omega
      go_wp2_with fail
      refine (left_any (w2.heap.size + 1) a t 0 _ HINV.out.src.2).mono ?_
      rintro e w5 ⟨rfl, hb⟩
      have I5 := Lib.hid (HINV.out.below hb); have O5 := Lib.hid (own_below HOWN.out hb); clear hb
      obtain ⟨⟨c0', -⟩, -⟩ := I5.out.src.cells
      go_wp2_with fail
      refine (number_any (w2.heap.size + 1) a t 0 1 _ I5.out.src.2 (by omega)).mono ?_
      rintro e w6 ⟨rfl, hc, hm6⟩
      obtain ⟨hn1, hn2⟩ := num_one t a hlt
      rw [hn2] at hc
      rw [hn1]
      have I6 := Lib.hid (I5.out.mods (Mods.of_grown hm6 (.inr rfl)) (I5.out.src.cur hc hm6))
      have O6 := Lib.hid (own_mods O5.out (Mods.of_grown (S := fun i => i = w2.heap.size + 1) hm6 rfl) (fun g hg => by have := (own_block O5.out g hg).1; omega))
      have HB6 : Hid (w4.heap.size + 1 ≤ w6.heap.size) := Lib.hid I6.out.base
      clear hc hm6 hn1 hn2 c0 c0'
      have hid : idAt t a < 256 := UInt8.toNat_lt _
      obtain ⟨sh, ki, le, mo, HRL, hlk⟩ := rule_look (idAt t a)
      have hl1 := hlk _ _ I6.out.tab
      have hw : IntKind.i64.wrap (idAt t a : Int) = (idAt t a : Int) := by rw [IntKind.wrap_i64]; omega
      have HGO2 : Hid (∃ m', m = m' + 1) := Lib.hid ⟨m - 1, by omega⟩
      obtain ⟨m', rfl⟩ := HGO2.out
      have HG : Hid (listS kind t = listGo kind t (m' + 1) a f out) := HGO
      unfold listGo at HG
      rw [HRL.out] at HG
      simp only at HG
      have HIA : Hid (idAt t a < 256) := Lib.hid hid
      generalize idAt t a = id at *
      have HZ6 := Lib.hid (Bk.fresh w6 140 #[.int .i64 sh, .int .i64 ki, .int .u32 le, .int .u32 mo])
      have I7 := Lib.hid (I6.out.alloc (.cells #[.int .i64 sh, .int .i64 ki, .int .u32 le, .int .u32 mo] 140))
      have O7 := Lib.hid (O6.out.alloc (.cells #[.int .i64 sh, .int .i64 ki, .int .u32 le, .int .u32 mo] 140))
      clear hlk
      go_wp2_with fail
      refine (has_rule ⟨sh, ki, le, mo⟩ (HRL.out ▸ ruleOf_ok id) kind _).mono ?_
      rintro e w8 ⟨rfl, hb⟩
      have I8 := Lib.hid (I7.out.below hb); have O8 := Lib.hid (own_below O7.out hb); have HZ8 := Lib.hid (HZ6.out.below hb HZ6.out.lt)
      clear hb hl1 I6 O6 I7 O7 HZ6
      cases hhas : hasR ⟨sh, ki, le, mo⟩ kind
      · have HX : Hid (listS kind t = ([], 9)) := Lib.hid (by rw [HG.out, if_neg (by omega), if_pos hhas])
        have KF := Lib.hid I8.out.kept
        clear hhas
        go_wp2
        go_ret2
        exact listOut_bad HX.out KF.out
      · have HHAS := Lib.hid hhas
        have HG2 : Hid (listS kind t = if (valS sh t (a + 1)).err ≠ 0 then ([], (valS sh t (a + 1)).err) else if checkE ⟨sh, ki, le, mo⟩ kind ⟨id, (valS sh t (a + 1)).n, (valS sh t (a + 1)).text, (valS sh t (a + 1)).value⟩ ≠ 0 then ([], checkE ⟨sh, ki, le, mo⟩ kind ⟨id, (valS sh t (a + 1)).n, (valS sh t (a + 1)).text, (valS sh t (a + 1)).value⟩)
            else if againB f kind id = true then ([], 9) else if out.length = 1000 then ([], 4) else listGo kind t m' (valS sh t (a + 1)).at_ (upd f id (f id + 1)) (out ++ [⟨id, (valS sh t (a + 1)).n, (valS sh t (a + 1)).text, (valS sh t (a + 1)).value⟩])) := Lib.hid (by
          rw [HG.out, if_neg (by omega), if_neg (by rw [hhas]; decide)])
        have hsh := shape_of_has HRL.out hhas
        have hsh1 := hsh.1
        have hsh7 := hsh.2
        clear hhas HG hsh
        have I9 := Lib.hid (I8.out.mods (put_mods w8 w4.heap.size (w2.heap.size + 1) (.int .i64 id) (.int .u32 0) (.string ⟨#[]⟩) (.string ⟨#[]⟩)) (I8.out.src.put ⟨id, 0, ⟨#[]⟩, ⟨#[]⟩⟩))
        have hl2 := (mlook_run (P := Tryz.prog) (t := 180) (k := 3) (e := 184) (z := .nilFunc) (by kernel_rfl) (by kernel_rfl) (by kernel_rfl) I9.out.rd (sh : Int)).1
        rw [lookI_rd sh hsh1 hsh7, Option.getD_some, fnV] at hl2
        obtain ⟨⟨d0, d1, d2, d3, d4⟩, f1, f2, f3, f4⟩ := I8.out.src.cells
        obtain ⟨⟨e0, e1, e2, e3⟩, -⟩ := HZ8.out.four
        have hcf := enter_rd sh hsh1 hsh7
        have hvt := valS_ok HT.out (a := a + 1) sh
        have hva := valS_at (show a + 1 ≤ t.size by omega) sh
        have HVT := Lib.hid hvt; have HVA := Lib.hid hva
        clear hvt hva
        go_wp2_with fail
        refine (val_src sh hsh1 hsh7 w4.heap.size (w2.heap.size + 1) (a + 1) t id _ I9.out.src).mono ?_
        rintro e w10 ⟨rfl, hs10, hm10⟩
        have HZ10 := Lib.hid ((HZ8.out.mods (put_mods w8 w4.heap.size (w2.heap.size + 1) (.int .i64 id) (.int .u32 0) (.string ⟨#[]⟩) (.string ⟨#[]⟩)) (by have := HB6.out; rintro (x | x) <;> omega)).mods hm10 (by have := HB6.out; rintro (x | x) <;> omega))
        have O10 := Lib.hid (own_mods (own_mods O8.out (put_mods w8 w4.heap.size (w2.heap.size + 1) (.int .i64 id) (.int .u32 0) (.string ⟨#[]⟩) (.string ⟨#[]⟩)) (fun g hg => by have := (own_block O8.out g hg).1; rintro (x | x) <;> omega)) hm10 (fun g hg => by have := (own_block O8.out g hg).1; rintro (x | x) <;> omega))
        have I10 := Lib.hid (I9.out.mods hm10 hs10)
        clear hs10 hm10 hcf hl2 d0 d1 d2 d3 d4 f1 f2 f3 f4 e0 e1 e2 e3 HZ8 O8 I8 I9
        generalize valS sh t (a + 1) = V at *
        obtain ⟨vn, vt, vv, a', e'⟩ := V
        simp only at HG2 HVT HVA I10
        obtain ⟨⟨d0, d1, d2, d3, d4⟩, -⟩ := I10.out.src.cells
        go_wp2_with fail
        refine (err_any (w2.heap.size + 1) a' t e' _ I10.out.src.2).mono ?_
        rintro e w11 ⟨rfl, rfl⟩
        by_cases he0 : e' = 0
        · subst he0
          obtain ⟨⟨e0, e1, e2, e3⟩, -⟩ := HZ10.out.four
          go_wp2_with fail
          refine (check_any ⟨sh, ki, le, mo⟩ (HRL.out ▸ ruleOf_ok id) kind ⟨id, vn, vt, vv⟩ (prGood_ok (p := ⟨id, vn, vt, vv⟩) HVT.out) _).mono ?_
          rintro e w12 ⟨rfl, hb⟩
          have I12 := Lib.hid (I10.out.below hb); have O12 := Lib.hid (own_below O10.out hb)
          clear hb d0 d1 d2 d3 d4 e0 e1 e2 e3 HZ10 I10 O10
          obtain ⟨E, hE⟩ : ∃ E, checkE ⟨sh, ki, le, mo⟩ kind ⟨id, vn, vt, vv⟩ = E := ⟨_, rfl⟩
          rw [hE] at HG2 ⊢
          have HE := Lib.hid hE; clear hE
          by_cases hE0 : E = 0
          · subst hE0
            have hid64 := (check_ok (kind := kind) (p := ⟨id, vn, vt, vv⟩) (by rw [show ruleOf (⟨(id : Int), vn, vt, vv⟩ : Pr).id = ⟨sh, ki, le, mo⟩ from HRL.out]; exact HE.out)).1.2
            simp only at hid64
            go_wp2_with fail
            refine (again_any w2.heap.size f kind id (by omega) (by have := HF.out id; omega) _ I12.out.seen).mono ?_
            rintro e w13 ⟨rfl, hs3, hm3⟩
            have I13 := Lib.hid (I12.out.again hm3 hs3)
            have O13 := Lib.hid (O12.out.kept hm3 (.inr fun x => by have := (own_block O12.out _ x).1; omega))
            clear hs3 hm3 I12 O12
            obtain ⟨G, hG⟩ : ∃ G, againB f kind id = G := ⟨_, rfl⟩
            rw [hG] at HG2 ⊢
            clear hG
            cases G
            · obtain ⟨A, c, rfl, hc, hrd⟩ := own_rd O13.out
              have HRD := Lib.hid hrd; have HC := Lib.hid hc; clear hrd hc
              by_cases hfull : out.length = 1000
              · have eF : ((out.length : Int) == 1000) = true := beq_iff_eq.2 (by omega)
                have HX : Hid (listS kind t = ([], 4)) := Lib.hid (by rw [HG2.out, if_neg (by simp), if_neg (by simp), if_neg (by simp), if_pos hfull])
                have KF := Lib.hid I13.out.kept
                clear hfull
                go_wp2
                go_ret2
                exact listOut_bad HX.out KF.out
              · have eF : ((out.length : Int) == 1000) = false := beq_eq_false_iff_ne.2 (by omega)
                have HX : Hid (listS kind t = listGo kind t m' a' (upd f id (f id + 1)) (out ++ [⟨id, vn, vt, vv⟩])) := Lib.hid (by rw [HG2.out, if_neg (by simp), if_neg (by simp), if_neg (by simp), if_neg hfull])
                have HFULL : Hid (out.length < 1000) := Lib.hid (by omega)
                clear hfull
                obtain ⟨⟨d0, d1, d2, d3, d4⟩, -⟩ := I13.out.src.cells
                have hq2 : ∀ g, (Value.slice A out.length c).ownBlock = some g → w4.heap.size + 1 ≤ g := fun g hg => (own_block O13.out g hg).1
                have HQ := Lib.hid hq2; clear hq2
                go_wp2_with (at_builtin; refine wpList_app _ rfl (.tmp 63) (.tmp 66) 23 rfl (w4.heap.size + 1) 102 _ 4 48 Tryz.underlying23 info_prop rfl (by decide) (.slice A out.length c) _ _ rfl (O13.out.alloc _) _ _ 1 1 (prs [⟨id, vn, vt, vv⟩]) rfl (Rd.one4 _ ⟨id, vn, vt, vv⟩) (prs_one _) (by have := HFULL.out; unfold maxLen; omega) (by have := HFULL.out; omega) (by have := I13.out.base; simp; omega) ?_; intro v' w14 hown14 hg14 hat14)
                have R : LInv w w.heap.size w1.heap.size w2.heap.size w4.heap.size (w2.heap.size + 1) (w4.heap.size + 1) t (upd f id (f id + 1)) a' 0 ⟨id, vn, vt, vv⟩ w14 ∧ w14.ownsRow (w4.heap.size + 1) 102 4 v' (out ++ [(⟨id, vn, vt, vv⟩ : Pr)]).length (prs (out ++ [⟨id, vn, vt, vv⟩])) ∧ (∀ i, upd f id (f id + 1) i ≤ (out ++ [(⟨id, vn, vt, vv⟩ : Pr)]).length) := by
                  refine ⟨(I13.out.alloc _).app hg14 HQ.out, ?_, fun i => ?_⟩
                  · rw [prs_append, List.length_append]; exact hown14
                  · rw [List.length_append]
                    have q1 := HF.out id; have q2 := HF.out i
                    unfold upd
                    split <;> (simp only [List.length_singleton]; omega)
                have HR := Lib.hid R
                have HP2 := Lib.hid (posOf_cur R.1.src.2)
                clear R hown14 hg14 hat14 d0 d1 d2 d3 d4
                go_wp2
                go_roundw
                case rel =>
                  refine ⟨a', m', upd f id (f id + 1), out ++ [⟨id, vn, vt, vv⟩], ⟨id, vn, vt, vv⟩, HVA.out.2, by have := HVA.out.1; omega, HX.out, ?_, HR.out.2.2, HR.out.1, HR.out.2.1⟩
                  rw [List.length_append]; have := HFULL.out; simp only [List.length_singleton]; omega
                case measure =>
                  simp only [HP2.out, HPOS.out]
                  have := HVA.out.1; omega
            · have HX : Hid (listS kind t = ([], 9)) := Lib.hid (by rw [HG2.out, if_neg (by simp), if_neg (by simp), if_pos rfl])
              have KF := Lib.hid I13.out.kept
              go_wp2
              go_ret2
              exact listOut_bad HX.out KF.out
          · have e0 : (E != 0) = true := bne_iff_ne.2 hE0
            have HX : Hid (listS kind t = ([], E)) := Lib.hid (by rw [HG2.out, if_neg (by simp), if_pos hE0])
            have KF := Lib.hid I12.out.kept
            clear hE0
            go_wp2
            go_ret2
            exact listOut_bad HX.out KF.out
        · have e0 : (e' != 0) = true := bne_iff_ne.2 he0
          have HX : Hid (listS kind t = ([], e')) := Lib.hid (by rw [HG2.out, if_pos he0])
          have KF := Lib.hid I10.out.kept
          clear he0
          go_wp2
          go_ret2
          exact listOut_bad HX.out KF.out
    · have hp : ¬ ((0 : Int) < ((t.size - a : Nat) : Int)) := by omega
      have hp0 : ((t.size - a : Nat) : Int) ≤ 0 := by omega
      obtain ⟨m', rfl⟩ : ∃ m', m = m' + 1 := ⟨m - 1, by omega⟩
      have HG2 : Hid (listS kind t = if loneB f = true then ([], 9) else (out, 0)) := Lib.hid (by rw [HGO.out, listGo, if_pos (by omega)])
      go_wp2_with fail
      refine (left_any (w2.heap.size + 1) a t 0 _ HINV.out.src.2).mono ?_
      rintro e w5 ⟨rfl, hb⟩
      have I5 := Lib.hid (HINV.out.below hb); have O5 := Lib.hid (own_below HOWN.out hb); clear hb
      clear c0
      go_wp2_with fail
      refine (lone_any w2.heap.size f _ I5.out.seen).mono ?_
      rintro e w6 ⟨rfl, hw2⟩
      subst hw2
      rw [show (decide (0 < f 22) && f 21 == 0) = loneB f from rfl]
      have KF := Lib.hid I5.out.kept
      cases hL : loneB f
      · have HX : Hid (listS kind t = (out, 0)) := Lib.hid (by rw [HG2.out, hL]; rfl)
        obtain ⟨A, c, rfl, hc, hrd⟩ := own_rd O5.out
        have HC := Lib.hid hc; have HRD := Lib.hid hrd
        clear hL hc hrd
        go_wp2
        go_ret2
        rw [HX.out]
        exact ⟨A, c, rfl, HC.out, HRD.out, KF.out⟩
      · have HX : Hid (listS kind t = ([], 9)) := Lib.hid (by rw [HG2.out, hL]; rfl)
        clear hL
        go_wp2
        go_ret2
        exact listOut_bad HX.out KF.out
end Go.Proofs.YtbdgkkmbnahgiaaGreatDoor

namespace Go.Proofs.YtbdgkkmbnahgiaaGreatDoor
open Go.RowKit

theorem put_get1 (l : List UInt8) (h : l.length = 1) : putL (getL l) 1 = l := by
  match l, h with
  | [a], _ =>
    simp [getL, putL, List.range_succ]
theorem u8_of {n : Nat} {a : UInt8} (h : n % 256 = a.toNat) : UInt8.ofNat n = a := by
  apply UInt8.toNat.inj
  rw [UInt8.toNat_ofNat']
  exact h
theorem put_get2 (l : List UInt8) (h : l.length = 2) : putL (getL l) 2 = l := by
  match l, h with
  | [a, b], _ =>
    have h1 := a.toNat_lt; have h2 := b.toNat_lt
    simp only [getL, putL, List.range_succ, List.range_zero, List.nil_append, List.cons_append, List.map_cons, List.map_nil, List.foldl_cons, List.foldl_nil]
    simp only [List.cons.injEq, and_true]
    exact ⟨by rw [if_pos (by omega)]; exact u8_of (by simp <;> omega), by rw [if_pos (by omega)]; exact u8_of (by simp <;> omega)⟩
theorem put_get4 (l : List UInt8) (h : l.length = 4) : putL (getL l) 4 = l := by
  match l, h with
  | [a, b, c, d], _ =>
    have h1 := a.toNat_lt; have h2 := b.toNat_lt; have h3 := c.toNat_lt; have h4 := d.toNat_lt
    simp only [getL, putL, List.range_succ, List.range_zero, List.nil_append, List.cons_append, List.map_cons, List.map_nil, List.foldl_cons, List.foldl_nil]
    simp only [List.cons.injEq, and_true]
    exact ⟨by rw [if_pos (by omega)]; exact u8_of (by simp <;> omega), by rw [if_pos (by omega)]; exact u8_of (by simp <;> omega), by rw [if_pos (by omega)]; exact u8_of (by simp <;> omega), by rw [if_pos (by omega)]; exact u8_of (by simp <;> omega)⟩

theorem extract_ls (t : ByteArray) (a k : Nat) : ls (t.extract a (a + k)) = ((ls t).drop a).take k := by
  unfold ls
  rw [Lib.extract_data]
  congr 1
  omega
theorem needS_yes {t : ByteArray} {a k : Nat} (h : a + k ≤ t.size) : needS t a 0 k = (t.extract a (a + k), a + k, 0) := by
  unfold needS
  rw [if_pos rfl, if_pos (by simp [hasC]; omega)]
  simp
theorem needS_no {t : ByteArray} {a k : Nat} (h : ¬ a + k ≤ t.size) : needS t a 0 k = (⟨#[]⟩, a, 5) := by
  unfold needS
  rw [if_pos rfl, if_neg (by simp [hasC]; omega)]
theorem needS_back {t : ByteArray} {a k : Nat} (_ha : a ≤ t.size) (h : (needS t a 0 k).2.2 = 0) : a + k ≤ t.size ∧ (ls t).drop a = ls (needS t a 0 k).1 ++ (ls t).drop (a + k) ∧ (needS t a 0 k).2.1 = a + k ∧ (needS t a 0 k).1.size = k := by
  by_cases hk : a + k ≤ t.size
  · rw [needS_yes hk]
    refine ⟨hk, ?_, rfl, ?_⟩
    · simp only [extract_ls]
      rw [← List.drop_drop, List.take_append_drop]
    · show (t.extract a (a + k)).size = k
      rw [ByteArray.size_extract]; omega
  · rw [needS_no hk] at h
    simp at h
theorem framed_ls (s : ByteArray) : ls (framedS s) = putL s.size 2 ++ ls s := by
  unfold framedS
  unfold ls
  rw [ByteArray.data_append]
  simp
theorem dataS_err {t : ByteArray} {a : Nat} (h : (needS t a 0 2).2.2 ≠ 0) : (dataS t a 0).2.2 ≠ 0 := by
  unfold dataS
  generalize needS t a 0 2 = D at *
  obtain ⟨d, b, e⟩ := D
  simp only at h ⊢
  unfold needS
  rw [if_neg h]
  exact h
theorem dataS_back {t : ByteArray} {a : Nat} (ha : a ≤ t.size) (h : (dataS t a 0).2.2 = 0) : (dataS t a 0).1.size ≤ 65535 ∧ (ls t).drop a = ls (framedS (dataS t a 0).1) ++ (ls t).drop (dataS t a 0).2.1 ∧ (dataS t a 0).2.1 = a + 2 + (dataS t a 0).1.size := by
  have h0 : (needS t a 0 2).2.2 = 0 := by
    rcases Decidable.em ((needS t a 0 2).2.2 = 0) with h1 | h1
    · exact h1
    · exact absurd h (dataS_err h1)
  obtain ⟨h1, h2, h3, h4⟩ := needS_back (k := 2) ha h0
  have hq := getL_lt (ls (needS t a 0 2).1)
  have hl2 : (ls (needS t a 0 2).1).length = 2 := by rw [ls_len]; exact h4
  rw [hl2] at hq
  have hpg := put_get2 _ hl2
  unfold dataS at h ⊢
  rw [show ((2 : Int)) = ((2 : Nat) : Int) from rfl] at *
  rw [h0, h3] at h ⊢
  generalize hq' : getL (ls (needS t a 0 ((2 : Nat) : Int)).1) = q at *
  obtain ⟨h5, h6, h7, h8⟩ := needS_back (k := q) h1 h
  refine ⟨by rw [h8]; omega, ?_, by rw [h7, h8]⟩
  rw [h2, h6, framed_ls, h8, hpg, h7]
  simp
theorem rv_back : ∀ (l : List UInt8) (n k n' k' : Nat), k ≤ 3 → rv l n k = (n', k', 0) → ∃ m, n' = n + m * 2 ^ (7 * k) ∧ m < 128 ^ (4 - k) ∧ (0 < k → 0 < m) ∧ l = varF (3 - k) m ++ l.drop (k' - k) ∧ k' = k + (varF (3 - k) m).length
  | [], n, k, n', k', hk, h => by simp [rv] at h
  | b :: l, n, k, n', k', hk, h => by
    rw [rv] at h
    have hb := b.toNat_lt
    split at h
    · rename_i h1
      split at h
      · simp at h
      · rename_i h3
        obtain ⟨m, hm1, hm2, hm3, hm4, hm5⟩ := rv_back l (pushN n k b) (k + 1) n' k' (by omega) h
        have hm3' := hm3 (by omega)
        have hf : 3 - k = (3 - (k + 1)) + 1 := by omega
        have hge : ¬ (b.toNat % 128 + m * 128 < 128) := by omega
        have e1 : (b.toNat % 128 + m * 128) % 128 + 128 = b.toNat := by omega
        have e2 : (b.toNat % 128 + m * 128) / 128 = m := by omega
        have hv : varF (3 - k) (b.toNat % 128 + m * 128) = b :: varF (3 - (k + 1)) m := by
          rw [hf, varF, if_neg hge, e1, e2]
          simp
        refine ⟨b.toNat % 128 + m * 128, ?_, ?_, fun _ => by omega, ?_, ?_⟩
        · rw [hm1]
          unfold pushN
          rw [show 7 * (k + 1) = 7 * k + 7 by omega, Nat.pow_add, Nat.add_mul, show (2 : Nat) ^ 7 = 128 by rfl]
          generalize 2 ^ (7 * k) = X
          rw [Nat.mul_comm X 128, ← Nat.mul_assoc]
          omega
        · have h4 : 4 - k = (4 - (k + 1)) + 1 := by omega
          rw [h4, Nat.pow_succ]
          omega
        · rw [hv]
          have hk' : k' - k = (k' - (k + 1)) + 1 := by omega
          rw [hk', List.drop_succ_cons]
          exact congrArg (b :: ·) hm4
        · rw [hv, hm5, List.length_cons]; omega
    · rename_i h1
      split at h
      · simp at h
      · rename_i h2
        simp only [Prod.mk.injEq] at h
        obtain ⟨rfl, rfl, -⟩ := h
        have hv : varF (3 - k) b.toNat = [b] := by
          rcases Nat.eq_zero_or_pos (3 - k) with h0 | h0
          · rw [h0, varF]; simp
          · obtain ⟨f, hf⟩ : ∃ f, 3 - k = f + 1 := ⟨3 - k - 1, by omega⟩
            rw [hf, varF, if_pos (by omega)]; simp
        refine ⟨b.toNat, ?_, ?_, fun h0 => ?_, ?_, ?_⟩
        · unfold pushN
          rw [Nat.mod_eq_of_lt (by omega)]
        · have : 128 ^ 1 ≤ 128 ^ (4 - k) := Nat.pow_le_pow_right (by omega) (by omega)
          omega
        · rcases Nat.eq_zero_or_pos b.toNat with hz | hz
          · exact absurd ⟨hz, h0⟩ h2
          · exact hz
        · rw [hv]; simp
        · rw [hv]; rfl
theorem readV_back {l : List UInt8} {n k : Nat} (h : readV l = (n, k, 0)) : l = varL n ++ l.drop k ∧ k = (varL n).length ∧ n ≤ 268435455 := by
  obtain ⟨m, h1, h2, _, h4, h5⟩ := rv_back l 0 0 n k (by omega) h
  simp at h1 h2 h4 h5
  subst h1
  exact ⟨h4, by simpa [varL] using h5, by omega⟩
end Go.Proofs.YtbdgkkmbnahgiaaGreatDoor

namespace Go.Proofs.YtbdgkkmbnahgiaaGreatDoor
open Go.RowKit

theorem writS_back {t : ByteArray} {a : Nat} (ha : a ≤ t.size) (h : (writS t a 0).2.2 = 0) : (ls t).drop a = ls (framedS (writS t a 0).1) ++ (ls t).drop (writS t a 0).2.1 ∧ (writS t a 0).2.1 = a + 2 + (writS t a 0).1.size ∧ (writS t a 0).2.1 ≤ t.size := by
  have h0 : (dataS t a 0).2.2 = 0 := by
    unfold writS at h
    simp only at h
    split at h
    · exact absurd h (by decide)
    · exact h
  obtain ⟨_, h1, h2⟩ := dataS_back ha h0
  exact ⟨h1, h2, (dataS_at ha 0).2⟩
theorem writS_err {t : ByteArray} {a : Nat} {e : Int} (h : e ≠ 0) : (writS t a e).2.2 = e := by
  have h1 : (dataS t a e).2.2 = e := by
    unfold dataS needS
    simp [h]
  unfold writS
  simp only [h1]
  rw [if_neg (fun x => h x.1)]
theorem valS_back {sh : Nat} {t : ByteArray} {a : Nat} (h1 : 1 ≤ sh) (h7 : sh ≤ 7) (ha : a ≤ t.size) (h : (valS sh t a).err = 0) (id : Int) :
    (ls t).drop a = ls (valueS sh ⟨id, (valS sh t a).n, (valS sh t a).text, (valS sh t a).value⟩) ++ (ls t).drop (valS sh t a).at_ ∧ (valS sh t a).at_ = a + (valueS sh ⟨id, (valS sh t a).n, (valS sh t a).text, (valS sh t a).value⟩).size := by
  have hz : ∀ n k : Nat, (⟨(putL n k).toArray⟩ : ByteArray).size = k := fun n k => by show (putL n k).toArray.size = k; simp [putL_len]
  have hcase : sh = 1 ∨ sh = 2 ∨ sh = 3 ∨ sh = 4 ∨ sh = 5 ∨ sh = 6 ∨ sh = 7 := by omega
  rcases hcase with rfl | rfl | rfl | rfl | rfl | rfl | rfl
  · have e : valS 1 t a = ⟨getL (ls (needS t a 0 1).1), ⟨#[]⟩, ⟨#[]⟩, (needS t a 0 1).2.1, (needS t a 0 1).2.2⟩ := rfl
    rw [e] at h ⊢
    obtain ⟨b1, b2, b3, b4⟩ := needS_back (k := 1) ha h
    have hp := put_get1 (ls (needS t a 0 ((1 : Nat) : Int)).1) (by rw [ls_len]; exact b4)
    show _ = ls (⟨(putL _ 1).toArray⟩ : ByteArray) ++ _ ∧ _ = a + (⟨(putL _ 1).toArray⟩ : ByteArray).size
    rw [hz, ls_mk]
    simp only
    rw [show ((1 : Int)) = ((1 : Nat) : Int) from rfl, hp, b3]
    exact ⟨b2, rfl⟩
  · have e : valS 2 t a = ⟨getL (ls (needS t a 0 2).1), ⟨#[]⟩, ⟨#[]⟩, (needS t a 0 2).2.1, (needS t a 0 2).2.2⟩ := rfl
    rw [e] at h ⊢
    obtain ⟨b1, b2, b3, b4⟩ := needS_back (k := 2) ha h
    have hp := put_get2 (ls (needS t a 0 ((2 : Nat) : Int)).1) (by rw [ls_len]; exact b4)
    show _ = ls (⟨(putL _ 2).toArray⟩ : ByteArray) ++ _ ∧ _ = a + (⟨(putL _ 2).toArray⟩ : ByteArray).size
    rw [hz, ls_mk]
    simp only
    rw [show ((2 : Int)) = ((2 : Nat) : Int) from rfl, hp, b3]
    exact ⟨b2, rfl⟩
  · have e : valS 3 t a = ⟨getL (ls (needS t a 0 4).1), ⟨#[]⟩, ⟨#[]⟩, (needS t a 0 4).2.1, (needS t a 0 4).2.2⟩ := rfl
    rw [e] at h ⊢
    obtain ⟨b1, b2, b3, b4⟩ := needS_back (k := 4) ha h
    have hp := put_get4 (ls (needS t a 0 ((4 : Nat) : Int)).1) (by rw [ls_len]; exact b4)
    show _ = ls (⟨(putL _ 4).toArray⟩ : ByteArray) ++ _ ∧ _ = a + (⟨(putL _ 4).toArray⟩ : ByteArray).size
    rw [hz, ls_mk]
    simp only
    rw [show ((4 : Int)) = ((4 : Nat) : Int) from rfl, hp, b3]
    exact ⟨b2, rfl⟩
  · have e : valS 4 t a = ⟨(varS t a).1, ⟨#[]⟩, ⟨#[]⟩, (varS t a).2.1, (varS t a).2.2⟩ := rfl
    rw [e] at h ⊢
    simp only at h
    show _ = ls (⟨(varL _).toArray⟩ : ByteArray) ++ _ ∧ _ = a + (⟨(varL _).toArray⟩ : ByteArray).size
    unfold varS at h ⊢
    generalize hR : readV ((ls t).drop a) = R at *
    obtain ⟨n, k, x⟩ := R
    simp only at h ⊢
    by_cases hx : x = 0
    · subst hx
      rw [if_pos rfl]
      simp only
      obtain ⟨r1, r2, _⟩ := readV_back hR
      have hsz : (⟨(varL n).toArray⟩ : ByteArray).size = (varL n).length := by show (varL n).toArray.size = _; simp
      rw [hsz, ls_mk, ← r2, ← List.drop_drop]
      exact ⟨r1, rfl⟩
    · rw [if_neg hx] at h
      simp at h
  · have e : valS 5 t a = ⟨0, (writS t a 0).1, ⟨#[]⟩, (writS t a 0).2.1, (writS t a 0).2.2⟩ := rfl
    rw [e] at h ⊢
    obtain ⟨b1, b2, _⟩ := writS_back ha h
    show _ = ls (framedS _) ++ _ ∧ _ = a + (framedS _).size
    rw [framedS_size]
    exact ⟨b1, by simp only; omega⟩
  · have e : valS 6 t a = ⟨0, (dataS t a 0).1, ⟨#[]⟩, (dataS t a 0).2.1, (dataS t a 0).2.2⟩ := rfl
    rw [e] at h ⊢
    obtain ⟨_, b1, b2⟩ := dataS_back ha h
    show _ = ls (framedS _) ++ _ ∧ _ = a + (framedS _).size
    rw [framedS_size]
    exact ⟨b1, by simp only; omega⟩
  · have e : valS 7 t a = ⟨0, (pairS t a 0).1.1, (pairS t a 0).1.2, (pairS t a 0).2.1, (pairS t a 0).2.2⟩ := rfl
    rw [e] at h ⊢
    show _ = ls (framedS _ ++ framedS _) ++ _ ∧ _ = a + (framedS _ ++ framedS _).size
    have hl : ∀ x y : ByteArray, ls (x ++ y) = ls x ++ ls y := fun x y => by unfold ls; rw [ByteArray.data_append]; simp
    rw [hl, ByteArray.size_append, framedS_size, framedS_size]
    unfold pairS at h ⊢
    simp only at h ⊢
    have h0 : (writS t a 0).2.2 = 0 := by
      rcases Decidable.em ((writS t a 0).2.2 = 0) with h1 | h1
      · exact h1
      · rw [writS_err h1] at h; exact absurd h h1
    obtain ⟨b1, b2, b3⟩ := writS_back ha h0
    rw [h0] at h ⊢
    obtain ⟨d1, d2, _⟩ := writS_back b3 h
    rw [List.append_assoc, ← d1]
    exact ⟨b1, by omega⟩
end Go.Proofs.YtbdgkkmbnahgiaaGreatDoor

namespace Go.Proofs.YtbdgkkmbnahgiaaGreatDoor
open Go.RowKit

theorem idAt_front {t : ByteArray} {a : Nat} {b : UInt8} {rest : List UInt8} (h : (ls t).drop a = b :: rest) : idAt t a = b.toNat ∧ a < t.size ∧ (ls t).drop (a + 1) = rest := by
  have hl : a < t.size := by
    have := congrArg List.length h
    rw [List.length_drop, List.length_cons, ls_len] at this
    omega
  have hd := List.drop_eq_getElem_cons (show a < (ls t).length by rw [ls_len]; exact hl)
  rw [h] at hd
  simp only [List.cons.injEq] at hd
  refine ⟨?_, hl, hd.2.symm⟩
  unfold idAt
  rw [List.getD, List.getElem?_eq_getElem (show a < (ls t).length by rw [ls_len]; exact hl)]
  simp [← hd.1]
theorem listGo_back (kind : Int) (t : ByteArray) : ∀ (m a : Nat) (f : Nat → Nat) (out r : List Pr), a ≤ t.size → out.length ≤ 1000 → listGo kind t m a f out = (r, 0) →
    ∃ l, r = out ++ l ∧ (ls t).drop a = l.flatMap propL ∧ ckL kind l ∧ onceL kind f l ∧ loneB (fun k => f k + cnt k l) = false ∧ r.length ≤ 1000
  | 0, a, f, out, r, _, _, h => by simp [listGo] at h
  | m + 1, a, f, out, r, ha, hol, h => by
    rw [listGo] at h
    by_cases hend : t.size ≤ a
    · rw [if_pos hend] at h
      cases hlo : loneB f
      · rw [hlo] at h
        simp at h
        refine ⟨[], by simp [h], ?_, fun p hp => by simp at hp, fun p hp => by simp at hp, ?_, by rw [← h]; exact hol⟩
        · rw [List.drop_of_length_le (by rw [ls_len]; exact hend)]; rfl
        · have : (fun k => f k + cnt k []) = f := by funext k; simp [cnt]
          rw [this]; exact hlo
      · rw [hlo] at h; simp at h
    · rw [if_neg hend] at h
      have hlt : a < t.size := by omega
      have hd := List.drop_eq_getElem_cons (show a < (ls t).length by rw [ls_len]; exact hlt)
      obtain ⟨e1, _, e3⟩ := idAt_front hd
      by_cases hh : hasR (ruleOf (idAt t a)) kind = false
      · rw [if_pos hh] at h; simp at h
      · rw [if_neg hh] at h
        by_cases hv : (valS (ruleOf (idAt t a)).shape t (a + 1)).err = 0
        · rw [if_neg (by simpa using hv)] at h
          generalize hP : (⟨idAt t a, (valS (ruleOf (idAt t a)).shape t (a + 1)).n, (valS (ruleOf (idAt t a)).shape t (a + 1)).text, (valS (ruleOf (idAt t a)).shape t (a + 1)).value⟩ : Pr) = P at h
          have hPid : P.id = (idAt t a : Int) := by rw [← hP]
          by_cases hc : checkE (ruleOf (idAt t a)) kind P = 0
          · rw [if_neg (by simpa using hc)] at h
            by_cases hag : againB f kind (idAt t a) = true
            · rw [if_pos hag] at h; simp at h
            · rw [if_neg hag] at h
              by_cases hfull : out.length = 1000
              · rw [if_pos hfull] at h; simp at h
              · rw [if_neg hfull] at h
                have hcP : checkE (ruleOf P.id) kind P = 0 := by rw [hPid]; exact hc
                obtain ⟨_, k1, k7, _⟩ := check_ok hcP
                have hsh : shapeOf P.id = (ruleOf (idAt t a)).shape := by rw [hPid]; rfl
                rw [hsh] at k1 k7
                obtain ⟨b1, b2⟩ := valS_back k1 k7 (show a + 1 ≤ t.size by omega) hv (idAt t a)
                rw [hP, ← hsh] at b1 b2
                have hat := (valS_at (show a + 1 ≤ t.size by omega) (ruleOf (idAt t a)).shape).2
                obtain ⟨l, l1, l2, l3, l4, l5, l6⟩ := listGo_back kind t m _ _ (out ++ [P]) r hat (by rw [List.length_append]; simp; omega) h
                have hidn : P.id.toNat = idAt t a := by rw [hPid]; simp
                have hag' : ¬ (1 ≤ f P.id.toNat ∧ oftenP kind P.id.toNat = false) := fun x => hag (by rw [hidn] at x; exact (againB_iff _ _ _).2 x)
                rw [← hidn] at l4 l5
                refine ⟨P :: l, by rw [l1]; simp, ?_, ?_, (once_cons kind f P l hag').1 l4, ?_, l6⟩
                · rw [hd, List.flatMap_cons, e3] at *
                  rw [b1, hsh, l2, ← hsh]
                  unfold propL
                  rw [hidn, e1]
                  simp
                · intro q hq
                  rcases List.mem_cons.1 hq with rfl | hq
                  · exact hcP
                  · exact l3 q hq
                · have : (fun k => upd f P.id.toNat (f P.id.toNat + 1) k + cnt k l) = fun k => f k + cnt k (P :: l) := by
                    funext k
                    rw [cnt_cons]
                    unfold upd
                    by_cases hk : k = P.id.toNat
                    · subst hk; simp; omega
                    · rw [if_neg hk, if_neg (fun x => hk x.symm)]; rfl
                  rw [← this]; exact l5
          · rw [if_pos (by simpa using hc)] at h
            simp only [Prod.mk.injEq] at h
            exact absurd h.2 hc
        · rw [if_pos (by simpa using hv)] at h
          simp only [Prod.mk.injEq] at h
          exact absurd h.2 hv
theorem listS_back {kind : Int} {t : ByteArray} {l : List Pr} (h : listS kind t = (l, 0)) : ls t = l.flatMap propL ∧ okL kind l ∧ l.length ≤ 1000 := by
  obtain ⟨l', h1, h2, h3, h4, h5, h6⟩ := listGo_back kind t _ 0 _ [] l (by omega) (by simp) h
  simp at h1
  subst h1
  exact ⟨by simpa using h2, (okL_iff kind _).2 ⟨h3, h4, h5⟩, h6⟩

/-- What prop.Read answers. -/
def readP (kind : Int) (s : ByteArray) : List Pr × Nat × Int :=
  if (readV (ls s)).2.2 ≠ 0 then ([], 0, (readV (ls s)).2.2)
  else if s.size < (readV (ls s)).2.1 + (readV (ls s)).1 then ([], 0, 3)
  else if (listS kind (s.extract (readV (ls s)).2.1 ((readV (ls s)).2.1 + (readV (ls s)).1))).2 ≠ 0 then ([], 0, (listS kind (s.extract (readV (ls s)).2.1 ((readV (ls s)).2.1 + (readV (ls s)).1))).2)
  else ((listS kind (s.extract (readV (ls s)).2.1 ((readV (ls s)).2.1 + (readV (ls s)).1))).1, (readV (ls s)).2.1 + (readV (ls s)).1, 0)
/-- What is read is valid, and its bytes are those that were read. -/
theorem readP_back {kind : Int} {s : ByteArray} {l : List Pr} {n : Nat} (h : readP kind s = (l, n, 0)) : (bytesS kind l).2 = 0 ∧ (bytesS kind l).1 = (ls s).take n ∧ n ≤ s.size := by
  unfold readP at h
  generalize hR : readV (ls s) = R at h
  obtain ⟨m, k, x⟩ := R
  simp only at h
  by_cases hx : x = 0
  · subst hx
    rw [if_neg (by decide)] at h
    by_cases hsz : s.size < k + m
    · rw [if_pos hsz] at h; simp at h
    · rw [if_neg hsz] at h
      by_cases hl : (listS kind (s.extract k (k + m))).2 = 0
      · rw [if_neg (by simpa using hl)] at h
        simp only [Prod.mk.injEq] at h
        obtain ⟨h1, h2, -⟩ := h
        have he : listS kind (s.extract k (k + m)) = (l, 0) := Prod.ext h1 hl
        obtain ⟨b1, b2, b3⟩ := listS_back he
        obtain ⟨r1, r2, r3⟩ := readV_back hR
        have hok : (bytesS kind l).2 = 0 := (bytesS_ok kind l).2 ⟨b3, b2⟩
        rw [extract_ls] at b1
        have hm : (l.flatMap propL).length = m := by
          rw [← b1, List.length_take, List.length_drop, ls_len]; omega
        refine ⟨hok, ?_, by omega⟩
        rw [bytesS_bytes kind l hok, hm]
        simp only
        generalize (ls s).drop k = D at b1 r1
        rw [r1, ← h2, r2, List.take_append, List.take_of_length_le (by omega), show (varL m).length + m - (varL m).length = m by omega, b1]
      · rw [if_pos (by simpa using hl)] at h
        simp only [Prod.mk.injEq] at h
        exact absurd h.2.2 hl
  · rw [if_pos (by simpa using hx)] at h
    simp only [Prod.mk.injEq] at h
    exact absurd h.2.2 hx
end Go.Proofs.YtbdgkkmbnahgiaaGreatDoor

namespace Go.Proofs.YtbdgkkmbnahgiaaGreatDoor
open Go.RowKit

theorem ret_tup (A : Option Addr) (n c : Nat) (x y : Int) (h : x = y) : Ending.returned (.tuple #[.slice A n c, .int .i64 x, .int .i64 0]) = .returned (.tuple #[.slice A n c, .int .i64 y, .int .i64 0]) := by rw [h]
/-- What prop.Read leaves. -/
def ReadOut (r : List Pr × Nat × Int) (w : World) (e : Ending) (w' : World) : Prop :=
  ∃ A c, e = .returned (.tuple #[.slice A r.1.length c, .int .i64 r.2.1, .int .i64 r.2.2]) ∧ r.1.length ≤ c ∧ Rd w' w'.heap.size 4 A r.1.length (prs r.1) ∧ Below w.heap.size w w'
theorem readOut_bad {r : List Pr × Nat × Int} {x : Int} {w w' : World} (h : r = ([], 0, x)) (hb : Below w.heap.size w w') : ReadOut r w (.returned (.tuple #[.slice none 0 0, .int .i64 0, .int .i64 x])) w' := by
  subst h
  exact ⟨none, 0, rfl, Nat.le_refl _, Rd.nil _ _ _ _, hb⟩

set_option maxHeartbeats 1000000 in
set_option maxRecDepth 10000 in
theorem readP_any (kind : Int) (s : ByteArray) (w : World) (hs : s.size ≤ 140737488351232) :
    Calls Tryz.prog 63 #[.int .i64 kind, .string s] w (ReadOut (readP kind s) w) := by
  have hlt := readV_lt (ls s)
  have hsz := readV_size (ls s)
  rw [ls_len] at hsz
  have HV := Lib.hid (readV_any s w (by omega))
  have HP : Hid (readP kind s = if (readV (ls s)).2.2 ≠ 0 then ([], 0, (readV (ls s)).2.2)
    else if s.size < (readV (ls s)).2.1 + (readV (ls s)).1 then ([], 0, 3)
    else if (listS kind (s.extract (readV (ls s)).2.1 ((readV (ls s)).2.1 + (readV (ls s)).1))).2 ≠ 0 then ([], 0, (listS kind (s.extract (readV (ls s)).2.1 ((readV (ls s)).2.1 + (readV (ls s)).1))).2)
    else ((listS kind (s.extract (readV (ls s)).2.1 ((readV (ls s)).2.1 + (readV (ls s)).1))).1, (readV (ls s)).2.1 + (readV (ls s)).1, 0)) := Lib.hid rfl
  generalize readV (ls s) = R at *
  obtain ⟨n, k, x⟩ := R
  simp only at hlt hsz HP HV
  have HS := Lib.hid hs
  by_cases hx : x = 0
  · subst hx
    by_cases hlen : s.size < k + n
    · have HX : Hid (readP kind s = ([], 0, 3)) := Lib.hid (by rw [HP.out, if_neg (by decide), if_pos hlen])
      have d1 : (s.size : Int) - (k : Int) < (n : Int) := by omega
      clear hlen HP
      go_enter Tryz.func63, Tryz.ntmps63
      go_wp2_with fail
      refine HV.out.mono ?_
      rintro e w1 ⟨rfl, hb⟩
      have HB := Lib.hid hb; clear hb
      go_wp2
      go_ret3
      exact readOut_bad HX.out HB.out
    · have HX : Hid (readP kind s = if (listS kind (s.extract k (k + n))).2 ≠ 0 then ([], 0, (listS kind (s.extract k (k + n))).2) else ((listS kind (s.extract k (k + n))).1, k + n, 0)) := Lib.hid (by rw [HP.out, if_neg (by decide), if_neg hlen])
      have d1 : (n : Int) ≤ (s.size : Int) - (k : Int) := by omega
      have d2 : (k : Int) + (n : Int) ≤ (s.size : Int) := by omega
      have d3 : (k : Int) ≤ (k : Int) + (n : Int) := by omega
      have d4 : (0 : Int) ≤ (k : Int) := by omega
      have d5 : k + n ≤ s.size := by omega
      clear hlen HP
      go_enter Tryz.func63, Tryz.ntmps63
      go_wp2_with fail
      refine HV.out.mono ?_
      rintro e w1 ⟨rfl, hb⟩
      have HB := Lib.hid hb; clear hb
      go_wp2_with fail
      refine (list_any kind (s.extract k (k + n)) _ (by rw [ByteArray.size_extract]; have := HS.out; omega)).mono ?_
      rintro e w2 ⟨A, c, rfl, hc, hrd, hb⟩
      generalize listS kind (s.extract k (k + n)) = L at *
      obtain ⟨l, y⟩ := L
      simp only at HX hrd hc
      have HRD := Lib.hid hrd; have HC := Lib.hid hc; have HB2 := Lib.hid (HB.out.trans (hb.mono HB.out.size)); clear hrd hc hb
      by_cases hy : y = 0
      · subst hy
        have HY : Hid (readP kind s = (l, k + n, 0)) := Lib.hid (by rw [HX.out, if_neg (by decide)])
        go_wp2
        go_ret3
        rw [HY.out]
        exact ⟨A, c, ret_tup A l.length c _ _ (by simp), HC.out, HRD.out, HB2.out⟩
      · have e0 : (y != 0) = true := bne_iff_ne.2 hy
        have HY : Hid (readP kind s = ([], 0, y)) := Lib.hid (by rw [HX.out, if_pos hy])
        clear hy
        go_wp2
        go_ret3
        exact readOut_bad HY.out HB2.out
  · have HX : Hid (readP kind s = ([], 0, x)) := Lib.hid (by rw [HP.out, if_pos hx])
    have e0 : (x != 0) = true := bne_iff_ne.2 hx
    clear hx HP
    go_enter Tryz.func63, Tryz.ntmps63
    go_wp2_with fail
    refine HV.out.mono ?_
    rintro e w1 ⟨rfl, hb⟩
    have HB := Lib.hid hb; clear hb
    go_wp2
    go_ret3
    exact readOut_bad HX.out HB.out
end Go.Proofs.YtbdgkkmbnahgiaaGreatDoor

namespace Go.Proofs.YtbdgkkmbnahgiaaGreatDoor
open Go.RowKit

theorem listGo_good (kind : Int) (t : ByteArray) (ht : t.size ≤ 140737488351232) : ∀ (m a : Nat) (f : Nat → Nat) (out : List Pr), (∀ p ∈ out, prGood p) → ∀ p ∈ (listGo kind t m a f out).1, prGood p
  | 0, a, f, out, _ => by simp [listGo]
  | m + 1, a, f, out, ho => by
    rw [listGo]
    split
    · split
      · simp
      · exact ho
    · split
      · simp
      · split
        · simp
        · split
          · simp
          · split
            · simp
            · split
              · simp
              · apply listGo_good kind t ht
                intro p hp
                rcases List.mem_append.1 hp with hp | hp
                · exact ho p hp
                · rw [List.mem_singleton.1 hp]
                  exact valS_ok ht _
theorem readP_good {kind : Int} {s : ByteArray} (hs : s.size ≤ 140737488351232) : ∀ p ∈ (readP kind s).1, prGood p := by
  have h : ∀ x : ByteArray, x.size ≤ 140737488351232 → ∀ p ∈ (listS kind x).1, prGood p := fun x hx => listGo_good kind x hx _ _ _ _ (by simp)
  unfold readP
  split
  · simp
  · split
    · simp
    · split
      · simp
      · exact h _ (by rw [ByteArray.size_extract]; omega)
theorem readP_bad {kind : Int} {s : ByteArray} (h : (readP kind s).2.2 ≠ 0) : readP kind s = ([], 0, (readP kind s).2.2) := by
  unfold readP at h ⊢
  split
  · rfl
  · split
    · rfl
    · split
      · rfl
      · rename_i h1 h2 h3
        rw [if_neg h1, if_neg h2, if_neg h3] at h
        exact absurd rfl h
theorem readP_len {kind : Int} {s : ByteArray} (h : (readP kind s).2.2 = 0) : (readP kind s).1.length ≤ 1000 := by
  have hb := (readP_back (kind := kind) (s := s) (l := (readP kind s).1) (n := (readP kind s).2.1) (by rw [← h])).1
  exact ((bytesS_ok kind _).1 hb).1
theorem ls_app (a b : ByteArray) : ls (a ++ b) = ls a ++ ls b := by unfold ls; rw [ByteArray.data_append]; simp

end Go.Proofs.YtbdgkkmbnahgiaaGreatDoor

