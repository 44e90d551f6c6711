/- prop's source: the walks of need, one, two, four. -/
import Derived.Test.YtcokgfmlkanoiaaProK
import Derived.Test.YtcokgfmlkanoiaaKit3
namespace Go.Proofs.Ytcokgfmlkanoiaa
open Go.RowKit

abbrev SrT : TypeId := 97
def srcC (gc : Nat) (p : Pr) : Array Value := #[.pointer (some ⟨gc, 0, none⟩), .int .i64 p.id, .int .u32 p.n, .string p.text, .string p.value]
/-- A source: its block, its cursor's block; the text, the place, the error; the property that is read. -/
def Src (w : World) (gs gc : Nat) (t : ByteArray) (a : Nat) (e : Int) (p : Pr) : Prop := Bk w gs SrT (srcC gc p) ∧ Cur w gc t a e
def two (gs gc : Nat) : Nat → Prop := fun i => i = gs ∨ i = gc
section
variable {w w' : World} {gs gc a a' : Nat} {t : ByteArray} {e e' : Int} {p : Pr}
theorem Src.ne (h : Src w gs gc t a e p) : gs ≠ gc := by
  rintro rfl
  have h1 := h.1
  have h2 := h.2.1
  unfold Bk at h1 h2
  rw [h1] at h2
  simp only [Option.some.injEq, Obj.cells.injEq] at h2
  exact absurd h2.2.1 (by decide)
theorem Src.cells (h : Src w gs gc t a e p) : (w.cell? ⟨gs, 0, none⟩ = some (.pointer (some ⟨gc, 0, none⟩)) ∧ w.cell? ⟨gs, 1, none⟩ = some (.int .i64 p.id) ∧ w.cell? ⟨gs, 2, none⟩ = some (.int .u32 p.n) ∧ w.cell? ⟨gs, 3, none⟩ = some (.string p.text) ∧ w.cell? ⟨gs, 4, none⟩ = some (.string p.value)) ∧
    w.frozen? ⟨gs, 1, none⟩ = false ∧ w.frozen? ⟨gs, 2, none⟩ = false ∧ w.frozen? ⟨gs, 3, none⟩ = false ∧ w.frozen? ⟨gs, 4, none⟩ = false :=
  ⟨⟨h.1.cell 0, h.1.cell 1, h.1.cell 2, h.1.cell 3, h.1.cell 4⟩, h.1.free 1, h.1.free 2, h.1.free 3, h.1.free 4⟩
theorem Src.below (h : Src w gs gc t a e p) (hb : Below w.heap.size w w') : Src w' gs gc t a e p := ⟨h.1.below hb h.1.lt, h.2.below hb⟩
theorem Src.cur (h : Src w gs gc t a e p) (hc : Cur w' gc t a' e') (hm : w.grownBy w' (some gc)) : Src w' gs gc t a' e' p := ⟨(hm.block gs h.1.lt (fun x => h.ne (by cases x; rfl))).trans h.1, hc⟩
theorem Src.set (h : Src w gs gc t a e p) (i : Nat) (u : Value) (q : Pr) (hq : (srcC gc p).setIfInBounds i u = srcC gc q) : Src (w.setCell ⟨gs, i, none⟩ u) gs gc t a e q :=
  ⟨h.1.upd i u hq, h.2.1.other (Ne.symm h.ne) _, h.2.2⟩
end

/-- What need answers. -/
def needS (t : ByteArray) (a : Nat) (e n : Int) : ByteArray × Nat × Int :=
  if e = 0 then (if hasC t a n = true then (t.extract a (a + n.toNat), a + n.toNat, 0) else (⟨#[]⟩, a, 5)) else (⟨#[]⟩, a, e)
theorem needS_take (t : ByteArray) (a : Nat) (e n : Int) (h : e ≠ 0 ∨ hasC t a n = true) : needS t a e n = takeS t a e n := by
  unfold needS takeS
  rcases h with h | h
  · rw [if_neg h, if_neg h]
  · rw [h]; rfl

set_option maxHeartbeats 1000000 in
set_option maxRecDepth 10000 in
theorem need_any (gs gc a : Nat) (t : ByteArray) (e n : Int) (p : Pr) (w : World) (h : Src w gs gc t a e p) :
    Calls Try.prog 99 #[.pointer (some ⟨gs, 0, none⟩), .int .i64 n] w fun e' w' =>
      e' = .returned (.string (needS t a e n).1) ∧ Src w' gs gc t (needS t a e n).2.1 (needS t a e n).2.2 p ∧ w.grownBy w' (some gc) := by
  have H := Lib.hid h
  obtain ⟨⟨c0, -⟩, -⟩ := h.cells
  have hle := h.2.2.1
  have hts := h.2.2.2
  clear h
  by_cases he : e = 0
  · subst he
    by_cases hh : hasC t a n = true
    · have HN := Lib.hid (needS_take t a 0 n (.inr hh))
      have hn : 0 ≤ n ∧ n ≤ (t.size : Int) - a := by simpa [hasC] using hh
      have d1 : decide (n < 0) = false := decide_eq_false (by omega)
      have d2 : decide (((t.size - a : Nat) : Int) < n) = false := decide_eq_false (by omega)
      have hn1 : 0 ≤ n := hn.1
      have hn2 : n ≤ ((t.size - a : Nat) : Int) := by omega
      clear hh hn
      go_enter Try.func99, Try.ntmps99
      go_wp2_with fail
      refine (err_any gc a t 0 _ H.out.2).mono ?_
      rintro e1 w1 ⟨rfl, rfl⟩
      go_wp2_with fail
      refine (left_any gc a t 0 _ H.out.2).mono ?_
      rintro e1 w1 ⟨rfl, hb⟩
      have HB := Lib.hid hb
      have H1 := Lib.hid (H.out.below hb); clear hb
      obtain ⟨⟨c0', -⟩, -⟩ := H1.out.cells
      go_wp2_with fail
      refine (take_any gc a t 0 n _ H1.out.2).mono ?_
      rintro e1 w2 ⟨rfl, hc, hm⟩
      have HF := Lib.hid (And.intro (H1.out.cur hc hm) ((mod_below HB.out (some gc)).trans hm))
      clear hc hm
      go_wp2
      go_ret
      rw [HN.out]
      exact ⟨rfl, HF.out⟩
    · have HN : Hid (needS t a 0 n = (⟨#[]⟩, a, 5)) := Lib.hid (by unfold needS; rw [if_pos rfl, if_neg hh])
      have HT : Hid (takeS t a 5 n = (⟨#[]⟩, a, 5)) := Lib.hid (by unfold takeS; rw [if_neg (by decide)])
      have hn : ¬ (0 ≤ n ∧ n ≤ (t.size : Int) - a) := by simpa [hasC] using hh
      clear hh
      by_cases hneg : n < 0
      · have d1 : decide (n < 0) = true := decide_eq_true hneg
        clear hn
        go_enter Try.func99, Try.ntmps99
        go_wp2_with fail
        refine (err_any gc a t 0 _ H.out.2).mono ?_
        rintro e1 w1 ⟨rfl, rfl⟩
        go_wp2_with fail
        refine (fail_any gc a t 0 5 _ H.out.2).mono ?_
        rintro e1 w1 ⟨rfl, hc, hm⟩
        rw [if_pos rfl] at hc
        have H1 := Lib.hid (H.out.cur hc hm); have HM := Lib.hid hm; clear hc hm
        obtain ⟨⟨c0', -⟩, -⟩ := H1.out.cells
        go_wp2_with fail
        refine (take_any gc a t 5 n _ H1.out.2).mono ?_
        rintro e1 w2 ⟨rfl, hc, hm⟩
        have HF := Lib.hid (And.intro (H1.out.cur hc hm) (HM.out.trans hm))
        clear hc hm
        go_wp2
        go_ret
        rw [HN.out]
        have h2 := HF.out
        rw [HT.out] at h2 ⊢
        exact ⟨rfl, h2⟩
      · have d1 : decide (n < 0) = false := decide_eq_false hneg
        have hn1 : 0 ≤ n := by omega
        have hn2 : ((t.size - a : Nat) : Int) < n := by omega
        clear hn hneg
        go_enter Try.func99, Try.ntmps99
        go_wp2_with fail
        refine (err_any gc a t 0 _ H.out.2).mono ?_
        rintro e1 w1 ⟨rfl, rfl⟩
        go_wp2_with fail
        refine (left_any gc a t 0 _ H.out.2).mono ?_
        rintro e1 w0 ⟨rfl, hb⟩
        have HB := Lib.hid hb
        have H0 := Lib.hid (H.out.below hb); clear hb
        obtain ⟨⟨c0', -⟩, -⟩ := H0.out.cells
        go_wp2_with fail
        refine (fail_any gc a t 0 5 _ H0.out.2).mono ?_
        rintro e1 w1 ⟨rfl, hc, hm⟩
        rw [if_pos rfl] at hc
        have H1 := Lib.hid (H0.out.cur hc hm); have HM := Lib.hid hm; clear hc hm
        obtain ⟨⟨c0'', -⟩, -⟩ := H1.out.cells
        go_wp2_with fail
        refine (take_any gc a t 5 n _ H1.out.2).mono ?_
        rintro e1 w2 ⟨rfl, hc, hm⟩
        have HF := Lib.hid (And.intro (H1.out.cur hc hm) (((mod_below HB.out (some gc)).trans HM.out).trans hm))
        clear hc hm
        go_wp2
        go_ret
        rw [HN.out]
        have h2 := HF.out
        rw [HT.out] at h2 ⊢
        exact ⟨rfl, h2⟩
  · have e0 : (e == 0) = false := beq_eq_false_iff_ne.2 he
    have HN := Lib.hid (needS_take t a e n (.inl he))
    clear he
    go_enter Try.func99, Try.ntmps99
    go_wp2_with fail
    refine (err_any gc a t e _ H.out.2).mono ?_
    rintro e1 w1 ⟨rfl, rfl⟩
    go_wp2_with fail
    refine (take_any gc a t e n _ H.out.2).mono ?_
    rintro e1 w2 ⟨rfl, hc, hm⟩
    have HF := Lib.hid (And.intro (H.out.cur hc hm) hm)
    clear hc hm
    go_wp2
    go_ret
    rw [HN.out]
    exact ⟨rfl, HF.out⟩

theorem needS_size (t : ByteArray) (a : Nat) (e n : Int) (k : Nat) (hn : n ≤ k) : (needS t a e n).1.size ≤ k := by
  unfold needS
  split
  · split
    · show (t.extract a (a + n.toNat)).size ≤ k
      rw [ByteArray.size_extract]
      omega
    · exact Nat.zero_le _
  · exact Nat.zero_le _
theorem getL_four (l : List UInt8) (k : Nat) (h : l.length ≤ k) (hk : k ≤ 4) : getL l < 4294967296 := by
  have h1 := getL_lt l
  have h2 : 256 ^ l.length ≤ 256 ^ 4 := Nat.pow_le_pow_right (by omega) (by omega)
  have h3 : (256 : Nat) ^ 4 = 4294967296 := by decide
  omega

/-- What reading a number leaves. -/
def SrcOut (gs gc : Nat) (t : ByteArray) (a : Nat) (e : Int) (p : Pr) (w : World) (e' : Ending) (w' : World) : Prop := e' = .returned (.tuple #[]) ∧ Src w' gs gc t a e p ∧ Mods (two gs gc) w w'

set_option maxHeartbeats 1000000 in
set_option maxRecDepth 10000 in
theorem one_src (gs gc a : Nat) (t : ByteArray) (e : Int) (p : Pr) (w : World) (h : Src w gs gc t a e p) :
    Calls Try.prog 87 #[.pointer (some ⟨gs, 0, none⟩)] w (SrcOut gs gc t (needS t a e 1).2.1 (needS t a e 1).2.2 { p with n := getL (ls (needS t a e 1).1) } w) := by
  have H := Lib.hid h; clear h
  have hz := needS_size t a e 1 1 (by omega)
  go_enter Try.func87, Try.ntmps87
  go_wp2_with fail
  refine (need_any gs gc a t e 1 p _ H.out).mono ?_
  rintro e1 w1 ⟨rfl, hs, hm⟩
  go_wp2_with fail
  refine (get_short _ _ (by omega)).mono ?_
  rintro e1 w2 ⟨rfl, rfl⟩
  have h4 := getL_four (ls (needS t a e 1).1) 1 (by rw [ls_len]; exact hz) (by omega)
  have HS := Lib.hid hs; have HM := Lib.hid hm
  obtain ⟨⟨-, -, c2, -⟩, -, f2, -⟩ := hs.cells
  clear hs hm
  generalize getL (ls (needS t a e 1).1) = q at *
  have hw : IntKind.u32.wrap (q : Int) = (q : Int) := by rw [IntKind.wrap_u32]; omega
  have HF := Lib.hid (HS.out.set 2 (.int .u32 q) { p with n := q } rfl)
  go_wp2
  go_end0
  exact ⟨rfl, HF.out, (Mods.of_grown HM.out (.inr rfl)).set gs 2 (.inl (.inl rfl)) _⟩

set_option maxHeartbeats 1000000 in
set_option maxRecDepth 10000 in
theorem two_src (gs gc a : Nat) (t : ByteArray) (e : Int) (p : Pr) (w : World) (h : Src w gs gc t a e p) :
    Calls Try.prog 88 #[.pointer (some ⟨gs, 0, none⟩)] w (SrcOut gs gc t (needS t a e 2).2.1 (needS t a e 2).2.2 { p with n := getL (ls (needS t a e 2).1) } w) := by
  have H := Lib.hid h; clear h
  have hz := needS_size t a e 2 2 (by omega)
  go_enter Try.func88, Try.ntmps88
  go_wp2_with fail
  refine (need_any gs gc a t e 2 p _ H.out).mono ?_
  rintro e1 w1 ⟨rfl, hs, hm⟩
  go_wp2_with fail
  refine (get_short _ _ (by omega)).mono ?_
  rintro e1 w2 ⟨rfl, rfl⟩
  have h4 := getL_four (ls (needS t a e 2).1) 2 (by rw [ls_len]; exact hz) (by omega)
  have HS := Lib.hid hs; have HM := Lib.hid hm
  obtain ⟨⟨-, -, c2, -⟩, -, f2, -⟩ := hs.cells
  clear hs hm
  generalize getL (ls (needS t a e 2).1) = q at *
  have hw : IntKind.u32.wrap (q : Int) = (q : Int) := by rw [IntKind.wrap_u32]; omega
  have HF := Lib.hid (HS.out.set 2 (.int .u32 q) { p with n := q } rfl)
  go_wp2
  go_end0
  exact ⟨rfl, HF.out, (Mods.of_grown HM.out (.inr rfl)).set gs 2 (.inl (.inl rfl)) _⟩

set_option maxHeartbeats 1000000 in
set_option maxRecDepth 10000 in
theorem four_src (gs gc a : Nat) (t : ByteArray) (e : Int) (p : Pr) (w : World) (h : Src w gs gc t a e p) :
    Calls Try.prog 89 #[.pointer (some ⟨gs, 0, none⟩)] w (SrcOut gs gc t (needS t a e 4).2.1 (needS t a e 4).2.2 { p with n := getL (ls (needS t a e 4).1) } w) := by
  have H := Lib.hid h; clear h
  have hz := needS_size t a e 4 4 (by omega)
  go_enter Try.func89, Try.ntmps89
  go_wp2_with fail
  refine (need_any gs gc a t e 4 p _ H.out).mono ?_
  rintro e1 w1 ⟨rfl, hs, hm⟩
  go_wp2_with fail
  refine (get_short _ _ (by omega)).mono ?_
  rintro e1 w2 ⟨rfl, rfl⟩
  have h4 := getL_four (ls (needS t a e 4).1) 4 (by rw [ls_len]; exact hz) (by omega)
  have HS := Lib.hid hs; have HM := Lib.hid hm
  obtain ⟨⟨-, -, c2, -⟩, -, f2, -⟩ := hs.cells
  clear hs hm
  generalize getL (ls (needS t a e 4).1) = q at *
  have hw : IntKind.u32.wrap (q : Int) = (q : Int) := by rw [IntKind.wrap_u32]; omega
  have HF := Lib.hid (HS.out.set 2 (.int .u32 q) { p with n := q } rfl)
  go_wp2
  go_end0
  exact ⟨rfl, HF.out, (Mods.of_grown HM.out (.inr rfl)).set gs 2 (.inl (.inl rfl)) _⟩

end Go.Proofs.Ytcokgfmlkanoiaa
