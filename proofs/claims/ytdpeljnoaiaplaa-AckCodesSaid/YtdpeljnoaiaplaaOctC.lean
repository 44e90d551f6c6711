/- Walks of octet: what moves the cursor. -/
import Derived.Test.YtdpeljnoaiaplaaOctB
namespace Go.Proofs.Ytdpeljnoaiaplaa
open Go.RowKit

/-- What a taking answers, the place and the error behind it. -/
def takeS (t : ByteArray) (a : Nat) (e n : Int) : ByteArray × Nat × Int :=
  if e = 0 then (if hasC t a n = true then (t.extract a (a + n.toNat), a + n.toNat, 0) else (⟨#[]⟩, a, 3)) else (⟨#[]⟩, a, e)
theorem takeS_le {t : ByteArray} {a : Nat} (h : a ≤ t.size) (e n : Int) : (takeS t a e n).2.1 ≤ t.size := by
  unfold takeS
  split
  · split
    · rename_i h1
      simp only [hasC, Bool.and_eq_true, decide_eq_true_iff] at h1
      show a + n.toNat ≤ t.size
      omega
    · exact h
  · exact h
theorem Bk.upd {w : World} {g : Nat} {t : TypeId} {cs : Array Value} (h : Bk w g t cs) (i : Nat) (u : Value) {cs' : Array Value} (e : cs.setIfInBounds i u = cs') : Bk (w.setCell ⟨g, i, none⟩ u) g t cs' := by
  subst e; exact h.put i u
theorem mod_set (w : World) (g i : Nat) (u : Value) : w.grownBy (w.setCell ⟨g, i, none⟩ u) (some g) :=
  ⟨rfl, rfl, rfl, by simp [World.setCell], fun k _ hk => Below.heap_setCell _ _ _ _ (fun e => hk (by rw [e]))⟩
theorem mod_refl (w : World) (g : Nat) : w.grownBy w (some g) := World.grownBy.refl w _
theorem mod_below {w w' : World} (h : Below w.heap.size w w') (g : Option Nat) : w.grownBy w' g := ⟨h.os, h.tape, h.output, h.size, fun k hk _ => h.block k hk⟩
theorem mod_drawn {w w' : World} {g : Option Nat} (h : w.grownBy w' g) (n : Nat) : w.grownBy (w'.drewN n) g := ⟨h.os, h.tape, h.output, h.size, h.block⟩
theorem below_mod {B g : Nat} {a w w' : World} (h : Below B a w) (hm : w.grownBy w' (some g)) (hB : B ≤ w.heap.size) (hg : B ≤ g) : Below B a w' :=
  h.grown hm hB (fun k hk => by cases hk; exact hg)
theorem Cur.below {w w' : World} {g a : Nat} {t : ByteArray} {e : Int} (h : Cur w g t a e) (hb : Below w.heap.size w w') : Cur w' g t a e := ⟨h.1.below hb h.lt, h.2⟩
theorem Cur.at_most {w : World} {g a : Nat} {t : ByteArray} {e : Int} (h : Cur w g t a e) : a ≤ t.size ∧ t.size ≤ 4611686018427387904 := h.2

set_option maxHeartbeats 400000 in
set_option maxRecDepth 10000 in
theorem take_any (g a : Nat) (t : ByteArray) (e : Int) (n : Int) (w : World) (h : Cur w g t a e) :
    Calls Try.prog 107 #[.pointer (some ⟨g, 0, none⟩), .int .i64 n] w fun e' w' =>
      e' = .returned (.string (takeS t a e n).1) ∧ Cur w' g t (takeS t a e n).2.1 (takeS t a e n).2.2 ∧ w.grownBy w' (some g) := by
  have HC := Lib.hid h
  have hle := Lib.hid (takeS_le h.2.1 e n)
  obtain ⟨_, ha, ht⟩ := h
  by_cases he : e = 0
  · subst he
    cases hh : hasC t a n with
    | true =>
      have hfin : takeS t a 0 n = (t.extract a (a + n.toNat), a + n.toNat, 0) := by simp [takeS, hh]
      have hn : 0 ≤ n ∧ n ≤ (t.size : Int) - a := by simpa [hasC] using hh
      obtain ⟨m, rfl⟩ := Int.eq_ofNat_of_zero_le hn.1
      rw [hfin] at hle ⊢
      have HH := Lib.hid hh; clear hh hfin
      have hn2 : a + m ≤ t.size := by omega
      clear hn
      go_enter Try.func107, Try.ntmps107
      go_wp2_with fail
      refine (ready_any g a t 0 _ HC.out).mono ?_
      rintro e w' ⟨rfl, rfl⟩
      go_wp2_with fail
      refine (has_any' g a t 0 _ _ HC.out).mono ?_
      rintro e w1 ⟨rfl, hb1⟩
      rw [HH.out]
      have HC1 := HC.out.below hb1
      obtain ⟨⟨c0, c1, c2⟩, f0, f1, f2⟩ := HC1.cells
      have HB := Lib.hid hb1; have HC2 := Lib.hid HC1; clear hb1 HC1
      have i1 : (0 : Int) ≤ (a : Int) := by omega
      have i2 : (a : Int) ≤ (a : Int) + (m : Int) := by omega
      have i3 : (a : Int) + (m : Int) ≤ (t.size : Int) := by omega
      have hcur : Hid (Cur (w1.setCell ⟨g, 1, none⟩ (.int .i64 ((a : Int) + m))) g t (a + m) 0) := by
        refine ⟨HC2.out.1.upd 1 _ ?_, hn2, ht⟩
        simp [curC]
      go_wp2
      go_quiet (fail)
      go_wp2
      go_ret
      refine ⟨rfl, hcur.out, ?_⟩
      exact (mod_drawn ((mod_below HB.out (some g)).trans (mod_set _ _ _ _)) _)
    | false =>
      have hfin : takeS t a 0 n = (⟨#[]⟩, a, 3) := by simp [takeS, hh]
      rw [hfin] at hle ⊢
      have HH := Lib.hid hh; clear hh hfin
      go_enter Try.func107, Try.ntmps107
      go_wp2_with fail
      refine (ready_any g a t 0 _ HC.out).mono ?_
      rintro e w' ⟨rfl, rfl⟩
      go_wp2_with fail
      refine (has_any' g a t 0 _ _ HC.out).mono ?_
      rintro e w1 ⟨rfl, hb1⟩
      rw [HH.out]
      have HC1 := HC.out.below hb1
      obtain ⟨⟨c0, c1, c2⟩, f0, f1, f2⟩ := HC1.cells
      have HB := Lib.hid hb1; have HC2 := Lib.hid HC1; clear hb1 HC1
      go_wp2
      go_ret
      refine ⟨rfl, ⟨HC2.out.1.upd 2 _ ?_, ha, ht⟩, (mod_below HB.out (some g)).trans (mod_set _ _ _ _)⟩
      simp [curC]
  · have hfin : takeS t a e n = (⟨#[]⟩, a, e) := by simp [takeS, he]
    rw [hfin] at hle ⊢
    have hb : (e == 0) = false := by simpa using he
    have HE := Lib.hid hb; clear hfin hb he
    go_enter Try.func107, Try.ntmps107
    go_wp2_with fail
    refine (ready_any g a t e _ HC.out).mono ?_
    rintro e w' ⟨rfl, rfl⟩
    rw [HE.out]
    go_wp2
    go_ret
    exact ⟨rfl, HC.out, mod_refl _ _⟩

theorem takeS_size {t : ByteArray} {a : Nat} (_h : a ≤ t.size) (e n : Int) (k : Nat) (hn : n ≤ k) : (takeS t a e n).1.size ≤ k := by
  unfold takeS
  split
  · split
    · show (t.extract a (a + n.toNat)).size ≤ k
      rw [ByteArray.size_extract]
      omega
    · exact Nat.zero_le _
  · exact Nat.zero_le _

/-- What a number's reading answers. -/
def numS (t : ByteArray) (a : Nat) (e n : Int) : Nat := getL (ls (takeS t a e n).1)
set_option maxHeartbeats 400000 in
set_option maxRecDepth 10000 in
theorem number_any (g a : Nat) (t : ByteArray) (e : Int) (n : Int) (w : World) (h : Cur w g t a e) (hn : n ≤ 8) :
    Calls Try.prog 67 #[.pointer (some ⟨g, 0, none⟩), .int .i64 n] w fun e' w' =>
      e' = .returned (.int .u64 (numS t a e n)) ∧ Cur w' g t (takeS t a e n).2.1 (takeS t a e n).2.2 ∧ w.grownBy w' (some g) := by
  have HZ := Lib.hid (takeS_size h.2.1 e n 8 hn)
  have HC := Lib.hid h; clear h
  go_enter Try.func67, Try.ntmps67
  go_wp2_with fail
  refine (take_any g a t e n _ HC.out).mono ?_
  rintro e' w1 ⟨rfl, hc, hm⟩
  go_wp2_with fail
  refine (get_short _ _ HZ.out).mono ?_
  rintro e' w' ⟨rfl, rfl⟩
  have HH := Lib.hid (And.intro hc hm); clear hc hm
  go_wp2
  go_ret
  exact ⟨rfl, HH.out⟩

set_option maxHeartbeats 400000 in
set_option maxRecDepth 10000 in
theorem fail_any (g a : Nat) (t : ByteArray) (e : Int) (n : Int) (w : World) (h : Cur w g t a e) :
    Calls Try.prog 71 #[.pointer (some ⟨g, 0, none⟩), .int .i64 n] w fun e' w' =>
      e' = .returned (.tuple #[]) ∧ Cur w' g t a (if e = 0 then n else e) ∧ w.grownBy w' (some g) := by
  have HC := Lib.hid h
  obtain ⟨⟨c0, c1, c2⟩, f0, f1, f2⟩ := h.cells
  clear h
  by_cases he : e = 0
  · subst he
    rw [if_pos rfl]
    go_enter Try.func71, Try.ntmps71
    go_wp2_with fail
    refine (ready_any g a t 0 _ HC.out).mono ?_
    rintro e w' ⟨rfl, rfl⟩
    go_wp2
    go_end0
    refine ⟨rfl, ⟨HC.out.1.upd 2 _ ?_, HC.out.2⟩, mod_set _ _ _ _⟩
    simp [curC]
  · rw [if_neg he]
    have hb : (e == 0) = false := by simpa using he
    have HE := Lib.hid hb; clear hb he
    go_enter Try.func71, Try.ntmps71
    go_wp2_with fail
    refine (ready_any g a t e _ HC.out).mono ?_
    rintro e w' ⟨rfl, rfl⟩
    rw [HE.out]
    go_wp2
    go_end0
    exact ⟨rfl, HC.out, mod_refl _ _⟩

set_option maxHeartbeats 400000 in
theorem err_any (g a : Nat) (t : ByteArray) (e : Int) (w : World) (h : Cur w g t a e) :
    Calls Try.prog 68 #[.pointer (some ⟨g, 0, none⟩)] w fun e' w' => e' = .returned (.int .i64 e) ∧ w = w' := by
  obtain ⟨⟨c0, c1, c2⟩, f0, f1, f2⟩ := h.cells
  clear h
  go_enter Try.func68, Try.ntmps68
  go_wp2
  go_ret
  exact ⟨rfl, rfl⟩

set_option maxHeartbeats 400000 in
set_option maxRecDepth 10000 in
theorem rest_any (g a : Nat) (t : ByteArray) (e : Int) (w : World) (h : Cur w g t a e) :
    Calls Try.prog 109 #[.pointer (some ⟨g, 0, none⟩)] w fun e' w' => e' = .returned (.string (t.extract a t.size)) ∧ Below w.heap.size w w' := by
  obtain ⟨⟨c0, c1, c2⟩, f0, f1, f2⟩ := h.cells
  obtain ⟨_, ha, ht⟩ := h
  have i1 : (0 : Int) ≤ (a : Int) := by omega
  have i3 : (a : Int) ≤ (t.size : Int) := by omega
  go_enter Try.func109, Try.ntmps109
  go_wp2
  go_quiet (fail)
  go_wp2
  go_ret
  exact ⟨rfl, below_drawn (Below.refl _ _) _⟩

set_option maxHeartbeats 400000 in
set_option maxRecDepth 10000 in
theorem left_any (g a : Nat) (t : ByteArray) (e : Int) (w : World) (h : Cur w g t a e) :
    Calls Try.prog 70 #[.pointer (some ⟨g, 0, none⟩)] w fun e' w' => e' = .returned (.int .i64 ((t.size - a : Nat) : Int)) ∧ Below w.heap.size w w' := by
  have HC := Lib.hid h; clear h
  go_enter Try.func70, Try.ntmps70
  go_wp2_with fail
  refine (rest_any g a t e _ HC.out).mono ?_
  rintro e' w1 ⟨rfl, hb⟩
  have hz : (t.extract a t.size).size = t.size - a := by rw [ByteArray.size_extract]; omega
  have HZ := Lib.hid hz; clear hz
  generalize t.extract a t.size = r at *
  go_wp2
  go_ret
  exact ⟨by rw [← HZ.out]; rfl, hb⟩

end Go.Proofs.Ytdpeljnoaiaplaa
