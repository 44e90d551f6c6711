/- The laws ReasonCalls and ReasonNames, walked. -/
import Derived.Test.YtcokgfmlkanoiaaReaT
import Derived.Test.YtcokgfmlkanoiaaReaF
namespace Go.Proofs.Ytcokgfmlkanoiaa
open Go.RowKit

theorem same_lists (A A' : Option Addr) (n n' c c' : Nat) (l l' : List Nat) (w : World) (hl : Rd w w.heap.size 1 A n (ints l)) (hl' : Rd w w.heap.size 1 A' n' (ints l')) (he : l = l') (hn : n ≤ 1000) (hn' : n' ≤ 1000) :
    Calls Try.prog 21 #[.slice A n c, .slice A' n' c'] w fun e w' => e = .returned (.bool true) ∧ Below w.heap.size w w' := by
  subst he
  have h := sameI_any A A' n n' c c' (l.map fun c : Nat => (c : Int)) (l.map fun c : Nat => (c : Int)) w (by rw [← ints_iv]; exact hl) (by rw [← ints_iv]; exact hl') (by omega) (by omega)
  simpa using h

set_option maxHeartbeats 1000000 in
set_option maxRecDepth 10000 in
theorem calls6_any (kind c : Int) (w : World) :
    Calls Try.prog 6 #[.int .i64 kind, .int .i64 c] w fun e w' => e = .returned (.bool true) ∧ Below w.heap.size w w' := by
  go_enter Try.func6, Try.ntmps6
  go_wp2_with fail
  refine (lives6 _).mono ?_
  rintro e w1 ⟨rfl, hb1⟩
  have B1 := hb1
  go_wp2_with fail
  refine (to5_any _ _).mono ?_
  rintro e w' ⟨rfl, rfl⟩
  go_wp2_with fail
  refine (refTo5_any _ _).mono ?_
  rintro e w2 ⟨rfl, hb2⟩
  have B2 := B1.trans (hb2.mono B1.size)
  clear hb2
  go_wp2_with fail
  refine (to311_any _ _).mono ?_
  rintro e w' ⟨rfl, rfl⟩
  go_wp2_with fail
  refine (refTo311_any _ _).mono ?_
  rintro e w3 ⟨rfl, hb3⟩
  have B3 := B2.trans (hb3.mono B2.size)
  clear hb3
  go_wp2_with fail
  refine (may_any _ _ _).mono ?_
  rintro e w4 ⟨rfl, hb4⟩
  have B4 := B3.trans (hb4.mono B3.size)
  clear hb4
  go_wp2_with fail
  refine (refMay_any _ _ _).mono ?_
  rintro e w5 ⟨rfl, hb5⟩
  have B5 := B4.trans (hb5.mono B4.size)
  clear hb5
  go_wp2_with fail
  refine (all_any _ _).mono ?_
  rintro e w6 ⟨v, rfl, hown, hb6⟩
  obtain ⟨A, cc, rfl, _, hrd⟩ := own_rd hown
  have hn : (allL kind).length ≤ 256 := allTo_len kind 256
  have B6 := B5.trans (hb6.mono B5.size)
  clear hb6
  clear hown
  go_wp2_with fail
  refine (refAll_any _ _).mono ?_
  rintro e w7 ⟨v, rfl, hown, hb7⟩
  obtain ⟨A', cc', rfl, _, hrd'⟩ := own_rd hown
  have hn' : (refAll kind).length ≤ 256 := by rw [refAll_eq]; exact allTo_len kind 256
  have hrd2 := (hrd.below hb7).wider hb7.size
  have HE := Lib.hid (refAll_eq kind)
  have B7 := B6.trans (hb7.mono B6.size)
  clear hb7
  clear hown hrd
  go_wp2_with fail
  refine (same_lists A A' _ _ _ _ (allL kind) (refAll kind) _ hrd2 hrd' HE.out.symm (by omega) (by omega)).mono ?_
  rintro e w8 ⟨rfl, hb8⟩
  have B8 := B7.trans (hb8.mono B7.size)
  clear hb8
  clear hrd2 hrd'
  go_wp2_with fail
  refine (return_any _ _).mono ?_
  rintro e w' ⟨rfl, rfl⟩
  go_wp2_with fail
  refine (refReturn_any _ _).mono ?_
  rintro e w' ⟨rfl, rfl⟩
  go_wp2_with fail
  refine (grant_any _ _).mono ?_
  rintro e w' ⟨rfl, rfl⟩
  go_wp2_with fail
  refine (refGrant_any _ _).mono ?_
  rintro e w' ⟨rfl, rfl⟩
  go_wp2_with fail
  refine (bad_any _ _).mono ?_
  rintro e w' ⟨rfl, rfl⟩
  go_wp2_with fail
  refine (refBad_any _ _).mono ?_
  rintro e w' ⟨rfl, rfl⟩
  go_wp2_with fail
  refine (text_any _ _).mono ?_
  rintro e w9 ⟨rfl, hb9⟩
  have B9 := B8.trans (hb9.mono B8.size)
  clear hb9
  go_wp2_with fail
  refine (refText_any _ _).mono ?_
  rintro e w10 ⟨rfl, hb10⟩
  have B10 := B9.trans (hb10.mono B9.size)
  clear hb10
  go_wp2
  go_ret
  exact ⟨rfl, B10⟩

set_option maxHeartbeats 1000000 in
set_option maxRecDepth 10000 in
theorem names6_any (w : World) :
    Calls Try.prog 5 #[] w fun e w' => e = .returned (.bool true) ∧ Below w.heap.size w w' := by
  have e1 : Hid (to5 6 = (0, false)) := Lib.hid (by decide)
  have e2 : Hid (to311 132 = (1, true)) := Lib.hid (by decide)
  have e3 : Hid (to311 131 = (0, false)) := Lib.hid (by decide)
  have e4 : Hid (allL 15 = [0, 24, 25]) := Lib.hid (by decide +kernel)
  have e5 : Hid ((allL 3).length = 0) := Lib.hid (by decide +kernel)
  have e6 : Hid ((allL 2).length = 22) := Lib.hid (by decide +kernel)
  have e7 : Hid ((allL 14).length = 29) := Lib.hid (by decide +kernel)
  have e8 : Hid (may 9 3 = false) := Lib.hid (by decide +kernel)
  have e9 : Hid (may 9 162 = true) := Lib.hid (by decide +kernel)
  have e10 : Hid (retB 5 = true ∧ retB 6 = false ∧ grantB 128 = true ∧ grantB 3 = false ∧ badB 128 = true ∧ badB 127 = false ∧ badB 256 = false) := Lib.hid (by decide)
  have e11 : Hid (textL 162 = [97, 50]) := Lib.hid (by decide +kernel)
  have e12 : Hid (textL 0 = [48, 48]) := Lib.hid (by decide +kernel)
  have e13 : Hid (textL 3 = [63]) := Lib.hid (by decide +kernel)
  have e14 : Hid (textL (-1) = [63]) := Lib.hid (by decide +kernel)
  go_enter Try.func5, Try.ntmps5
  go_wp2_with fail
  refine (lives6 _).mono ?_
  rintro e w1 ⟨rfl, hb1⟩
  have B1 := hb1
  go_wp2_with fail
  refine (to5_any _ _).mono ?_
  rintro e w' ⟨rfl, rfl⟩
  rw [e1.out]
  go_wp2_with fail
  refine (to311_any _ _).mono ?_
  rintro e w' ⟨rfl, rfl⟩
  rw [e2.out]
  go_wp2_with fail
  refine (to311_any _ _).mono ?_
  rintro e w' ⟨rfl, rfl⟩
  rw [e3.out]
  go_wp2_with fail
  refine (all_any _ _).mono ?_
  rintro e w2 ⟨v, rfl, hown, hb2⟩
  rw [e4.out] at hown
  obtain ⟨A, cc, rfl, _, hrd⟩ := own_rd hown
  have B2 := B1.trans (hb2.mono B1.size)
  clear hb2
  have hrd2 : Rd (w2.alloc (.cells #[.int .i64 0, .int .i64 24, .int .i64 25] 3)) (w2.alloc (.cells #[.int .i64 0, .int .i64 24, .int .i64 25] 3)).heap.size 1 A 3 (ints [0, 24, 25]) := (hrd.alloc (Nat.le_refl _) _).wider (by simp)
  clear hown hrd
  go_wp2_with fail
  refine (same_lists A _ 3 3 _ _ [0, 24, 25] [0, 24, 25] _ hrd2 (Rd.lit _ _ _ rfl (by simp) rfl) rfl (by omega) (by omega)).mono ?_
  rintro e w3 ⟨rfl, hb3⟩
  have B3 := (B2.alloc B2.size _).trans (hb3.mono (by have := B2.size; simp; omega))
  clear hb3 hrd2
  go_wp2_with fail
  refine (all_any _ _).mono ?_
  rintro e w4 ⟨v, rfl, hown, hb4⟩
  obtain ⟨A4, cc4, rfl, _, _⟩ := own_rd hown
  rw [e5.out]
  have B4 := B3.trans (hb4.mono B3.size)
  clear hb4
  clear hown
  go_wp2_with fail
  refine (all_any _ _).mono ?_
  rintro e w5 ⟨v, rfl, hown, hb5⟩
  obtain ⟨A5, cc5, rfl, _, _⟩ := own_rd hown
  rw [e6.out]
  have B5 := B4.trans (hb5.mono B4.size)
  clear hb5
  clear hown
  go_wp2_with fail
  refine (all_any _ _).mono ?_
  rintro e w6 ⟨v, rfl, hown, hb6⟩
  obtain ⟨A6, cc6, rfl, _, _⟩ := own_rd hown
  rw [e7.out]
  have B6 := B5.trans (hb6.mono B5.size)
  clear hb6
  clear hown
  go_wp2_with fail
  refine (may_any _ _ _).mono ?_
  rintro e w7 ⟨rfl, hb7⟩
  rw [e8.out]
  have B7 := B6.trans (hb7.mono B6.size)
  clear hb7
  go_wp2_with fail
  refine (may_any _ _ _).mono ?_
  rintro e w8 ⟨rfl, hb8⟩
  rw [e9.out]
  have B8 := B7.trans (hb8.mono B7.size)
  clear hb8
  go_wp2_with fail
  refine (return_any _ _).mono ?_
  rintro e w' ⟨rfl, rfl⟩
  rw [e10.out.1]
  go_wp2_with fail
  refine (return_any _ _).mono ?_
  rintro e w' ⟨rfl, rfl⟩
  rw [e10.out.2.1]
  go_wp2_with fail
  refine (grant_any _ _).mono ?_
  rintro e w' ⟨rfl, rfl⟩
  rw [e10.out.2.2.1]
  go_wp2_with fail
  refine (grant_any _ _).mono ?_
  rintro e w' ⟨rfl, rfl⟩
  rw [e10.out.2.2.2.1]
  go_wp2_with fail
  refine (bad_any _ _).mono ?_
  rintro e w' ⟨rfl, rfl⟩
  rw [e10.out.2.2.2.2.1]
  go_wp2_with fail
  refine (bad_any _ _).mono ?_
  rintro e w' ⟨rfl, rfl⟩
  rw [e10.out.2.2.2.2.2.1]
  go_wp2_with fail
  refine (bad_any _ _).mono ?_
  rintro e w' ⟨rfl, rfl⟩
  rw [e10.out.2.2.2.2.2.2]
  go_wp2_with fail
  refine (text_any _ _).mono ?_
  rintro e w9 ⟨rfl, hb9⟩
  rw [e11.out]
  have B9 := B8.trans (hb9.mono B8.size)
  clear hb9
  go_wp2_with fail
  refine (text_any _ _).mono ?_
  rintro e w10 ⟨rfl, hb10⟩
  rw [e12.out]
  have B10 := B9.trans (hb10.mono B9.size)
  clear hb10
  go_wp2_with fail
  refine (text_any _ _).mono ?_
  rintro e w11 ⟨rfl, hb11⟩
  rw [e13.out]
  have B11 := B10.trans (hb11.mono B10.size)
  clear hb11
  go_wp2_with fail
  refine (text_any _ _).mono ?_
  rintro e w12 ⟨rfl, hb12⟩
  rw [e14.out]
  have B12 := B11.trans (hb12.mono B11.size)
  clear hb12
  go_wp2
  go_ret
  exact ⟨rfl, B12⟩

end Go.Proofs.Ytcokgfmlkanoiaa
