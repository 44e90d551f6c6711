/- LimitsChunks: the law's walk. -/
import Derived.Test.YtmkkjiogokfnmaaLimA
import Derived.Deep.RegionLaw
namespace Go.Proofs.Ytmkkjiogokfnmaa
open Go.RowKit

/-- polyglotkit.Pick. -/
def lpk (n m : Int) : Int := if m < 1 then 0 else n % m
theorem lpk_nat (n : Int) (m : Nat) : ∃ q : Nat, lpk n m = q ∧ q ≤ m := by
  unfold lpk
  split
  · exact ⟨0, rfl, Nat.zero_le _⟩
  · have h5 := Int.emod_nonneg n (show (m : Int) ≠ 0 by omega)
    have h6 := Int.emod_lt_of_pos n (show 0 < (m : Int) by omega)
    exact ⟨(n % (m : Int)).toNat, by omega, by omega⟩
set_option maxHeartbeats 400000 in
theorem lpick_any (n m : Int) (w : World) (hm : m < 9223372036854775808) :
    Calls Try.prog 6 #[.int .i64 n, .int .i64 m] w fun e w' => e = .returned (.int .i64 (lpk n m)) ∧ w = w' := by
  by_cases h1 : m < 1
  · have HF : Hid (lpk n m = 0) := Lib.hid (by rw [lpk, if_pos h1])
    clear hm
    go_enter Try.func6, Try.ntmps6
    go_wp2
    go_ret
    exact ⟨by rw [HF.out]; rfl, rfl⟩
  · have HF : Hid (lpk n m = n % m) := Lib.hid (by rw [lpk, if_neg h1])
    have hm0 : (m == 0) = false := beq_eq_false_iff_ne.2 (by omega)
    have h1' : decide (m < 1) = false := decide_eq_false h1
    have h5 := Int.emod_nonneg n (show m ≠ 0 by omega)
    have h6 := Int.emod_lt_of_pos n (show 0 < m by omega)
    have ht := @Int.tmod_eq_emod n m
    obtain ⟨r, hr⟩ : ∃ r, n % m = r := ⟨_, rfl⟩
    rw [hr] at HF h5 h6 ht
    have hab : (m.natAbs : Int) = m := by omega
    have ht' : n.tmod m = r ∨ n.tmod m = r - m := by
      rw [ht]
      split
      · left; omega
      · right; omega
    rcases ht' with h | h
    · have d1 : decide (r < 0) = false := decide_eq_false (by omega)
      have H := Lib.hid (And.intro h5 h6)
      clear ht hab hr hm h5 h6
      go_enter Try.func6, Try.ntmps6
      go_wp2
      go_ret
      exact ⟨by rw [HF.out]; rfl, rfl⟩
    · have d1 : decide (r - m < 0) = true := decide_eq_true (by omega)
      have d2 : wrap64 r = r := by unfold wrap64; omega
      have d3 : wrap64 (r - m) = r - m := by unfold wrap64; omega
      have H := Lib.hid (And.intro h5 h6)
      clear ht hab hr hm h5 h6
      go_enter Try.func6, Try.ntmps6
      go_wp2
      go_ret
      exact ⟨by rw [HF.out]; rfl, rfl⟩
set_option maxHeartbeats 400000 in
set_option maxRecDepth 10000 in
theorem lown_any (l : List Int) (n : Nat) (hn : l.length = n) (A : Option Addr) (c : Nat) (w : World) (h : Rd w w.heap.size 1 A n (iv l)) (hl : n ≤ 1000000) :
    Calls Try.prog 7 #[.slice A n c] w fun e w' => ∃ v, e = .returned v ∧ w'.ownsRow w.heap.size 3 1 v n (iv l) ∧ Below w.heap.size w w' := by
  have H := Lib.hid h; clear h
  subst hn
  go_enter Try.func7, Try.ntmps7
  go_wp2_with (at_builtin; refine wpList_app _ rfl (.tmp 3) (.tmp 4) 22 rfl w.heap.size 3 _ 1 8 Try.underlying22 lim_info_int rfl (by decide) (.slice (some ⟨w.heap.size, 0, none⟩) 0 0) 0 [] rfl (own_empty w w.heap.size _ 1 (Nat.le_refl _)) _ _ _ _ (iv l) rfl (H.out.alloc (Nat.le_refl _) _) (lim_one _) (by unfold maxLen; omega) (by omega) (by simp) ?_; intro v' w3 hown3 hg3 hat3)
  go_ret
  refine ⟨v', rfl, by simpa using hown3, below_app ((Below.refl _ _).alloc (Nat.le_refl _) _) hg3 (by simp) (fun g hg => ?_)⟩
  have : w.heap.size = g := by simpa [Value.ownBlock] using hg
  omega
set_option maxHeartbeats 400000 in
set_option maxRecDepth 10000 in
theorem sameT_any (A A' : Option Addr) (n m c c' : Nat) (l l' : List ByteArray) (w : World) (hl : Rd w w.heap.size 1 A n (txv l)) (hm : Rd w w.heap.size 1 A' m (txv l')) (hn : n ≤ 9223372036854775807) (hn' : m ≤ 9223372036854775807) (he : l = l') :
    Calls Try.prog 8 #[.slice A n c, .slice A' m c'] w fun e w' => e = .returned (.bool true) ∧ Below w.heap.size w w' := by
  subst he
  have e1 : l.length = n := by have := hl.len; simp [txv] at this; omega
  have e2 : l.length = m := by have := hm.len; simp [txv] at this; omega
  obtain rfl : n = m := by omega
  have E1 := Lib.hid e1; clear e1 e2
  go_enter Try.func8, Try.ntmps8
  go_wp2
  go_loopw [5] (fun i wr => ∃ k : Nat, k ≤ n ∧ i = .int .i64 k ∧ Below w.heap.size w wr) (fun i _ => n - (intOf i).toNat)
  case atStart => exact ⟨0, by omega, rfl, Below.refl _ _⟩
  case round =>
    obtain ⟨k, hk, rfl, hbel⟩ := hrel
    by_cases hlt : k < n
    · obtain ⟨bA, oA, z, rfl, hb, hz, hc⟩ := (hl.below hbel).atT hlt
      obtain ⟨bA', oA', z', rfl, hb', hz', hc'⟩ := (hm.below hbel).atT hlt
      obtain rfl : z = z' := by rw [hz] at hz'; exact Option.some.inj hz'
      clear hz hz' hl hm
      have b1 : (0 : Int) ≤ (k : Int) := by omega
      have b2 : (k : Int) < (n : Int) := by omega
      go_wp2
      go_quiet (fail)
      go_wp2
      go_roundw
      case rel => exact ⟨k + 1, by omega, by go_num, below_drawn hbel _⟩
      case measure => simp [intOf]; omega
    · go_wp2
      go_ret
      exact ⟨rfl, hbel⟩
theorem rd_lives (W : World) : Rd (W.alloc (.cells #[.int .i64 2, .int .i64 0] 3)) (W.alloc (.cells #[.int .i64 2, .int .i64 0] 3)).heap.size 1 (some ⟨W.heap.size, 0, none⟩) 2 (iv [2, 0]) :=
  Rd.lit W _ _ rfl (by simp) rfl
set_option maxHeartbeats 400000 in
set_option maxRecDepth 10000 in
theorem lives15_any (w : World) : Calls Try.prog 4 #[] w fun e w' => e = .returned (.bool true) ∧ Below w.heap.size w w' := by
  have HB := Lib.hid ((Below.refl w.heap.size w).alloc (Nat.le_refl _) (.cells #[.int .i64 2, .int .i64 0] 3))
  have HC := Lib.hid (chunks_any ⟨#[97, 98, 99]⟩ (some ⟨w.heap.size, 0, none⟩) [2, 0] 2 _ (rd_lives w) (by decide) (by decide))
  rw [show (⟨#[97, 98, 99]⟩ : ByteArray).size = 3 from rfl, example_lim] at HC
  go_enter Try.func4, Try.ntmps4
  go_wp2_with fail
  refine HC.out.mono ?_
  rintro e w1 ⟨v, rfl, hown, hb⟩
  obtain ⟨A1, c1, rfl, -, hr⟩ := own_rd hown
  have HR := Lib.hid hr
  have HB1 := Lib.hid (HB.out.trans (hb.mono HB.out.size))
  clear hr hown hb
  go_wp2_with fail
  refine (sameT_any A1 _ _ 3 c1 _ [⟨#[]⟩, ⟨#[97, 98]⟩, ⟨#[99]⟩] [⟨#[]⟩, ⟨#[97, 98]⟩, ⟨#[99]⟩] _ (HR.out.alloc (Nat.le_refl _) _ |>.wider (by simp)) (Rd.lit _ _ _ rfl (by simp) rfl) (by decide) (by decide) rfl).mono ?_
  rintro e w2 ⟨rfl, hb⟩
  have HB2 := Lib.hid ((HB1.out.alloc HB1.out.size _).trans (hb.mono (HB1.out.alloc HB1.out.size _).size))
  clear hb
  go_wp2
  go_ret
  exact ⟨rfl, HB2.out⟩
end Go.Proofs.Ytmkkjiogokfnmaa
