/- Walks of reason: has, May, All, Text and the small ones. -/
import Derived.Test.YtdpeljnoaiaplaaReaC
namespace Go.Proofs.Ytdpeljnoaiaplaa
open Go.RowKit

def hasB (W : Nat → Nat) (c : Int) : Bool := decide (0 ≤ c) && decide (c < 256) && (W (c.toNat / 64)).testBit (c.toNat % 64)
theorem and_one_spells (x k : Nat) (hx : x < 18446744073709551616) : (bits BinOp.and IntKind.u64 (↑x / 2 ^ k) 1 == 1) = x.testBit k := by
  have e : ((x : Int) / 2 ^ k) = ((x / 2 ^ k : Nat) : Int) := by simp
  have h1 : x / 2 ^ k < 18446744073709551616 := Nat.lt_of_le_of_lt (Nat.div_le_self _ _) hx
  rw [e, show (1 : Int) = ((1 : Nat) : Int) from rfl, u64_and_nat _ _ h1 (by omega), Nat.and_one_is_mod, Nat.testBit_eq_decide_div_mod_eq]
  generalize x / 2 ^ k % 2 = z
  rw [Bool.eq_iff_iff, beq_iff_eq, decide_eq_true_iff]
  omega

set_option maxHeartbeats 400000 in
theorem has_any (W : Nat → Nat) (c : Int) (w : World) (hW : Wok W) :
    Calls Try.prog 87 #[.agg (wcells W), .int .i64 c] w fun e w' => e = .returned (.bool (hasB W c)) ∧ Below w.heap.size w w' := by
  have HW := Lib.hid hW; clear hW
  by_cases h0 : 0 ≤ c
  · by_cases h1 : c < 256
    · obtain ⟨n, rfl⟩ := Int.eq_ofNat_of_zero_le h0
      have hn : n < 256 := by omega
      have hbk := Bk.fresh w 109 (wcells W)
      have hcell : (w.alloc (.cells (wcells W) 109)).cell? ⟨w.heap.size, n / 64, none⟩ = some (.int .u64 (W (n / 64))) := by
        rw [hbk.cell, wcell_at _ _ hn]
      clear hbk
      have hfin : hasB W n = (bits BinOp.and IntKind.u64 (↑(W (n / 64)) / 2 ^ (n % 64)) 1 == 1) := by
        rw [and_one_spells _ _ (HW.out _)]; simp [hasB, h0, h1]
      have HF := Lib.hid hfin; clear hfin
      go_enter Try.func87, Try.ntmps87
      go_wp2
      go_ret
      exact ⟨by rw [HF.out]; rfl, (Below.refl _ _).alloc (Nat.le_refl _) _⟩
    · have hfin : hasB W c = false := by simp [hasB, h1]
      have HF := Lib.hid hfin; clear hfin
      go_enter Try.func87, Try.ntmps87
      go_wp2
      go_ret
      exact ⟨by rw [HF.out]; rfl, (Below.refl _ _).alloc (Nat.le_refl _) _⟩
  · have hfin : hasB W c = false := by simp [hasB, h0]
    have HF := Lib.hid hfin; clear hfin
    go_enter Try.func87, Try.ntmps87
    go_wp2
    go_ret
    exact ⟨by rw [HF.out]; rfl, (Below.refl _ _).alloc (Nat.le_refl _) _⟩

def may (kind c : Int) : Bool := hasB (codes kind) c
theorem codes_ok (kind : Int) : Wok (codes kind) := by
  unfold codes
  repeat' split
  all_goals first | exact wzero_ok | exact wl_ok _ | exact upto_ok (upto_ok (wl_ok _) _ _) _ _

set_option maxHeartbeats 400000 in
theorem may_any (kind c : Int) (w : World) :
    Calls Try.prog 42 #[.int .i64 kind, .int .i64 c] w fun e w' => e = .returned (.bool (may kind c)) ∧ Below w.heap.size w w' := by
  go_enter Try.func42, Try.ntmps42
  go_wp2_with fail
  refine (codes_any kind w).mono ?_
  rintro e w1 ⟨rfl, hb1⟩
  go_wp2_with fail
  refine (has_any (codes kind) c w1 (codes_ok kind)).mono ?_
  rintro e w2 ⟨rfl, hb2⟩
  go_wp2
  go_ret
  exact ⟨rfl, hb1.trans (hb2.mono hb1.size)⟩

def badB (c : Int) : Bool := decide (128 ≤ c) && decide (c ≤ 255)
set_option maxHeartbeats 400000 in
theorem bad_any (c : Int) (w : World) :
    Calls Try.prog 45 #[.int .i64 c] w fun e w' => e = .returned (.bool (badB c)) ∧ w = w' := by
  go_enter Try.func45, Try.ntmps45
  go_wp2
  all_goals
    go_ret
    refine ⟨?_, rfl⟩
    (try simp [badB]) <;> omega

def retB (c : Int) : Bool := decide (0 ≤ c) && decide (c ≤ 5)
set_option maxHeartbeats 400000 in
theorem return_any (c : Int) (w : World) :
    Calls Try.prog 129 #[.int .i64 c] w fun e w' => e = .returned (.bool (retB c)) ∧ w = w' := by
  go_enter Try.func129, Try.ntmps129
  go_wp2
  all_goals
    go_ret
    refine ⟨?_, rfl⟩
    (try simp [retB]) <;> omega

def grantB (c : Int) : Bool := (c == 0) || (c == 1) || (c == 2) || (c == 128)
def to5 (c : Int) : Int × Bool :=
  if c = 0 then (0, true) else if c = 1 then (132, true) else if c = 2 then (133, true) else if c = 3 then (136, true)
  else if c = 4 then (134, true) else if c = 5 then (135, true) else (0, false)
/-- The first old code from k on whose new one is c. -/
def old (c : Int) : Option Nat := (List.range 6).find? fun k => (to5 k).1 == c
def to311 (c : Int) : Int × Bool := match old c with | some k => ((k : Int), true) | none => (0, false)
theorem find_range {p : Nat → Bool} {n k : Nat} (hk : k < n) (h0 : ∀ j, j < k → p j = false) (hp : p k = true) : (List.range n).find? p = some k := by
  rw [List.find?_eq_some_iff_append]
  refine ⟨hp, List.range k, (List.range' (k + 1) (n - k - 1)), ?_, ?_⟩
  · rw [List.range_eq_range', List.range_eq_range', show n = k + (1 + (n - k - 1)) by omega, ← List.range'_append_1, ← List.range'_append_1]
    simp [show k + (1 + (n - k - 1)) - k - 1 = n - k - 1 by omega, List.range']
  · intro a ha
    simp only [Bool.not_eq_eq_eq_not, Bool.not_true]
    exact h0 a (by simpa using ha)
end Go.Proofs.Ytdpeljnoaiaplaa
