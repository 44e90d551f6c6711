/- prop.Valid; polyglotkit.Pick; the chapter's example. -/
import Derived.Test.YtdpeljnoaiaplaaProG
namespace Go.Proofs.Ytdpeljnoaiaplaa
open Go.RowKit

set_option maxHeartbeats 400000 in
set_option maxRecDepth 10000 in
theorem validP_any (kind : Int) (l : List Pr) (hok : ∀ p ∈ l, p.Ok) (A : Option Addr) (cap : Nat) (w : World) (h : Rd w w.heap.size 4 A l.length (prs l)) (hl : l.length ≤ 4611686018427387904) :
    Calls Try.prog 44 #[.int .i64 kind, .slice A l.length cap] w fun e w' => e = .returned (.int .i64 (bytesS kind l).2) ∧ Below w.heap.size w w' := by
  have H := Lib.hid (bytesP_any kind l hok A cap w h hl); clear h hok hl
  go_enter Try.func44, Try.ntmps44
  go_wp2_with fail
  refine H.out.mono ?_
  rintro e w1 ⟨rfl, hb⟩
  go_wp2
  go_ret
  exact ⟨rfl, hb⟩

def pickN (n m : Int) : Int := if m < 1 then 0 else n % m

set_option maxHeartbeats 400000 in
set_option maxRecDepth 10000 in
theorem pick_any (n m : Int) (w : World) (hm : m < 9223372036854775808) :
    Calls Try.prog 15 #[.int .i64 n, .int .i64 m] w fun e w' => e = .returned (.int .i64 (pickN n m)) ∧ w = w' := by
  by_cases h1 : m < 1
  · have HF : Hid (pickN n m = 0) := Lib.hid (by rw [pickN, if_pos h1])
    clear hm
    go_enter Try.func15, Try.ntmps15
    go_wp2
    go_ret
    exact ⟨by rw [HF.out]; rfl, rfl⟩
  · have HF : Hid (pickN n m = n % m) := Lib.hid (by rw [pickN, if_neg h1])
    have hm0 : (m == 0) = false := beq_eq_false_iff_ne.2 (by omega)
    have h1' : decide (m < 1) = false := decide_eq_false h1
    have h5 := Int.emod_nonneg n (show m ≠ 0 by omega)
    have h6 := Int.emod_lt_of_pos n (show 0 < m by omega)
    have ht := @Int.tmod_eq_emod n m
    obtain ⟨r, hr⟩ : ∃ r, n % m = r := ⟨_, rfl⟩
    rw [hr] at HF h5 h6 ht
    have hab : (m.natAbs : Int) = m := by omega
    have ht' : n.tmod m = r ∨ n.tmod m = r - m := by
      rw [ht]
      split
      · left; omega
      · right; omega
    rcases ht' with h | h
    · have d1 : decide (r < 0) = false := decide_eq_false (by omega)
      have H := Lib.hid (And.intro h5 h6)
      clear ht hab hr hm h5 h6
      go_enter Try.func15, Try.ntmps15
      go_wp2
      go_ret
      exact ⟨by rw [HF.out]; rfl, rfl⟩
    · have d1 : decide (r - m < 0) = true := decide_eq_true (by omega)
      have d2 : wrap64 r = r := by unfold wrap64; omega
      have H := Lib.hid (And.intro h5 h6)
      clear ht hab hr hm h5 h6
      go_enter Try.func15, Try.ntmps15
      go_wp2
      go_ret
      exact ⟨by rw [HF.out]; rfl, rfl⟩

theorem Rd.lit4 (w : World) (cs : Array Value) (t : TypeId) (l : List Pr) (hx : cs.toList = prs l) : Rd (w.alloc (.cells cs t)) (w.alloc (.cells cs t)).heap.size 4 (some ⟨w.heap.size, 0, none⟩) l.length (prs l) := by
  refine ⟨prs_len l, .inr ⟨w.heap.size, 0, rfl, by simp, fun j u hu => ?_⟩⟩
  rw [Nat.zero_add, cell_of_row _ w.heap.size j cs t (0, 0) (heap_alloc_new w _)]
  rw [← hx] at hu
  simpa using hu
theorem example_bytes : bytesS 3 [⟨1, 1, ⟨#[]⟩, ⟨#[]⟩⟩] = ([2, 1, 1], 0) := by decide +kernel

end Go.Proofs.Ytdpeljnoaiaplaa
