/- Walks of reason: Text. -/
import Derived.Test.YtdpeljnoaiaplaaReaD
import Derived.RegionTactic
namespace Go.Proofs.Ytdpeljnoaiaplaa
open Go.RowKit

theorem may_range {kind c : Int} (h : may kind c = true) : 0 ≤ c ∧ c < 256 := by
  unfold may hasB at h
  simp only [Bool.and_eq_true, decide_eq_true_iff] at h
  exact h.1
def hexd (n : Nat) : UInt8 := if n < 10 then UInt8.ofNat (48 + n) else UInt8.ofNat (87 + n)
def someKind (c : Int) : Bool := (List.range 14).any fun k => may ((k : Int) + 2) c
def textL (c : Int) : List UInt8 := if someKind c then [hexd (c.toNat / 16), hexd (c.toNat % 16)] else [63]

theorem digit_at : ∀ i : Fin 16, (ByteArray.mk #[48, 49, 50, 51, 52, 53, 54, 55, 56, 57, 97, 98, 99, 100, 101, 102])[i.1]'(by simp [ByteArray.size]) = hexd i.1 := by decide
theorem someKind_of {c : Int} {k : Nat} (h : k < 14) (hm : may ((k : Int) + 2) c = true) : someKind c = true := by
  unfold someKind
  exact List.any_eq_true.2 ⟨k, List.mem_range.2 h, by simpa using hm⟩
theorem someKind_no {c : Int} (h : ∀ j : Nat, j < 14 → may ((j : Int) + 2) c = false) : someKind c = false := by
  unfold someKind
  rw [List.any_eq_false]
  intro k hk
  have := h k (List.mem_range.1 hk)
  simpa using this

end Go.Proofs.Ytdpeljnoaiaplaa
