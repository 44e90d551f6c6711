/- Walks of reason: All. -/
import Derived.Test.YtdpeljnoaiaplaaReaE
namespace Go.Proofs.Ytdpeljnoaiaplaa
open Go.RowKit

theorem info_int : (Try.prog.info? 3).map (fun i => (i.zero, i.size, i.bytes)) = some (some (.int .i64 0), 1, 8) := by kernel_rfl
def allTo (kind : Int) (k : Nat) : List Nat := (List.range k).filter fun c => may kind (c : Int)
def allL (kind : Int) : List Nat := allTo kind 256
theorem allTo_succ (kind : Int) (k : Nat) : allTo kind (k + 1) = if may kind (k : Int) = true then allTo kind k ++ [k] else allTo kind k := by
  unfold allTo
  rw [List.range_succ, List.filter_append]
  by_cases h : may kind (k : Int) = true <;> simp [h]
theorem allTo_len (kind : Int) (k : Nat) : (allTo kind k).length ≤ k := by
  have := List.length_filter_le (fun c : Nat => may kind (c : Int)) (List.range k)
  simpa [allTo] using this

end Go.Proofs.Ytdpeljnoaiaplaa
