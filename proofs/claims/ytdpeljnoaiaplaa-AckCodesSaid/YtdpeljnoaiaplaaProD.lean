/- The walk of prop.Check. -/
import Derived.Test.YtdpeljnoaiaplaaProC
import Derived.Deep.RegionHeld3
import Derived.Deep.DrawnRows
namespace Go.Proofs.Ytdpeljnoaiaplaa
open Go.RowKit
attribute [local go_sem ↓] Go.wp_at_zero Go.wp_at_succ

theorem keep4 {W w1 : World} (hb : Below W.heap.size W w1) {g : Nat} (hg : g < W.heap.size) {a b c d : Value}
    (h : W.cell? ⟨g, 0, none⟩ = some a ∧ W.cell? ⟨g, 1, none⟩ = some b ∧ W.cell? ⟨g, 2, none⟩ = some c ∧ W.cell? ⟨g, 3, none⟩ = some d) :
    w1.cell? ⟨g, 0, none⟩ = some a ∧ w1.cell? ⟨g, 1, none⟩ = some b ∧ w1.cell? ⟨g, 2, none⟩ = some c ∧ w1.cell? ⟨g, 3, none⟩ = some d := by
  have hr := (below_rules hb).1
  rw [hr _ _ hg, hr _ _ hg, hr _ _ hg, hr _ _ hg]
  exact h

end Go.Proofs.Ytdpeljnoaiaplaa
