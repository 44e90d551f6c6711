/- publish: what is wrong does not hang on the payload; a packet's flags are good (plain). -/
import Derived.Test.YtpcaffimahapjaaGreatPubR
import Derived.Test.YtpcaffimahapjaaGreatPubC
import Derived.Test.YtpcaffimahapjaaGreatUstC
namespace Go.Proofs.YtpcaffimahapjaaGreat
open Go.RowKit
theorem pubE_pay (v : Int) (p : Pk) (y : ByteArray) : pubE v { p with payload := y } = pubE v p := by
  have hF : pubF v { p with payload := y } = pubF v p := by
    unfold pubF
    refine decide_eq_decide.2 ⟨fun h => ⟨?_, h.2⟩, fun h => ⟨?_, h.2⟩⟩
    · exact congrArg (fun q : Pk => { q with payload := p.payload }) h.1
    · exact congrArg (fun q : Pk => { q with payload := y }) h.1
  have hL : ∀ j, pubL v { p with payload := y } j = pubL v p j := by
    intro j
    unfold pubL
    rw [hF]
    rfl
  unfold pubE
  simp only [hL]
theorem flags_good {p : Pk} (h : badQ p = false) : hdFlag3 (flagsP p) = true ∧ decide (8 ≤ flagsP p) = p.dup ∧ flagsP p / 2 % 4 = p.qos ∧ decide (flagsP p % 2 = 1) = p.retain := by
  have hb := of_decide_eq_false h
  unfold hdFlag3 flagsP
  obtain h0 | h1 | h2 : p.qos = 0 ∨ p.qos = 1 ∨ p.qos = 2 := by omega
  · rw [h0] at hb ⊢
    cases hd : p.dup
    · cases p.retain <;> decide
    · exact absurd (.inr (.inr ⟨rfl, hd⟩)) hb
  · rw [h1]
    cases p.dup <;> cases p.retain <;> decide
  · rw [h2]
    cases p.dup <;> cases p.retain <;> decide
end Go.Proofs.YtpcaffimahapjaaGreat
