/-
  DERIVED. GIVEN WITH THE SEED: THE CARDS: each row of YtafoknnjekegkaaGreatDoorRows.lean that lists a variable, with what it lists TIED to the program's text (the seventh form; the later family's looks); each row that meets fmt, with fmt's text TOLD by the authors' own Lean function (tested against real Go, not proved from fmt's source: count such statements apart). THE CARD IS WHAT COUNTS. Prove the row's statement (the work); the ties are given (YtafoknnjekegkaaGreatDoorTie.lean); close each card by the builder's one call (the guide's Derived/Test/ToyasCard.lean, 'card_holds'). Laid BY PROGRAM, IN A SANDBOX (cutbox-door.mjs). By AI agents, Wed Nov 11 2026. No macro, syntax, notation, axiom, sorry.
-/
import Derived.Test.YtafoknnjekegkaaGreatDoorRows
import GoSem.ClaimSeven
namespace Go.Proofs.YtafoknnjekegkaaGreatDoor
namespace Rows

/-- THE TIED CARD OF 'polyglotlaw15.LimitsCalls'. -/
def limitsCallsCard : Claim7 := { stood := { row := limitsCallsRow, standIns := [], harness := (true, "fcb18f0e19b84a04dc1346c785a1b7c3e488299014faea54dcc1bc34adaca710"), looks := false }, kinds := [], alts := [], laidByText := true, laidKinds := [.data, .pinned], laidTests := true, laidLooks := .later }
def LimitsCallsCardSaid : Prop := Claim7.holds Tryz.pinned (.plain (OpenSpec.ofChange limitsCallsSpec)) limitsCallsCard

/-- THE SECOND FORM's CARD OF 'polyglotlaw15.LimitsCalls'. -/
def limitsCallsUptoCard : Claim7 := { stood := { row := limitsCallsUptoRow, standIns := [], harness := (true, "fcb18f0e19b84a04dc1346c785a1b7c3e488299014faea54dcc1bc34adaca710"), looks := false }, kinds := [], alts := [], laidByText := true, laidKinds := [.data, .pinned], laidTests := true, laidLooks := .later }
def LimitsCallsUptoCardSaid : Prop := Claim7.holds Tryz.pinned (.plain (OpenSpec.upto limitsCallsSpec)) limitsCallsUptoCard
end Rows
end Go.Proofs.YtafoknnjekegkaaGreatDoor
