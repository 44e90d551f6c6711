/-
  DERIVED. GIVEN WITH THE SEED: THE CARDS: each row of YtooikoiladioeaaGreatDoorRows.lean that lists a variable, with what it lists TIED to the program's text (the seventh form; the later family's looks); each row that meets fmt, with fmt's text TOLD by the authors' own Lean function (tested against real Go, not proved from fmt's source: count such statements apart). THE CARD IS WHAT COUNTS. Prove the row's statement (the work); the ties are given (YtooikoiladioeaaGreatDoorTie.lean); close each card by the builder's one call (the guide's Derived/Test/ToyasCard.lean, 'card_holds'). Laid BY PROGRAM, IN A SANDBOX (cutbox-door.mjs). By AI agents, Wed Nov 11 2026. No macro, syntax, notation, axiom, sorry.
-/
import Derived.Test.YtooikoiladioeaaGreatDoorRows
import GoSem.ClaimSeven
namespace Go.Proofs.YtooikoiladioeaaGreatDoor
namespace Rows

/-- THE TIED CARD OF 'polyglotlaw13.MqttCalls'. -/
def mqttCallsCard : Claim7 := { stood := { row := mqttCallsRow, standIns := [], harness := (true, "f8498035c0a76886bd9cadd6f8a8e60780117ced7e5fd3229938b4694f7f9240"), looks := false }, kinds := [], alts := [], laidByText := true, laidKinds := [.data, .pinned], laidTests := true, laidLooks := .later }
def MqttCallsCardSaid : Prop := Claim7.holds Tryz.pinned (.plain (OpenSpec.ofChange mqttCallsSpec)) mqttCallsCard

/-- THE SECOND FORM's CARD OF 'polyglotlaw13.MqttCalls'. -/
def mqttCallsUptoCard : Claim7 := { stood := { row := mqttCallsUptoRow, standIns := [], harness := (true, "f8498035c0a76886bd9cadd6f8a8e60780117ced7e5fd3229938b4694f7f9240"), looks := false }, kinds := [], alts := [], laidByText := true, laidKinds := [.data, .pinned], laidTests := true, laidLooks := .later }
def MqttCallsUptoCardSaid : Prop := Claim7.holds Tryz.pinned (.plain (OpenSpec.upto mqttCallsSpec)) mqttCallsUptoCard
end Rows
end Go.Proofs.YtooikoiladioeaaGreatDoor
