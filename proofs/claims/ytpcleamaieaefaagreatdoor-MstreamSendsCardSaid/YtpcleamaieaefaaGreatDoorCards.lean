/-
  DERIVED. GIVEN WITH THE SEED: THE CARDS: each row of YtpcleamaieaefaaGreatDoorRows.lean that lists a variable, with what it lists TIED to the program's text (the seventh form; the later family's looks); each row that meets fmt, with fmt's text TOLD by the authors' own Lean function (tested against real Go, not proved from fmt's source: count such statements apart). THE CARD IS WHAT COUNTS. Prove the row's statement (the work); the ties are given (YtpcleamaieaefaaGreatDoorTie.lean); close each card by the builder's one call (the guide's Derived/Test/ToyasCard.lean, 'card_holds'). Laid BY PROGRAM, IN A SANDBOX (cutbox-door.mjs). By AI agents, Wed Nov 11 2026. No macro, syntax, notation, axiom, sorry.
-/
import Derived.Test.YtpcleamaieaefaaGreatDoorRows
import GoSem.ClaimSeven
namespace Go.Proofs.YtpcleamaieaefaaGreatDoor
namespace Rows

/-- THE TIED CARD OF 'polyglotlaw11.SubscribeNames'. -/
def subscribeNamesCard : Claim7 := { stood := { row := subscribeNamesRow, standIns := [], harness := (true, "2cc432b226247624fa0052a30e1f0b348cdd45b0a93e7c01562ba0f4d31bfac2"), looks := false }, kinds := [], alts := [], laidByText := true, laidKinds := [.data, .pinned], laidTests := true, laidLooks := .later }
def SubscribeNamesCardSaid : Prop := Claim7.holds Tryz.pinned (.plain (OpenSpec.ofChange subscribeNamesSpec)) subscribeNamesCard

/-- THE TIED CARD OF 'polyglotlaw13.MqttCalls'. -/
def mqttCallsCard : Claim7 := { stood := { row := mqttCallsRow, standIns := [], harness := (true, "2cc432b226247624fa0052a30e1f0b348cdd45b0a93e7c01562ba0f4d31bfac2"), looks := false }, kinds := [], alts := [], laidByText := true, laidKinds := [.data, .pinned], laidTests := true, laidLooks := .later }
def MqttCallsCardSaid : Prop := Claim7.holds Tryz.pinned (.plain (OpenSpec.ofChange mqttCallsSpec)) mqttCallsCard

/-- THE TIED CARD OF 'polyglotlaw14.MstreamNeeds'. -/
def mstreamNeedsCard : Claim7 := { stood := { row := mstreamNeedsRow, standIns := [], harness := (true, "2cc432b226247624fa0052a30e1f0b348cdd45b0a93e7c01562ba0f4d31bfac2"), looks := false }, kinds := [], alts := [], laidByText := true, laidKinds := [.data, .pinned], laidTests := true, laidLooks := .later }
def MstreamNeedsCardSaid : Prop := Claim7.holds Tryz.pinned (.plain (OpenSpec.ofChange mstreamNeedsSpec)) mstreamNeedsCard

/-- THE TIED CARD OF 'polyglotlaw14.MstreamSends'. -/
def mstreamSendsCard : Claim7 := { stood := { row := mstreamSendsRow, standIns := [], harness := (true, "2cc432b226247624fa0052a30e1f0b348cdd45b0a93e7c01562ba0f4d31bfac2"), looks := false }, kinds := [], alts := [], laidByText := true, laidKinds := [.data, .pinned], laidTests := true, laidLooks := .later }
def MstreamSendsCardSaid : Prop := Claim7.holds Tryz.pinned (.plain (OpenSpec.ofChange mstreamSendsSpec)) mstreamSendsCard

/-- THE TIED CARD OF 'polyglotlaw14.MstreamNames'. -/
def mstreamNamesCard : Claim7 := { stood := { row := mstreamNamesRow, standIns := [], harness := (true, "2cc432b226247624fa0052a30e1f0b348cdd45b0a93e7c01562ba0f4d31bfac2"), looks := false }, kinds := [], alts := [], laidByText := true, laidKinds := [.data, .pinned], laidTests := true, laidLooks := .later }
def MstreamNamesCardSaid : Prop := Claim7.holds Tryz.pinned (.plain (OpenSpec.ofChange mstreamNamesSpec)) mstreamNamesCard

/-- THE TIED CARD OF 'polyglotlaw14.MstreamScript'. -/
def mstreamScriptCard : Claim7 := { stood := { row := mstreamScriptRow, standIns := [], harness := (true, "2cc432b226247624fa0052a30e1f0b348cdd45b0a93e7c01562ba0f4d31bfac2"), looks := false }, kinds := [], alts := [], laidByText := true, laidKinds := [.data, .pinned], laidTests := true, laidLooks := .later }
def MstreamScriptCardSaid : Prop := Claim7.holds Tryz.pinned (.plain (OpenSpec.ofChange mstreamScriptSpec)) mstreamScriptCard

/-- THE TIED CARD OF 'polyglotlaw14.MstreamCuts'. -/
def mstreamCutsCard : Claim7 := { stood := { row := mstreamCutsRow, standIns := [], harness := (true, "2cc432b226247624fa0052a30e1f0b348cdd45b0a93e7c01562ba0f4d31bfac2"), looks := false }, kinds := [], alts := [], laidByText := true, laidKinds := [.data, .pinned], laidTests := true, laidLooks := .later }
def MstreamCutsCardSaid : Prop := Claim7.holds Tryz.pinned (.plain (OpenSpec.ofChange mstreamCutsSpec)) mstreamCutsCard

/-- THE SECOND FORM's CARD OF 'polyglotlaw11.SubscribeNames'. -/
def subscribeNamesUptoCard : Claim7 := { stood := { row := subscribeNamesUptoRow, standIns := [], harness := (true, "2cc432b226247624fa0052a30e1f0b348cdd45b0a93e7c01562ba0f4d31bfac2"), looks := false }, kinds := [], alts := [], laidByText := true, laidKinds := [.data, .pinned], laidTests := true, laidLooks := .later }
def SubscribeNamesUptoCardSaid : Prop := Claim7.holds Tryz.pinned (.plain (OpenSpec.upto subscribeNamesSpec)) subscribeNamesUptoCard

/-- THE SECOND FORM's CARD OF 'polyglotlaw13.MqttCalls'. -/
def mqttCallsUptoCard : Claim7 := { stood := { row := mqttCallsUptoRow, standIns := [], harness := (true, "2cc432b226247624fa0052a30e1f0b348cdd45b0a93e7c01562ba0f4d31bfac2"), looks := false }, kinds := [], alts := [], laidByText := true, laidKinds := [.data, .pinned], laidTests := true, laidLooks := .later }
def MqttCallsUptoCardSaid : Prop := Claim7.holds Tryz.pinned (.plain (OpenSpec.upto mqttCallsSpec)) mqttCallsUptoCard

/-- THE SECOND FORM's CARD OF 'polyglotlaw14.MstreamNeeds'. -/
def mstreamNeedsUptoCard : Claim7 := { stood := { row := mstreamNeedsUptoRow, standIns := [], harness := (true, "2cc432b226247624fa0052a30e1f0b348cdd45b0a93e7c01562ba0f4d31bfac2"), looks := false }, kinds := [], alts := [], laidByText := true, laidKinds := [.data, .pinned], laidTests := true, laidLooks := .later }
def MstreamNeedsUptoCardSaid : Prop := Claim7.holds Tryz.pinned (.plain (OpenSpec.upto mstreamNeedsSpec)) mstreamNeedsUptoCard

/-- THE SECOND FORM's CARD OF 'polyglotlaw14.MstreamSends'. -/
def mstreamSendsUptoCard : Claim7 := { stood := { row := mstreamSendsUptoRow, standIns := [], harness := (true, "2cc432b226247624fa0052a30e1f0b348cdd45b0a93e7c01562ba0f4d31bfac2"), looks := false }, kinds := [], alts := [], laidByText := true, laidKinds := [.data, .pinned], laidTests := true, laidLooks := .later }
def MstreamSendsUptoCardSaid : Prop := Claim7.holds Tryz.pinned (.plain (OpenSpec.upto mstreamSendsSpec)) mstreamSendsUptoCard

/-- THE SECOND FORM's CARD OF 'polyglotlaw14.MstreamNames'. -/
def mstreamNamesUptoCard : Claim7 := { stood := { row := mstreamNamesUptoRow, standIns := [], harness := (true, "2cc432b226247624fa0052a30e1f0b348cdd45b0a93e7c01562ba0f4d31bfac2"), looks := false }, kinds := [], alts := [], laidByText := true, laidKinds := [.data, .pinned], laidTests := true, laidLooks := .later }
def MstreamNamesUptoCardSaid : Prop := Claim7.holds Tryz.pinned (.plain (OpenSpec.upto mstreamNamesSpec)) mstreamNamesUptoCard

/-- THE SECOND FORM's CARD OF 'polyglotlaw14.MstreamScript'. -/
def mstreamScriptUptoCard : Claim7 := { stood := { row := mstreamScriptUptoRow, standIns := [], harness := (true, "2cc432b226247624fa0052a30e1f0b348cdd45b0a93e7c01562ba0f4d31bfac2"), looks := false }, kinds := [], alts := [], laidByText := true, laidKinds := [.data, .pinned], laidTests := true, laidLooks := .later }
def MstreamScriptUptoCardSaid : Prop := Claim7.holds Tryz.pinned (.plain (OpenSpec.upto mstreamScriptSpec)) mstreamScriptUptoCard

/-- THE SECOND FORM's CARD OF 'polyglotlaw14.MstreamCuts'. -/
def mstreamCutsUptoCard : Claim7 := { stood := { row := mstreamCutsUptoRow, standIns := [], harness := (true, "2cc432b226247624fa0052a30e1f0b348cdd45b0a93e7c01562ba0f4d31bfac2"), looks := false }, kinds := [], alts := [], laidByText := true, laidKinds := [.data, .pinned], laidTests := true, laidLooks := .later }
def MstreamCutsUptoCardSaid : Prop := Claim7.holds Tryz.pinned (.plain (OpenSpec.upto mstreamCutsSpec)) mstreamCutsUptoCard
end Rows
end Go.Proofs.YtpcleamaieaefaaGreatDoor
