/-
  DERIVED. GIVEN WITH THE SEED: THE CARDS: each row of YtbahnolmlodcdaaGreatDoorRows.lean that lists a variable, with what it lists TIED to the program's text (the seventh form; the later family's looks); each row that meets fmt, with fmt's text TOLD by the authors' own Lean function (tested against real Go, not proved from fmt's source: count such statements apart). THE CARD IS WHAT COUNTS. Prove the row's statement (the work); the ties are given (YtbahnolmlodcdaaGreatDoorTie.lean); close each card by the builder's one call (the guide's Derived/Test/ToyasCard.lean, 'card_holds'). Laid BY PROGRAM, IN A SANDBOX (cutbox-door.mjs). By AI agents, Wed Nov 11 2026. No macro, syntax, notation, axiom, sorry.
-/
import Derived.Test.YtbahnolmlodcdaaGreatDoorRows
import GoSem.ClaimSeven
namespace Go.Proofs.YtbahnolmlodcdaaGreatDoor
namespace Rows

/-- THE TIED CARD OF 'polyglotlaw11.SubscribeNames'. -/
def subscribeNamesCard : Claim7 := { stood := { row := subscribeNamesRow, standIns := [], harness := (true, "4d446b172c63d28131cca5b92e0c376a38b6f82fa6830d9f22f1f1dc1f82ef0f"), looks := false }, kinds := [], alts := [], laidByText := true, laidKinds := [.data, .pinned], laidTests := true, laidLooks := .later }
def SubscribeNamesCardSaid : Prop := Claim7.holds Tryz.pinned (.plain (OpenSpec.ofChange subscribeNamesSpec)) subscribeNamesCard

/-- THE TIED CARD OF 'polyglotlaw13.MqttVersions'. -/
def mqttVersionsCard : Claim7 := { stood := { row := mqttVersionsRow, standIns := [], harness := (true, "4d446b172c63d28131cca5b92e0c376a38b6f82fa6830d9f22f1f1dc1f82ef0f"), looks := false }, kinds := [], alts := [], laidByText := true, laidKinds := [.data, .pinned], laidTests := true, laidLooks := .later }
def MqttVersionsCardSaid : Prop := Claim7.holds Tryz.pinned (.plain (OpenSpec.ofChange mqttVersionsSpec)) mqttVersionsCard

/-- THE TIED CARD OF 'polyglotlaw13.MqttAll'. -/
def mqttAllCard : Claim7 := { stood := { row := mqttAllRow, standIns := [], harness := (true, "4d446b172c63d28131cca5b92e0c376a38b6f82fa6830d9f22f1f1dc1f82ef0f"), looks := false }, kinds := [], alts := [], laidByText := true, laidKinds := [.data, .pinned], laidTests := true, laidLooks := .later }
def MqttAllCardSaid : Prop := Claim7.holds Tryz.pinned (.plain (OpenSpec.ofChange mqttAllSpec)) mqttAllCard

/-- THE TIED CARD OF 'polyglotlaw13.MqttNames'. -/
def mqttNamesCard : Claim7 := { stood := { row := mqttNamesRow, standIns := [], harness := (true, "4d446b172c63d28131cca5b92e0c376a38b6f82fa6830d9f22f1f1dc1f82ef0f"), looks := false }, kinds := [], alts := [], laidByText := true, laidKinds := [.data, .pinned], laidTests := true, laidLooks := .later }
def MqttNamesCardSaid : Prop := Claim7.holds Tryz.pinned (.plain (OpenSpec.ofChange mqttNamesSpec)) mqttNamesCard

/-- THE TIED CARD OF 'polyglotlaw13.MqttCalls'. -/
def mqttCallsCard : Claim7 := { stood := { row := mqttCallsRow, standIns := [], harness := (true, "4d446b172c63d28131cca5b92e0c376a38b6f82fa6830d9f22f1f1dc1f82ef0f"), looks := false }, kinds := [], alts := [], laidByText := true, laidKinds := [.data, .pinned], laidTests := true, laidLooks := .later }
def MqttCallsCardSaid : Prop := Claim7.holds Tryz.pinned (.plain (OpenSpec.ofChange mqttCallsSpec)) mqttCallsCard

/-- THE TIED CARD OF 'polyglotlaw14.MstreamNeeds'. -/
def mstreamNeedsCard : Claim7 := { stood := { row := mstreamNeedsRow, standIns := [], harness := (true, "4d446b172c63d28131cca5b92e0c376a38b6f82fa6830d9f22f1f1dc1f82ef0f"), looks := false }, kinds := [], alts := [], laidByText := true, laidKinds := [.data, .pinned], laidTests := true, laidLooks := .later }
def MstreamNeedsCardSaid : Prop := Claim7.holds Tryz.pinned (.plain (OpenSpec.ofChange mstreamNeedsSpec)) mstreamNeedsCard

/-- THE TIED CARD OF 'polyglotlaw14.MstreamSends'. -/
def mstreamSendsCard : Claim7 := { stood := { row := mstreamSendsRow, standIns := [], harness := (true, "4d446b172c63d28131cca5b92e0c376a38b6f82fa6830d9f22f1f1dc1f82ef0f"), looks := false }, kinds := [], alts := [], laidByText := true, laidKinds := [.data, .pinned], laidTests := true, laidLooks := .later }
def MstreamSendsCardSaid : Prop := Claim7.holds Tryz.pinned (.plain (OpenSpec.ofChange mstreamSendsSpec)) mstreamSendsCard

/-- THE TIED CARD OF 'polyglotlaw14.MstreamNames'. -/
def mstreamNamesCard : Claim7 := { stood := { row := mstreamNamesRow, standIns := [], harness := (true, "4d446b172c63d28131cca5b92e0c376a38b6f82fa6830d9f22f1f1dc1f82ef0f"), looks := false }, kinds := [], alts := [], laidByText := true, laidKinds := [.data, .pinned], laidTests := true, laidLooks := .later }
def MstreamNamesCardSaid : Prop := Claim7.holds Tryz.pinned (.plain (OpenSpec.ofChange mstreamNamesSpec)) mstreamNamesCard

/-- THE TIED CARD OF 'polyglotlaw14.MstreamScript'. -/
def mstreamScriptCard : Claim7 := { stood := { row := mstreamScriptRow, standIns := [], harness := (true, "4d446b172c63d28131cca5b92e0c376a38b6f82fa6830d9f22f1f1dc1f82ef0f"), looks := false }, kinds := [], alts := [], laidByText := true, laidKinds := [.data, .pinned], laidTests := true, laidLooks := .later }
def MstreamScriptCardSaid : Prop := Claim7.holds Tryz.pinned (.plain (OpenSpec.ofChange mstreamScriptSpec)) mstreamScriptCard

/-- THE TIED CARD OF 'polyglotlaw14.MstreamCuts'. -/
def mstreamCutsCard : Claim7 := { stood := { row := mstreamCutsRow, standIns := [], harness := (true, "4d446b172c63d28131cca5b92e0c376a38b6f82fa6830d9f22f1f1dc1f82ef0f"), looks := false }, kinds := [], alts := [], laidByText := true, laidKinds := [.data, .pinned], laidTests := true, laidLooks := .later }
def MstreamCutsCardSaid : Prop := Claim7.holds Tryz.pinned (.plain (OpenSpec.ofChange mstreamCutsSpec)) mstreamCutsCard

/-- THE SECOND FORM's CARD OF 'polyglotlaw11.SubscribeNames'. -/
def subscribeNamesUptoCard : Claim7 := { stood := { row := subscribeNamesUptoRow, standIns := [], harness := (true, "4d446b172c63d28131cca5b92e0c376a38b6f82fa6830d9f22f1f1dc1f82ef0f"), looks := false }, kinds := [], alts := [], laidByText := true, laidKinds := [.data, .pinned], laidTests := true, laidLooks := .later }
def SubscribeNamesUptoCardSaid : Prop := Claim7.holds Tryz.pinned (.plain (OpenSpec.upto subscribeNamesSpec)) subscribeNamesUptoCard

/-- THE SECOND FORM's CARD OF 'polyglotlaw13.MqttVersions'. -/
def mqttVersionsUptoCard : Claim7 := { stood := { row := mqttVersionsUptoRow, standIns := [], harness := (true, "4d446b172c63d28131cca5b92e0c376a38b6f82fa6830d9f22f1f1dc1f82ef0f"), looks := false }, kinds := [], alts := [], laidByText := true, laidKinds := [.data, .pinned], laidTests := true, laidLooks := .later }
def MqttVersionsUptoCardSaid : Prop := Claim7.holds Tryz.pinned (.plain (OpenSpec.upto mqttVersionsSpec)) mqttVersionsUptoCard

/-- THE SECOND FORM's CARD OF 'polyglotlaw13.MqttAll'. -/
def mqttAllUptoCard : Claim7 := { stood := { row := mqttAllUptoRow, standIns := [], harness := (true, "4d446b172c63d28131cca5b92e0c376a38b6f82fa6830d9f22f1f1dc1f82ef0f"), looks := false }, kinds := [], alts := [], laidByText := true, laidKinds := [.data, .pinned], laidTests := true, laidLooks := .later }
def MqttAllUptoCardSaid : Prop := Claim7.holds Tryz.pinned (.plain (OpenSpec.upto mqttAllSpec)) mqttAllUptoCard

/-- THE SECOND FORM's CARD OF 'polyglotlaw13.MqttNames'. -/
def mqttNamesUptoCard : Claim7 := { stood := { row := mqttNamesUptoRow, standIns := [], harness := (true, "4d446b172c63d28131cca5b92e0c376a38b6f82fa6830d9f22f1f1dc1f82ef0f"), looks := false }, kinds := [], alts := [], laidByText := true, laidKinds := [.data, .pinned], laidTests := true, laidLooks := .later }
def MqttNamesUptoCardSaid : Prop := Claim7.holds Tryz.pinned (.plain (OpenSpec.upto mqttNamesSpec)) mqttNamesUptoCard

/-- THE SECOND FORM's CARD OF 'polyglotlaw13.MqttCalls'. -/
def mqttCallsUptoCard : Claim7 := { stood := { row := mqttCallsUptoRow, standIns := [], harness := (true, "4d446b172c63d28131cca5b92e0c376a38b6f82fa6830d9f22f1f1dc1f82ef0f"), looks := false }, kinds := [], alts := [], laidByText := true, laidKinds := [.data, .pinned], laidTests := true, laidLooks := .later }
def MqttCallsUptoCardSaid : Prop := Claim7.holds Tryz.pinned (.plain (OpenSpec.upto mqttCallsSpec)) mqttCallsUptoCard

/-- THE SECOND FORM's CARD OF 'polyglotlaw14.MstreamNeeds'. -/
def mstreamNeedsUptoCard : Claim7 := { stood := { row := mstreamNeedsUptoRow, standIns := [], harness := (true, "4d446b172c63d28131cca5b92e0c376a38b6f82fa6830d9f22f1f1dc1f82ef0f"), looks := false }, kinds := [], alts := [], laidByText := true, laidKinds := [.data, .pinned], laidTests := true, laidLooks := .later }
def MstreamNeedsUptoCardSaid : Prop := Claim7.holds Tryz.pinned (.plain (OpenSpec.upto mstreamNeedsSpec)) mstreamNeedsUptoCard

/-- THE SECOND FORM's CARD OF 'polyglotlaw14.MstreamSends'. -/
def mstreamSendsUptoCard : Claim7 := { stood := { row := mstreamSendsUptoRow, standIns := [], harness := (true, "4d446b172c63d28131cca5b92e0c376a38b6f82fa6830d9f22f1f1dc1f82ef0f"), looks := false }, kinds := [], alts := [], laidByText := true, laidKinds := [.data, .pinned], laidTests := true, laidLooks := .later }
def MstreamSendsUptoCardSaid : Prop := Claim7.holds Tryz.pinned (.plain (OpenSpec.upto mstreamSendsSpec)) mstreamSendsUptoCard

/-- THE SECOND FORM's CARD OF 'polyglotlaw14.MstreamNames'. -/
def mstreamNamesUptoCard : Claim7 := { stood := { row := mstreamNamesUptoRow, standIns := [], harness := (true, "4d446b172c63d28131cca5b92e0c376a38b6f82fa6830d9f22f1f1dc1f82ef0f"), looks := false }, kinds := [], alts := [], laidByText := true, laidKinds := [.data, .pinned], laidTests := true, laidLooks := .later }
def MstreamNamesUptoCardSaid : Prop := Claim7.holds Tryz.pinned (.plain (OpenSpec.upto mstreamNamesSpec)) mstreamNamesUptoCard

/-- THE SECOND FORM's CARD OF 'polyglotlaw14.MstreamScript'. -/
def mstreamScriptUptoCard : Claim7 := { stood := { row := mstreamScriptUptoRow, standIns := [], harness := (true, "4d446b172c63d28131cca5b92e0c376a38b6f82fa6830d9f22f1f1dc1f82ef0f"), looks := false }, kinds := [], alts := [], laidByText := true, laidKinds := [.data, .pinned], laidTests := true, laidLooks := .later }
def MstreamScriptUptoCardSaid : Prop := Claim7.holds Tryz.pinned (.plain (OpenSpec.upto mstreamScriptSpec)) mstreamScriptUptoCard

/-- THE SECOND FORM's CARD OF 'polyglotlaw14.MstreamCuts'. -/
def mstreamCutsUptoCard : Claim7 := { stood := { row := mstreamCutsUptoRow, standIns := [], harness := (true, "4d446b172c63d28131cca5b92e0c376a38b6f82fa6830d9f22f1f1dc1f82ef0f"), looks := false }, kinds := [], alts := [], laidByText := true, laidKinds := [.data, .pinned], laidTests := true, laidLooks := .later }
def MstreamCutsUptoCardSaid : Prop := Claim7.holds Tryz.pinned (.plain (OpenSpec.upto mstreamCutsSpec)) mstreamCutsUptoCard
end Rows
end Go.Proofs.YtbahnolmlodcdaaGreatDoor
