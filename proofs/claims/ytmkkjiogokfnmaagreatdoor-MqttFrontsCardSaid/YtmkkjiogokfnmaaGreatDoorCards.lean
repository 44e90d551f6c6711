/-
  DERIVED. GIVEN WITH THE SEED: THE CARDS: each row of YtmkkjiogokfnmaaGreatDoorRows.lean that lists a variable, with what it lists TIED to the program's text (the seventh form; the later family's looks); each row that meets fmt, with fmt's text TOLD by the authors' own Lean function (tested against real Go, not proved from fmt's source: count such statements apart). THE CARD IS WHAT COUNTS. Prove the row's statement (the work); the ties are given (YtmkkjiogokfnmaaGreatDoorTie.lean); close each card by the builder's one call (the guide's Derived/Test/ToyasCard.lean, 'card_holds'). Laid BY PROGRAM, IN A SANDBOX (cutbox-door.mjs). By AI agents, Wed Nov 11 2026. No macro, syntax, notation, axiom, sorry.
-/
import Derived.Test.YtmkkjiogokfnmaaGreatDoorRows
import GoSem.ClaimSeven
namespace Go.Proofs.YtmkkjiogokfnmaaGreatDoor
namespace Rows

/-- THE TIED CARD OF 'polyglotlaw11.SubscribeNames'. -/
def subscribeNamesCard : Claim7 := { stood := { row := subscribeNamesRow, standIns := [], harness := (true, "d7530575baf09dd0e8135c0d6946de0afb9f0c33d008f2933f7f8677cb6381e8"), looks := false }, kinds := [], alts := [], laidByText := true, laidKinds := [.data, .pinned], laidTests := true, laidLooks := .later }
def SubscribeNamesCardSaid : Prop := Claim7.holds Tryz.pinned (.plain (OpenSpec.ofChange subscribeNamesSpec)) subscribeNamesCard

/-- THE TIED CARD OF 'polyglotlaw11.SubscribeCalls'. -/
def subscribeCallsCard : Claim7 := { stood := { row := subscribeCallsRow, standIns := [], harness := (true, "d7530575baf09dd0e8135c0d6946de0afb9f0c33d008f2933f7f8677cb6381e8"), looks := false }, kinds := [], alts := [], laidByText := true, laidKinds := [.data, .pinned], laidTests := true, laidLooks := .later }
def SubscribeCallsCardSaid : Prop := Claim7.holds Tryz.pinned (.plain (OpenSpec.ofChange subscribeCallsSpec)) subscribeCallsCard

/-- THE TIED CARD OF 'polyglotlaw13.MqttFronts'. -/
def mqttFrontsCard : Claim7 := { stood := { row := mqttFrontsRow, standIns := [], harness := (true, "d7530575baf09dd0e8135c0d6946de0afb9f0c33d008f2933f7f8677cb6381e8"), looks := false }, kinds := [], alts := [], laidByText := true, laidKinds := [.data, .pinned], laidTests := true, laidLooks := .later }
def MqttFrontsCardSaid : Prop := Claim7.holds Tryz.pinned (.plain (OpenSpec.ofChange mqttFrontsSpec)) mqttFrontsCard

/-- THE TIED CARD OF 'polyglotlaw13.MqttVersions'. -/
def mqttVersionsCard : Claim7 := { stood := { row := mqttVersionsRow, standIns := [], harness := (true, "d7530575baf09dd0e8135c0d6946de0afb9f0c33d008f2933f7f8677cb6381e8"), looks := false }, kinds := [], alts := [], laidByText := true, laidKinds := [.data, .pinned], laidTests := true, laidLooks := .later }
def MqttVersionsCardSaid : Prop := Claim7.holds Tryz.pinned (.plain (OpenSpec.ofChange mqttVersionsSpec)) mqttVersionsCard

/-- THE TIED CARD OF 'polyglotlaw13.MqttBack'. -/
def mqttBackCard : Claim7 := { stood := { row := mqttBackRow, standIns := [], harness := (true, "d7530575baf09dd0e8135c0d6946de0afb9f0c33d008f2933f7f8677cb6381e8"), looks := false }, kinds := [], alts := [], laidByText := true, laidKinds := [.data, .pinned], laidTests := true, laidLooks := .later }
def MqttBackCardSaid : Prop := Claim7.holds Tryz.pinned (.plain (OpenSpec.ofChange mqttBackSpec)) mqttBackCard

/-- THE TIED CARD OF 'polyglotlaw13.MqttAll'. -/
def mqttAllCard : Claim7 := { stood := { row := mqttAllRow, standIns := [], harness := (true, "d7530575baf09dd0e8135c0d6946de0afb9f0c33d008f2933f7f8677cb6381e8"), looks := false }, kinds := [], alts := [], laidByText := true, laidKinds := [.data, .pinned], laidTests := true, laidLooks := .later }
def MqttAllCardSaid : Prop := Claim7.holds Tryz.pinned (.plain (OpenSpec.ofChange mqttAllSpec)) mqttAllCard

/-- THE TIED CARD OF 'polyglotlaw13.MqttNames'. -/
def mqttNamesCard : Claim7 := { stood := { row := mqttNamesRow, standIns := [], harness := (true, "d7530575baf09dd0e8135c0d6946de0afb9f0c33d008f2933f7f8677cb6381e8"), looks := false }, kinds := [], alts := [], laidByText := true, laidKinds := [.data, .pinned], laidTests := true, laidLooks := .later }
def MqttNamesCardSaid : Prop := Claim7.holds Tryz.pinned (.plain (OpenSpec.ofChange mqttNamesSpec)) mqttNamesCard

/-- THE TIED CARD OF 'polyglotlaw13.MqttCalls'. -/
def mqttCallsCard : Claim7 := { stood := { row := mqttCallsRow, standIns := [], harness := (true, "d7530575baf09dd0e8135c0d6946de0afb9f0c33d008f2933f7f8677cb6381e8"), looks := false }, kinds := [], alts := [], laidByText := true, laidKinds := [.data, .pinned], laidTests := true, laidLooks := .later }
def MqttCallsCardSaid : Prop := Claim7.holds Tryz.pinned (.plain (OpenSpec.ofChange mqttCallsSpec)) mqttCallsCard

/-- THE SECOND FORM's CARD OF 'polyglotlaw11.SubscribeNames'. -/
def subscribeNamesUptoCard : Claim7 := { stood := { row := subscribeNamesUptoRow, standIns := [], harness := (true, "d7530575baf09dd0e8135c0d6946de0afb9f0c33d008f2933f7f8677cb6381e8"), looks := false }, kinds := [], alts := [], laidByText := true, laidKinds := [.data, .pinned], laidTests := true, laidLooks := .later }
def SubscribeNamesUptoCardSaid : Prop := Claim7.holds Tryz.pinned (.plain (OpenSpec.upto subscribeNamesSpec)) subscribeNamesUptoCard

/-- THE SECOND FORM's CARD OF 'polyglotlaw11.SubscribeCalls'. -/
def subscribeCallsUptoCard : Claim7 := { stood := { row := subscribeCallsUptoRow, standIns := [], harness := (true, "d7530575baf09dd0e8135c0d6946de0afb9f0c33d008f2933f7f8677cb6381e8"), looks := false }, kinds := [], alts := [], laidByText := true, laidKinds := [.data, .pinned], laidTests := true, laidLooks := .later }
def SubscribeCallsUptoCardSaid : Prop := Claim7.holds Tryz.pinned (.plain (OpenSpec.upto subscribeCallsSpec)) subscribeCallsUptoCard

/-- THE SECOND FORM's CARD OF 'polyglotlaw13.MqttFronts'. -/
def mqttFrontsUptoCard : Claim7 := { stood := { row := mqttFrontsUptoRow, standIns := [], harness := (true, "d7530575baf09dd0e8135c0d6946de0afb9f0c33d008f2933f7f8677cb6381e8"), looks := false }, kinds := [], alts := [], laidByText := true, laidKinds := [.data, .pinned], laidTests := true, laidLooks := .later }
def MqttFrontsUptoCardSaid : Prop := Claim7.holds Tryz.pinned (.plain (OpenSpec.upto mqttFrontsSpec)) mqttFrontsUptoCard

/-- THE SECOND FORM's CARD OF 'polyglotlaw13.MqttVersions'. -/
def mqttVersionsUptoCard : Claim7 := { stood := { row := mqttVersionsUptoRow, standIns := [], harness := (true, "d7530575baf09dd0e8135c0d6946de0afb9f0c33d008f2933f7f8677cb6381e8"), looks := false }, kinds := [], alts := [], laidByText := true, laidKinds := [.data, .pinned], laidTests := true, laidLooks := .later }
def MqttVersionsUptoCardSaid : Prop := Claim7.holds Tryz.pinned (.plain (OpenSpec.upto mqttVersionsSpec)) mqttVersionsUptoCard

/-- THE SECOND FORM's CARD OF 'polyglotlaw13.MqttBack'. -/
def mqttBackUptoCard : Claim7 := { stood := { row := mqttBackUptoRow, standIns := [], harness := (true, "d7530575baf09dd0e8135c0d6946de0afb9f0c33d008f2933f7f8677cb6381e8"), looks := false }, kinds := [], alts := [], laidByText := true, laidKinds := [.data, .pinned], laidTests := true, laidLooks := .later }
def MqttBackUptoCardSaid : Prop := Claim7.holds Tryz.pinned (.plain (OpenSpec.upto mqttBackSpec)) mqttBackUptoCard

/-- THE SECOND FORM's CARD OF 'polyglotlaw13.MqttAll'. -/
def mqttAllUptoCard : Claim7 := { stood := { row := mqttAllUptoRow, standIns := [], harness := (true, "d7530575baf09dd0e8135c0d6946de0afb9f0c33d008f2933f7f8677cb6381e8"), looks := false }, kinds := [], alts := [], laidByText := true, laidKinds := [.data, .pinned], laidTests := true, laidLooks := .later }
def MqttAllUptoCardSaid : Prop := Claim7.holds Tryz.pinned (.plain (OpenSpec.upto mqttAllSpec)) mqttAllUptoCard

/-- THE SECOND FORM's CARD OF 'polyglotlaw13.MqttNames'. -/
def mqttNamesUptoCard : Claim7 := { stood := { row := mqttNamesUptoRow, standIns := [], harness := (true, "d7530575baf09dd0e8135c0d6946de0afb9f0c33d008f2933f7f8677cb6381e8"), looks := false }, kinds := [], alts := [], laidByText := true, laidKinds := [.data, .pinned], laidTests := true, laidLooks := .later }
def MqttNamesUptoCardSaid : Prop := Claim7.holds Tryz.pinned (.plain (OpenSpec.upto mqttNamesSpec)) mqttNamesUptoCard

/-- THE SECOND FORM's CARD OF 'polyglotlaw13.MqttCalls'. -/
def mqttCallsUptoCard : Claim7 := { stood := { row := mqttCallsUptoRow, standIns := [], harness := (true, "d7530575baf09dd0e8135c0d6946de0afb9f0c33d008f2933f7f8677cb6381e8"), looks := false }, kinds := [], alts := [], laidByText := true, laidKinds := [.data, .pinned], laidTests := true, laidLooks := .later }
def MqttCallsUptoCardSaid : Prop := Claim7.holds Tryz.pinned (.plain (OpenSpec.upto mqttCallsSpec)) mqttCallsUptoCard
end Rows
end Go.Proofs.YtmkkjiogokfnmaaGreatDoor
