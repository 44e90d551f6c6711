/-
  DERIVED. GIVEN WITH THE SEED: THE CARDS: each row of YtbdgkkmbnahgiaaGreatDoorRows.lean that lists a variable, with what it lists TIED to the program's text (the seventh form; the later family's looks); each row that meets fmt, with fmt's text TOLD by the authors' own Lean function (tested against real Go, not proved from fmt's source: count such statements apart). THE CARD IS WHAT COUNTS. Prove the row's statement (the work); the ties are given (YtbdgkkmbnahgiaaGreatDoorTie.lean); close each card by the builder's one call (the guide's Derived/Test/ToyasCard.lean, 'card_holds'). Laid BY PROGRAM, IN A SANDBOX (cutbox-door.mjs). By AI agents, Wed Nov 11 2026. No macro, syntax, notation, axiom, sorry.
-/
import Derived.Test.YtbdgkkmbnahgiaaGreatDoorRows
import GoSem.ClaimSeven
namespace Go.Proofs.YtbdgkkmbnahgiaaGreatDoor
namespace Rows

/-- THE TIED CARD OF 'polyglotlaw11.SubscribeNames'. -/
def subscribeNamesCard : Claim7 := { stood := { row := subscribeNamesRow, standIns := [], harness := (true, "8b00614933db8ed070c9506b9d66e6ef78c9b9c976bec471c0bdd851bb2fa7e6"), looks := false }, kinds := [], alts := [], laidByText := true, laidKinds := [.data, .pinned], laidTests := true, laidLooks := .later }
def SubscribeNamesCardSaid : Prop := Claim7.holds Tryz.pinned (.plain (OpenSpec.ofChange subscribeNamesSpec)) subscribeNamesCard

/-- THE TIED CARD OF 'polyglotlaw13.MqttCalls'. -/
def mqttCallsCard : Claim7 := { stood := { row := mqttCallsRow, standIns := [], harness := (true, "8b00614933db8ed070c9506b9d66e6ef78c9b9c976bec471c0bdd851bb2fa7e6"), looks := false }, kinds := [], alts := [], laidByText := true, laidKinds := [.data, .pinned], laidTests := true, laidLooks := .later }
def MqttCallsCardSaid : Prop := Claim7.holds Tryz.pinned (.plain (OpenSpec.ofChange mqttCallsSpec)) mqttCallsCard

/-- THE TIED CARD OF 'polyglotlaw14.MstreamScript'. -/
def mstreamScriptCard : Claim7 := { stood := { row := mstreamScriptRow, standIns := [], harness := (true, "8b00614933db8ed070c9506b9d66e6ef78c9b9c976bec471c0bdd851bb2fa7e6"), looks := false }, kinds := [], alts := [], laidByText := true, laidKinds := [.data, .pinned], laidTests := true, laidLooks := .later }
def MstreamScriptCardSaid : Prop := Claim7.holds Tryz.pinned (.plain (OpenSpec.ofChange mstreamScriptSpec)) mstreamScriptCard

/-- THE TIED CARD OF 'polyglotlaw15.LimitsNames'. -/
def limitsNamesCard : Claim7 := { stood := { row := limitsNamesRow, standIns := [], harness := (true, "8b00614933db8ed070c9506b9d66e6ef78c9b9c976bec471c0bdd851bb2fa7e6"), looks := false }, kinds := [], alts := [], laidByText := true, laidKinds := [.data, .pinned], laidTests := true, laidLooks := .later }
def LimitsNamesCardSaid : Prop := Claim7.holds Tryz.pinned (.plain (OpenSpec.ofChange limitsNamesSpec)) limitsNamesCard

/-- THE TIED CARD OF 'polyglotlaw15.LimitsCalls'. -/
def limitsCallsCard : Claim7 := { stood := { row := limitsCallsRow, standIns := [], harness := (true, "8b00614933db8ed070c9506b9d66e6ef78c9b9c976bec471c0bdd851bb2fa7e6"), looks := false }, kinds := [], alts := [], laidByText := true, laidKinds := [.data, .pinned], laidTests := true, laidLooks := .later }
def LimitsCallsCardSaid : Prop := Claim7.holds Tryz.pinned (.plain (OpenSpec.ofChange limitsCallsSpec)) limitsCallsCard

/-- THE TIED CARD OF 'polyglotlaw15.LimitsFits'. -/
def limitsFitsCard : Claim7 := { stood := { row := limitsFitsRow, standIns := [], harness := (true, "8b00614933db8ed070c9506b9d66e6ef78c9b9c976bec471c0bdd851bb2fa7e6"), looks := false }, kinds := [], alts := [], laidByText := true, laidKinds := [.data, .pinned], laidTests := true, laidLooks := .later }
def LimitsFitsCardSaid : Prop := Claim7.holds Tryz.pinned (.plain (OpenSpec.ofChange limitsFitsSpec)) limitsFitsCard

/-- THE TIED CARD OF 'polyglotlaw15.LimitsStream'. -/
def limitsStreamCard : Claim7 := { stood := { row := limitsStreamRow, standIns := [], harness := (true, "8b00614933db8ed070c9506b9d66e6ef78c9b9c976bec471c0bdd851bb2fa7e6"), looks := false }, kinds := [], alts := [], laidByText := true, laidKinds := [.data, .pinned], laidTests := true, laidLooks := .later }
def LimitsStreamCardSaid : Prop := Claim7.holds Tryz.pinned (.plain (OpenSpec.ofChange limitsStreamSpec)) limitsStreamCard

/-- THE SECOND FORM's CARD OF 'polyglotlaw11.SubscribeNames'. -/
def subscribeNamesUptoCard : Claim7 := { stood := { row := subscribeNamesUptoRow, standIns := [], harness := (true, "8b00614933db8ed070c9506b9d66e6ef78c9b9c976bec471c0bdd851bb2fa7e6"), looks := false }, kinds := [], alts := [], laidByText := true, laidKinds := [.data, .pinned], laidTests := true, laidLooks := .later }
def SubscribeNamesUptoCardSaid : Prop := Claim7.holds Tryz.pinned (.plain (OpenSpec.upto subscribeNamesSpec)) subscribeNamesUptoCard

/-- THE SECOND FORM's CARD OF 'polyglotlaw13.MqttCalls'. -/
def mqttCallsUptoCard : Claim7 := { stood := { row := mqttCallsUptoRow, standIns := [], harness := (true, "8b00614933db8ed070c9506b9d66e6ef78c9b9c976bec471c0bdd851bb2fa7e6"), looks := false }, kinds := [], alts := [], laidByText := true, laidKinds := [.data, .pinned], laidTests := true, laidLooks := .later }
def MqttCallsUptoCardSaid : Prop := Claim7.holds Tryz.pinned (.plain (OpenSpec.upto mqttCallsSpec)) mqttCallsUptoCard

/-- THE SECOND FORM's CARD OF 'polyglotlaw14.MstreamScript'. -/
def mstreamScriptUptoCard : Claim7 := { stood := { row := mstreamScriptUptoRow, standIns := [], harness := (true, "8b00614933db8ed070c9506b9d66e6ef78c9b9c976bec471c0bdd851bb2fa7e6"), looks := false }, kinds := [], alts := [], laidByText := true, laidKinds := [.data, .pinned], laidTests := true, laidLooks := .later }
def MstreamScriptUptoCardSaid : Prop := Claim7.holds Tryz.pinned (.plain (OpenSpec.upto mstreamScriptSpec)) mstreamScriptUptoCard

/-- THE SECOND FORM's CARD OF 'polyglotlaw15.LimitsNames'. -/
def limitsNamesUptoCard : Claim7 := { stood := { row := limitsNamesUptoRow, standIns := [], harness := (true, "8b00614933db8ed070c9506b9d66e6ef78c9b9c976bec471c0bdd851bb2fa7e6"), looks := false }, kinds := [], alts := [], laidByText := true, laidKinds := [.data, .pinned], laidTests := true, laidLooks := .later }
def LimitsNamesUptoCardSaid : Prop := Claim7.holds Tryz.pinned (.plain (OpenSpec.upto limitsNamesSpec)) limitsNamesUptoCard

/-- THE SECOND FORM's CARD OF 'polyglotlaw15.LimitsCalls'. -/
def limitsCallsUptoCard : Claim7 := { stood := { row := limitsCallsUptoRow, standIns := [], harness := (true, "8b00614933db8ed070c9506b9d66e6ef78c9b9c976bec471c0bdd851bb2fa7e6"), looks := false }, kinds := [], alts := [], laidByText := true, laidKinds := [.data, .pinned], laidTests := true, laidLooks := .later }
def LimitsCallsUptoCardSaid : Prop := Claim7.holds Tryz.pinned (.plain (OpenSpec.upto limitsCallsSpec)) limitsCallsUptoCard

/-- THE SECOND FORM's CARD OF 'polyglotlaw15.LimitsFits'. -/
def limitsFitsUptoCard : Claim7 := { stood := { row := limitsFitsUptoRow, standIns := [], harness := (true, "8b00614933db8ed070c9506b9d66e6ef78c9b9c976bec471c0bdd851bb2fa7e6"), looks := false }, kinds := [], alts := [], laidByText := true, laidKinds := [.data, .pinned], laidTests := true, laidLooks := .later }
def LimitsFitsUptoCardSaid : Prop := Claim7.holds Tryz.pinned (.plain (OpenSpec.upto limitsFitsSpec)) limitsFitsUptoCard

/-- THE SECOND FORM's CARD OF 'polyglotlaw15.LimitsStream'. -/
def limitsStreamUptoCard : Claim7 := { stood := { row := limitsStreamUptoRow, standIns := [], harness := (true, "8b00614933db8ed070c9506b9d66e6ef78c9b9c976bec471c0bdd851bb2fa7e6"), looks := false }, kinds := [], alts := [], laidByText := true, laidKinds := [.data, .pinned], laidTests := true, laidLooks := .later }
def LimitsStreamUptoCardSaid : Prop := Claim7.holds Tryz.pinned (.plain (OpenSpec.upto limitsStreamSpec)) limitsStreamUptoCard
end Rows
end Go.Proofs.YtbdgkkmbnahgiaaGreatDoor
