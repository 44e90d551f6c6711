/-
  NARROWER THAN 'FOR EVERY INPUT', by the rows' own cells (each row's printed sentence says how): SubscribeNames: laid · MqttCalls: laid · MstreamScript: laid · LimitsNames: laid · LimitsCalls: laid · LimitsFits: laid · LimitsStream: laid.
  DERIVED. THE GIVEN ROWS OF THIS SEAT. 7 by the template 'for every input the law returns true; each argument reads behind the call as it read before'; 0 by the template 'total and deterministic' (their statements: YtbdgkkmbnahgiaaGreatDoorTotals.lean).
  GIVEN WITH THE SEED: the statements are not yours to turn. If you find one false, say at which input.
  Laid BY PROGRAM, IN A SANDBOX (cutbox-rows.mjs): the forced cells as the released guide's own fill.sh prints them over the translation 1e3df332a656f15a… (all of the seat's roots in one cut). By AI agents, Wed Nov 11 2026. No macro, syntax, notation, axiom, sorry.
-/
import Derived.Test.YtbdgkkmbnahgiaaGreatDoorChecked
import GoSem.PinnedTables
import GoSem.Claim
import GoSem.ClaimJoined
import GoSem.ClaimMapViews
import Derived.JoinedTies
import Derived.KernelRfl
namespace Go.Proofs.YtbdgkkmbnahgiaaGreatDoor
/- THE CELL 'sum', in the pinned program and in every row, IS THE sha256 OF THE DUMP (.gsa) THAT YtbdgkkmbnahgiaaGreatDoorProg.lean LOADS. Nothing in Lean hashes anything: it is a label: what it is worth is what the hold of that sum in a sandbox is worth. -/
noncomputable def Tryz.pinned : Pinned := { name := "ytbdgkkmbnahgiaagreatdoor", sum := "1e3df332a656f15abe7a31a1ea8309b0e5fe7ec30ff257dcda8cb2408783c0f3", checked := Tryz.checked }
namespace Rows
def none {H : Type} : Left H := { results := [], args := [] }

/- WHAT THE LISTED PACKAGE-LEVEL VARIABLES READ AS WHEN THE CALL BEGINS. Each datum BY PROGRAM (the guide's laid-datum.mjs) off the statement by which the dump's own 'gosem.cut.vars' lays the variable. In a bare row this is a premise. The card (YtbdgkkmbnahgiaaGreatDoorCards.lean) ties it to the program's text. -/
def laid_unicode_utf8_acceptRanges {H : Type} : DataW H := .agg [.agg [.lit (.int .u8 128), .lit (.int .u8 191)], .agg [.lit (.int .u8 160), .lit (.int .u8 191)], .agg [.lit (.int .u8 128), .lit (.int .u8 159)], .agg [.lit (.int .u8 144), .lit (.int .u8 191)], .agg [.lit (.int .u8 128), .lit (.int .u8 143)], .agg [.lit (.int .u8 0), .lit (.int .u8 0)], .agg [.lit (.int .u8 0), .lit (.int .u8 0)], .agg [.lit (.int .u8 0), .lit (.int .u8 0)], .agg [.lit (.int .u8 0), .lit (.int .u8 0)], .agg [.lit (.int .u8 0), .lit (.int .u8 0)], .agg [.lit (.int .u8 0), .lit (.int .u8 0)], .agg [.lit (.int .u8 0), .lit (.int .u8 0)], .agg [.lit (.int .u8 0), .lit (.int .u8 0)], .agg [.lit (.int .u8 0), .lit (.int .u8 0)], .agg [.lit (.int .u8 0), .lit (.int .u8 0)], .agg [.lit (.int .u8 0), .lit (.int .u8 0)]]
/-- One of Go's own tables, pinned by name: the form's constant. -/
def laid_unicode_utf8_first : DataW Unit := Go.Pinned.utf8First

/-- 'polyglotlaw11.SubscribeNames': WHATEVER THE INPUT: true; the input reads as it did. -/
def subscribeNamesSpec : ChangeSpec := { name := "subscribeNames", fn := fun _ => fun
  | [] => { results := [.lit (.bool true)], args := [] }
  | _ => none }
def subscribeNamesRow : OpenClaim := { program := "ytbdgkkmbnahgiaagreatdoor", sum := "1e3df332a656f15abe7a31a1ea8309b0e5fe7ec30ff257dcda8cb2408783c0f3", func := "polyglot/polyglotlaw11.SubscribeNames", spec := "subscribeNames", inPlace := ["internal/bytealg.IndexByteString", "internal/bytealg.IndexString", "internal/bytealg.CountString"], unfollowed := true, recurses := true, named := ["unicode/utf8.first", "unicode/utf8.acceptRanges", "internal/bytealg.MaxLen"], apart := false, laid := [("unicode/utf8.acceptRanges", laid_unicode_utf8_acceptRanges), ("unicode/utf8.first", laid_unicode_utf8_first)] }
def SubscribeNamesSaid : Prop := subscribeNamesRow.holds Tryz.pinned (OpenSpec.ofChange subscribeNamesSpec)

/-- ITS FALSE NEIGHBOUR: 'it returns false'. Refute it at one input. -/
def subscribeNamesWrong : ChangeSpec := { name := "subscribeNames", fn := fun _ => fun
  | [] => { results := [.lit (.bool false)], args := [] }
  | _ => none }
def SubscribeNamesWrongFalsely : Prop := subscribeNamesRow.holds Tryz.pinned (OpenSpec.ofChange subscribeNamesWrong)

/-- 'polyglotlaw13.MqttCalls': WHATEVER THE INPUT: true; the input reads as it did. -/
def mqttCallsSpec : ChangeSpec := { name := "mqttCalls", fn := fun _ => fun
  | [d1, d2, d3] => { results := [.lit (.bool true)], args := [d1, d2, d3] }
  | _ => none }
def mqttCallsRow : OpenClaim := { program := "ytbdgkkmbnahgiaagreatdoor", sum := "1e3df332a656f15abe7a31a1ea8309b0e5fe7ec30ff257dcda8cb2408783c0f3", func := "polyglot/polyglotlaw13.MqttCalls", spec := "mqttCalls", inPlace := ["internal/bytealg.IndexByteString", "internal/bytealg.IndexString", "internal/abi.NoEscape", "internal/bytealg.MakeNoZero", "internal/bytealg.CountString"], unfollowed := true, recurses := true, named := ["unicode/utf8.first", "unicode/utf8.acceptRanges", "internal/bytealg.MaxLen"], apart := false, laid := [("unicode/utf8.acceptRanges", laid_unicode_utf8_acceptRanges), ("unicode/utf8.first", laid_unicode_utf8_first)] }
def MqttCallsSaid : Prop := mqttCallsRow.holds Tryz.pinned (OpenSpec.ofChange mqttCallsSpec)

/-- ITS FALSE NEIGHBOUR: 'it returns false'. Refute it at one input. -/
def mqttCallsWrong : ChangeSpec := { name := "mqttCalls", fn := fun _ => fun
  | [d1, d2, d3] => { results := [.lit (.bool false)], args := [d1, d2, d3] }
  | _ => none }
def MqttCallsWrongFalsely : Prop := mqttCallsRow.holds Tryz.pinned (OpenSpec.ofChange mqttCallsWrong)

/-- 'polyglotlaw14.MstreamScript': WHATEVER THE INPUT: true; the input reads as it did. -/
def mstreamScriptSpec : ChangeSpec := { name := "mstreamScript", fn := fun _ => fun
  | [d1, d2, d3] => { results := [.lit (.bool true)], args := [d1, d2, d3] }
  | _ => none }
def mstreamScriptRow : OpenClaim := { program := "ytbdgkkmbnahgiaagreatdoor", sum := "1e3df332a656f15abe7a31a1ea8309b0e5fe7ec30ff257dcda8cb2408783c0f3", func := "polyglot/polyglotlaw14.MstreamScript", spec := "mstreamScript", inPlace := ["internal/bytealg.IndexByteString", "internal/bytealg.IndexString", "internal/abi.NoEscape", "internal/bytealg.MakeNoZero", "internal/bytealg.CountString"], unfollowed := true, recurses := true, named := ["unicode/utf8.first", "unicode/utf8.acceptRanges", "internal/bytealg.MaxLen"], apart := false, laid := [("unicode/utf8.acceptRanges", laid_unicode_utf8_acceptRanges), ("unicode/utf8.first", laid_unicode_utf8_first)] }
def MstreamScriptSaid : Prop := mstreamScriptRow.holds Tryz.pinned (OpenSpec.ofChange mstreamScriptSpec)

/-- ITS FALSE NEIGHBOUR: 'it returns false'. Refute it at one input. -/
def mstreamScriptWrong : ChangeSpec := { name := "mstreamScript", fn := fun _ => fun
  | [d1, d2, d3] => { results := [.lit (.bool false)], args := [d1, d2, d3] }
  | _ => none }
def MstreamScriptWrongFalsely : Prop := mstreamScriptRow.holds Tryz.pinned (OpenSpec.ofChange mstreamScriptWrong)

/-- 'polyglotlaw15.LimitsNames': WHATEVER THE INPUT: true; the input reads as it did. -/
def limitsNamesSpec : ChangeSpec := { name := "limitsNames", fn := fun _ => fun
  | [] => { results := [.lit (.bool true)], args := [] }
  | _ => none }
def limitsNamesRow : OpenClaim := { program := "ytbdgkkmbnahgiaagreatdoor", sum := "1e3df332a656f15abe7a31a1ea8309b0e5fe7ec30ff257dcda8cb2408783c0f3", func := "polyglot/polyglotlaw15.LimitsNames", spec := "limitsNames", inPlace := ["internal/bytealg.IndexByteString", "internal/bytealg.IndexString", "internal/abi.NoEscape", "internal/bytealg.MakeNoZero", "internal/bytealg.CountString"], unfollowed := true, recurses := true, named := ["unicode/utf8.first", "unicode/utf8.acceptRanges", "internal/bytealg.MaxLen"], apart := false, laid := [("unicode/utf8.acceptRanges", laid_unicode_utf8_acceptRanges), ("unicode/utf8.first", laid_unicode_utf8_first)] }
def LimitsNamesSaid : Prop := limitsNamesRow.holds Tryz.pinned (OpenSpec.ofChange limitsNamesSpec)

/-- ITS FALSE NEIGHBOUR: 'it returns false'. Refute it at one input. -/
def limitsNamesWrong : ChangeSpec := { name := "limitsNames", fn := fun _ => fun
  | [] => { results := [.lit (.bool false)], args := [] }
  | _ => none }
def LimitsNamesWrongFalsely : Prop := limitsNamesRow.holds Tryz.pinned (OpenSpec.ofChange limitsNamesWrong)

/-- 'polyglotlaw15.LimitsCalls': WHATEVER THE INPUT: true; the input reads as it did. -/
def limitsCallsSpec : ChangeSpec := { name := "limitsCalls", fn := fun _ => fun
  | [d1, d2, d3, d4, d5] => { results := [.lit (.bool true)], args := [d1, d2, d3, d4, d5] }
  | _ => none }
def limitsCallsRow : OpenClaim := { program := "ytbdgkkmbnahgiaagreatdoor", sum := "1e3df332a656f15abe7a31a1ea8309b0e5fe7ec30ff257dcda8cb2408783c0f3", func := "polyglot/polyglotlaw15.LimitsCalls", spec := "limitsCalls", inPlace := ["internal/bytealg.IndexByteString", "internal/bytealg.IndexString", "internal/abi.NoEscape", "internal/bytealg.MakeNoZero", "internal/bytealg.CountString"], unfollowed := true, recurses := true, named := ["unicode/utf8.first", "unicode/utf8.acceptRanges", "internal/bytealg.MaxLen"], apart := false, laid := [("unicode/utf8.acceptRanges", laid_unicode_utf8_acceptRanges), ("unicode/utf8.first", laid_unicode_utf8_first)] }
def LimitsCallsSaid : Prop := limitsCallsRow.holds Tryz.pinned (OpenSpec.ofChange limitsCallsSpec)

/-- ITS FALSE NEIGHBOUR: 'it returns false'. Refute it at one input. -/
def limitsCallsWrong : ChangeSpec := { name := "limitsCalls", fn := fun _ => fun
  | [d1, d2, d3, d4, d5] => { results := [.lit (.bool false)], args := [d1, d2, d3, d4, d5] }
  | _ => none }
def LimitsCallsWrongFalsely : Prop := limitsCallsRow.holds Tryz.pinned (OpenSpec.ofChange limitsCallsWrong)

/-- 'polyglotlaw15.LimitsFits': WHATEVER THE INPUT: true; the input reads as it did. -/
def limitsFitsSpec : ChangeSpec := { name := "limitsFits", fn := fun _ => fun
  | [d1, d2] => { results := [.lit (.bool true)], args := [d1, d2] }
  | _ => none }
def limitsFitsRow : OpenClaim := { program := "ytbdgkkmbnahgiaagreatdoor", sum := "1e3df332a656f15abe7a31a1ea8309b0e5fe7ec30ff257dcda8cb2408783c0f3", func := "polyglot/polyglotlaw15.LimitsFits", spec := "limitsFits", inPlace := ["internal/bytealg.IndexByteString", "internal/bytealg.IndexString", "internal/abi.NoEscape", "internal/bytealg.MakeNoZero", "internal/bytealg.CountString"], unfollowed := true, recurses := true, named := ["unicode/utf8.first", "unicode/utf8.acceptRanges", "internal/bytealg.MaxLen"], apart := false, laid := [("unicode/utf8.acceptRanges", laid_unicode_utf8_acceptRanges), ("unicode/utf8.first", laid_unicode_utf8_first)] }
def LimitsFitsSaid : Prop := limitsFitsRow.holds Tryz.pinned (OpenSpec.ofChange limitsFitsSpec)

/-- ITS FALSE NEIGHBOUR: 'it returns false'. Refute it at one input. -/
def limitsFitsWrong : ChangeSpec := { name := "limitsFits", fn := fun _ => fun
  | [d1, d2] => { results := [.lit (.bool false)], args := [d1, d2] }
  | _ => none }
def LimitsFitsWrongFalsely : Prop := limitsFitsRow.holds Tryz.pinned (OpenSpec.ofChange limitsFitsWrong)

/-- 'polyglotlaw15.LimitsStream': WHATEVER THE INPUT: true; the input reads as it did. -/
def limitsStreamSpec : ChangeSpec := { name := "limitsStream", fn := fun _ => fun
  | [d1, d2, d3, d4] => { results := [.lit (.bool true)], args := [d1, d2, d3, d4] }
  | _ => none }
def limitsStreamRow : OpenClaim := { program := "ytbdgkkmbnahgiaagreatdoor", sum := "1e3df332a656f15abe7a31a1ea8309b0e5fe7ec30ff257dcda8cb2408783c0f3", func := "polyglot/polyglotlaw15.LimitsStream", spec := "limitsStream", inPlace := ["internal/bytealg.IndexByteString", "internal/bytealg.IndexString", "internal/abi.NoEscape", "internal/bytealg.MakeNoZero", "internal/bytealg.CountString"], unfollowed := true, recurses := true, named := ["unicode/utf8.first", "unicode/utf8.acceptRanges", "internal/bytealg.MaxLen"], apart := false, laid := [("unicode/utf8.acceptRanges", laid_unicode_utf8_acceptRanges), ("unicode/utf8.first", laid_unicode_utf8_first)] }
def LimitsStreamSaid : Prop := limitsStreamRow.holds Tryz.pinned (OpenSpec.ofChange limitsStreamSpec)

/-- ITS FALSE NEIGHBOUR: 'it returns false'. Refute it at one input. -/
def limitsStreamWrong : ChangeSpec := { name := "limitsStream", fn := fun _ => fun
  | [d1, d2, d3, d4] => { results := [.lit (.bool false)], args := [d1, d2, d3, d4] }
  | _ => none }
def LimitsStreamWrongFalsely : Prop := limitsStreamRow.holds Tryz.pinned (OpenSpec.ofChange limitsStreamWrong)

/- THE SECOND FORM. 'bulk': how many values and letters a reading holds, each counted each time it is reached (what is shared counts as often as it is met; a slice's spare places count too). A statement '..UptoSaid' is the law's where the arguments, and the package variables that the reading takes, are together of bulk at most 1048576: NARROWER than '..Said'. Prove '..Said' where nothing that the law and all that it calls make is longer than what came in: it says more and counts as full. Else prove '..UptoSaid'. A law counts once. -/
mutual
def uptoBulk {H : Type} : DataW H → Nat
  | .lit (.string bytes) => bytes.length + 1
  | .lit _ => 1
  | .nil => 1
  | .ptr d => uptoBulk d + 1
  | .slice elems spare => uptoBulkAll elems + uptoBulkAll spare + 1
  | .agg parts => uptoBulkAll parts + 1
  | .iface _ d => uptoBulk d + 1
  | .map entries => uptoBulkEntries entries + 1
  | .held _ => 1
def uptoBulkAll {H : Type} : List (DataW H) → Nat
  | [] => 0
  | d :: r => uptoBulk d + uptoBulkAll r
def uptoBulkEntries {H : Type} : List (Lit × DataW H) → Nat
  | [] => 0
  | x :: r => uptoBulkEntry x + uptoBulkEntries r
def uptoBulkEntry {H : Type} : Lit × DataW H → Nat
  | (.string bytes, d) => bytes.length + uptoBulk d + 1
  | (_, d) => uptoBulk d + 1
 end
def uptoSmall : (H : Type) → List (DataW H) → Bool := fun _ ds => decide (uptoBulkAll ds ≤ 1048576)
def OpenSpec.upto (s : _root_.Go.ChangeSpec) : _root_.Go.OpenSpec := { _root_.Go.OpenSpec.ofChange s with cond := some uptoSmall }

/-- 'polyglotlaw11.SubscribeNames', WHERE WHAT IT READS IS OF BULK AT MOST 1048576: true; the input reads as it did. -/
def subscribeNamesUptoRow : OpenClaim := { program := "ytbdgkkmbnahgiaagreatdoor", sum := "1e3df332a656f15abe7a31a1ea8309b0e5fe7ec30ff257dcda8cb2408783c0f3", func := "polyglot/polyglotlaw11.SubscribeNames", spec := "subscribeNames", inPlace := ["internal/bytealg.IndexByteString", "internal/bytealg.IndexString", "internal/bytealg.CountString"], unfollowed := true, recurses := true, named := ["unicode/utf8.first", "unicode/utf8.acceptRanges", "internal/bytealg.MaxLen"], apart := false, laid := [("unicode/utf8.acceptRanges", laid_unicode_utf8_acceptRanges), ("unicode/utf8.first", laid_unicode_utf8_first)], narrowed := true }
def SubscribeNamesUptoSaid : Prop := subscribeNamesUptoRow.holds Tryz.pinned (OpenSpec.upto subscribeNamesSpec)

/-- 'polyglotlaw13.MqttCalls', WHERE WHAT IT READS IS OF BULK AT MOST 1048576: true; the input reads as it did. -/
def mqttCallsUptoRow : OpenClaim := { program := "ytbdgkkmbnahgiaagreatdoor", sum := "1e3df332a656f15abe7a31a1ea8309b0e5fe7ec30ff257dcda8cb2408783c0f3", func := "polyglot/polyglotlaw13.MqttCalls", spec := "mqttCalls", inPlace := ["internal/bytealg.IndexByteString", "internal/bytealg.IndexString", "internal/abi.NoEscape", "internal/bytealg.MakeNoZero", "internal/bytealg.CountString"], unfollowed := true, recurses := true, named := ["unicode/utf8.first", "unicode/utf8.acceptRanges", "internal/bytealg.MaxLen"], apart := false, laid := [("unicode/utf8.acceptRanges", laid_unicode_utf8_acceptRanges), ("unicode/utf8.first", laid_unicode_utf8_first)], narrowed := true }
def MqttCallsUptoSaid : Prop := mqttCallsUptoRow.holds Tryz.pinned (OpenSpec.upto mqttCallsSpec)

/-- 'polyglotlaw14.MstreamScript', WHERE WHAT IT READS IS OF BULK AT MOST 1048576: true; the input reads as it did. -/
def mstreamScriptUptoRow : OpenClaim := { program := "ytbdgkkmbnahgiaagreatdoor", sum := "1e3df332a656f15abe7a31a1ea8309b0e5fe7ec30ff257dcda8cb2408783c0f3", func := "polyglot/polyglotlaw14.MstreamScript", spec := "mstreamScript", inPlace := ["internal/bytealg.IndexByteString", "internal/bytealg.IndexString", "internal/abi.NoEscape", "internal/bytealg.MakeNoZero", "internal/bytealg.CountString"], unfollowed := true, recurses := true, named := ["unicode/utf8.first", "unicode/utf8.acceptRanges", "internal/bytealg.MaxLen"], apart := false, laid := [("unicode/utf8.acceptRanges", laid_unicode_utf8_acceptRanges), ("unicode/utf8.first", laid_unicode_utf8_first)], narrowed := true }
def MstreamScriptUptoSaid : Prop := mstreamScriptUptoRow.holds Tryz.pinned (OpenSpec.upto mstreamScriptSpec)

/-- 'polyglotlaw15.LimitsNames', WHERE WHAT IT READS IS OF BULK AT MOST 1048576: true; the input reads as it did. -/
def limitsNamesUptoRow : OpenClaim := { program := "ytbdgkkmbnahgiaagreatdoor", sum := "1e3df332a656f15abe7a31a1ea8309b0e5fe7ec30ff257dcda8cb2408783c0f3", func := "polyglot/polyglotlaw15.LimitsNames", spec := "limitsNames", inPlace := ["internal/bytealg.IndexByteString", "internal/bytealg.IndexString", "internal/abi.NoEscape", "internal/bytealg.MakeNoZero", "internal/bytealg.CountString"], unfollowed := true, recurses := true, named := ["unicode/utf8.first", "unicode/utf8.acceptRanges", "internal/bytealg.MaxLen"], apart := false, laid := [("unicode/utf8.acceptRanges", laid_unicode_utf8_acceptRanges), ("unicode/utf8.first", laid_unicode_utf8_first)], narrowed := true }
def LimitsNamesUptoSaid : Prop := limitsNamesUptoRow.holds Tryz.pinned (OpenSpec.upto limitsNamesSpec)

/-- 'polyglotlaw15.LimitsCalls', WHERE WHAT IT READS IS OF BULK AT MOST 1048576: true; the input reads as it did. -/
def limitsCallsUptoRow : OpenClaim := { program := "ytbdgkkmbnahgiaagreatdoor", sum := "1e3df332a656f15abe7a31a1ea8309b0e5fe7ec30ff257dcda8cb2408783c0f3", func := "polyglot/polyglotlaw15.LimitsCalls", spec := "limitsCalls", inPlace := ["internal/bytealg.IndexByteString", "internal/bytealg.IndexString", "internal/abi.NoEscape", "internal/bytealg.MakeNoZero", "internal/bytealg.CountString"], unfollowed := true, recurses := true, named := ["unicode/utf8.first", "unicode/utf8.acceptRanges", "internal/bytealg.MaxLen"], apart := false, laid := [("unicode/utf8.acceptRanges", laid_unicode_utf8_acceptRanges), ("unicode/utf8.first", laid_unicode_utf8_first)], narrowed := true }
def LimitsCallsUptoSaid : Prop := limitsCallsUptoRow.holds Tryz.pinned (OpenSpec.upto limitsCallsSpec)

/-- 'polyglotlaw15.LimitsFits', WHERE WHAT IT READS IS OF BULK AT MOST 1048576: true; the input reads as it did. -/
def limitsFitsUptoRow : OpenClaim := { program := "ytbdgkkmbnahgiaagreatdoor", sum := "1e3df332a656f15abe7a31a1ea8309b0e5fe7ec30ff257dcda8cb2408783c0f3", func := "polyglot/polyglotlaw15.LimitsFits", spec := "limitsFits", inPlace := ["internal/bytealg.IndexByteString", "internal/bytealg.IndexString", "internal/abi.NoEscape", "internal/bytealg.MakeNoZero", "internal/bytealg.CountString"], unfollowed := true, recurses := true, named := ["unicode/utf8.first", "unicode/utf8.acceptRanges", "internal/bytealg.MaxLen"], apart := false, laid := [("unicode/utf8.acceptRanges", laid_unicode_utf8_acceptRanges), ("unicode/utf8.first", laid_unicode_utf8_first)], narrowed := true }
def LimitsFitsUptoSaid : Prop := limitsFitsUptoRow.holds Tryz.pinned (OpenSpec.upto limitsFitsSpec)

/-- 'polyglotlaw15.LimitsStream', WHERE WHAT IT READS IS OF BULK AT MOST 1048576: true; the input reads as it did. -/
def limitsStreamUptoRow : OpenClaim := { program := "ytbdgkkmbnahgiaagreatdoor", sum := "1e3df332a656f15abe7a31a1ea8309b0e5fe7ec30ff257dcda8cb2408783c0f3", func := "polyglot/polyglotlaw15.LimitsStream", spec := "limitsStream", inPlace := ["internal/bytealg.IndexByteString", "internal/bytealg.IndexString", "internal/abi.NoEscape", "internal/bytealg.MakeNoZero", "internal/bytealg.CountString"], unfollowed := true, recurses := true, named := ["unicode/utf8.first", "unicode/utf8.acceptRanges", "internal/bytealg.MaxLen"], apart := false, laid := [("unicode/utf8.acceptRanges", laid_unicode_utf8_acceptRanges), ("unicode/utf8.first", laid_unicode_utf8_first)], narrowed := true }
def LimitsStreamUptoSaid : Prop := limitsStreamUptoRow.holds Tryz.pinned (OpenSpec.upto limitsStreamSpec)

end Rows
end Go.Proofs.YtbdgkkmbnahgiaaGreatDoor
