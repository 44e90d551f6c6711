/-
  NARROWER THAN 'FOR EVERY INPUT', by the rows' own cells (each row's printed sentence says how): SubscribeNames: laid · SubscribeCalls: laid · MqttFronts: laid · MqttVersions: laid · MqttBack: laid · MqttAll: laid · MqttNames: laid · MqttCalls: laid.
  DERIVED. THE GIVEN ROWS OF THIS SEAT. 8 by the template 'for every input the law returns true; each argument reads behind the call as it read before'; 0 by the template 'total and deterministic' (their statements: YtmkkjiogokfnmaaGreatDoorTotals.lean).
  GIVEN WITH THE SEED: the statements are not yours to turn. If you find one false, say at which input.
  Laid BY PROGRAM, IN A SANDBOX (cutbox-rows.mjs): the forced cells as the released guide's own fill.sh prints them over the translation a16de4e9a1f934bc… (all of the seat's roots in one cut). By AI agents, Wed Nov 11 2026. No macro, syntax, notation, axiom, sorry.
-/
import Derived.Test.YtmkkjiogokfnmaaGreatDoorChecked
import GoSem.PinnedTables
import GoSem.Claim
import GoSem.ClaimJoined
import GoSem.ClaimMapViews
import Derived.JoinedTies
import Derived.KernelRfl
namespace Go.Proofs.YtmkkjiogokfnmaaGreatDoor
/- THE CELL 'sum', in the pinned program and in every row, IS THE sha256 OF THE DUMP (.gsa) THAT YtmkkjiogokfnmaaGreatDoorProg.lean LOADS. Nothing in Lean hashes anything: it is a label: what it is worth is what the hold of that sum in a sandbox is worth. -/
noncomputable def Tryz.pinned : Pinned := { name := "ytmkkjiogokfnmaagreatdoor", sum := "a16de4e9a1f934bcdd224d28177e8288f9f311391443e4cd2b0003414861440b", checked := Tryz.checked }
namespace Rows
def none {H : Type} : Left H := { results := [], args := [] }

/- WHAT THE LISTED PACKAGE-LEVEL VARIABLES READ AS WHEN THE CALL BEGINS. Each datum BY PROGRAM (the guide's laid-datum.mjs) off the statement by which the dump's own 'gosem.cut.vars' lays the variable. In a bare row this is a premise. The card (YtmkkjiogokfnmaaGreatDoorCards.lean) ties it to the program's text. -/
def laid_unicode_utf8_acceptRanges {H : Type} : DataW H := .agg [.agg [.lit (.int .u8 128), .lit (.int .u8 191)], .agg [.lit (.int .u8 160), .lit (.int .u8 191)], .agg [.lit (.int .u8 128), .lit (.int .u8 159)], .agg [.lit (.int .u8 144), .lit (.int .u8 191)], .agg [.lit (.int .u8 128), .lit (.int .u8 143)], .agg [.lit (.int .u8 0), .lit (.int .u8 0)], .agg [.lit (.int .u8 0), .lit (.int .u8 0)], .agg [.lit (.int .u8 0), .lit (.int .u8 0)], .agg [.lit (.int .u8 0), .lit (.int .u8 0)], .agg [.lit (.int .u8 0), .lit (.int .u8 0)], .agg [.lit (.int .u8 0), .lit (.int .u8 0)], .agg [.lit (.int .u8 0), .lit (.int .u8 0)], .agg [.lit (.int .u8 0), .lit (.int .u8 0)], .agg [.lit (.int .u8 0), .lit (.int .u8 0)], .agg [.lit (.int .u8 0), .lit (.int .u8 0)], .agg [.lit (.int .u8 0), .lit (.int .u8 0)]]
/-- One of Go's own tables, pinned by name: the form's constant. -/
def laid_unicode_utf8_first : DataW Unit := Go.Pinned.utf8First

/-- 'polyglotlaw11.SubscribeNames': WHATEVER THE INPUT: true; the input reads as it did. -/
def subscribeNamesSpec : ChangeSpec := { name := "subscribeNames", fn := fun _ => fun
  | [] => { results := [.lit (.bool true)], args := [] }
  | _ => none }
def subscribeNamesRow : OpenClaim := { program := "ytmkkjiogokfnmaagreatdoor", sum := "a16de4e9a1f934bcdd224d28177e8288f9f311391443e4cd2b0003414861440b", func := "polyglot/polyglotlaw11.SubscribeNames", spec := "subscribeNames", inPlace := ["internal/bytealg.IndexByteString", "internal/bytealg.IndexString", "internal/bytealg.CountString"], unfollowed := true, recurses := true, named := ["unicode/utf8.first", "unicode/utf8.acceptRanges", "internal/bytealg.MaxLen"], apart := false, laid := [("unicode/utf8.acceptRanges", laid_unicode_utf8_acceptRanges), ("unicode/utf8.first", laid_unicode_utf8_first)] }
def SubscribeNamesSaid : Prop := subscribeNamesRow.holds Tryz.pinned (OpenSpec.ofChange subscribeNamesSpec)

/-- ITS FALSE NEIGHBOUR: 'it returns false'. Refute it at one input. -/
def subscribeNamesWrong : ChangeSpec := { name := "subscribeNames", fn := fun _ => fun
  | [] => { results := [.lit (.bool false)], args := [] }
  | _ => none }
def SubscribeNamesWrongFalsely : Prop := subscribeNamesRow.holds Tryz.pinned (OpenSpec.ofChange subscribeNamesWrong)

/-- 'polyglotlaw11.SubscribeCalls': WHATEVER THE INPUT: true; the input reads as it did. -/
def subscribeCallsSpec : ChangeSpec := { name := "subscribeCalls", fn := fun _ => fun
  | [d1, d2, d3, d4, d5] => { results := [.lit (.bool true)], args := [d1, d2, d3, d4, d5] }
  | _ => none }
def subscribeCallsRow : OpenClaim := { program := "ytmkkjiogokfnmaagreatdoor", sum := "a16de4e9a1f934bcdd224d28177e8288f9f311391443e4cd2b0003414861440b", func := "polyglot/polyglotlaw11.SubscribeCalls", spec := "subscribeCalls", inPlace := ["internal/bytealg.IndexByteString", "internal/bytealg.IndexString", "internal/bytealg.CountString"], unfollowed := true, recurses := true, named := ["unicode/utf8.first", "unicode/utf8.acceptRanges", "internal/bytealg.MaxLen"], apart := false, laid := [("unicode/utf8.acceptRanges", laid_unicode_utf8_acceptRanges), ("unicode/utf8.first", laid_unicode_utf8_first)] }
def SubscribeCallsSaid : Prop := subscribeCallsRow.holds Tryz.pinned (OpenSpec.ofChange subscribeCallsSpec)

/-- ITS FALSE NEIGHBOUR: 'it returns false'. Refute it at one input. -/
def subscribeCallsWrong : ChangeSpec := { name := "subscribeCalls", fn := fun _ => fun
  | [d1, d2, d3, d4, d5] => { results := [.lit (.bool false)], args := [d1, d2, d3, d4, d5] }
  | _ => none }
def SubscribeCallsWrongFalsely : Prop := subscribeCallsRow.holds Tryz.pinned (OpenSpec.ofChange subscribeCallsWrong)

/-- 'polyglotlaw13.MqttFronts': WHATEVER THE INPUT: true; the input reads as it did. -/
def mqttFrontsSpec : ChangeSpec := { name := "mqttFronts", fn := fun _ => fun
  | [d1, d2, d3, d4] => { results := [.lit (.bool true)], args := [d1, d2, d3, d4] }
  | _ => none }
def mqttFrontsRow : OpenClaim := { program := "ytmkkjiogokfnmaagreatdoor", sum := "a16de4e9a1f934bcdd224d28177e8288f9f311391443e4cd2b0003414861440b", func := "polyglot/polyglotlaw13.MqttFronts", spec := "mqttFronts", inPlace := ["internal/bytealg.IndexByteString", "internal/bytealg.IndexString", "internal/abi.NoEscape", "internal/bytealg.MakeNoZero", "internal/bytealg.CountString"], unfollowed := true, recurses := true, named := ["unicode/utf8.first", "unicode/utf8.acceptRanges", "internal/bytealg.MaxLen"], apart := false, laid := [("unicode/utf8.acceptRanges", laid_unicode_utf8_acceptRanges), ("unicode/utf8.first", laid_unicode_utf8_first)] }
def MqttFrontsSaid : Prop := mqttFrontsRow.holds Tryz.pinned (OpenSpec.ofChange mqttFrontsSpec)

/-- ITS FALSE NEIGHBOUR: 'it returns false'. Refute it at one input. -/
def mqttFrontsWrong : ChangeSpec := { name := "mqttFronts", fn := fun _ => fun
  | [d1, d2, d3, d4] => { results := [.lit (.bool false)], args := [d1, d2, d3, d4] }
  | _ => none }
def MqttFrontsWrongFalsely : Prop := mqttFrontsRow.holds Tryz.pinned (OpenSpec.ofChange mqttFrontsWrong)

/-- 'polyglotlaw13.MqttVersions': WHATEVER THE INPUT: true; the input reads as it did. -/
def mqttVersionsSpec : ChangeSpec := { name := "mqttVersions", fn := fun _ => fun
  | [d] => { results := [.lit (.bool true)], args := [d] }
  | _ => none }
def mqttVersionsRow : OpenClaim := { program := "ytmkkjiogokfnmaagreatdoor", sum := "a16de4e9a1f934bcdd224d28177e8288f9f311391443e4cd2b0003414861440b", func := "polyglot/polyglotlaw13.MqttVersions", spec := "mqttVersions", inPlace := ["internal/bytealg.IndexByteString", "internal/bytealg.IndexString", "internal/abi.NoEscape", "internal/bytealg.MakeNoZero", "internal/bytealg.CountString"], unfollowed := true, recurses := true, named := ["unicode/utf8.first", "unicode/utf8.acceptRanges", "internal/bytealg.MaxLen"], apart := false, laid := [("unicode/utf8.acceptRanges", laid_unicode_utf8_acceptRanges), ("unicode/utf8.first", laid_unicode_utf8_first)] }
def MqttVersionsSaid : Prop := mqttVersionsRow.holds Tryz.pinned (OpenSpec.ofChange mqttVersionsSpec)

/-- ITS FALSE NEIGHBOUR: 'it returns false'. Refute it at one input. -/
def mqttVersionsWrong : ChangeSpec := { name := "mqttVersions", fn := fun _ => fun
  | [d] => { results := [.lit (.bool false)], args := [d] }
  | _ => none }
def MqttVersionsWrongFalsely : Prop := mqttVersionsRow.holds Tryz.pinned (OpenSpec.ofChange mqttVersionsWrong)

/-- 'polyglotlaw13.MqttBack': WHATEVER THE INPUT: true; the input reads as it did. -/
def mqttBackSpec : ChangeSpec := { name := "mqttBack", fn := fun _ => fun
  | [d1, d2, d3, d4] => { results := [.lit (.bool true)], args := [d1, d2, d3, d4] }
  | _ => none }
def mqttBackRow : OpenClaim := { program := "ytmkkjiogokfnmaagreatdoor", sum := "a16de4e9a1f934bcdd224d28177e8288f9f311391443e4cd2b0003414861440b", func := "polyglot/polyglotlaw13.MqttBack", spec := "mqttBack", inPlace := ["internal/bytealg.IndexByteString", "internal/bytealg.IndexString", "internal/abi.NoEscape", "internal/bytealg.MakeNoZero", "internal/bytealg.CountString"], unfollowed := true, recurses := true, named := ["unicode/utf8.first", "unicode/utf8.acceptRanges", "internal/bytealg.MaxLen"], apart := false, laid := [("unicode/utf8.acceptRanges", laid_unicode_utf8_acceptRanges), ("unicode/utf8.first", laid_unicode_utf8_first)] }
def MqttBackSaid : Prop := mqttBackRow.holds Tryz.pinned (OpenSpec.ofChange mqttBackSpec)

/-- ITS FALSE NEIGHBOUR: 'it returns false'. Refute it at one input. -/
def mqttBackWrong : ChangeSpec := { name := "mqttBack", fn := fun _ => fun
  | [d1, d2, d3, d4] => { results := [.lit (.bool false)], args := [d1, d2, d3, d4] }
  | _ => none }
def MqttBackWrongFalsely : Prop := mqttBackRow.holds Tryz.pinned (OpenSpec.ofChange mqttBackWrong)

/-- 'polyglotlaw13.MqttAll': WHATEVER THE INPUT: true; the input reads as it did. -/
def mqttAllSpec : ChangeSpec := { name := "mqttAll", fn := fun _ => fun
  | [d1, d2, d3] => { results := [.lit (.bool true)], args := [d1, d2, d3] }
  | _ => none }
def mqttAllRow : OpenClaim := { program := "ytmkkjiogokfnmaagreatdoor", sum := "a16de4e9a1f934bcdd224d28177e8288f9f311391443e4cd2b0003414861440b", func := "polyglot/polyglotlaw13.MqttAll", spec := "mqttAll", inPlace := ["internal/bytealg.IndexByteString", "internal/bytealg.IndexString", "internal/abi.NoEscape", "internal/bytealg.MakeNoZero", "internal/bytealg.CountString"], unfollowed := true, recurses := true, named := ["unicode/utf8.first", "unicode/utf8.acceptRanges", "internal/bytealg.MaxLen"], apart := false, laid := [("unicode/utf8.acceptRanges", laid_unicode_utf8_acceptRanges), ("unicode/utf8.first", laid_unicode_utf8_first)] }
def MqttAllSaid : Prop := mqttAllRow.holds Tryz.pinned (OpenSpec.ofChange mqttAllSpec)

/-- ITS FALSE NEIGHBOUR: 'it returns false'. Refute it at one input. -/
def mqttAllWrong : ChangeSpec := { name := "mqttAll", fn := fun _ => fun
  | [d1, d2, d3] => { results := [.lit (.bool false)], args := [d1, d2, d3] }
  | _ => none }
def MqttAllWrongFalsely : Prop := mqttAllRow.holds Tryz.pinned (OpenSpec.ofChange mqttAllWrong)

/-- 'polyglotlaw13.MqttNames': WHATEVER THE INPUT: true; the input reads as it did. -/
def mqttNamesSpec : ChangeSpec := { name := "mqttNames", fn := fun _ => fun
  | [] => { results := [.lit (.bool true)], args := [] }
  | _ => none }
def mqttNamesRow : OpenClaim := { program := "ytmkkjiogokfnmaagreatdoor", sum := "a16de4e9a1f934bcdd224d28177e8288f9f311391443e4cd2b0003414861440b", func := "polyglot/polyglotlaw13.MqttNames", spec := "mqttNames", inPlace := ["internal/bytealg.IndexByteString", "internal/bytealg.IndexString", "internal/abi.NoEscape", "internal/bytealg.MakeNoZero", "internal/bytealg.CountString"], unfollowed := true, recurses := true, named := ["unicode/utf8.first", "unicode/utf8.acceptRanges", "internal/bytealg.MaxLen"], apart := false, laid := [("unicode/utf8.acceptRanges", laid_unicode_utf8_acceptRanges), ("unicode/utf8.first", laid_unicode_utf8_first)] }
def MqttNamesSaid : Prop := mqttNamesRow.holds Tryz.pinned (OpenSpec.ofChange mqttNamesSpec)

/-- ITS FALSE NEIGHBOUR: 'it returns false'. Refute it at one input. -/
def mqttNamesWrong : ChangeSpec := { name := "mqttNames", fn := fun _ => fun
  | [] => { results := [.lit (.bool false)], args := [] }
  | _ => none }
def MqttNamesWrongFalsely : Prop := mqttNamesRow.holds Tryz.pinned (OpenSpec.ofChange mqttNamesWrong)

/-- 'polyglotlaw13.MqttCalls': WHATEVER THE INPUT: true; the input reads as it did. -/
def mqttCallsSpec : ChangeSpec := { name := "mqttCalls", fn := fun _ => fun
  | [d1, d2, d3] => { results := [.lit (.bool true)], args := [d1, d2, d3] }
  | _ => none }
def mqttCallsRow : OpenClaim := { program := "ytmkkjiogokfnmaagreatdoor", sum := "a16de4e9a1f934bcdd224d28177e8288f9f311391443e4cd2b0003414861440b", func := "polyglot/polyglotlaw13.MqttCalls", spec := "mqttCalls", inPlace := ["internal/bytealg.IndexByteString", "internal/bytealg.IndexString", "internal/abi.NoEscape", "internal/bytealg.MakeNoZero", "internal/bytealg.CountString"], unfollowed := true, recurses := true, named := ["unicode/utf8.first", "unicode/utf8.acceptRanges", "internal/bytealg.MaxLen"], apart := false, laid := [("unicode/utf8.acceptRanges", laid_unicode_utf8_acceptRanges), ("unicode/utf8.first", laid_unicode_utf8_first)] }
def MqttCallsSaid : Prop := mqttCallsRow.holds Tryz.pinned (OpenSpec.ofChange mqttCallsSpec)

/-- ITS FALSE NEIGHBOUR: 'it returns false'. Refute it at one input. -/
def mqttCallsWrong : ChangeSpec := { name := "mqttCalls", fn := fun _ => fun
  | [d1, d2, d3] => { results := [.lit (.bool false)], args := [d1, d2, d3] }
  | _ => none }
def MqttCallsWrongFalsely : Prop := mqttCallsRow.holds Tryz.pinned (OpenSpec.ofChange mqttCallsWrong)

/- THE SECOND FORM. 'bulk': how many values and letters a reading holds, each counted each time it is reached (what is shared counts as often as it is met; a slice's spare places count too). A statement '..UptoSaid' is the law's where the arguments, and the package variables that the reading takes, are together of bulk at most 1048576: NARROWER than '..Said'. Prove '..Said' where nothing that the law and all that it calls make is longer than what came in: it says more and counts as full. Else prove '..UptoSaid'. A law counts once. -/
mutual
def uptoBulk {H : Type} : DataW H → Nat
  | .lit (.string bytes) => bytes.length + 1
  | .lit _ => 1
  | .nil => 1
  | .ptr d => uptoBulk d + 1
  | .slice elems spare => uptoBulkAll elems + uptoBulkAll spare + 1
  | .agg parts => uptoBulkAll parts + 1
  | .iface _ d => uptoBulk d + 1
  | .map entries => uptoBulkEntries entries + 1
  | .held _ => 1
def uptoBulkAll {H : Type} : List (DataW H) → Nat
  | [] => 0
  | d :: r => uptoBulk d + uptoBulkAll r
def uptoBulkEntries {H : Type} : List (Lit × DataW H) → Nat
  | [] => 0
  | x :: r => uptoBulkEntry x + uptoBulkEntries r
def uptoBulkEntry {H : Type} : Lit × DataW H → Nat
  | (.string bytes, d) => bytes.length + uptoBulk d + 1
  | (_, d) => uptoBulk d + 1
 end
def uptoSmall : (H : Type) → List (DataW H) → Bool := fun _ ds => decide (uptoBulkAll ds ≤ 1048576)
def OpenSpec.upto (s : _root_.Go.ChangeSpec) : _root_.Go.OpenSpec := { _root_.Go.OpenSpec.ofChange s with cond := some uptoSmall }

/-- 'polyglotlaw11.SubscribeNames', WHERE WHAT IT READS IS OF BULK AT MOST 1048576: true; the input reads as it did. -/
def subscribeNamesUptoRow : OpenClaim := { program := "ytmkkjiogokfnmaagreatdoor", sum := "a16de4e9a1f934bcdd224d28177e8288f9f311391443e4cd2b0003414861440b", func := "polyglot/polyglotlaw11.SubscribeNames", spec := "subscribeNames", inPlace := ["internal/bytealg.IndexByteString", "internal/bytealg.IndexString", "internal/bytealg.CountString"], unfollowed := true, recurses := true, named := ["unicode/utf8.first", "unicode/utf8.acceptRanges", "internal/bytealg.MaxLen"], apart := false, laid := [("unicode/utf8.acceptRanges", laid_unicode_utf8_acceptRanges), ("unicode/utf8.first", laid_unicode_utf8_first)], narrowed := true }
def SubscribeNamesUptoSaid : Prop := subscribeNamesUptoRow.holds Tryz.pinned (OpenSpec.upto subscribeNamesSpec)

/-- 'polyglotlaw11.SubscribeCalls', WHERE WHAT IT READS IS OF BULK AT MOST 1048576: true; the input reads as it did. -/
def subscribeCallsUptoRow : OpenClaim := { program := "ytmkkjiogokfnmaagreatdoor", sum := "a16de4e9a1f934bcdd224d28177e8288f9f311391443e4cd2b0003414861440b", func := "polyglot/polyglotlaw11.SubscribeCalls", spec := "subscribeCalls", inPlace := ["internal/bytealg.IndexByteString", "internal/bytealg.IndexString", "internal/bytealg.CountString"], unfollowed := true, recurses := true, named := ["unicode/utf8.first", "unicode/utf8.acceptRanges", "internal/bytealg.MaxLen"], apart := false, laid := [("unicode/utf8.acceptRanges", laid_unicode_utf8_acceptRanges), ("unicode/utf8.first", laid_unicode_utf8_first)], narrowed := true }
def SubscribeCallsUptoSaid : Prop := subscribeCallsUptoRow.holds Tryz.pinned (OpenSpec.upto subscribeCallsSpec)

/-- 'polyglotlaw13.MqttFronts', WHERE WHAT IT READS IS OF BULK AT MOST 1048576: true; the input reads as it did. -/
def mqttFrontsUptoRow : OpenClaim := { program := "ytmkkjiogokfnmaagreatdoor", sum := "a16de4e9a1f934bcdd224d28177e8288f9f311391443e4cd2b0003414861440b", func := "polyglot/polyglotlaw13.MqttFronts", spec := "mqttFronts", inPlace := ["internal/bytealg.IndexByteString", "internal/bytealg.IndexString", "internal/abi.NoEscape", "internal/bytealg.MakeNoZero", "internal/bytealg.CountString"], unfollowed := true, recurses := true, named := ["unicode/utf8.first", "unicode/utf8.acceptRanges", "internal/bytealg.MaxLen"], apart := false, laid := [("unicode/utf8.acceptRanges", laid_unicode_utf8_acceptRanges), ("unicode/utf8.first", laid_unicode_utf8_first)], narrowed := true }
def MqttFrontsUptoSaid : Prop := mqttFrontsUptoRow.holds Tryz.pinned (OpenSpec.upto mqttFrontsSpec)

/-- 'polyglotlaw13.MqttVersions', WHERE WHAT IT READS IS OF BULK AT MOST 1048576: true; the input reads as it did. -/
def mqttVersionsUptoRow : OpenClaim := { program := "ytmkkjiogokfnmaagreatdoor", sum := "a16de4e9a1f934bcdd224d28177e8288f9f311391443e4cd2b0003414861440b", func := "polyglot/polyglotlaw13.MqttVersions", spec := "mqttVersions", inPlace := ["internal/bytealg.IndexByteString", "internal/bytealg.IndexString", "internal/abi.NoEscape", "internal/bytealg.MakeNoZero", "internal/bytealg.CountString"], unfollowed := true, recurses := true, named := ["unicode/utf8.first", "unicode/utf8.acceptRanges", "internal/bytealg.MaxLen"], apart := false, laid := [("unicode/utf8.acceptRanges", laid_unicode_utf8_acceptRanges), ("unicode/utf8.first", laid_unicode_utf8_first)], narrowed := true }
def MqttVersionsUptoSaid : Prop := mqttVersionsUptoRow.holds Tryz.pinned (OpenSpec.upto mqttVersionsSpec)

/-- 'polyglotlaw13.MqttBack', WHERE WHAT IT READS IS OF BULK AT MOST 1048576: true; the input reads as it did. -/
def mqttBackUptoRow : OpenClaim := { program := "ytmkkjiogokfnmaagreatdoor", sum := "a16de4e9a1f934bcdd224d28177e8288f9f311391443e4cd2b0003414861440b", func := "polyglot/polyglotlaw13.MqttBack", spec := "mqttBack", inPlace := ["internal/bytealg.IndexByteString", "internal/bytealg.IndexString", "internal/abi.NoEscape", "internal/bytealg.MakeNoZero", "internal/bytealg.CountString"], unfollowed := true, recurses := true, named := ["unicode/utf8.first", "unicode/utf8.acceptRanges", "internal/bytealg.MaxLen"], apart := false, laid := [("unicode/utf8.acceptRanges", laid_unicode_utf8_acceptRanges), ("unicode/utf8.first", laid_unicode_utf8_first)], narrowed := true }
def MqttBackUptoSaid : Prop := mqttBackUptoRow.holds Tryz.pinned (OpenSpec.upto mqttBackSpec)

/-- 'polyglotlaw13.MqttAll', WHERE WHAT IT READS IS OF BULK AT MOST 1048576: true; the input reads as it did. -/
def mqttAllUptoRow : OpenClaim := { program := "ytmkkjiogokfnmaagreatdoor", sum := "a16de4e9a1f934bcdd224d28177e8288f9f311391443e4cd2b0003414861440b", func := "polyglot/polyglotlaw13.MqttAll", spec := "mqttAll", inPlace := ["internal/bytealg.IndexByteString", "internal/bytealg.IndexString", "internal/abi.NoEscape", "internal/bytealg.MakeNoZero", "internal/bytealg.CountString"], unfollowed := true, recurses := true, named := ["unicode/utf8.first", "unicode/utf8.acceptRanges", "internal/bytealg.MaxLen"], apart := false, laid := [("unicode/utf8.acceptRanges", laid_unicode_utf8_acceptRanges), ("unicode/utf8.first", laid_unicode_utf8_first)], narrowed := true }
def MqttAllUptoSaid : Prop := mqttAllUptoRow.holds Tryz.pinned (OpenSpec.upto mqttAllSpec)

/-- 'polyglotlaw13.MqttNames', WHERE WHAT IT READS IS OF BULK AT MOST 1048576: true; the input reads as it did. -/
def mqttNamesUptoRow : OpenClaim := { program := "ytmkkjiogokfnmaagreatdoor", sum := "a16de4e9a1f934bcdd224d28177e8288f9f311391443e4cd2b0003414861440b", func := "polyglot/polyglotlaw13.MqttNames", spec := "mqttNames", inPlace := ["internal/bytealg.IndexByteString", "internal/bytealg.IndexString", "internal/abi.NoEscape", "internal/bytealg.MakeNoZero", "internal/bytealg.CountString"], unfollowed := true, recurses := true, named := ["unicode/utf8.first", "unicode/utf8.acceptRanges", "internal/bytealg.MaxLen"], apart := false, laid := [("unicode/utf8.acceptRanges", laid_unicode_utf8_acceptRanges), ("unicode/utf8.first", laid_unicode_utf8_first)], narrowed := true }
def MqttNamesUptoSaid : Prop := mqttNamesUptoRow.holds Tryz.pinned (OpenSpec.upto mqttNamesSpec)

/-- 'polyglotlaw13.MqttCalls', WHERE WHAT IT READS IS OF BULK AT MOST 1048576: true; the input reads as it did. -/
def mqttCallsUptoRow : OpenClaim := { program := "ytmkkjiogokfnmaagreatdoor", sum := "a16de4e9a1f934bcdd224d28177e8288f9f311391443e4cd2b0003414861440b", func := "polyglot/polyglotlaw13.MqttCalls", spec := "mqttCalls", inPlace := ["internal/bytealg.IndexByteString", "internal/bytealg.IndexString", "internal/abi.NoEscape", "internal/bytealg.MakeNoZero", "internal/bytealg.CountString"], unfollowed := true, recurses := true, named := ["unicode/utf8.first", "unicode/utf8.acceptRanges", "internal/bytealg.MaxLen"], apart := false, laid := [("unicode/utf8.acceptRanges", laid_unicode_utf8_acceptRanges), ("unicode/utf8.first", laid_unicode_utf8_first)], narrowed := true }
def MqttCallsUptoSaid : Prop := mqttCallsUptoRow.holds Tryz.pinned (OpenSpec.upto mqttCallsSpec)

end Rows
end Go.Proofs.YtmkkjiogokfnmaaGreatDoor
