/-
  No cell of these rows narrows 'for every input' (looked for: loops, veiled, ifaces, maps, wideKeys, modest, calm, conditions, laid).
  DERIVED. THE GIVEN ROWS OF THIS SEAT. 11 by the template 'for every input the law returns true; each argument reads behind the call as it read before'; 0 by the template 'total and deterministic' (their statements: YtdpeljnoaiaplaaTotals.lean).
  GIVEN WITH THE SEED: the statements are not yours to turn. If you find one false, say at which input.
  Laid BY PROGRAM, IN A SANDBOX (cutbox-rows.mjs): the forced cells as the released guide's own fill.sh prints them over the translation 281fdd70c91a276b… (all of the seat's roots in one cut). By AI agents, Wed Nov 11 2026. No macro, syntax, notation, axiom, sorry.
-/
import Derived.Test.YtdpeljnoaiaplaaChecked
import GoSem.Claim
import GoSem.ClaimJoined
import GoSem.ClaimMapViews
import Derived.JoinedTies
import Derived.KernelRfl
namespace Go.Proofs.Ytdpeljnoaiaplaa
/- THE CELL 'sum', in the pinned program and in every row, IS THE sha256 OF THE DUMP (.gsa) THAT YtdpeljnoaiaplaaProg.lean LOADS. Nothing in Lean hashes anything: it is a label: what it is worth is what the hold of that sum in a sandbox is worth. -/
noncomputable def Try.pinned : Pinned := { name := "ytdpeljnoaiaplaa", sum := "281fdd70c91a276b45355b02f767ebc267a6307b1aa70ff3b5591a4e03f7e560", checked := Try.checked }
namespace Rows
def none {H : Type} : Left H := { results := [], args := [] }

/-- 'polyglotlaw10.AckCodes': WHATEVER THE INPUT: true; the input reads as it did. -/
def ackCodesSpec : ChangeSpec := { name := "ackCodes", fn := fun _ => fun
  | [d1, d2, d3] => { results := [.lit (.bool true)], args := [d1, d2, d3] }
  | _ => none }
def ackCodesRow : OpenClaim := { program := "ytdpeljnoaiaplaa", sum := "281fdd70c91a276b45355b02f767ebc267a6307b1aa70ff3b5591a4e03f7e560", func := "polyglot/polyglotlaw10.AckCodes", spec := "ackCodes", inPlace := ["internal/bytealg.IndexByteString", "internal/bytealg.IndexString"], unfollowed := true, recurses := true, named := ["internal/bytealg.MaxLen"], apart := false }
def AckCodesSaid : Prop := ackCodesRow.holds Try.pinned (OpenSpec.ofChange ackCodesSpec)

/-- ITS FALSE NEIGHBOUR: 'it returns false'. Refute it at one input. -/
def ackCodesWrong : ChangeSpec := { name := "ackCodes", fn := fun _ => fun
  | [d1, d2, d3] => { results := [.lit (.bool false)], args := [d1, d2, d3] }
  | _ => none }
def AckCodesWrongFalsely : Prop := ackCodesRow.holds Try.pinned (OpenSpec.ofChange ackCodesWrong)

/-- 'polyglotlaw10.AckNext': WHATEVER THE INPUT: true; the input reads as it did. -/
def ackNextSpec : ChangeSpec := { name := "ackNext", fn := fun _ => fun
  | [d1, d2] => { results := [.lit (.bool true)], args := [d1, d2] }
  | _ => none }
def ackNextRow : OpenClaim := { program := "ytdpeljnoaiaplaa", sum := "281fdd70c91a276b45355b02f767ebc267a6307b1aa70ff3b5591a4e03f7e560", func := "polyglot/polyglotlaw10.AckNext", spec := "ackNext", inPlace := ["internal/bytealg.IndexByteString", "internal/bytealg.IndexString"], unfollowed := true, recurses := true, named := ["internal/bytealg.MaxLen"], apart := false }
def AckNextSaid : Prop := ackNextRow.holds Try.pinned (OpenSpec.ofChange ackNextSpec)

/-- ITS FALSE NEIGHBOUR: 'it returns false'. Refute it at one input. -/
def ackNextWrong : ChangeSpec := { name := "ackNext", fn := fun _ => fun
  | [d1, d2] => { results := [.lit (.bool false)], args := [d1, d2] }
  | _ => none }
def AckNextWrongFalsely : Prop := ackNextRow.holds Try.pinned (OpenSpec.ofChange ackNextWrong)

/-- 'polyglotlaw12.ControlCodes': WHATEVER THE INPUT: true; the input reads as it did. -/
def controlCodesSpec : ChangeSpec := { name := "controlCodes", fn := fun _ => fun
  | [d1, d2] => { results := [.lit (.bool true)], args := [d1, d2] }
  | _ => none }
def controlCodesRow : OpenClaim := { program := "ytdpeljnoaiaplaa", sum := "281fdd70c91a276b45355b02f767ebc267a6307b1aa70ff3b5591a4e03f7e560", func := "polyglot/polyglotlaw12.ControlCodes", spec := "controlCodes", inPlace := ["internal/bytealg.IndexByteString", "internal/bytealg.IndexString"], unfollowed := true, recurses := true, named := ["internal/bytealg.MaxLen"], apart := false }
def ControlCodesSaid : Prop := controlCodesRow.holds Try.pinned (OpenSpec.ofChange controlCodesSpec)

/-- ITS FALSE NEIGHBOUR: 'it returns false'. Refute it at one input. -/
def controlCodesWrong : ChangeSpec := { name := "controlCodes", fn := fun _ => fun
  | [d1, d2] => { results := [.lit (.bool false)], args := [d1, d2] }
  | _ => none }
def ControlCodesWrongFalsely : Prop := controlCodesRow.holds Try.pinned (OpenSpec.ofChange controlCodesWrong)

/-- 'polyglotlaw09.PublishTopics': WHATEVER THE INPUT: true; the input reads as it did. -/
def publishTopicsSpec : ChangeSpec := { name := "publishTopics", fn := fun _ => fun
  | [d1, d2, d3] => { results := [.lit (.bool true)], args := [d1, d2, d3] }
  | _ => none }
def publishTopicsRow : OpenClaim := { program := "ytdpeljnoaiaplaa", sum := "281fdd70c91a276b45355b02f767ebc267a6307b1aa70ff3b5591a4e03f7e560", func := "polyglot/polyglotlaw09.PublishTopics", spec := "publishTopics", inPlace := ["internal/bytealg.IndexByteString", "internal/bytealg.IndexString"], unfollowed := true, recurses := true, named := ["internal/bytealg.MaxLen"], apart := false }
def PublishTopicsSaid : Prop := publishTopicsRow.holds Try.pinned (OpenSpec.ofChange publishTopicsSpec)

/-- ITS FALSE NEIGHBOUR: 'it returns false'. Refute it at one input. -/
def publishTopicsWrong : ChangeSpec := { name := "publishTopics", fn := fun _ => fun
  | [d1, d2, d3] => { results := [.lit (.bool false)], args := [d1, d2, d3] }
  | _ => none }
def PublishTopicsWrongFalsely : Prop := publishTopicsRow.holds Try.pinned (OpenSpec.ofChange publishTopicsWrong)

/-- 'polyglotlaw09.PublishIDs': WHATEVER THE INPUT: true; the input reads as it did. -/
def publishIDsSpec : ChangeSpec := { name := "publishIDs", fn := fun _ => fun
  | [d1, d2, d3, d4] => { results := [.lit (.bool true)], args := [d1, d2, d3, d4] }
  | _ => none }
def publishIDsRow : OpenClaim := { program := "ytdpeljnoaiaplaa", sum := "281fdd70c91a276b45355b02f767ebc267a6307b1aa70ff3b5591a4e03f7e560", func := "polyglot/polyglotlaw09.PublishIDs", spec := "publishIDs", inPlace := ["internal/bytealg.IndexByteString", "internal/bytealg.IndexString"], unfollowed := true, recurses := true, named := ["internal/bytealg.MaxLen"], apart := false }
def PublishIDsSaid : Prop := publishIDsRow.holds Try.pinned (OpenSpec.ofChange publishIDsSpec)

/-- ITS FALSE NEIGHBOUR: 'it returns false'. Refute it at one input. -/
def publishIDsWrong : ChangeSpec := { name := "publishIDs", fn := fun _ => fun
  | [d1, d2, d3, d4] => { results := [.lit (.bool false)], args := [d1, d2, d3, d4] }
  | _ => none }
def PublishIDsWrongFalsely : Prop := publishIDsRow.holds Try.pinned (OpenSpec.ofChange publishIDsWrong)

/-- 'polyglotlaw12.ControlAcks': WHATEVER THE INPUT: true; the input reads as it did. -/
def controlAcksSpec : ChangeSpec := { name := "controlAcks", fn := fun _ => fun
  | [d] => { results := [.lit (.bool true)], args := [d] }
  | _ => none }
def controlAcksRow : OpenClaim := { program := "ytdpeljnoaiaplaa", sum := "281fdd70c91a276b45355b02f767ebc267a6307b1aa70ff3b5591a4e03f7e560", func := "polyglot/polyglotlaw12.ControlAcks", spec := "controlAcks", inPlace := ["internal/bytealg.IndexByteString", "internal/bytealg.IndexString"], unfollowed := true, recurses := true, named := ["internal/bytealg.MaxLen"], apart := false }
def ControlAcksSaid : Prop := controlAcksRow.holds Try.pinned (OpenSpec.ofChange controlAcksSpec)

/-- ITS FALSE NEIGHBOUR: 'it returns false'. Refute it at one input. -/
def controlAcksWrong : ChangeSpec := { name := "controlAcks", fn := fun _ => fun
  | [d] => { results := [.lit (.bool false)], args := [d] }
  | _ => none }
def ControlAcksWrongFalsely : Prop := controlAcksRow.holds Try.pinned (OpenSpec.ofChange controlAcksWrong)

/-- 'polyglotlaw08.ConnectAnswers': WHATEVER THE INPUT: true; the input reads as it did. -/
def connectAnswersSpec : ChangeSpec := { name := "connectAnswers", fn := fun _ => fun
  | [d1, d2] => { results := [.lit (.bool true)], args := [d1, d2] }
  | _ => none }
def connectAnswersRow : OpenClaim := { program := "ytdpeljnoaiaplaa", sum := "281fdd70c91a276b45355b02f767ebc267a6307b1aa70ff3b5591a4e03f7e560", func := "polyglot/polyglotlaw08.ConnectAnswers", spec := "connectAnswers", inPlace := ["internal/bytealg.IndexByteString", "internal/bytealg.IndexString", "internal/abi.NoEscape", "internal/bytealg.MakeNoZero"], unfollowed := true, recurses := true, named := ["internal/bytealg.MaxLen"], apart := false }
def ConnectAnswersSaid : Prop := connectAnswersRow.holds Try.pinned (OpenSpec.ofChange connectAnswersSpec)

/-- ITS FALSE NEIGHBOUR: 'it returns false'. Refute it at one input. -/
def connectAnswersWrong : ChangeSpec := { name := "connectAnswers", fn := fun _ => fun
  | [d1, d2] => { results := [.lit (.bool false)], args := [d1, d2] }
  | _ => none }
def ConnectAnswersWrongFalsely : Prop := connectAnswersRow.holds Try.pinned (OpenSpec.ofChange connectAnswersWrong)

/-- 'polyglotlaw10.AckBack': WHATEVER THE INPUT: true; the input reads as it did. -/
def ackBackSpec : ChangeSpec := { name := "ackBack", fn := fun _ => fun
  | [d1, d2, d3, d4] => { results := [.lit (.bool true)], args := [d1, d2, d3, d4] }
  | _ => none }
def ackBackRow : OpenClaim := { program := "ytdpeljnoaiaplaa", sum := "281fdd70c91a276b45355b02f767ebc267a6307b1aa70ff3b5591a4e03f7e560", func := "polyglot/polyglotlaw10.AckBack", spec := "ackBack", inPlace := ["internal/bytealg.IndexByteString", "internal/bytealg.IndexString"], unfollowed := true, recurses := true, named := ["internal/bytealg.MaxLen"], apart := false }
def AckBackSaid : Prop := ackBackRow.holds Try.pinned (OpenSpec.ofChange ackBackSpec)

/-- ITS FALSE NEIGHBOUR: 'it returns false'. Refute it at one input. -/
def ackBackWrong : ChangeSpec := { name := "ackBack", fn := fun _ => fun
  | [d1, d2, d3, d4] => { results := [.lit (.bool false)], args := [d1, d2, d3, d4] }
  | _ => none }
def AckBackWrongFalsely : Prop := ackBackRow.holds Try.pinned (OpenSpec.ofChange ackBackWrong)

/-- 'polyglotlaw10.AckNames': WHATEVER THE INPUT: true; the input reads as it did. -/
def ackNamesSpec : ChangeSpec := { name := "ackNames", fn := fun _ => fun
  | [] => { results := [.lit (.bool true)], args := [] }
  | _ => none }
def ackNamesRow : OpenClaim := { program := "ytdpeljnoaiaplaa", sum := "281fdd70c91a276b45355b02f767ebc267a6307b1aa70ff3b5591a4e03f7e560", func := "polyglot/polyglotlaw10.AckNames", spec := "ackNames", inPlace := ["internal/bytealg.IndexByteString", "internal/bytealg.IndexString"], unfollowed := true, recurses := true, named := ["internal/bytealg.MaxLen"], apart := false }
def AckNamesSaid : Prop := ackNamesRow.holds Try.pinned (OpenSpec.ofChange ackNamesSpec)

/-- ITS FALSE NEIGHBOUR: 'it returns false'. Refute it at one input. -/
def ackNamesWrong : ChangeSpec := { name := "ackNames", fn := fun _ => fun
  | [] => { results := [.lit (.bool false)], args := [] }
  | _ => none }
def AckNamesWrongFalsely : Prop := ackNamesRow.holds Try.pinned (OpenSpec.ofChange ackNamesWrong)

/-- 'polyglotlaw12.ControlNames': WHATEVER THE INPUT: true; the input reads as it did. -/
def controlNamesSpec : ChangeSpec := { name := "controlNames", fn := fun _ => fun
  | [] => { results := [.lit (.bool true)], args := [] }
  | _ => none }
def controlNamesRow : OpenClaim := { program := "ytdpeljnoaiaplaa", sum := "281fdd70c91a276b45355b02f767ebc267a6307b1aa70ff3b5591a4e03f7e560", func := "polyglot/polyglotlaw12.ControlNames", spec := "controlNames", inPlace := ["internal/bytealg.IndexByteString", "internal/bytealg.IndexString"], unfollowed := true, recurses := true, named := ["internal/bytealg.MaxLen"], apart := false }
def ControlNamesSaid : Prop := controlNamesRow.holds Try.pinned (OpenSpec.ofChange controlNamesSpec)

/-- ITS FALSE NEIGHBOUR: 'it returns false'. Refute it at one input. -/
def controlNamesWrong : ChangeSpec := { name := "controlNames", fn := fun _ => fun
  | [] => { results := [.lit (.bool false)], args := [] }
  | _ => none }
def ControlNamesWrongFalsely : Prop := controlNamesRow.holds Try.pinned (OpenSpec.ofChange controlNamesWrong)

/-- 'polyglotlaw12.ControlBack': WHATEVER THE INPUT: true; the input reads as it did. -/
def controlBackSpec : ChangeSpec := { name := "controlBack", fn := fun _ => fun
  | [d1, d2, d3, d4] => { results := [.lit (.bool true)], args := [d1, d2, d3, d4] }
  | _ => none }
def controlBackRow : OpenClaim := { program := "ytdpeljnoaiaplaa", sum := "281fdd70c91a276b45355b02f767ebc267a6307b1aa70ff3b5591a4e03f7e560", func := "polyglot/polyglotlaw12.ControlBack", spec := "controlBack", inPlace := ["internal/bytealg.IndexByteString", "internal/bytealg.IndexString"], unfollowed := true, recurses := true, named := ["internal/bytealg.MaxLen"], apart := false }
def ControlBackSaid : Prop := controlBackRow.holds Try.pinned (OpenSpec.ofChange controlBackSpec)

/-- ITS FALSE NEIGHBOUR: 'it returns false'. Refute it at one input. -/
def controlBackWrong : ChangeSpec := { name := "controlBack", fn := fun _ => fun
  | [d1, d2, d3, d4] => { results := [.lit (.bool false)], args := [d1, d2, d3, d4] }
  | _ => none }
def ControlBackWrongFalsely : Prop := controlBackRow.holds Try.pinned (OpenSpec.ofChange controlBackWrong)

/- THE SECOND FORM. 'bulk': how many values and letters a reading holds, each counted each time it is reached (what is shared counts as often as it is met; a slice's spare places count too). A statement '..UptoSaid' is the law's where the arguments, and the package variables that the reading takes, are together of bulk at most 1048576: NARROWER than '..Said'. Prove '..Said' where nothing that the law and all that it calls make is longer than what came in: it says more and counts as full. Else prove '..UptoSaid'. A law counts once. -/
mutual
def uptoBulk {H : Type} : DataW H → Nat
  | .lit (.string bytes) => bytes.length + 1
  | .lit _ => 1
  | .nil => 1
  | .ptr d => uptoBulk d + 1
  | .slice elems spare => uptoBulkAll elems + uptoBulkAll spare + 1
  | .agg parts => uptoBulkAll parts + 1
  | .iface _ d => uptoBulk d + 1
  | .map entries => uptoBulkEntries entries + 1
  | .held _ => 1
def uptoBulkAll {H : Type} : List (DataW H) → Nat
  | [] => 0
  | d :: r => uptoBulk d + uptoBulkAll r
def uptoBulkEntries {H : Type} : List (Lit × DataW H) → Nat
  | [] => 0
  | x :: r => uptoBulkEntry x + uptoBulkEntries r
def uptoBulkEntry {H : Type} : Lit × DataW H → Nat
  | (.string bytes, d) => bytes.length + uptoBulk d + 1
  | (_, d) => uptoBulk d + 1
 end
def uptoSmall : (H : Type) → List (DataW H) → Bool := fun _ ds => decide (uptoBulkAll ds ≤ 1048576)
def OpenSpec.upto (s : _root_.Go.ChangeSpec) : _root_.Go.OpenSpec := { _root_.Go.OpenSpec.ofChange s with cond := some uptoSmall }

/-- 'polyglotlaw10.AckCodes', WHERE WHAT IT READS IS OF BULK AT MOST 1048576: true; the input reads as it did. -/
def ackCodesUptoRow : OpenClaim := { program := "ytdpeljnoaiaplaa", sum := "281fdd70c91a276b45355b02f767ebc267a6307b1aa70ff3b5591a4e03f7e560", func := "polyglot/polyglotlaw10.AckCodes", spec := "ackCodes", inPlace := ["internal/bytealg.IndexByteString", "internal/bytealg.IndexString"], unfollowed := true, recurses := true, named := ["internal/bytealg.MaxLen"], apart := false, narrowed := true }
def AckCodesUptoSaid : Prop := ackCodesUptoRow.holds Try.pinned (OpenSpec.upto ackCodesSpec)

/-- 'polyglotlaw10.AckNext', WHERE WHAT IT READS IS OF BULK AT MOST 1048576: true; the input reads as it did. -/
def ackNextUptoRow : OpenClaim := { program := "ytdpeljnoaiaplaa", sum := "281fdd70c91a276b45355b02f767ebc267a6307b1aa70ff3b5591a4e03f7e560", func := "polyglot/polyglotlaw10.AckNext", spec := "ackNext", inPlace := ["internal/bytealg.IndexByteString", "internal/bytealg.IndexString"], unfollowed := true, recurses := true, named := ["internal/bytealg.MaxLen"], apart := false, narrowed := true }
def AckNextUptoSaid : Prop := ackNextUptoRow.holds Try.pinned (OpenSpec.upto ackNextSpec)

/-- 'polyglotlaw12.ControlCodes', WHERE WHAT IT READS IS OF BULK AT MOST 1048576: true; the input reads as it did. -/
def controlCodesUptoRow : OpenClaim := { program := "ytdpeljnoaiaplaa", sum := "281fdd70c91a276b45355b02f767ebc267a6307b1aa70ff3b5591a4e03f7e560", func := "polyglot/polyglotlaw12.ControlCodes", spec := "controlCodes", inPlace := ["internal/bytealg.IndexByteString", "internal/bytealg.IndexString"], unfollowed := true, recurses := true, named := ["internal/bytealg.MaxLen"], apart := false, narrowed := true }
def ControlCodesUptoSaid : Prop := controlCodesUptoRow.holds Try.pinned (OpenSpec.upto controlCodesSpec)

/-- 'polyglotlaw09.PublishTopics', WHERE WHAT IT READS IS OF BULK AT MOST 1048576: true; the input reads as it did. -/
def publishTopicsUptoRow : OpenClaim := { program := "ytdpeljnoaiaplaa", sum := "281fdd70c91a276b45355b02f767ebc267a6307b1aa70ff3b5591a4e03f7e560", func := "polyglot/polyglotlaw09.PublishTopics", spec := "publishTopics", inPlace := ["internal/bytealg.IndexByteString", "internal/bytealg.IndexString"], unfollowed := true, recurses := true, named := ["internal/bytealg.MaxLen"], apart := false, narrowed := true }
def PublishTopicsUptoSaid : Prop := publishTopicsUptoRow.holds Try.pinned (OpenSpec.upto publishTopicsSpec)

/-- 'polyglotlaw09.PublishIDs', WHERE WHAT IT READS IS OF BULK AT MOST 1048576: true; the input reads as it did. -/
def publishIDsUptoRow : OpenClaim := { program := "ytdpeljnoaiaplaa", sum := "281fdd70c91a276b45355b02f767ebc267a6307b1aa70ff3b5591a4e03f7e560", func := "polyglot/polyglotlaw09.PublishIDs", spec := "publishIDs", inPlace := ["internal/bytealg.IndexByteString", "internal/bytealg.IndexString"], unfollowed := true, recurses := true, named := ["internal/bytealg.MaxLen"], apart := false, narrowed := true }
def PublishIDsUptoSaid : Prop := publishIDsUptoRow.holds Try.pinned (OpenSpec.upto publishIDsSpec)

/-- 'polyglotlaw12.ControlAcks', WHERE WHAT IT READS IS OF BULK AT MOST 1048576: true; the input reads as it did. -/
def controlAcksUptoRow : OpenClaim := { program := "ytdpeljnoaiaplaa", sum := "281fdd70c91a276b45355b02f767ebc267a6307b1aa70ff3b5591a4e03f7e560", func := "polyglot/polyglotlaw12.ControlAcks", spec := "controlAcks", inPlace := ["internal/bytealg.IndexByteString", "internal/bytealg.IndexString"], unfollowed := true, recurses := true, named := ["internal/bytealg.MaxLen"], apart := false, narrowed := true }
def ControlAcksUptoSaid : Prop := controlAcksUptoRow.holds Try.pinned (OpenSpec.upto controlAcksSpec)

/-- 'polyglotlaw08.ConnectAnswers', WHERE WHAT IT READS IS OF BULK AT MOST 1048576: true; the input reads as it did. -/
def connectAnswersUptoRow : OpenClaim := { program := "ytdpeljnoaiaplaa", sum := "281fdd70c91a276b45355b02f767ebc267a6307b1aa70ff3b5591a4e03f7e560", func := "polyglot/polyglotlaw08.ConnectAnswers", spec := "connectAnswers", inPlace := ["internal/bytealg.IndexByteString", "internal/bytealg.IndexString", "internal/abi.NoEscape", "internal/bytealg.MakeNoZero"], unfollowed := true, recurses := true, named := ["internal/bytealg.MaxLen"], apart := false, narrowed := true }
def ConnectAnswersUptoSaid : Prop := connectAnswersUptoRow.holds Try.pinned (OpenSpec.upto connectAnswersSpec)

/-- 'polyglotlaw10.AckBack', WHERE WHAT IT READS IS OF BULK AT MOST 1048576: true; the input reads as it did. -/
def ackBackUptoRow : OpenClaim := { program := "ytdpeljnoaiaplaa", sum := "281fdd70c91a276b45355b02f767ebc267a6307b1aa70ff3b5591a4e03f7e560", func := "polyglot/polyglotlaw10.AckBack", spec := "ackBack", inPlace := ["internal/bytealg.IndexByteString", "internal/bytealg.IndexString"], unfollowed := true, recurses := true, named := ["internal/bytealg.MaxLen"], apart := false, narrowed := true }
def AckBackUptoSaid : Prop := ackBackUptoRow.holds Try.pinned (OpenSpec.upto ackBackSpec)

/-- 'polyglotlaw10.AckNames', WHERE WHAT IT READS IS OF BULK AT MOST 1048576: true; the input reads as it did. -/
def ackNamesUptoRow : OpenClaim := { program := "ytdpeljnoaiaplaa", sum := "281fdd70c91a276b45355b02f767ebc267a6307b1aa70ff3b5591a4e03f7e560", func := "polyglot/polyglotlaw10.AckNames", spec := "ackNames", inPlace := ["internal/bytealg.IndexByteString", "internal/bytealg.IndexString"], unfollowed := true, recurses := true, named := ["internal/bytealg.MaxLen"], apart := false, narrowed := true }
def AckNamesUptoSaid : Prop := ackNamesUptoRow.holds Try.pinned (OpenSpec.upto ackNamesSpec)

/-- 'polyglotlaw12.ControlNames', WHERE WHAT IT READS IS OF BULK AT MOST 1048576: true; the input reads as it did. -/
def controlNamesUptoRow : OpenClaim := { program := "ytdpeljnoaiaplaa", sum := "281fdd70c91a276b45355b02f767ebc267a6307b1aa70ff3b5591a4e03f7e560", func := "polyglot/polyglotlaw12.ControlNames", spec := "controlNames", inPlace := ["internal/bytealg.IndexByteString", "internal/bytealg.IndexString"], unfollowed := true, recurses := true, named := ["internal/bytealg.MaxLen"], apart := false, narrowed := true }
def ControlNamesUptoSaid : Prop := controlNamesUptoRow.holds Try.pinned (OpenSpec.upto controlNamesSpec)

/-- 'polyglotlaw12.ControlBack', WHERE WHAT IT READS IS OF BULK AT MOST 1048576: true; the input reads as it did. -/
def controlBackUptoRow : OpenClaim := { program := "ytdpeljnoaiaplaa", sum := "281fdd70c91a276b45355b02f767ebc267a6307b1aa70ff3b5591a4e03f7e560", func := "polyglot/polyglotlaw12.ControlBack", spec := "controlBack", inPlace := ["internal/bytealg.IndexByteString", "internal/bytealg.IndexString"], unfollowed := true, recurses := true, named := ["internal/bytealg.MaxLen"], apart := false, narrowed := true }
def ControlBackUptoSaid : Prop := controlBackUptoRow.holds Try.pinned (OpenSpec.upto controlBackSpec)

end Rows
end Go.Proofs.Ytdpeljnoaiaplaa
