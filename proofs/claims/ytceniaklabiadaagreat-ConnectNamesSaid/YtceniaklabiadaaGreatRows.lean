/-
  No cell of these rows narrows 'for every input' (looked for: loops, veiled, ifaces, maps, wideKeys, modest, calm, conditions, laid).
  DERIVED. THE GIVEN ROWS OF THIS SEAT. 7 by the template 'for every input the law returns true; each argument reads behind the call as it read before'; 0 by the template 'total and deterministic' (their statements: YtceniaklabiadaaGreatTotals.lean).
  GIVEN WITH THE SEED: the statements are not yours to turn. If you find one false, say at which input.
  Laid BY PROGRAM, IN A SANDBOX (cutbox-rows.mjs): the forced cells as the released guide's own fill.sh prints them over the translation e8656a8da95466f0… (all of the seat's roots in one cut). By AI agents, Wed Nov 11 2026. No macro, syntax, notation, axiom, sorry.
-/
import Derived.Test.YtceniaklabiadaaGreatChecked
import GoSem.Claim
import GoSem.ClaimJoined
import GoSem.ClaimMapViews
import Derived.JoinedTies
import Derived.KernelRfl
namespace Go.Proofs.YtceniaklabiadaaGreat
/- THE CELL 'sum', in the pinned program and in every row, IS THE sha256 OF THE DUMP (.gsa) THAT YtceniaklabiadaaGreatProg.lean LOADS. Nothing in Lean hashes anything: it is a label: what it is worth is what the hold of that sum in a sandbox is worth. -/
noncomputable def Tryz.pinned : Pinned := { name := "ytceniaklabiadaagreat", sum := "e8656a8da95466f0064c66da810cadc1b5d2889c2c29ba40a32140d386d7288c", checked := Tryz.checked }
namespace Rows
def none {H : Type} : Left H := { results := [], args := [] }

/-- 'polyglotlaw10.AckCalls': WHATEVER THE INPUT: true; the input reads as it did. -/
def ackCallsSpec : ChangeSpec := { name := "ackCalls", fn := fun _ => fun
  | [d1, d2, d3, d4] => { results := [.lit (.bool true)], args := [d1, d2, d3, d4] }
  | _ => none }
def ackCallsRow : OpenClaim := { program := "ytceniaklabiadaagreat", sum := "e8656a8da95466f0064c66da810cadc1b5d2889c2c29ba40a32140d386d7288c", func := "polyglot/polyglotlaw10.AckCalls", spec := "ackCalls", inPlace := ["internal/bytealg.IndexByteString", "internal/bytealg.IndexString"], unfollowed := true, recurses := true, named := ["internal/bytealg.MaxLen"], apart := false }
def AckCallsSaid : Prop := ackCallsRow.holds Tryz.pinned (OpenSpec.ofChange ackCallsSpec)

/-- ITS FALSE NEIGHBOUR: 'it returns false'. Refute it at one input. -/
def ackCallsWrong : ChangeSpec := { name := "ackCalls", fn := fun _ => fun
  | [d1, d2, d3, d4] => { results := [.lit (.bool false)], args := [d1, d2, d3, d4] }
  | _ => none }
def AckCallsWrongFalsely : Prop := ackCallsRow.holds Tryz.pinned (OpenSpec.ofChange ackCallsWrong)

/-- 'polyglotlaw12.ControlCalls': WHATEVER THE INPUT: true; the input reads as it did. -/
def controlCallsSpec : ChangeSpec := { name := "controlCalls", fn := fun _ => fun
  | [d1, d2, d3, d4] => { results := [.lit (.bool true)], args := [d1, d2, d3, d4] }
  | _ => none }
def controlCallsRow : OpenClaim := { program := "ytceniaklabiadaagreat", sum := "e8656a8da95466f0064c66da810cadc1b5d2889c2c29ba40a32140d386d7288c", func := "polyglot/polyglotlaw12.ControlCalls", spec := "controlCalls", inPlace := ["internal/bytealg.IndexByteString", "internal/bytealg.IndexString"], unfollowed := true, recurses := true, named := ["internal/bytealg.MaxLen"], apart := false }
def ControlCallsSaid : Prop := controlCallsRow.holds Tryz.pinned (OpenSpec.ofChange controlCallsSpec)

/-- ITS FALSE NEIGHBOUR: 'it returns false'. Refute it at one input. -/
def controlCallsWrong : ChangeSpec := { name := "controlCalls", fn := fun _ => fun
  | [d1, d2, d3, d4] => { results := [.lit (.bool false)], args := [d1, d2, d3, d4] }
  | _ => none }
def ControlCallsWrongFalsely : Prop := controlCallsRow.holds Tryz.pinned (OpenSpec.ofChange controlCallsWrong)

/-- 'polyglotlaw09.PublishCalls': WHATEVER THE INPUT: true; the input reads as it did. -/
def publishCallsSpec : ChangeSpec := { name := "publishCalls", fn := fun _ => fun
  | [d1, d2, d3, d4] => { results := [.lit (.bool true)], args := [d1, d2, d3, d4] }
  | _ => none }
def publishCallsRow : OpenClaim := { program := "ytceniaklabiadaagreat", sum := "e8656a8da95466f0064c66da810cadc1b5d2889c2c29ba40a32140d386d7288c", func := "polyglot/polyglotlaw09.PublishCalls", spec := "publishCalls", inPlace := ["internal/bytealg.IndexByteString", "internal/bytealg.IndexString"], unfollowed := true, recurses := true, named := ["internal/bytealg.MaxLen"], apart := false }
def PublishCallsSaid : Prop := publishCallsRow.holds Tryz.pinned (OpenSpec.ofChange publishCallsSpec)

/-- ITS FALSE NEIGHBOUR: 'it returns false'. Refute it at one input. -/
def publishCallsWrong : ChangeSpec := { name := "publishCalls", fn := fun _ => fun
  | [d1, d2, d3, d4] => { results := [.lit (.bool false)], args := [d1, d2, d3, d4] }
  | _ => none }
def PublishCallsWrongFalsely : Prop := publishCallsRow.holds Tryz.pinned (OpenSpec.ofChange publishCallsWrong)

/-- 'polyglotlaw08.ConnectNames': WHATEVER THE INPUT: true; the input reads as it did. -/
def connectNamesSpec : ChangeSpec := { name := "connectNames", fn := fun _ => fun
  | [] => { results := [.lit (.bool true)], args := [] }
  | _ => none }
def connectNamesRow : OpenClaim := { program := "ytceniaklabiadaagreat", sum := "e8656a8da95466f0064c66da810cadc1b5d2889c2c29ba40a32140d386d7288c", func := "polyglot/polyglotlaw08.ConnectNames", spec := "connectNames", inPlace := ["internal/bytealg.IndexByteString", "internal/bytealg.IndexString", "internal/abi.NoEscape", "internal/bytealg.MakeNoZero"], unfollowed := true, recurses := true, named := ["internal/bytealg.MaxLen"], apart := false }
def ConnectNamesSaid : Prop := connectNamesRow.holds Tryz.pinned (OpenSpec.ofChange connectNamesSpec)

/-- ITS FALSE NEIGHBOUR: 'it returns false'. Refute it at one input. -/
def connectNamesWrong : ChangeSpec := { name := "connectNames", fn := fun _ => fun
  | [] => { results := [.lit (.bool false)], args := [] }
  | _ => none }
def ConnectNamesWrongFalsely : Prop := connectNamesRow.holds Tryz.pinned (OpenSpec.ofChange connectNamesWrong)

/-- 'polyglotlaw08.ConnectCalls': WHATEVER THE INPUT: true; the input reads as it did. -/
def connectCallsSpec : ChangeSpec := { name := "connectCalls", fn := fun _ => fun
  | [d1, d2, d3, d4] => { results := [.lit (.bool true)], args := [d1, d2, d3, d4] }
  | _ => none }
def connectCallsRow : OpenClaim := { program := "ytceniaklabiadaagreat", sum := "e8656a8da95466f0064c66da810cadc1b5d2889c2c29ba40a32140d386d7288c", func := "polyglot/polyglotlaw08.ConnectCalls", spec := "connectCalls", inPlace := ["internal/bytealg.IndexByteString", "internal/bytealg.IndexString", "internal/abi.NoEscape", "internal/bytealg.MakeNoZero"], unfollowed := true, recurses := true, named := ["internal/bytealg.MaxLen"], apart := false }
def ConnectCallsSaid : Prop := connectCallsRow.holds Tryz.pinned (OpenSpec.ofChange connectCallsSpec)

/-- ITS FALSE NEIGHBOUR: 'it returns false'. Refute it at one input. -/
def connectCallsWrong : ChangeSpec := { name := "connectCalls", fn := fun _ => fun
  | [d1, d2, d3, d4] => { results := [.lit (.bool false)], args := [d1, d2, d3, d4] }
  | _ => none }
def ConnectCallsWrongFalsely : Prop := connectCallsRow.holds Tryz.pinned (OpenSpec.ofChange connectCallsWrong)

/-- 'polyglotlaw08.ConnectBack': WHATEVER THE INPUT: true; the input reads as it did. -/
def connectBackSpec : ChangeSpec := { name := "connectBack", fn := fun _ => fun
  | [d1, d2, d3, d4, d5] => { results := [.lit (.bool true)], args := [d1, d2, d3, d4, d5] }
  | _ => none }
def connectBackRow : OpenClaim := { program := "ytceniaklabiadaagreat", sum := "e8656a8da95466f0064c66da810cadc1b5d2889c2c29ba40a32140d386d7288c", func := "polyglot/polyglotlaw08.ConnectBack", spec := "connectBack", inPlace := ["internal/bytealg.IndexByteString", "internal/bytealg.IndexString", "internal/abi.NoEscape", "internal/bytealg.MakeNoZero"], unfollowed := true, recurses := true, named := ["internal/bytealg.MaxLen"], apart := false }
def ConnectBackSaid : Prop := connectBackRow.holds Tryz.pinned (OpenSpec.ofChange connectBackSpec)

/-- ITS FALSE NEIGHBOUR: 'it returns false'. Refute it at one input. -/
def connectBackWrong : ChangeSpec := { name := "connectBack", fn := fun _ => fun
  | [d1, d2, d3, d4, d5] => { results := [.lit (.bool false)], args := [d1, d2, d3, d4, d5] }
  | _ => none }
def ConnectBackWrongFalsely : Prop := connectBackRow.holds Tryz.pinned (OpenSpec.ofChange connectBackWrong)

/-- 'polyglotlaw08.ConnectFlags': WHATEVER THE INPUT: true; the input reads as it did. -/
def connectFlagsSpec : ChangeSpec := { name := "connectFlags", fn := fun _ => fun
  | [d1, d2] => { results := [.lit (.bool true)], args := [d1, d2] }
  | _ => none }
def connectFlagsRow : OpenClaim := { program := "ytceniaklabiadaagreat", sum := "e8656a8da95466f0064c66da810cadc1b5d2889c2c29ba40a32140d386d7288c", func := "polyglot/polyglotlaw08.ConnectFlags", spec := "connectFlags", inPlace := ["internal/bytealg.IndexByteString", "internal/bytealg.IndexString", "internal/abi.NoEscape", "internal/bytealg.MakeNoZero"], unfollowed := true, recurses := true, named := ["internal/bytealg.MaxLen"], apart := false }
def ConnectFlagsSaid : Prop := connectFlagsRow.holds Tryz.pinned (OpenSpec.ofChange connectFlagsSpec)

/-- ITS FALSE NEIGHBOUR: 'it returns false'. Refute it at one input. -/
def connectFlagsWrong : ChangeSpec := { name := "connectFlags", fn := fun _ => fun
  | [d1, d2] => { results := [.lit (.bool false)], args := [d1, d2] }
  | _ => none }
def ConnectFlagsWrongFalsely : Prop := connectFlagsRow.holds Tryz.pinned (OpenSpec.ofChange connectFlagsWrong)

/- THE SECOND FORM. 'bulk': how many values and letters a reading holds, each counted each time it is reached (what is shared counts as often as it is met; a slice's spare places count too). A statement '..UptoSaid' is the law's where the arguments, and the package variables that the reading takes, are together of bulk at most 1048576: NARROWER than '..Said'. Prove '..Said' where nothing that the law and all that it calls make is longer than what came in: it says more and counts as full. Else prove '..UptoSaid'. A law counts once. -/
mutual
def uptoBulk {H : Type} : DataW H → Nat
  | .lit (.string bytes) => bytes.length + 1
  | .lit _ => 1
  | .nil => 1
  | .ptr d => uptoBulk d + 1
  | .slice elems spare => uptoBulkAll elems + uptoBulkAll spare + 1
  | .agg parts => uptoBulkAll parts + 1
  | .iface _ d => uptoBulk d + 1
  | .map entries => uptoBulkEntries entries + 1
  | .held _ => 1
def uptoBulkAll {H : Type} : List (DataW H) → Nat
  | [] => 0
  | d :: r => uptoBulk d + uptoBulkAll r
def uptoBulkEntries {H : Type} : List (Lit × DataW H) → Nat
  | [] => 0
  | x :: r => uptoBulkEntry x + uptoBulkEntries r
def uptoBulkEntry {H : Type} : Lit × DataW H → Nat
  | (.string bytes, d) => bytes.length + uptoBulk d + 1
  | (_, d) => uptoBulk d + 1
 end
def uptoSmall : (H : Type) → List (DataW H) → Bool := fun _ ds => decide (uptoBulkAll ds ≤ 1048576)
def OpenSpec.upto (s : _root_.Go.ChangeSpec) : _root_.Go.OpenSpec := { _root_.Go.OpenSpec.ofChange s with cond := some uptoSmall }

/-- 'polyglotlaw10.AckCalls', WHERE WHAT IT READS IS OF BULK AT MOST 1048576: true; the input reads as it did. -/
def ackCallsUptoRow : OpenClaim := { program := "ytceniaklabiadaagreat", sum := "e8656a8da95466f0064c66da810cadc1b5d2889c2c29ba40a32140d386d7288c", func := "polyglot/polyglotlaw10.AckCalls", spec := "ackCalls", inPlace := ["internal/bytealg.IndexByteString", "internal/bytealg.IndexString"], unfollowed := true, recurses := true, named := ["internal/bytealg.MaxLen"], apart := false, narrowed := true }
def AckCallsUptoSaid : Prop := ackCallsUptoRow.holds Tryz.pinned (OpenSpec.upto ackCallsSpec)

/-- 'polyglotlaw12.ControlCalls', WHERE WHAT IT READS IS OF BULK AT MOST 1048576: true; the input reads as it did. -/
def controlCallsUptoRow : OpenClaim := { program := "ytceniaklabiadaagreat", sum := "e8656a8da95466f0064c66da810cadc1b5d2889c2c29ba40a32140d386d7288c", func := "polyglot/polyglotlaw12.ControlCalls", spec := "controlCalls", inPlace := ["internal/bytealg.IndexByteString", "internal/bytealg.IndexString"], unfollowed := true, recurses := true, named := ["internal/bytealg.MaxLen"], apart := false, narrowed := true }
def ControlCallsUptoSaid : Prop := controlCallsUptoRow.holds Tryz.pinned (OpenSpec.upto controlCallsSpec)

/-- 'polyglotlaw09.PublishCalls', WHERE WHAT IT READS IS OF BULK AT MOST 1048576: true; the input reads as it did. -/
def publishCallsUptoRow : OpenClaim := { program := "ytceniaklabiadaagreat", sum := "e8656a8da95466f0064c66da810cadc1b5d2889c2c29ba40a32140d386d7288c", func := "polyglot/polyglotlaw09.PublishCalls", spec := "publishCalls", inPlace := ["internal/bytealg.IndexByteString", "internal/bytealg.IndexString"], unfollowed := true, recurses := true, named := ["internal/bytealg.MaxLen"], apart := false, narrowed := true }
def PublishCallsUptoSaid : Prop := publishCallsUptoRow.holds Tryz.pinned (OpenSpec.upto publishCallsSpec)

/-- 'polyglotlaw08.ConnectNames', WHERE WHAT IT READS IS OF BULK AT MOST 1048576: true; the input reads as it did. -/
def connectNamesUptoRow : OpenClaim := { program := "ytceniaklabiadaagreat", sum := "e8656a8da95466f0064c66da810cadc1b5d2889c2c29ba40a32140d386d7288c", func := "polyglot/polyglotlaw08.ConnectNames", spec := "connectNames", inPlace := ["internal/bytealg.IndexByteString", "internal/bytealg.IndexString", "internal/abi.NoEscape", "internal/bytealg.MakeNoZero"], unfollowed := true, recurses := true, named := ["internal/bytealg.MaxLen"], apart := false, narrowed := true }
def ConnectNamesUptoSaid : Prop := connectNamesUptoRow.holds Tryz.pinned (OpenSpec.upto connectNamesSpec)

/-- 'polyglotlaw08.ConnectCalls', WHERE WHAT IT READS IS OF BULK AT MOST 1048576: true; the input reads as it did. -/
def connectCallsUptoRow : OpenClaim := { program := "ytceniaklabiadaagreat", sum := "e8656a8da95466f0064c66da810cadc1b5d2889c2c29ba40a32140d386d7288c", func := "polyglot/polyglotlaw08.ConnectCalls", spec := "connectCalls", inPlace := ["internal/bytealg.IndexByteString", "internal/bytealg.IndexString", "internal/abi.NoEscape", "internal/bytealg.MakeNoZero"], unfollowed := true, recurses := true, named := ["internal/bytealg.MaxLen"], apart := false, narrowed := true }
def ConnectCallsUptoSaid : Prop := connectCallsUptoRow.holds Tryz.pinned (OpenSpec.upto connectCallsSpec)

/-- 'polyglotlaw08.ConnectBack', WHERE WHAT IT READS IS OF BULK AT MOST 1048576: true; the input reads as it did. -/
def connectBackUptoRow : OpenClaim := { program := "ytceniaklabiadaagreat", sum := "e8656a8da95466f0064c66da810cadc1b5d2889c2c29ba40a32140d386d7288c", func := "polyglot/polyglotlaw08.ConnectBack", spec := "connectBack", inPlace := ["internal/bytealg.IndexByteString", "internal/bytealg.IndexString", "internal/abi.NoEscape", "internal/bytealg.MakeNoZero"], unfollowed := true, recurses := true, named := ["internal/bytealg.MaxLen"], apart := false, narrowed := true }
def ConnectBackUptoSaid : Prop := connectBackUptoRow.holds Tryz.pinned (OpenSpec.upto connectBackSpec)

/-- 'polyglotlaw08.ConnectFlags', WHERE WHAT IT READS IS OF BULK AT MOST 1048576: true; the input reads as it did. -/
def connectFlagsUptoRow : OpenClaim := { program := "ytceniaklabiadaagreat", sum := "e8656a8da95466f0064c66da810cadc1b5d2889c2c29ba40a32140d386d7288c", func := "polyglot/polyglotlaw08.ConnectFlags", spec := "connectFlags", inPlace := ["internal/bytealg.IndexByteString", "internal/bytealg.IndexString", "internal/abi.NoEscape", "internal/bytealg.MakeNoZero"], unfollowed := true, recurses := true, named := ["internal/bytealg.MaxLen"], apart := false, narrowed := true }
def ConnectFlagsUptoSaid : Prop := connectFlagsUptoRow.holds Tryz.pinned (OpenSpec.upto connectFlagsSpec)

end Rows
end Go.Proofs.YtceniaklabiadaaGreat
