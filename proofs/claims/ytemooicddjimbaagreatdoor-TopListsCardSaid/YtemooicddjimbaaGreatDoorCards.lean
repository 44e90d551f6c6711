/-
  DERIVED. GIVEN WITH THE SEED: THE CARDS: each row of YtemooicddjimbaaGreatDoorRows.lean that lists a variable, with what it lists TIED to the program's text (the seventh form; the later family's looks); each row that meets fmt, with fmt's text TOLD by the authors' own Lean function (tested against real Go, not proved from fmt's source: count such statements apart). THE CARD IS WHAT COUNTS. Prove the row's statement (the work); the ties are given (YtemooicddjimbaaGreatDoorTie.lean); close each card by the builder's one call (the guide's Derived/Test/ToyasCard.lean, 'card_holds'). Laid BY PROGRAM, IN A SANDBOX (cutbox-door.mjs). By AI agents, Wed Nov 11 2026. No macro, syntax, notation, axiom, sorry.
-/
import Derived.Test.YtemooicddjimbaaGreatDoorRows
import GoSem.ClaimSeven
namespace Go.Proofs.YtemooicddjimbaaGreatDoor
namespace Rows

/-- THE TIED CARD OF 'polyglottop.TopSplit'. -/
def topSplitCard : Claim7 := { stood := { row := topSplitRow, standIns := [], harness := (true, "f0fdbfea690442ab1d3dc5ce7e55b1f6333247ccc59ac680bf73fb90202b3514"), looks := true }, kinds := [], alts := [], laidByText := true, laidKinds := [.data, .pinned], laidTests := true, laidLooks := .later }
def TopSplitCardSaid : Prop := Claim7.holds Tryz.pinned (.plain (OpenSpec.ofChange topSplitSpec)) topSplitCard

/-- THE TIED CARD OF 'polyglottop.TopLists'. -/
def topListsCard : Claim7 := { stood := { row := topListsRow, standIns := [], harness := (true, "f0fdbfea690442ab1d3dc5ce7e55b1f6333247ccc59ac680bf73fb90202b3514"), looks := true }, kinds := [], alts := [], laidByText := true, laidKinds := [.data, .pinned], laidTests := true, laidLooks := .later }
def TopListsCardSaid : Prop := Claim7.holds Tryz.pinned (.plain (OpenSpec.ofChange topListsSpec)) topListsCard

/-- THE SECOND FORM's CARD OF 'polyglottop.TopSplit'. -/
def topSplitUptoCard : Claim7 := { stood := { row := topSplitUptoRow, standIns := [], harness := (true, "f0fdbfea690442ab1d3dc5ce7e55b1f6333247ccc59ac680bf73fb90202b3514"), looks := true }, kinds := [], alts := [], laidByText := true, laidKinds := [.data, .pinned], laidTests := true, laidLooks := .later }
def TopSplitUptoCardSaid : Prop := Claim7.holds Tryz.pinned (.plain (OpenSpec.upto topSplitSpec)) topSplitUptoCard

/-- THE SECOND FORM's CARD OF 'polyglottop.TopLists'. -/
def topListsUptoCard : Claim7 := { stood := { row := topListsUptoRow, standIns := [], harness := (true, "f0fdbfea690442ab1d3dc5ce7e55b1f6333247ccc59ac680bf73fb90202b3514"), looks := true }, kinds := [], alts := [], laidByText := true, laidKinds := [.data, .pinned], laidTests := true, laidLooks := .later }
def TopListsUptoCardSaid : Prop := Claim7.holds Tryz.pinned (.plain (OpenSpec.upto topListsSpec)) topListsUptoCard
end Rows
end Go.Proofs.YtemooicddjimbaaGreatDoor
