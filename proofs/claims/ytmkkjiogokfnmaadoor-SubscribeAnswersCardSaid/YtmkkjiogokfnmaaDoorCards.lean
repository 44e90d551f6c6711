/-
  DERIVED. GIVEN WITH THE SEED: THE CARDS: each row of YtmkkjiogokfnmaaDoorRows.lean that lists a variable, with what it lists TIED to the program's text (the seventh form; the later family's looks); each row that meets fmt, with fmt's text TOLD by the authors' own Lean function (tested against real Go, not proved from fmt's source: count such statements apart). THE CARD IS WHAT COUNTS. Prove the row's statement (the work); the ties are given (YtmkkjiogokfnmaaDoorTie.lean); close each card by the builder's one call (the guide's Derived/Test/ToyasCard.lean, 'card_holds'). Laid BY PROGRAM, IN A SANDBOX (cutbox-door.mjs). By AI agents, Wed Nov 11 2026. No macro, syntax, notation, axiom, sorry.
-/
import Derived.Test.YtmkkjiogokfnmaaDoorRows
import GoSem.ClaimSeven
namespace Go.Proofs.YtmkkjiogokfnmaaDoor
namespace Rows

/-- THE TIED CARD OF 'polyglotlaw11.SubscribeAnswers'. -/
def subscribeAnswersCard : Claim7 := { stood := { row := subscribeAnswersRow, standIns := [], harness := (true, "9926aefa7af4c2c7caef57b2c17d3a2ee9a2acc872702b5421aedb788001c894"), looks := false }, kinds := [], alts := [], laidByText := true, laidKinds := [.data, .pinned], laidTests := true, laidLooks := .later }
def SubscribeAnswersCardSaid : Prop := Claim7.holds Tryd.pinned (.plain (OpenSpec.ofChange subscribeAnswersSpec)) subscribeAnswersCard

/-- THE SECOND FORM's CARD OF 'polyglotlaw11.SubscribeAnswers'. -/
def subscribeAnswersUptoCard : Claim7 := { stood := { row := subscribeAnswersUptoRow, standIns := [], harness := (true, "9926aefa7af4c2c7caef57b2c17d3a2ee9a2acc872702b5421aedb788001c894"), looks := false }, kinds := [], alts := [], laidByText := true, laidKinds := [.data, .pinned], laidTests := true, laidLooks := .later }
def SubscribeAnswersUptoCardSaid : Prop := Claim7.holds Tryd.pinned (.plain (OpenSpec.upto subscribeAnswersSpec)) subscribeAnswersUptoCard
end Rows
end Go.Proofs.YtmkkjiogokfnmaaDoor
