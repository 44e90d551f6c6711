/-
  MstreamScript: for every input the law answers true, and its arguments read afterwards as they read before.
  No condition.
-/
import Derived.Test.YtbdgkkmbnahgiaaGreatDoorMfLMstreamScriptA
namespace Go.Proofs.YtbdgkkmbnahgiaaGreatDoor.mstreamScriptCard
open Go.ChangeShapes Go.WideShapes Go.ChangeAt Go.RowKit
theorem proved : Rows.MstreamScriptCardSaid :=
  Claim7.holds_tied_plain_at .later [] _ _ _ _ (show Rows.MstreamScriptSaid from over) (fun _ h => by cases h) (by as_aux_lemma => kernel_rfl) (fun _ h => by cases h) mstreamScript_row_tie rfl ⟨rfl, rfl⟩ (by as_aux_lemma => kernel_rfl) rfl plain (by as_aux_lemma => kernel_rfl)
#print axioms proved
end Go.Proofs.YtbdgkkmbnahgiaaGreatDoor.mstreamScriptCard
