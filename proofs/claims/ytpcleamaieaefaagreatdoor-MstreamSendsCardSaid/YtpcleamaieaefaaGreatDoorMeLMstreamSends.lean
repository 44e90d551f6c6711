/-
  MstreamSends: for every input the law answers true, and its arguments read afterwards as they read before.
  No condition.
-/
import Derived.Test.YtpcleamaieaefaaGreatDoorMeG1MsS
import Derived.Test.YtpcleamaieaefaaGreatDoorMeLMstreamSendsA
namespace Go.Proofs.YtpcleamaieaefaaGreatDoor.mstreamSendsCard
open Go.ChangeShapes Go.WideShapes Go.ChangeAt Go.RowKit

theorem ok_params : (Tryz.f6.params.toList.all fun t => Tryz.prog.readableRec t && decide (t < Tryz.prog.types.size)) = true := by kernel_rfl

set_option maxRecDepth 100000 in
theorem lifted (os : Os) (started : os.Started) (H : Type) (enc : TypeId × Value → H) :
    ReturnsInHanded {} Tryz.checked os 6 .any (fun w args => (Rows.mstreamSendsSpec.pre enc Tryz.prog Tryz.f6 Rows.mstreamSendsRow.domain false w args ∧ laidMetH Tryz.prog Rows.mstreamSendsRow.laid w) ∧ sizedMet enc Tryz.prog Tryz.f6 (OpenSpec.ofChange Rows.mstreamSendsSpec) false w args) (Rows.mstreamSendsSpec.post enc Tryz.prog Tryz.f6 false true false false) := by
  refine kK (C := Tryz.checked) (X := fun w _ => laidMetH Tryz.prog Rows.mstreamSendsRow.laid w) (fun _ _ _ hh h => h.of_heap hh) lF started (by kernel_rfl) Tryz.func6
    (qV (enc := enc) (C := Tryz.checked) (os := os) (X := fun w _ => laidMetH Tryz.prog Rows.mstreamSendsRow.laid w) false (l7 os) #[.int .i64 0, .slice none 0 0] 8 rfl (by kernel_rfl) (by kernel_rfl) (by kernel_rfl) (by kernel_rfl) (by kernel_rfl) (qu os _)) ?_
  intro W base args ds gs before hval0 hW hcnd hsz0 hL _
  have hval : ∀ (j : Nat) t v, Tryz.f6.params[j]? = some t → args[j]? = some v → Value.okWide Tryz.prog W .any base t v := hval0
  have hW' := hW
  obtain ⟨p, q, hA0, hV, rfl, hfz, hnd⟩ := hW
  have hA : DataW.TrodAll enc Tryz.prog W 0 (fun _ => true) true Tryz.f6.params.toList args.toList ds p := hA0
  have hsz : (DataW.weightsEach Tryz.prog (Tryz.f6.params.toList ++ Rows.mstreamSendsSpec.plain.varTypes Tryz.prog) (ds ++ gs)).all (· ≤ reachBytes) = true := hsz0
  have hlt : ∀ x ∈ p ++ q, x.block < W.heap.size := fun x hx => by simpa using hW'.lt x hx
  rw [Tryz.params6] at hA hval hsz
  obtain ⟨v0, vs0, d0, ds0, p0, q0, hargs, rfl, rfl, h0, r0⟩ := trodAll_cons hA
  obtain ⟨v1, vs1, d1, ds1, p1, q1, rfl, rfl, rfl, h1, r1⟩ := trodAll_cons r0
  obtain ⟨rfl, rfl, rfl⟩ := trodAll_nil r1
  obtain rfl : args = #[v0, v1] := by cases args; simp_all
  obtain ⟨rfl, rfl⟩ := trodVars_none hV
  obtain ⟨a0, rfl, rfl, rfl, w0⟩ := open_int Tryz.underlying3 (hval 0 3 v0 rfl rfl) h0
  have hp1 : ∀ x ∈ p1, x.block < W.heap.size := fun x hx => hlt x (by simp [hx])
  obtain ⟨A1, l1, c1, rfl, rd1, ok1⟩ := Lz (hval 1 48 v1 rfl rfl) h1 (sized_at hsz (j := 1) rfl rfl) hp1
  clear hA0 hval0
  refine (JJ a0 A1 l1.length c1 l1 W rd1 ok1).mono fun e W' ⟨he, hg⟩ => ?_
  subst he
  exact ⟨_, rfl, qr qt (xI ok_params) rfl (by kernel_rfl) Tryz.underlying4 hW' rfl hg⟩

theorem over : Rows.mstreamSendsRow.holds Tryz.pinned (OpenSpec.ofChange Rows.mstreamSendsSpec) :=
  OpenClaim.holds_of_wide 6 Tryz.f6 rfl rfl rfl rfl rfl rfl rfl ⟨rfl, rfl, rfl, rfl, rfl⟩ rfl rfl rfl rfl rfl (by kernel_rfl) Tryz.func6 joined
    (aR (by kernel_rfl)) (by unfold Func.isWrapper; first | (rw [if_pos (by decide +kernel)]; kernel_rfl) | (rw [ae (by decide +kernel)]; exact ⟨rfl, rfl⟩))
    (fun os started H enc _ => lifted os started H enc)

theorem proved : Rows.MstreamSendsCardSaid :=
  Claim7.holds_tied_plain_at .later [] _ _ _ _ (show Rows.MstreamSendsSaid from over) (fun _ h => by cases h) (by kernel_rfl) (fun _ h => by cases h) mstreamSends_row_tie rfl ⟨rfl, rfl⟩ (by kernel_rfl) rfl plain (by kernel_rfl)
#print axioms proved
end Go.Proofs.YtpcleamaieaefaaGreatDoor.mstreamSendsCard
