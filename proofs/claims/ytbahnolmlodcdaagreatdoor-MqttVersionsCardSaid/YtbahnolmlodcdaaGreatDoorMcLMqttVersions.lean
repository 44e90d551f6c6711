/-
  MqttVersions: for every input the law answers true, and its arguments read afterwards as they read before.
  No condition.
-/
import Derived.Test.YtbahnolmlodcdaaGreatDoorMcMqV
import Derived.Test.YtbahnolmlodcdaaGreatDoorMcMPrp
import Derived.Test.YtbahnolmlodcdaaGreatDoorMcOpen
import Derived.Test.YtbahnolmlodcdaaGreatDoorMcOpenK
namespace Go.Proofs.YtbahnolmlodcdaaGreatDoor.mqttVersionsCard
open Go.ChangeShapes Go.WideShapes Go.ChangeAt Go.RowKit

theorem ok_params : (Tryz.f4.params.toList.all fun t => Tryz.prog.readableRec t && decide (t < Tryz.prog.types.size)) = true := by kernel_rfl

set_option maxRecDepth 100000 in
theorem lifted (os : Os) (started : os.Started) (H : Type) (enc : TypeId × Value → H) :
    ReturnsInHanded {} Tryz.checked os 4 .any (fun w args => (Rows.mqttVersionsSpec.pre enc Tryz.prog Tryz.f4 Rows.mqttVersionsRow.domain false w args ∧ laidMetH Tryz.prog Rows.mqttVersionsRow.laid w) ∧ sizedMet enc Tryz.prog Tryz.f4 (OpenSpec.ofChange Rows.mqttVersionsSpec) false w args) (Rows.mqttVersionsSpec.post enc Tryz.prog Tryz.f4 false true false false) := by
  refine returnsInHanded_of_change_and (C := Tryz.checked) (X := fun w _ => laidMetH Tryz.prog Rows.mqttVersionsRow.laid w) (fun _ _ _ hh h => h.of_heap hh) godebug_own started (by kernel_rfl) Tryz.func4
    (ChangeSpec.witness_at (enc := enc) (C := Tryz.checked) (os := os) (X := fun w _ => laidMetH Tryz.prog Rows.mqttVersionsRow.laid w) false (laidWorld os) #[(pkV pk0 hs0)] 8 rfl (by kernel_rfl) (by kernel_rfl) (by kernel_rfl) (by kernel_rfl) (by kernel_rfl) (laid_met os _)) ?_
  intro W base args ds gs before hval0 hW hcnd hsz0 hL _
  have hval : ∀ (j : Nat) t v, Tryz.f4.params[j]? = some t → args[j]? = some v → Value.okWide Tryz.prog W .any base t v := hval0
  have hW' := hW
  obtain ⟨p, q, hA0, hV, rfl, hfz, hnd⟩ := hW
  have hA : DataW.TrodAll enc Tryz.prog W 0 (fun _ => true) true Tryz.f4.params.toList args.toList ds p := hA0
  have hsz : (DataW.weightsEach Tryz.prog (Tryz.f4.params.toList ++ Rows.mqttVersionsSpec.plain.varTypes Tryz.prog) (ds ++ gs)).all (· ≤ reachBytes) = true := hsz0
  have hlt : ∀ x ∈ p ++ q, x.block < W.heap.size := fun x hx => by simpa using hW'.lt x hx
  rw [Tryz.params4] at hA hval hsz
  obtain ⟨v0, vs0, d0, ds0, p0, q0, hargs, rfl, rfl, h0, r0⟩ := trodAll_cons hA
  obtain ⟨rfl, rfl, rfl⟩ := trodAll_nil r0
  obtain rfl : args = #[v0] := by cases args; simp_all
  obtain ⟨rfl, rfl⟩ := trodVars_none hV
  have hp0 : ∀ x ∈ p0, x.block < W.heap.size := fun x hx => hlt x (by simp [hx])
  obtain ⟨P0, K0, rfl, in0, ok0⟩ := open_packet (hval 0 29 v0 rfl rfl) h0 (sized_at hsz (j := 0) rfl rfl) hp0
  clear hA0 hval0
  refine (mqttVersions_any P0 K0 W in0 ok0).mono fun e W' ⟨he, hg⟩ => ?_
  subst he
  exact ⟨_, rfl, law_post laid_out (all_ok ok_params) rfl (by kernel_rfl) Tryz.underlying4 hW' rfl hg⟩

theorem and2 {a b : Bool} (ha : a = true) (hb : b = true) : (a && b) = true := by rw [ha, hb]; rfl
set_option maxHeartbeats 8000000 in
theorem joined : joinedFacts Tryz.prog 4 Tryz.f4 Rows.mqttVersionsSpec Rows.mqttVersionsRow = true := by
  unfold joinedFacts
  repeat' (with_reducible refine and2 ?_ ?_)
  all_goals (as_aux_lemma => kernel_rfl)
theorem over : Rows.mqttVersionsRow.holds Tryz.pinned (OpenSpec.ofChange Rows.mqttVersionsSpec) :=
  OpenClaim.holds_of_wide 4 Tryz.f4 rfl rfl rfl rfl rfl rfl rfl ⟨rfl, rfl, rfl, rfl, rfl⟩ rfl rfl rfl rfl rfl (by kernel_rfl) Tryz.func4 joined
    (of_decide_eq_true (by kernel_rfl)) (by unfold Func.isWrapper; first | (rw [if_pos (by decide +kernel)]; kernel_rfl) | (rw [if_neg (by decide +kernel)]; exact ⟨rfl, rfl⟩))
    (fun os started H enc _ => lifted os started H enc)

theorem plain (f : FuncId) (fn : Func) (hf : Tryz.pinned.checked.prog.funcNamed "polyglot/polyglotlaw13.MqttVersions" = some f) (hfn : Tryz.pinned.checked.prog.funcs[f]? = some fn) :
    false = Tryz.pinned.checked.prog.looks [] ∧ ∀ (j : Nat) t, fn.params[j]? = some t → Tryz.pinned.checked.prog.wantsStandIn t = false := by
  obtain rfl : f = 4 := Option.some.inj ((show Tryz.prog.funcNamed "polyglot/polyglotlaw13.MqttVersions" = some 4 by kernel_rfl).symm.trans hf) |>.symm
  obtain rfl : fn = Tryz.f4 := (Option.some.inj (Tryz.func4.symm.trans hfn)).symm
  refine ⟨by kernel_rfl, fun j t ht => ?_⟩
  have hm : t ∈ Tryz.f4.params.toList := by simpa using Array.mem_of_getElem? ht
  have ha : (Tryz.f4.params.toList.all fun t => !Tryz.prog.wantsStandIn t) = true := by kernel_rfl
  have := List.all_eq_true.1 ha t hm
  show Tryz.prog.wantsStandIn t = false
  simpa using this
theorem proved : Rows.MqttVersionsCardSaid :=
  Claim7.holds_tied_plain_at .later [] _ _ _ _ (show Rows.MqttVersionsSaid from over) (fun _ h => by cases h) (by kernel_rfl) (fun _ h => by cases h) mqttVersions_row_tie rfl ⟨rfl, rfl⟩ (by kernel_rfl) rfl plain (by kernel_rfl)
#print axioms proved
end Go.Proofs.YtbahnolmlodcdaaGreatDoor.mqttVersionsCard
