/-
  LimitsCalls: for every input the law answers true, and its arguments read afterwards as they read before.
  No condition.
-/
import Derived.Test.YtafoknnjekegkaaGreatDoorLqG0MsK
namespace Go.Proofs.YtafoknnjekegkaaGreatDoor.limitsCallsCard
open Go.ChangeShapes Go.WideShapes Go.ChangeAt Go.RowKit
open Go.ChangeMaps (open_string)

theorem ok_params : (Tryz.f3.params.toList.all λt => Tryz.prog.readableRec t && decide (t < Tryz.prog.types.size)) = true := by kernel_rfl

set_option maxRecDepth 100000 in
theorem lifted (os : Os) (started : os.Started) (H : Type) (enc : TypeId × Value → H) :
    ReturnsInHanded {} Tryz.checked os 3 .any (λw args => (Rows.limitsCallsSpec.pre enc Tryz.prog Tryz.f3 Rows.limitsCallsRow.domain false w args ∧ laidMetH Tryz.prog Rows.limitsCallsRow.laid w) ∧ sizedMet enc Tryz.prog Tryz.f3 (OpenSpec.ofChange Rows.limitsCallsSpec) false w args) (Rows.limitsCallsSpec.post enc Tryz.prog Tryz.f3 false true false false) := by
  refine kK (C := Tryz.checked) (X := λw _ => laidMetH Tryz.prog Rows.limitsCallsRow.laid w) (λ_ _ _ hh h => h.of_heap hh) lF started (by kernel_rfl) Tryz.func3
    (qV (enc := enc) (C := Tryz.checked) (os := os) (X := λw _ => laidMetH Tryz.prog Rows.limitsCallsRow.laid w) false (l7 os) #[.int .i64 0, .agg #[.int .i64 0, .int .i64 0], (pkV pk0 hs0), .string ⟨#[]⟩, .slice none 0 0] 8 rfl (by kernel_rfl) (by kernel_rfl) (by kernel_rfl) (by kernel_rfl) (by kernel_rfl) (qu os _)) ?_
  intro W base args ds gs before hval0 hW hcnd hsz0 hL _
  have hval : ∀ (j : Nat) t v, Tryz.f3.params[j]? = some t → args[j]? = some v → Value.okWide Tryz.prog W .any base t v := hval0
  have hW' := hW
  obtain ⟨p, q, hA0, hV, rfl, hfz, hnd⟩ := hW
  have hA : DataW.TrodAll enc Tryz.prog W 0 (λ_ => true) true Tryz.f3.params.toList args.toList ds p := hA0
  have hsz : (DataW.weightsEach Tryz.prog (Tryz.f3.params.toList ++ Rows.limitsCallsSpec.plain.varTypes Tryz.prog) (ds ++ gs)).all (· ≤ reachBytes) = true := hsz0
  have hlt : ∀ x ∈ p ++ q, x.block < W.heap.size := λx hx => by simpa using hW'.lt x hx
  rw [Tryz.params3] at hA hval hsz
  obtain ⟨v0, vs0, d0, ds0, p0, q0, hargs, rfl, rfl, h0, r0⟩ := trodAll_cons hA
  obtain ⟨v1, vs1, d1, ds1, p1, q1, rfl, rfl, rfl, h1, r1⟩ := trodAll_cons r0
  obtain ⟨v2, vs2, d2, ds2, p2, q2, rfl, rfl, rfl, h2, r2⟩ := trodAll_cons r1
  obtain ⟨v3, vs3, d3, ds3, p3, q3, rfl, rfl, rfl, h3, r3⟩ := trodAll_cons r2
  obtain ⟨v4, vs4, d4, ds4, p4, q4, rfl, rfl, rfl, h4, r4⟩ := trodAll_cons r3
  obtain ⟨rfl, rfl, rfl⟩ := trodAll_nil r4
  obtain rfl : args = #[v0, v1, v2, v3, v4] := by cases args; simp_all
  obtain ⟨rfl, rfl⟩ := trodVars_none hV
  obtain ⟨a0, rfl, rfl, rfl, w0⟩ := open_int Tryz.underlying3 (hval 0 3 v0 rfl rfl) h0
  obtain ⟨M1, N1, rfl⟩ := te (hval 1 23 v1 rfl rfl) h1
  have hp2 : ∀ x ∈ p2, x.block < W.heap.size := λx hx => hlt x (by simp [hx])
  obtain ⟨P2, K2, rfl, in2, ok2⟩ := Vc (hval 2 30 v2 rfl rfl) h2 (sized_at hsz (j := 2) rfl rfl) hp2
  obtain ⟨a3, rfl, rfl, rfl, w3⟩ := open_string Tryz.underlying9 (hval 3 9 v3 rfl rfl) h3
  have hp4 : ∀ x ∈ p4, x.block < W.heap.size := λx hx => hlt x (by simp [hx])
  obtain ⟨A4, l4, c4, rfl, rd4, g4, n4, k4, m4⟩ := OI.open_intsV (hval 4 27 v4 rfl rfl) h4 (OI.sized_at hsz (j := 4) rfl rfl) hp4
  clear hA0 hval0
  refine (ab8 a0 M1 N1 P2 K2 a3 A4 l4 c4 W in2 ok2 rd4).mono λe W' ⟨he, hg⟩ => ?_
  subst he
  exact ⟨_, rfl, qr qt (xI ok_params) rfl (by kernel_rfl) Tryz.underlying4 hW' rfl hg⟩

theorem and2 {a b : Bool} (ha : a = true) (hb : b = true) : (a && b) = true := by rw [ha, hb]; rfl
set_option maxHeartbeats 8000000 in
theorem joined : joinedFacts Tryz.prog 3 Tryz.f3 Rows.limitsCallsSpec Rows.limitsCallsRow = true := by
  unfold joinedFacts
  repeat' (with_reducible refine and2 ?_ ?_)
  all_goals (as_aux_lemma => kernel_rfl)
theorem over : Rows.limitsCallsRow.holds Tryz.pinned (OpenSpec.ofChange Rows.limitsCallsSpec) :=
  OpenClaim.holds_of_wide 3 Tryz.f3 rfl rfl rfl rfl rfl rfl rfl ⟨rfl, rfl, rfl, rfl, rfl⟩ rfl rfl rfl rfl rfl (by kernel_rfl) Tryz.func3 joined
    (aR (by kernel_rfl)) (by unfold Func.isWrapper; first | (rw [if_pos (by decide +kernel)]; kernel_rfl) | (rw [Fl (by decide +kernel)]; exact ⟨rfl, rfl⟩))
    (λos started H enc _ => lifted os started H enc)

theorem plain (f : FuncId) (fn : Func) (hf : Tryz.pinned.checked.prog.funcNamed "polyglot/polyglotlaw15.LimitsCalls" = some f) (hfn : Tryz.pinned.checked.prog.funcs[f]? = some fn) :
    false = Tryz.pinned.checked.prog.looks [] ∧ ∀ (j : Nat) t, fn.params[j]? = some t → Tryz.pinned.checked.prog.wantsStandIn t = false := by
  obtain rfl : f = 3 := Option.some.inj ((show Tryz.prog.funcNamed "polyglot/polyglotlaw15.LimitsCalls" = some 3 by kernel_rfl).symm.trans hf) |>.symm
  obtain rfl : fn = Tryz.f3 := (Option.some.inj (Tryz.func3.symm.trans hfn)).symm
  refine ⟨by kernel_rfl, λj t ht => ?_⟩
  have hm : t ∈ Tryz.f3.params.toList := by simpa using qW ht
  have ha : (Tryz.f3.params.toList.all λt => !Tryz.prog.wantsStandIn t) = true := by kernel_rfl
  have := dL.1 ha t hm
  show Tryz.prog.wantsStandIn t = false
  simpa using this
theorem proved : Rows.LimitsCallsCardSaid :=
  Claim7.holds_tied_plain_at .later [] _ _ _ _ (show Rows.LimitsCallsSaid from over) (λ_ h => by cases h) (by as_aux_lemma => kernel_rfl) (λ_ h => by cases h) limitsCalls_row_tie rfl ⟨rfl, rfl⟩ (by as_aux_lemma => kernel_rfl) rfl plain (by as_aux_lemma => kernel_rfl)
#print axioms proved
end Go.Proofs.YtafoknnjekegkaaGreatDoor.limitsCallsCard
