/-
  The registry, walked: slices.Collect of a client's topics.
-/
import Derived.Test.YtjbpafkdbfbdlaaRwE
import Derived.RangeFuncBox
import Derived.Maps.AppendAt

namespace Go.Proofs.Ytjbpafkdbfbdlaa
open Go.RowKit Go.Maps Go.WideShapes
attribute [local go_sem] Oper.semAt_some
theorem reg_info_tp : (Try.prog.info? 39).map (fun i => (i.zero, i.size, i.bytes)) = some (some (tpV tp0), 3, 32) := by kernel_rfl
theorem cell_tp_new (w : World) (x : Tp) (t : TypeId) : ∀ j u, (tpC x)[j]? = some u → (w.alloc (.cells #[.int .i64 (x.id : Int), .string x.name, .bool x.fixed] t)).cell? ((⟨w.heap.size, 0, none⟩ : Addr).add j) = some u := by
  intro j u h
  have := (Bk.fresh w t #[.int .i64 (x.id : Int), .string x.name, .bool x.fixed]).cell j
  rw [Addr.add_lit, Nat.zero_add, this, ← h]
  simp [tpC]
theorem tpC_one (x : Tp) : ∀ u ∈ tpC x, u.oneCell' = true := by
  intro u hu
  simp only [tpC, List.mem_cons, List.not_mem_nil, or_false] at hu
  rcases hu with rfl | rfl | rfl <;> rfl
/-- A topic in a box of its own. -/
def BxT (W : World) (B : Nat) (x : Tp) : Prop := Bk W B 39 #[.int .i64 (x.id : Int), .string x.name, .bool x.fixed]
theorem bxt_own (B : Nat) (x : Tp) : Own (fun (_ : Unit) W => BxT W B x) := fun s X Y row hs hg hrow =>
  (hg.block B hs.lt fun e' => by obtain ⟨o, ho, hc⟩ := hrow B e'.symm; rw [show X.heap[B]? = _ from hs] at ho; cases ho; cases hc).trans hs
set_option maxRecDepth 100000 in
set_option maxHeartbeats 4000000 in
theorem aseq_in (n : Nat) (hn : 3 ≤ n) (gf : Nat) (lb : Array Value) (eg : ∀ args w, (callFunc gf args).run Try.prog w = .ok (.enter gf args) w) (T : List Tp) (hT : T.length < 1000000000) (w : World)
    (hseq : SeqStopsK Fence.wide (n - 1) Try.prog gf lb (fun x => #[tpV x]) KeepsWalks (fun xs => xs.Perm T) (fun _ => True) T.length w) :
    CallsIn Fence.wide n Try.prog 32 #[.slice none 0 0, .func (.func gf) #[] lb] w fun e W' => ∃ v xs, e = .returned v ∧ xs.Perm T ∧ W'.ownsRow w.heap.size 39 3 v xs.length (tpCs xs) ∧ (v = .slice none 0 0 ↔ xs = []) ∧ Below w.heap.size w W' := by
  have h1 : 1 ≤ n := by omega
  obtain ⟨i0, hi, hz0, hz1, hz2⟩ := info_parts reg_info_tp
  refine callsIn_of_wp_marks Try.func32 rfl trivial ?_ rfl
  simp only [Try.ntmps32, List.size_toArray, List.length_cons, List.length_nil, Nat.reduceAdd, Nat.reduceSub, Array.replicate_succ, Array.replicate_zero, List.push_toArray, List.append_toArray, List.nil_append, List.cons_append]
  gi_wp2
  have bO := Boxed.new w 29 (.slice none 0 0)
  have hB0 : Below w.heap.size w (w.alloc (.cells #[.slice none 0 0] 29)) := (Below.refl _ w).alloc (Nat.le_refl _) _
  refine wpIn_rangeFunc_ownH rfl h1 (gf := gf) (lb := lb) rfl trivial eg hseq walksK_t walksK_b hB0 (fun _ => rfl)
    (fun pre W => (∃ v, Boxed W w.heap.size 29 v ∧ W.ownsRow w.heap.size 39 3 v pre.length (tpCs pre) ∧ (v = .slice none 0 0 ↔ pre = [])) ∧ Below w.heap.size w W)
    (fun _ _ _ => False)
    (OwnFrom.and (Own.from (holdsRow_own w.heap.size w.heap.size 29 39 3 (fun pre => pre.length) (fun pre => tpCs pre) (fun pre v => v = .slice none 0 0 ↔ pre = [])) _) (ownFrom_below (Nat.le_refl _) (by simp)))
    (fun _ _ _ _ _ hs _ _ => hs)
    ⟨⟨_, bO, World.ownsRow_nil _ _ _ _, by simp⟩, hB0⟩
    (fun x a' W => ∃ Bx, w.heap.size < Bx ∧ BxT W Bx x ∧ a' = { tmps := #[.slice none 0 0, .func (.func gf) #[] lb, .pointer (some ⟨w.heap.size, 0, none⟩), undef, .slice none 0 0, .pointer (some ⟨Bx, 0, none⟩), .func (.func gf) #[] lb, tpV x, undef, undef, undef, undef, undef], defers := [] })
    (fun x a' _ X Y row hs hg hr => by obtain ⟨Bx, h1, h2, h3⟩ := hs; exact ⟨Bx, h1, bxt_own Bx x () X Y row h2 hg (fun r e => (hr r e).2), h3⟩)
    ?assign ?body ?done ?stop
  case assign =>
    rintro l pre x W K ⟨⟨v, hv, hrow, hnil⟩, hB⟩ hK
    unfold tpV at hK ⊢
    gi_wp2
    exact hK _ _ ((KeepsOthers.alloc _ _).from _) (KeepsWalks.alloc _ _) ⟨⟨v, hv.alloc _, hrow.alloc _, hnil⟩, hB.alloc hB.size _⟩ ⟨W.heap.size, hv.lt, Bk.fresh _ _ _, rfl⟩
  case body =>
    rintro l pre x a' W hl _ ⟨⟨v, hv, hrow, hnil⟩, hB⟩ ⟨Bx, hBx, bX, rfl⟩ hlt
    have hc := hv.cell
    have hx := (show Bk W Bx _ _ from bX).three.1
    gi_wp2_with (gi_at_builtin; refine wpListIn_append_own _ rfl _ _ 29 rfl w.heap.size 39 i0 (tpV tp0) 3 32 Try.underlying29 hi hz0 hz1 hz2 rfl (by decide) _ _ _ rfl (hrow.alloc _) ⟨W.heap.size, 0, none⟩ 1 1 (tpC x) rfl rfl (cell_tp_new _ _ _) (tpC_one x) (by unfold maxLen; omega) (by omega) (by have := hB.size; simp; omega) ?_; intro v' w1 hown' hgrow _; obtain ⟨g', cap', rfl⟩ := ownsRow_succ hown'; obtain ⟨hv1, hv2, hr2, hk2, hb2⟩ := hv.appended (by decide) hrow hB.size (Nat.le_refl _) hown' hgrow; have hc1 := hv1.cell; have hf1 := hv1.frozen)
    exact ⟨hk2.from _, ⟨hk2.size, fun k o hk ho => hk2.same k o hk (Obj.not_cells_of_walk ho)⟩, ⟨_, hv2, by rw [List.length_append, tpCs_app, show tpCs [x] = tpC x by simp [tpCs]]; exact hr2, by simp⟩, hB.trans hb2⟩
  case done =>
    rintro Dd D W hD hS ⟨⟨v, hv, hrow, hnil⟩, hB⟩ hK
    have hc := hv.cell
    gi_wp2
    refine ⟨by simp, .inl ⟨_, _, rfl, run_takeDeferred hK, ?_⟩⟩
    exact ⟨_, results_tmp rfl _ _ _, v, D, rfl, hS, ownsRow_putObj hrow _ hK rfl, hnil, hB.trans (belowK_b (w := w) (Nat.le_refl _) W _ _ _ (by simp at hD; omega) hK rfl rfl)⟩
  case stop =>
    rintro D c pre W _ _ h _
    exact h.elim
set_option maxHeartbeats 1000000 in
theorem collect_in (n : Nat) (hn : 4 ≤ n) (gf : Nat) (lb : Array Value) (eg : ∀ args w, (callFunc gf args).run Try.prog w = .ok (.enter gf args) w) (T : List Tp) (hT : T.length < 1000000000) (w : World)
    (hseq : SeqStopsK Fence.wide (n - 1 - 1) Try.prog gf lb (fun x => #[tpV x]) KeepsWalks (fun xs => xs.Perm T) (fun _ => True) T.length w) :
    CallsIn Fence.wide n Try.prog 19 #[.func (.func gf) #[] lb] w fun e W' => ∃ v xs, e = .returned v ∧ xs.Perm T ∧ W'.ownsRow w.heap.size 39 3 v xs.length (tpCs xs) ∧ (v = .slice none 0 0 ↔ xs = []) ∧ Below w.heap.size w W' := by
  have h1 : 1 ≤ n := by omega
  have hf : Fence.wide.fn 32 := trivial
  refine callsIn_of_wp Try.func19 rfl trivial ?_ rfl
  simp only [Try.ntmps19, List.size_toArray, List.length_cons, List.length_nil, Nat.reduceAdd, Nat.reduceSub, Array.replicate_succ, Array.replicate_zero, List.push_toArray, List.append_toArray, List.nil_append, List.cons_append]
  gi_wp2_with (gi_at_call 32; refine (aseq_in (n - 1) (by omega) gf lb eg T hT _ hseq).mono ?_; rintro e W ⟨v, xs, rfl, hS, hrow, hnil, hb⟩)
  go_ret
  exact ⟨v, xs, rfl, hS, hrow, hnil, hb⟩
/-- maps.Values, then slices.Collect: a new slice of the topics, in some order. -/
theorem vcollect_any (b nn : Nat) (T : List Tp) (hu : TpUp T) (hT : T.length < 1000000000) (w : World) (hown : w.ownsMap Try.prog 3 tpR b nn (tpD (H := Nat) tpE T)) :
    Calls Try.prog 19 #[.func (.func 33) #[] #[.pointer (some ⟨w.heap.size, 0, none⟩)]] (w.alloc (.cells #[.map (some b)] 55)) fun e W' => ∃ v xs, e = .returned v ∧ xs.Perm T ∧ W'.ownsRow w.heap.size 39 3 v xs.length (tpCs xs) ∧ (v = .slice none 0 0 ↔ xs = []) ∧ Below w.heap.size w W' := by
  refine (callsIn_wide (n := 8)).1 ((collect_in 8 (by omega) _ _ (enters_of Try.func33 (by kernel_rfl) rfl) T hT _ (vals_stops 6 (by omega) w.heap.size b nn T hu _ (by simp) ((Bk.fresh w _ _).cell 0) (hown.alloc _))).mono ?_)
  rintro e W ⟨v, xs, rfl, hS, hrow, hnil, hb⟩
  refine ⟨v, xs, rfl, hS, own_wider hrow (by simp), hnil, ((Below.refl _ w).alloc (Nat.le_refl _) _).trans (hb.mono (by simp))⟩
theorem vals_any (b : Option Nat) (w : World) : Calls Try.prog 20 #[.map b] w fun e w' => e = .returned (.func (.func 33) #[] #[.pointer (some ⟨w.heap.size, 0, none⟩)]) ∧ w' = w.alloc (.cells #[.map b] 55) :=
  (callsIn_wide (n := 8)).1 (vals_in 8 b w)
end Go.Proofs.Ytjbpafkdbfbdlaa
