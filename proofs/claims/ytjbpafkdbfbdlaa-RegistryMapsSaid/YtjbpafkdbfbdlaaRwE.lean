/-
  The registry, walked: maps.Values over a client's topics.
-/
import Derived.Test.YtjbpafkdbfbdlaaRwC
import Derived.RangeFuncNested
import Derived.RangeFuncBound
import Derived.RangeFuncCalls
import Derived.RangeFuncLeaves
import Derived.Shelf.AbstractIn
import Derived.Sort.MapsRangeIn
import Derived.WalkKit
import Derived.OwnWalkIn
import Derived.TacticsInMore
import Derived.RegionIn
import Derived.LoopNIn
import Derived.LoopIn

namespace Go.Proofs.Ytjbpafkdbfbdlaa
open Go.RowKit Go.Maps Go.WideShapes
/-- What has come of a client's topics, whatever the order. -/
def ColT (T : List Tp) (left : Lit → Bool) (ps : List Tp) : Prop := ps.Nodup ∧ (∀ t ∈ ps, t ∈ T) ∧ ∀ t ∈ T, (t ∈ ps ↔ left (.int .i64 (t.id : Int)) = false)
theorem tp_has {T : List Tp} {t : Tp} (ht : t ∈ T) : Maps.has (tpD (H := Nat) tpE T) (.int .i64 (t.id : Int)) = true := by
  rw [tpD_has]
  unfold tpAt
  rw [List.find?_isSome]
  exact ⟨t, ht, by simp⟩
theorem ColT.start (T : List Tp) : ColT T (Maps.has (tpD (H := Nat) tpE T)) [] := ⟨List.nodup_nil, (fun t ht => absurd ht (List.not_mem_nil)), fun t ht => (by rw [tp_has ht]; simp)⟩
theorem tp_come {T : List Tp} {x : Int} {y : DataW Nat} (hat : ∀ zd, (tpD (H := Nat) tpE T).atKey (.int .i64 x) zd = y) : ∃ t, tpAt T x = some t ∧ y = tpE t := by
  cases h : tpAt T x with
  | some t =>
    have := hat .nil
    rw [tpD_at, h] at this
    exact ⟨t, rfl, this.symm⟩
  | none =>
    have h1 := hat .nil
    have h2 := hat (.held 0)
    rw [tpD_at, h] at h1 h2
    rw [← h1] at h2
    cases h2
theorem ColT.step {T : List Tp} {left : Lit → Bool} {ps : List Tp} (h : ColT T left ps) (hu : TpUp T) {x : Int} {t : Tp} (ht : tpAt T x = some t) (hl : left (.int .i64 x) = true) : ColT T (fun z => left z && !z.sameKey (.int .i64 x)) (ps ++ [t]) := by
  obtain ⟨hm, rfl⟩ := tpAt_some ht
  have hn : t ∉ ps := fun hp => by
    have := (h.2.2 t hm).1 hp
    rw [hl] at this
    cases this
  refine ⟨List.nodup_append.2 ⟨h.1, by simp, fun a ha b hb => by simp at hb; subst hb; exact fun e => hn (e ▸ ha)⟩, fun u hu' => ?_, fun u hu' => ?_⟩
  · rcases List.mem_append.1 hu' with h1 | h1
    · exact h.2.1 u h1
    · simp at h1; rw [h1]; exact hm
  · rw [List.mem_append, h.2.2 u hu']
    simp only [sameKey_id]
    simp only [List.mem_singleton, Bool.and_eq_false_iff, Bool.not_eq_false', decide_eq_true_eq]
    constructor
    · rintro (h1 | h1)
      · exact .inl h1
      · exact .inr (by rw [h1])
    · rintro (h1 | h1)
      · exact .inl h1
      · exact .inr (hu.inj hu' hm (by omega))
theorem TpUp.nodup {T : List Tp} (hu : TpUp T) : T.Nodup := by
  unfold TpUp at hu
  exact hu.imp fun {a b} h e => by rw [e] at h; omega
theorem ColT.perm {T : List Tp} {left : Lit → Bool} {ps : List Tp} (h : ColT T left ps) (hu : TpUp T) (hl : ∀ kl, left kl = false) : ps.Perm T :=
  (List.perm_ext_iff_of_nodup h.1 hu.nodup).2 fun t => ⟨h.2.1 t, fun ht => (h.2.2 t ht).2 (hl _)⟩
theorem keyI {key : Value} {kl : Lit} (h : keyOf Try.prog 3 key = some kl) : ∃ x : Int, key = .int .i64 x ∧ kl = .int .i64 x := by
  have hk := Try.underlying3
  cases key <;> simp [keyOf, hk, mapKey] at h
  obtain ⟨⟨rfl, _⟩, rfl⟩ := h
  exact ⟨_, rfl, rfl⟩
set_option maxRecDepth 100000 in
set_option maxHeartbeats 2000000 in
theorem vals1_in (n : Nat) (hn : 1 ≤ n) (l Bm b nn : Nat) (T : List Tp) (hu : TpUp T) (J Jx : List Tp → World → Prop)
    (hY : ∀ pre x W, J pre W → pre.length < T.length → YieldAt Fence.wide (n - 1) Try.prog l #[tpV x] W fun e W' =>
      (e = .returned (.bool true) ∧ J (pre ++ [x]) W' ∧ KeepsWalks W W') ∨ (e = .returned (.bool false) ∧ Jx (pre ++ [x]) W'))
    (W : World) (hJ : AbidesFrom W.heap.size J) (hm : W.cell? ⟨Bm, 0, none⟩ = some (.map (some b))) (hown : W.ownsMap Try.prog 3 tpR b nn (tpD (H := Nat) tpE T)) (h0 : J [] W) :
    CallsIn Fence.wide n Try.prog 33 #[.func (.yield l) #[] #[], .pointer (some ⟨Bm, 0, none⟩)] W fun e W' => (∃ v, e = .returned v) ∧
      ((∃ xs, xs.Perm T ∧ J xs W') ∨ (∃ pre, True ∧ Jx pre W')) := by
  refine callsIn_of_wp Try.func33 rfl trivial ?_ rfl
  simp only [Try.ntmps33, List.size_toArray, List.length_cons, List.length_nil, Nat.reduceAdd, Nat.reduceSub, Array.replicate_succ, Array.replicate_zero, List.push_toArray, List.append_toArray, List.nil_append, List.cons_append]
  gi_wp2_with (first
    | (gi_at_range; refine wpListIn_range_own _ rfl _ 55 rfl 3 39 lawI Try.underlying55 tpR b nn _ rfl hown ?_; intro w0 hrg0 hg0 hs0)
    | gi_in)
  go_frame
  gi_loopw [4] (fun _ wr => ∃ (left : Lit → Bool) (cnt : Nat) (ps : List Tp), wr.ranges Try.prog 3 tpR b W.heap.size nn (tpD (H := Nat) tpE T) left cnt ∧ ps.length + cnt ≤ T.length ∧ ColT T left ps ∧ J ps wr)
    (fun _ wr => wr.rangeLeft b W.heap.size)
  case atStart =>
    exact ⟨_, _, [], hrg0, by rw [tpD_size]; simp, ColT.start T, hJ [] W w0 none h0 hg0 (fun r e => by cases e)⟩
  case round =>
    obtain ⟨left, cnt, ps, hrg, hcs, hC, hJs⟩ := hrel
    gi_wp2_with (first
      | (gi_at_next; refine wpListIn_next_ranges _ rfl _ rfl 3 lawI tpR (Value.int .i64) id (fun key kl hk => by obtain ⟨x, hx, _⟩ := keyI hk; exact ⟨x, hx⟩) (fun v _ _ => ⟨v, rfl⟩) b W.heap.size nn _ _ _ rfl hrg ?_ ?_)
      | gi_in)
    · intro hc0 hl0
      gi_wp2
      go_end0
      exact ⟨⟨_, rfl⟩, .inl ⟨ps, hC.perm hu hl0, hJs⟩⟩
    · intro x c kl yd yp w2 cnt2 hkey hlk hv hat hrg2 hlt hg2 hs2 hen
      obtain ⟨x', ex, rfl⟩ := keyI hkey
      obtain rfl : x = x' := by injection ex
      obtain ⟨t, ht, rfl⟩ := tp_come hat
      obtain rfl : c = tpV t := tpR_inv hv
      have hJ2 : J ps w2 := hJ ps wr w2 (some W.heap.size) hJs hg2 (fun r e => by cases e; exact ⟨Nat.le_refl _, hrg.iter_walk⟩)
      have hJ3 : J ps (w2.alloc (.cells #[.int .i64 (t.id : Int), .string t.name, .bool t.fixed] 39)) := hJ ps w2 _ none hJ2 (World.grownBy_alloc _ _ _) (fun r e => by cases e)
      obtain ⟨fn, tmps, assign, body, hy, hR⟩ := hY ps t _ hJ3 (by omega)
      unfold tpV at hy hen
      have hC2 := hC.step hu ht hlk
      clear hs2
      gi_wp2
      refine hR.mono ?_
      rintro e W3 (⟨rfl, hJ4, hk3⟩ | ⟨rfl, hJx3⟩)
      · gi_wp2
        have hrg3 := (hrg2.alloc _).of_walks hk3
        go_roundw
        case rel => exact ⟨_, cnt2, ps ++ [t], hrg3, by simp; omega, hC2, hJ4⟩
        case measure => rw [hrg3.left_eq, hrg.left_eq]; exact hlt
      · gi_wp2
        refine bodyPost_ret (results_none rfl _ _ _) rfl ?_
        exact ⟨⟨_, rfl⟩, .inr ⟨ps ++ [t], trivial, hJx3⟩⟩
set_option maxHeartbeats 1000000 in
/-- maps.Values: the map is boxed; the function value captures the box. -/
theorem vals_in (n : Nat) (mb : Option Nat) (w : World) :
    CallsIn Fence.wide n Try.prog 20 #[.map mb] w fun e w' => e = .returned (.func (.func 33) #[] #[.pointer (some ⟨w.heap.size, 0, none⟩)]) ∧ w' = w.alloc (.cells #[.map mb] 55) := by
  refine callsIn_of_wp Try.func20 rfl trivial ?_ rfl
  simp only [Try.ntmps20, List.size_toArray, List.length_cons, List.length_nil, Nat.reduceAdd, Nat.reduceSub, Array.replicate_succ, Array.replicate_zero, List.push_toArray, List.append_toArray, List.nil_append, List.cons_append]
  gi_wp2
  go_ret
  exact ⟨rfl, rfl⟩
theorem vals_stops (n : Nat) (hn : 1 ≤ n) (Bm b nn : Nat) (T : List Tp) (hu : TpUp T) (w : World) (hBm : Bm < w.heap.size) (hm : w.cell? ⟨Bm, 0, none⟩ = some (.map (some b))) (hown : w.ownsMap Try.prog 3 tpR b nn (tpD (H := Nat) tpE T)) :
    SeqStopsK Fence.wide n Try.prog 33 #[.pointer (some ⟨Bm, 0, none⟩)] (fun x => #[tpV x]) KeepsWalks (fun xs => xs.Perm T) (fun _ => True) T.length w := fun l J Jx W hW hJ _ hY h0 => by
  have hown' : W.ownsMap Try.prog 3 tpR b nn (tpD (H := Nat) tpE T) := ownsMap_keep _ hown (hW.block b hown.lt)
  exact vals1_in n hn l Bm b nn T hu J Jx hY W hJ ((hW.cell (p := ⟨Bm, 0, none⟩) hBm).trans hm) hown' h0
end Go.Proofs.Ytjbpafkdbfbdlaa
