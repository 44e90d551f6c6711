/-
  Reference 07: lists that are the same, versions, kinds, flags, tails, properties.
  Reference 07: packets that are the same.
-/
import Derived.Test.YtmkkjiogokfnmaaDoorRfM
import Derived.Test.YtmkkjiogokfnmaaDoorMPubA
import Derived.Test.YtmkkjiogokfnmaaDoorMAck
import Derived.Test.YtmkkjiogokfnmaaDoorMTai
import Derived.Deep.DeepCutAuto
import Derived.Deep.RegionHeld3

namespace Go.Proofs.YtmkkjiogokfnmaaDoor
open Go.RowKit
/-- Properties' bytes; of 3.1.1 none. -/
def tailB (v kind : Int) (l : List Pr) : ByteArray := if v = 4 then ⟨#[]⟩ else ⟨(bytesS kind l).1.toArray⟩
/-- What is wrong with properties; of 3.1.1 any. -/
def rightE (v kind : Int) (l : List Pr) : Int := if v = 4 then (if 0 < l.length then 2 else 0) else (bytesS kind l).2
/-- What the reading of properties by a cursor finds: the list, the place, the error. -/
def propsC (v kind : Int) (t : ByteArray) (a : Nat) (e : Int) : List Pr × Nat × Int :=
  if v = 4 ∨ e ≠ 0 then ([], a, e) else ((readP kind (t.extract a t.size)).1, a + (readP kind (t.extract a t.size)).2.1, (readP kind (t.extract a t.size)).2.2)
theorem readP_at (kind : Int) (s : ByteArray) : (readP kind s).2.1 ≤ s.size := by
  by_cases h : (readP kind s).2.2 = 0
  · exact (readP_back (kind := kind) (s := s) (l := (readP kind s).1) (n := (readP kind s).2.1) (by rw [← h])).2.2
  · rw [readP_bad h]; exact Nat.zero_le _
theorem rcur_no32 (t : ByteArray) (a : Nat) (e : Int) : ∀ (i : Nat) (n : Int), (curC t a e)[i]? ≠ some (Value.int IntKind.u32 n) := cur_no32 t a e
end Go.Proofs.YtmkkjiogokfnmaaDoor

namespace Go.Proofs.YtmkkjiogokfnmaaDoor
open Go.RowKit
attribute [local go_sem ↓] to_ldPk to_bxPk to_bdPk to_alPk to_stPk
attribute [local go_sem] run_bxPk run_bxPk_agg ld_fresh run_alPk run_bd0 run_bdK run_bdKI run_bdKIC run_bdKC run_bdKICP run_stPk_fresh pkC_0 pkC_1 pkC_2 pkC_3 pkC_4 pkC_5 pkC_6 pkC_7 pkC_8 pkC_9 pkC_10 pkC_11 pkC_12 pkC_13 pkC_14 pkC_15 pkC_16 pkC_17 pkC_18 pkC_19 pkC_20 pkC_21 pkC_22 pkC_23 pkC_24

theorem two_fresh (W : World) (t : TypeId) (a b : Array Value) : Bk ((W.alloc (.cells a t)).alloc (.cells b t)).drew W.heap.size t a ∧ Bk ((W.alloc (.cells a t)).alloc (.cells b t)).drew (W.heap.size + 1) t b ∧ Below W.heap.size W ((W.alloc (.cells a t)).alloc (.cells b t)).drew := by
  refine ⟨((Bk.fresh W t a).alloc _).drewN 1, ?_, below_drawn (((Below.refl _ _).alloc (Nat.le_refl _) _).alloc (by simp) _) 1⟩
  have h := (Bk.fresh (W.alloc (.cells a t)) t b).drewN 1
  rw [heap_alloc_sz] at h
  exact h
theorem wl_cells {w : World} {g : Nat} {x : Wl} {h : Hd} (b : Bk w g WlT (wlC x h)) : w.cell? ⟨g, 0, none⟩ = some (.string x.topic) ∧ w.cell? ⟨g, 1, none⟩ = some (.string x.payload) ∧ w.cell? ⟨g, 2, none⟩ = some (.int .i64 x.qos) ∧ w.cell? ⟨g, 3, none⟩ = some (.bool x.retain) ∧ w.cell? ⟨g, 4, none⟩ = some (.slice h.a x.props.length h.c) :=
  ⟨b.cell 0, b.cell 1, b.cell 2, b.cell 3, b.cell 4⟩
end Go.Proofs.YtmkkjiogokfnmaaDoor
