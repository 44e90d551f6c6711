/- Reference 10: Read. -/
import Derived.Test.YtmkkjiogokfnmaaDoorMRft
import Derived.Test.YtmkkjiogokfnmaaDoorOrdD
namespace Go.Proofs.YtmkkjiogokfnmaaDoor
open Go.RowKit
attribute [local go_sem ↓] to_ldPk to_bxPk to_bdPk to_alPk to_stPk
attribute [local go_sem] run_bxPk run_bxPk_agg ld_fresh run_alPk run_bd0 run_bdK run_bdKI run_bdKIC run_bdKC run_bdKICP run_stPk_fresh pkC_0 pkC_1 pkC_2 pkC_3 pkC_4 pkC_5 pkC_6 pkC_7 pkC_8 pkC_9 pkC_10 pkC_11 pkC_12 pkC_13 pkC_14 pkC_15 pkC_16 pkC_17 pkC_18 pkC_19 pkC_20 pkC_21 pkC_22 pkC_23 pkC_24

section
variable {w x y : World} {g gp gc : Nat} {k i c : Int} {l : List Pr} {A : Option Addr} {n : Nat} {t : ByteArray} {a a' : Nat} {e e' : Int}
theorem pk_put {w : World} {g : Nat} {k i c : Int} {l : List Pr} {A : Option Addr} {n : Nat} (h : Bk w g PkT (pkC (ackR1 k i 0 []) hs0)) : Bk ((w.setCell ⟨g, 21, .none⟩ (.int .i64 c)).setCell ⟨g, 24, .none⟩ (.slice A l.length n)) g PkT (pkC (ackR1 k i c l) { hs0 with props := ⟨A, n⟩ }) :=
  (h.upd 21 (.int .i64 c) (pk_code k i 0 c [] hs0)).upd 24 _ (pk_props k i c [] l A n hs0)
end
/-- A packet that has no codes, no filters stays while a block without numbers of 32 bits goes. -/
theorem PkIn.other_blk {w w' : World} {g : Nat} {p : Pk} {h : Hs} {t : TypeId} {cs : Array Value} (hi : PkIn w w.heap.size p h) (h1 : p.codes = []) (h2 : p.filters = []) (hb : Bk w g t cs) (hcs : ∀ (i : Nat) (n : Int), cs[i]? ≠ some (Value.int IntKind.u32 n)) (hm : w.grownBy w' (some g)) : PkIn w' w'.heap.size p h :=
  ⟨(hi.wp.other hb hcs hm (Nat.le_refl _)).wider hm.size, (hi.codes.grown hm (Nat.le_refl _) (fun _ _ _ hx => absurd (by rw [h1]; rfl) hx)).wider hm.size,
    (hi.filters.grown hm (Nat.le_refl _) (fun _ _ _ hx => absurd (by rw [h2]; rfl) hx)).wider hm.size, (hi.props.other hb hcs hm (Nat.le_refl _)).wider hm.size, hi.caps⟩
theorem doneR_lists {p : Pk} {t : ByteArray} {a : Nat} {e x : Int} (h1 : p.codes = []) (h2 : p.filters = []) : (doneR p t a e x).1.codes = [] ∧ (doneR p t a e x).1.filters = [] := by
  unfold doneR
  split
  · exact ⟨rfl, rfl⟩
  · exact ⟨h1, h2⟩
end Go.Proofs.YtmkkjiogokfnmaaDoor
