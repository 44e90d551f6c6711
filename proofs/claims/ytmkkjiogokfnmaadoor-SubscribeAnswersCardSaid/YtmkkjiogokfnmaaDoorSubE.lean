/- subscribe: the walk of option. -/
import Derived.Test.YtmkkjiogokfnmaaDoorSubD
import Derived.Test.YtmkkjiogokfnmaaDoorMLis
namespace Go.Proofs.YtmkkjiogokfnmaaDoor
open Go.RowKit
theorem op_ops : ∀ n : Fin 256, (bits BinOp.andNot IntKind.i64 (n.1 : Int) 63 != 0) = decide (63 < n.1) ∧ (bits BinOp.andNot IntKind.i64 (n.1 : Int) 3 != 0) = decide (3 < n.1) ∧
    bits BinOp.and IntKind.i64 (n.1 : Int) 3 = ((n.1 % 4 : Nat) : Int) ∧ bits BinOp.and IntKind.i64 ((n.1 : Int) / 16) 3 = ((n.1 / 16 % 4 : Nat) : Int) ∧
    (bits BinOp.and IntKind.i64 (n.1 : Int) 4 != 0) = decide (n.1 / 4 % 2 = 1) ∧ (bits BinOp.and IntKind.i64 (n.1 : Int) 8 != 0) = decide (n.1 / 8 % 2 = 1) := by decide +kernel
def fiCells (f : Fi) : Array Value := #[.string f.topic, .int .i64 f.qos, .bool f.noLocal, .bool f.asPub, .int .i64 f.handling]
theorem mods_four (w : World) (g gf : Nat) (x1 x4 x2 x3 : Value) : Mods (two g gf) w ((((w.setCell ⟨gf, 1, none⟩ x1).setCell ⟨gf, 4, none⟩ x4).setCell ⟨gf, 2, none⟩ x2).setCell ⟨gf, 3, none⟩ x3) :=
  ((((Mods.refl w).set gf 1 (.inl (.inr rfl)) _).set gf 4 (.inl (.inr rfl)) _).set gf 2 (.inl (.inr rfl)) _).set gf 3 (.inl (.inr rfl)) _
theorem fi_stores {w : World} {gf : Nat} {tp : ByteArray} (h : Bk w gf 35 (fiCells ⟨tp, 0, false, false, 0⟩)) (q hd : Int) (nl ap : Bool) :
    Bk ((((w.setCell ⟨gf, 1, none⟩ (.int .i64 q)).setCell ⟨gf, 4, none⟩ (.int .i64 hd)).setCell ⟨gf, 2, none⟩ (.bool nl)).setCell ⟨gf, 3, none⟩ (.bool ap)) gf 35 (fiCells ⟨tp, q, nl, ap, hd⟩) :=
  (((h.upd 1 (.int .i64 q) (cs' := fiCells ⟨tp, q, false, false, 0⟩) rfl).upd 4 (.int .i64 hd) (cs' := fiCells ⟨tp, q, false, false, hd⟩) rfl).upd 2 (.bool nl) (cs' := fiCells ⟨tp, q, nl, false, hd⟩) rfl).upd 3 (.bool ap) (cs' := fiCells ⟨tp, q, nl, ap, hd⟩) rfl
end Go.Proofs.YtmkkjiogokfnmaaDoor
