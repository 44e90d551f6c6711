/- The law PropCalls: the walk. -/
import Derived.Test.YtmkkjiogokfnmaaDoorMRfB
import Derived.Test.YtmkkjiogokfnmaaDoorLex
import Derived.Test.YtmkkjiogokfnmaaDoorMPk
namespace Go.Proofs.YtmkkjiogokfnmaaDoor
open Go.RowKit
theorem Rd.grow {w : World} {k n : Nat} {A : Option Addr} {xs : List Value} (h : Rd w w.heap.size k A n xs) (o : Obj) : Rd (w.alloc o) (w.alloc o).heap.size k A n xs := (h.alloc (Nat.le_refl _) o).wider (by simp)
end Go.Proofs.YtmkkjiogokfnmaaDoor
