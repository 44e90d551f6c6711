/-
  The registry, walked: Clients: the names of those that have topics, sorted.
-/
import Derived.Test.YtjbpafkdbfbdlaaRwC
import Derived.Test.YtjbpafkdbfbdlaaRegQ
import Derived.Shelf.SlIter.Sorted
import Derived.Shelf.Sort.Plain
import Derived.Shelf.Slices.In.SortNone

namespace Go.Proofs.Ytjbpafkdbfbdlaa
open Go.RowKit Go.Maps Go.WideShapes Go.Shelf Go.Sort
/-- Names as they lie in a row. -/
def nmV (l : List ByteArray) : List Value := l.map fun s => Value.string s
theorem nmV_enc (l : List ByteArray) : (l.map fun s => s.data.toList).map encStr = nmV l := by
  unfold nmV
  rw [List.map_map]
  rfl
end Go.Proofs.Ytjbpafkdbfbdlaa
