/-
  connect: the walks of known, ours, alone, ranges.
  connect: the walks of ranges, Valid.
  connect: the walk of Valid.
  strings.Join: its contract of the shelf, the table laid; connect.put, data, tail.
  connect: the walk of Body, of a CONNACK; the law ConnectAnswers.
-/
import Derived.Test.YtmkkjiogokfnmaaGreatDoorScMPubA
import Derived.BigRegion
import Derived.Shelf.Strings.OnBuilder
namespace Go.Proofs.YtmkkjiogokfnmaaGreatDoor
open Go.RowKit Go.Shelf
/-- Properties' bytes, of V5. -/
def tail8 (v k : Int) (l : List Pr) : ByteArray := if v = 4 then ⟨#[]⟩ else ⟨(bytesS k l).1.toArray⟩
end Go.Proofs.YtmkkjiogokfnmaaGreatDoor

