/- A filter that came in, opened. -/
import Derived.Test.YtngnaenbnmajdaaGreatDoorOpen
import Derived.Test.YtngnaenbnmajdaaGreatDoorOpenK
namespace Go.Proofs.YtngnaenbnmajdaaGreatDoor
open Go.ChangeShapes Go.WideShapes Go.ChangeAt Go.RowKit Go.Deep
set_option maxRecDepth 100000

section
variable {H : Type} {enc : TypeId × Value → H} {w : World} {base : Nat} {spare : Nat → Bool} {held : Bool}
theorem open_filterV {r : Reach} {b0 : Nat} {v : Value} {d : DataW H} {ps : List MemPlace} (hval : Value.okWide Tryz.prog w r b0 40 v) (hd : DataW.Trod enc Tryz.prog w base spare held 40 v d ps) (hs : Sized Tryz.prog 40 d) :
    ∃ f : Fi, v = .agg #[.string f.topic, .int .i64 f.qos, .bool f.noLocal, .bool f.asPub, .int .i64 f.handling] ∧ f.topic.size ≤ 140737488351232 := by
  have hv : ∃ cs, v = .agg cs := by
    simp only [Value.okWide, show Tryz.prog.underlying 40 = _ from Tryz.underlying40] at hval
    obtain ⟨cs, h, _⟩ := hval
    exact ⟨cs, h⟩
  obtain ⟨cs, rfl⟩ := hv
  obtain ⟨fuel, hf⟩ := hd
  obtain ⟨f, h1, h2⟩ := open_fi hf hs
  refine ⟨f, ?_, h2⟩
  have h1 : cs.toList = (#[.string f.topic, .int .i64 f.qos, .bool f.noLocal, .bool f.asPub, .int .i64 f.handling] : Array Value).toList := h1
  rw [Array.toList_inj.1 h1]
end
end Go.Proofs.YtngnaenbnmajdaaGreatDoor
