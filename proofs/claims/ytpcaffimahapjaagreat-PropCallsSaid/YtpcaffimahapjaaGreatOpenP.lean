/- A property that came in, opened. -/
import Derived.Test.YtpcaffimahapjaaGreatOpen
import Derived.Test.YtpcaffimahapjaaGreatOpenK
namespace Go.Proofs.YtpcaffimahapjaaGreat
open Go.ChangeShapes Go.WideShapes Go.ChangeAt Go.RowKit Go.Deep
set_option maxRecDepth 100000

section
variable {H : Type} {enc : TypeId × Value → H} {w : World} {base : Nat} {spare : Nat → Bool} {held : Bool}
theorem open_propV {r : Reach} {b0 : Nat} {v : Value} {d : DataW H} {ps : List MemPlace} (hval : Value.okWide Tryz.prog w r b0 24 v) (hd : DataW.Trod enc Tryz.prog w base spare held 24 v d ps) (hs : Sized Tryz.prog 24 d) :
    ∃ p : Pr, v = p.val ∧ prGood p := by
  have hv : ∃ cs, v = .agg cs := by
    simp only [Value.okWide, show Tryz.prog.underlying 24 = _ from Tryz.underlying24] at hval
    obtain ⟨cs, h, _⟩ := hval
    exact ⟨cs, h⟩
  obtain ⟨cs, rfl⟩ := hv
  obtain ⟨fuel, hf⟩ := hd
  obtain ⟨p, h1, h2⟩ := open_prop hf hs
  refine ⟨p, ?_, h2⟩
  have h1 : cs.toList = (#[.int .i64 p.id, .int .u32 p.n, .string p.text, .string p.value] : Array Value).toList := h1
  rw [Pr.val, Array.toList_inj.1 h1]
end
end Go.Proofs.YtpcaffimahapjaaGreat
