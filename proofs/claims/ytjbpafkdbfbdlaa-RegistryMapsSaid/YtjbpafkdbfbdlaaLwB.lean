/-
  The laws of the registry: the chapter's example.
-/
import Derived.Test.YtjbpafkdbfbdlaaLwA

namespace Go.Proofs.Ytjbpafkdbfbdlaa
open Go.RowKit
def rC : ByteArray := ⟨#[99]⟩
def rA : ByteArray := ⟨#[97]⟩
def rB : ByteArray := ⟨#[98]⟩
theorem live_one : rfPre [] rC rA 1 = (0, [(rC, [⟨1, rA, true⟩])]) := by kernel_rfl
theorem live_two : rfReg [(rC, [⟨1, rA, true⟩])] rC rB = ((2, true, 0), [(rC, [⟨1, rA, true⟩, ⟨2, rB, false⟩])]) := by kernel_rfl
theorem live_three : rfReg [(rC, [⟨1, rA, true⟩, ⟨2, rB, false⟩])] rC rB = ((2, false, 0), [(rC, [⟨1, rA, true⟩, ⟨2, rB, false⟩])]) := by kernel_rfl
theorem size_one (b : UInt8) : (⟨#[b]⟩ : ByteArray).size = 1 := rfl
set_option maxRecDepth 10000 in
set_option maxHeartbeats 4000000 in
theorem lives24_any (w : World) : Calls Try.prog 4 #[] w fun e w' => e = .returned (.bool true) ∧ Below w.heap.size w w' := by
  have c0 := newN w w (Below.refl _ _)
  go_enter Try.func4, Try.ntmps4
  go_wp2_with fail
  refine c0.mono ?_
  rintro e w1 ⟨rfl, h1⟩
  have H1 := Lib.hid h1
  have c1 := preN h1 rC rA 1 (by decide +kernel) (by decide +kernel) (by decide)
  rw [live_one] at c1
  clear c0 h1
  generalize w.heap.size + 1 = gp at c1 H1
  go_wp2_with fail
  refine c1.mono ?_
  rintro e w2 ⟨rfl, h2, -⟩
  have c2 := regN h2 rC rB (by decide +kernel) (by decide +kernel) (by decide)
  rw [live_two] at c2
  clear c1 h2
  go_wp2_with fail
  refine c2.mono ?_
  rintro e w3 ⟨rfl, h3, -⟩
  have c3 := regN h3 rC rB (by decide +kernel) (by decide +kernel) (by decide)
  rw [live_three] at c3
  clear c2 h3
  simp only [regV]
  go_wp2_with fail
  refine c3.mono ?_
  rintro e w4 ⟨rfl, h4, -⟩
  have hb := Lib.hid h4.below
  clear c3 h4
  simp only [regV]
  go_wp2
  go_ret
  exact ⟨rfl, hb.out⟩
end Go.Proofs.Ytjbpafkdbfbdlaa
