/-
  The law RegistryFull, walked.
-/
import Derived.Test.YtjbpafkdbfbdlaaLwB

namespace Go.Proofs.Ytjbpafkdbfbdlaa
open Go.RowKit
def fuL (n k : Nat) : Rg := rgSet [] rC (fullT n k)
theorem fuL_nil : fuL 0 0 = [] := by kernel_rfl
theorem pickR_nat (n : Int) (m : Nat) : ∃ q : Nat, pickR n ((m + 1 : Nat) : Int) = q ∧ q ≤ m := by
  have h5 := Int.emod_nonneg n (show ((m + 1 : Nat) : Int) ≠ 0 by omega)
  have h6 := Int.emod_lt_of_pos n (show 0 < ((m + 1 : Nat) : Int) by omega)
  unfold pickR
  rw [if_neg (by omega)]
  exact ⟨(n % ((m + 1 : Nat) : Int)).toNat, by omega, by omega⟩
theorem rC_le : rC.size ≤ maxLen := by decide +kernel
theorem more_le : moreS.size ≤ 4611686018427387904 := by decide +kernel
def rD : ByteArray := ⟨#[100]⟩
theorem rD_le : rD.size ≤ maxLen := by decide +kernel
/-- The registry at the end: what the last calls give. -/
theorem fuL_at (n k : Nat) : rgT (fuL n k) rC = fullT n k := rgT_set
theorem fuL_d (n k : Nat) : rgT (fuL n k) rD = [] := by
  unfold fuL
  rw [rgT_other (by decide +kernel)]
  rfl
theorem fuL_step {q j : Nat} (hq : q ≤ 20) (h1 : 1 ≤ j) (h2 : j ≤ 65534 - q) : rfReg (fuL q (j - 1)) rC (nmS j) = ((j, true, 0), fuL q j) := by
  obtain ⟨k, rfl⟩ : ∃ k, j = k + 1 := ⟨j - 1, by omega⟩
  exact reg_full hq (by omega)
theorem nm_le {n : Nat} (h : n < 456976) : (nmS n).size ≤ 4611686018427387904 := by
  have := (nmS_size h).2
  omega
end Go.Proofs.Ytjbpafkdbfbdlaa
