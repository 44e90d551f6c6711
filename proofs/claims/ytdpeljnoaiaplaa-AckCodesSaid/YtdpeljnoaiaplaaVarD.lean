/- Numbers read back, plain. -/
import Derived.Test.YtdpeljnoaiaplaaVarC
namespace Go.Proofs.Ytdpeljnoaiaplaa
open Go.RowKit

theorem rv_varF : ∀ (f m n k : Nat) (rest : List UInt8), k + f ≤ 3 → m < 128 ^ (f + 1) → (0 < k → 0 < m) → rv (varF f m ++ rest) n k = (n + m * 2 ^ (7 * k), k + (varF f m).length, 0)
  | 0, m, n, k, rest, hk, hm, hp => by
    have h1 : m < 128 := by simpa using hm
    have h2 : (UInt8.ofNat m).toNat = m := by rw [UInt8.toNat_ofNat']; omega
    show rv (UInt8.ofNat m :: rest) n k = _
    rw [rv, h2, if_neg (by omega), if_neg (by omega)]
    unfold pushN
    rw [h2, Nat.mod_eq_of_lt h1]
    rfl
  | f + 1, m, n, k, rest, hk, hm, hp => by
    by_cases h1 : m < 128
    · have h2 : (UInt8.ofNat m).toNat = m := by rw [UInt8.toNat_ofNat']; omega
      rw [varF, if_pos h1]
      show rv (UInt8.ofNat m :: rest) n k = _
      rw [rv, h2, if_neg (by omega), if_neg (by omega)]
      unfold pushN
      rw [h2, Nat.mod_eq_of_lt h1]
      rfl
    · have h2 : (UInt8.ofNat (m % 128 + 128)).toNat = m % 128 + 128 := by rw [UInt8.toNat_ofNat']; omega
      rw [varF, if_neg h1]
      show rv (UInt8.ofNat (m % 128 + 128) :: (varF f (m / 128) ++ rest)) n k = _
      have hm' : m / 128 < 128 ^ (f + 1) := by
        rw [Nat.pow_succ] at hm
        exact Nat.div_lt_of_lt_mul (by rw [Nat.mul_comm]; exact hm)
      rw [rv, h2, if_pos (by omega), if_neg (by omega), rv_varF f (m / 128) _ (k + 1) rest (by omega) hm' (fun _ => by omega)]
      unfold pushN
      rw [h2, List.length_cons, show (m % 128 + 128) % 128 = m % 128 by omega, show 7 * (k + 1) = 7 * k + 7 by omega, Nat.pow_add]
      refine Prod.ext ?_ (Prod.ext ?_ rfl)
      · show n + m % 128 * 2 ^ (7 * k) + m / 128 * (2 ^ (7 * k) * 2 ^ 7) = n + m * 2 ^ (7 * k)
        have h3 := Nat.div_add_mod m 128
        generalize 2 ^ (7 * k) = X at *
        generalize m / 128 = q at *
        generalize m % 128 = r at *
        subst h3
        rw [Nat.add_mul, show (2 : Nat) ^ 7 = 128 by rfl, Nat.mul_comm X 128, ← Nat.mul_assoc, Nat.mul_comm q 128]
        omega
      · show k + 1 + _ = k + (_ + 1)
        omega
theorem readV_varL (n : Nat) (hn : n ≤ 268435455) (rest : List UInt8) : readV (varL n ++ rest) = (n, (varL n).length, 0) := by
  unfold readV varL
  rw [rv_varF 3 n 0 0 rest (by omega) (by simp; omega) (fun h => by omega)]
  simp
theorem rv_size : ∀ (l : List UInt8) (n k : Nat), (rv l n k).2.1 ≤ k + l.length
  | [], n, k => by simp [rv]
  | b :: l, n, k => by
    rw [rv]
    split
    · split
      · simp
      · have := rv_size l (pushN n k b) (k + 1)
        simp; omega
    · split
      · simp
      · simp <;> omega
theorem readV_size (l : List UInt8) : (readV l).2.1 ≤ l.length := by
  have := rv_size l 0 0
  unfold readV
  omega
end Go.Proofs.Ytdpeljnoaiaplaa
