/- The law PropHalves. -/
import Derived.Test.YtdpeljnoaiaplaaProL
namespace Go.Proofs.Ytdpeljnoaiaplaa
open Go.RowKit

theorem pick_nat (n : Int) (m : Nat) (hm : 0 < m) : ∃ k : Nat, pickN n m = k ∧ k < m := by
  unfold pickN
  rw [if_neg (by omega)]
  have h1 := Int.emod_nonneg n (show (m : Int) ≠ 0 by omega)
  have h2 := Int.emod_lt_of_pos n (show (0 : Int) < (m : Int) by omega)
  exact ⟨(n % (m : Int)).toNat, by omega, by omega⟩
theorem flat_total {kind : Int} : ∀ {l : List Pr}, ckL kind l → (l.flatMap propL).length ≤ l.length * 131075
  | [], _ => by simp
  | p :: l, h => by
    have h1 := propL_len (h p (by simp))
    have h2 := flat_total (fun q hq => h q (List.mem_cons_of_mem _ hq))
    rw [List.flatMap_cons, List.length_append, List.length_cons]
    omega
theorem bytesS_size (kind : Int) (l : List Pr) (h : (bytesS kind l).2 = 0) : (l.flatMap propL).length ≤ 131075000 ∧ (bytesS kind l).1.length ≤ 131075004 := by
  have hb := bytesS_bytes kind l h
  obtain ⟨h1, h2, _⟩ := (bytesS_ok kind l).1 h
  have h3 := flat_total h2
  refine ⟨by omega, ?_⟩
  rw [hb]
  have := varF_len 3 (l.flatMap propL).length
  simp only [varL, List.length_append]
  omega
theorem mk_size (l : List UInt8) : (⟨l.toArray⟩ : ByteArray).size = l.length := by show l.toArray.size = _; simp
theorem behind_bytes (kind : Int) (l : List Pr) (h : (bytesS kind l).2 = 0) :
    (⟨(bytesS kind l).1.toArray⟩ : ByteArray).extract (readV (ls ⟨(bytesS kind l).1.toArray⟩)).2.1 (⟨(bytesS kind l).1.toArray⟩ : ByteArray).size = ⟨(l.flatMap propL).toArray⟩ := by
  have hs := (bytesS_size kind l h).1
  have hb := bytesS_bytes kind l h
  rw [ls_mk, hb]
  simp only
  rw [readV_varL _ (by omega)]
  apply ls_ext
  rw [rest_at, ls_mk, ls_mk]
  simp
theorem mk_cat (a b : List UInt8) : (⟨(a ++ b).toArray⟩ : ByteArray) = ⟨a.toArray⟩ ++ ⟨b.toArray⟩ := (mk_app a b).symm

end Go.Proofs.Ytdpeljnoaiaplaa
