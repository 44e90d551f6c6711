/- connect: the walks of data, Body. -/
import Derived.Test.YtmkkjiogokfnmaaDoorMCnp
import Derived.Test.YtmkkjiogokfnmaaDoorOrdD
namespace Go.Proofs.YtmkkjiogokfnmaaDoor
open Go.RowKit
attribute [local go_sem ↓] to_ldPk to_bxPk to_bdPk to_alPk to_stPk
attribute [local go_sem] run_bxPk run_bxPk_agg ld_fresh run_alPk run_bd0 run_bdK run_bdKI run_bdKIC run_bdKC run_bdKICP run_stPk_fresh pkC_0 pkC_1 pkC_2 pkC_3 pkC_4 pkC_5 pkC_6 pkC_7 pkC_8 pkC_9 pkC_10 pkC_11 pkC_12 pkC_13 pkC_14 pkC_15 pkC_16 pkC_17 pkC_18 pkC_19 pkC_20 pkC_21 pkC_22 pkC_23 pkC_24

theorem dataB_size (s : ByteArray) : (dataB s).size ≤ 65537 := by
  unfold dataB
  split
  · unfold framedS
    rw [ByteArray.size_append, mk_size, putL_len]; omega
  · exact Nat.zero_le _
theorem binary_data (s : ByteArray) (w : World) (hs : s.size ≤ 4611686018427387904) :
    Calls Tryd.prog 53 #[.string s] w fun e w' => e = .returned (.tuple #[.string (dataB s), .int .i64 (if s.size ≤ 65535 then 0 else 2)]) ∧ Below w.heap.size w w' := binary_any s w hs
theorem cells6_s (w : World) (x0 x1 x2 x3 x4 x5 : ByteArray) (t : TypeId) : ∀ (j : Nat) x, [x0, x1, x2, x3, x4, x5][j]? = some x → (w.alloc (.cells #[.string x0, .string x1, .string x2, .string x3, .string x4, .string x5] t)).cell? ⟨w.heap.size, 0 + j, none⟩ = some (.string x) := by
  intro j x h
  rw [Nat.zero_add, (Bk.fresh w t #[.string x0, .string x1, .string x2, .string x3, .string x4, .string x5]).cell]
  rcases j with _ | _ | _ | _ | _ | _ | j
  · simp at h; subst h; rfl
  · simp at h; subst h; rfl
  · simp at h; subst h; rfl
  · simp at h; subst h; rfl
  · simp at h; subst h; rfl
  · simp at h; subst h; rfl
  · simp at h
theorem cells4_s (w : World) (x0 x1 x2 x3 : ByteArray) (t : TypeId) : ∀ (j : Nat) x, [x0, x1, x2, x3][j]? = some x → (w.alloc (.cells #[.string x0, .string x1, .string x2, .string x3] t)).cell? ⟨w.heap.size, 0 + j, none⟩ = some (.string x) := by
  intro j x h
  rw [Nat.zero_add, (Bk.fresh w t #[.string x0, .string x1, .string x2, .string x3]).cell]
  rcases j with _ | _ | _ | _ | j
  · simp at h; subst h; rfl
  · simp at h; subst h; rfl
  · simp at h; subst h; rfl
  · simp at h; subst h; rfl
  · simp at h
theorem cells2_s (w : World) (x0 x1 : ByteArray) (t : TypeId) : ∀ (j : Nat) x, [x0, x1][j]? = some x → (w.alloc (.cells #[.string x0, .string x1] t)).cell? ⟨w.heap.size, 0 + j, none⟩ = some (.string x) := by
  intro j x h
  rw [Nat.zero_add, (Bk.fresh w t #[.string x0, .string x1]).cell]
  rcases j with _ | _ | j
  · simp at h; subst h; rfl
  · simp at h; subst h; rfl
  · simp at h

theorem tail8_size (v k : Int) (l : List Pr) : (tail8 v k l).size ≤ 131075004 := by
  unfold tail8
  split
  · exact Nat.zero_le _
  · rw [mk_size]
    by_cases h : (bytesS k l).2 = 0
    · exact (bytesS_size k l h).2
    · rw [bytesS_bad k l h]; exact Nat.zero_le _
theorem catL_size : ∀ l : List ByteArray, (catL l).size = (l.map ByteArray.size).sum
  | [] => rfl
  | x :: l => by rw [catL, ByteArray.size_append, catL_size l]; rfl
theorem cntE_one {v : Int} {p : Pk} (x : cntE v p = 0) (h2 : p.kind ≠ 2) : p.kind = 1 ∧ (v = 4 ∨ v = 5) ∧ (0 ≤ p.alive ∧ p.alive < 65536 ∧ 0 ≤ p.will.qos ∧ p.will.qos ≤ 2) := by
  obtain ⟨g1, g2, g3, g4⟩ := cntE_rng x
  have h1 : p.kind = 1 := (of_decide_eq_true (show decide (p.kind = 1 ∨ p.kind = 2) = true from g2)).resolve_right h2
  refine ⟨h1, of_decide_eq_true (show decide (v = 4 ∨ v = 5) = true from g1), ?_⟩
  unfold cntRng at g4
  split at g4
  · cases g4
  · split at g4
    · cases g4
    · exact of_decide_eq_true g4
end Go.Proofs.YtmkkjiogokfnmaaDoor
