/-
  The registry in plain words: names of numbers are names of topics, no two alike.
-/
import Derived.Test.YtjbpafkdbfbdlaaRegF
import Derived.Laws.RangeString

namespace Go.Proofs.Ytjbpafkdbfbdlaa
open Go.RowKit
/-- A number's name: its digits as letters. -/
def nmL (n : Nat) : List UInt8 := if n < 26 then [UInt8.ofNat (97 + n)] else nmL (n / 26) ++ [UInt8.ofNat (97 + n % 26)]
termination_by n
decreasing_by omega
def nmS (n : Nat) : ByteArray := ⟨(nmL n).toArray⟩
theorem ls_nmS (n : Nat) : ls (nmS n) = nmL n := ls_mk _
def nmVal (l : List UInt8) : Nat := l.foldl (fun a b => a * 26 + (b.toNat - 97)) 0
theorem nmVal_app (l : List UInt8) (b : UInt8) : nmVal (l ++ [b]) = nmVal l * 26 + (b.toNat - 97) := by
  unfold nmVal
  rw [List.foldl_append]
  rfl
theorem let_nat {n : Nat} (h : n < 26) : (UInt8.ofNat (97 + n)).toNat = 97 + n := by
  rw [UInt8.toNat_ofNat']
  omega
theorem nmVal_nmL (n : Nat) : nmVal (nmL n) = n := by
  induction n using Nat.strongRecOn with
  | _ n ih =>
    rw [nmL]
    by_cases h : n < 26
    · rw [if_pos h]
      show 0 * 26 + ((UInt8.ofNat (97 + n)).toNat - 97) = n
      rw [let_nat h]
      omega
    · rw [if_neg h, nmVal_app, ih _ (by omega), let_nat (Nat.mod_lt _ (by omega))]
      omega
theorem nmS_inj {m n : Nat} (h : nmS m = nmS n) : m = n := by
  rw [← nmVal_nmL m, ← ls_nmS m, h, ls_nmS, nmVal_nmL]
theorem nmL_in (n : Nat) : ∀ b ∈ nmL n, 97 ≤ b.toNat ∧ b.toNat < 123 := by
  induction n using Nat.strongRecOn with
  | _ n ih =>
    rw [nmL]
    by_cases h : n < 26
    · rw [if_pos h]
      intro b hb
      rw [List.mem_singleton] at hb
      rw [hb, let_nat h]
      omega
    · rw [if_neg h]
      intro b hb
      rcases List.mem_append.1 hb with hb | hb
      · exact ih _ (by omega) b hb
      · have := Nat.mod_lt n (show 26 > 0 by omega)
        rw [List.mem_singleton] at hb
        rw [hb, let_nat this]
        omega
theorem nmL_len (n : Nat) : 1 ≤ (nmL n).length ∧ ∀ k, n < 26 ^ (k + 1) → (nmL n).length ≤ k + 1 := by
  induction n using Nat.strongRecOn with
  | _ n ih =>
    rw [nmL]
    by_cases h : n < 26
    · rw [if_pos h]
      exact ⟨Nat.le_refl _, fun k _ => by simp⟩
    · rw [if_neg h, List.length_append]
      refine ⟨by simp, fun k hk => ?_⟩
      cases k with
      | zero => simp at hk; omega
      | succ k =>
        have := (ih (n / 26) (by omega)).2 k (by rw [Nat.pow_succ] at hk; omega)
        simp only [List.length_singleton]
        omega
/-- Bytes from 1 to 127 are well. -/
theorem badF_low {s : ByteArray} (h : ∀ b ∈ ls s, 1 ≤ b.toNat ∧ b.toNat < 128) : ∀ (f p : Nat), badF f s p = -1
  | 0, _ => rfl
  | f + 1, p => by
    rw [badF]
    split
    · rename_i hp
      have hb := h s[p] (by rw [← ls_at s p hp]; exact List.getElem_mem _)
      have hd := decode_ascii s p hp hb.2
      rw [if_neg, badF_low h f]
      rw [hd]
      simp only
      omega
    · rfl
theorem nameB_low {s : ByteArray} (h1 : s.size ≠ 0) (h2 : s.size ≤ 65535) (h : ∀ b ∈ ls s, 44 ≤ b.toNat ∧ b.toNat < 128) : nameB s = true := by
  have hv : validB s = true := by
    unfold validB badS
    rw [badF_low (fun b hb => ⟨by have := h b hb; omega, (h b hb).2⟩), decide_eq_true h2]
    rfl
  have ha : anyS s = false := by
    unfold anyS
    rw [List.any_eq_false]
    intro b hb
    have := (h b hb).1
    rw [special_low]
    simp only [decide_eq_true_eq]
    omega
  unfold nameB textB
  rw [hv, ha, decide_eq_true h1]
  rfl
theorem nmS_size {n : Nat} (h : n < 456976) : 1 ≤ (nmS n).size ∧ (nmS n).size ≤ 4 := by
  have := nmL_len n
  rw [← ls_len, ls_nmS]
  exact ⟨this.1, this.2 3 (by omega)⟩
theorem nmS_name {n : Nat} (h : n < 456976) : nameB (nmS n) = true := by
  have := nmS_size h
  refine nameB_low (by omega) (by omega) fun b hb => ?_
  rw [ls_nmS] at hb
  have := nmL_in n b hb
  omega
/-- A name that is predefined. -/
def prS (n : Nat) : ByteArray := ⟨#[112, 47]⟩ ++ nmS n
theorem ls_prS (n : Nat) : ls (prS n) = 112 :: 47 :: nmL n := by
  have h : ls (prS n) = [112, 47] ++ ls (nmS n) := by
    unfold prS ls
    rw [ByteArray.data_append, Array.toList_append]
  rw [h, ls_nmS]
  rfl
theorem prS_inj {m n : Nat} (h : prS m = prS n) : m = n := by
  have h2 : ls (prS m) = ls (prS n) := by rw [h]
  rw [ls_prS, ls_prS] at h2
  rw [← nmVal_nmL m, ← nmVal_nmL n]
  congr 1
  injection h2 with _ h2
  injection h2
theorem prS_name {n : Nat} (h : n < 456976) : nameB (prS n) = true := by
  have := nmS_size h
  have hs : (prS n).size = (nmS n).size + 2 := by
    rw [← ls_len, ls_prS, ← ls_len, ls_nmS]
    rfl
  refine nameB_low (by omega) (by omega) fun b hb => ?_
  rw [ls_prS] at hb
  rcases List.mem_cons.1 hb with rfl | hb
  · decide
  · rcases List.mem_cons.1 hb with rfl | hb
    · decide
    · have := nmL_in n b hb
      omega
theorem prS_ne (m n : Nat) : prS m ≠ nmS n := by
  intro h
  have : (47 : UInt8) ∈ ls (nmS n) := by
    rw [← h, ls_prS]
    simp
  rw [ls_nmS] at this
  have := (nmL_in n 47 this).1
  revert this
  decide
def moreS : ByteArray := ⟨#[109, 111, 114, 101]⟩
theorem more_name : nameB moreS = true := by
  refine nameB_low (by decide) (by decide) fun b hb => ?_
  have : b = 109 ∨ b = 111 ∨ b = 114 ∨ b = 101 := by
    have h : b ∈ [(109 : UInt8), 111, 114, 101] := hb
    simpa using h
  rcases this with rfl | rfl | rfl | rfl <;> decide
theorem more_ne {n : Nat} (h : n < 220822) : moreS ≠ nmS n := by
  intro e
  have h1 : nmVal (ls moreS) = n := by rw [e, ls_nmS, nmVal_nmL]
  have h2 : nmVal (ls moreS) = 220822 := by decide
  omega
theorem more_pr (n : Nat) : moreS ≠ prS n := by
  intro e
  have : (47 : UInt8) ∈ ls moreS := by
    rw [e, ls_prS]
    simp
  revert this
  decide
end Go.Proofs.Ytjbpafkdbfbdlaa
