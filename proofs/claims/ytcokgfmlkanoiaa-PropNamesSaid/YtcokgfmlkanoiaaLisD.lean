/- Values read back, plain: what a value's reading gives of its bytes, and the other way. -/
import Derived.Test.YtcokgfmlkanoiaaLisB
namespace Go.Proofs.Ytcokgfmlkanoiaa
open Go.RowKit

theorem get_put1 (n : Nat) (h : n < 256) : getL (putL n 1) = n := by
  simp [getL, putL, List.range_succ, UInt8.toNat_ofNat']
  omega
theorem get_put2 (n : Nat) (h : n < 65536) : getL (putL n 2) = n := by
  simp [getL, putL, List.range_succ, UInt8.toNat_ofNat']
  omega
theorem get_put4 (n : Nat) (h : n < 4294967296) : getL (putL n 4) = n := by
  simp [getL, putL, List.range_succ, UInt8.toNat_ofNat']
  omega
theorem put_get1 (l : List UInt8) (h : l.length = 1) : putL (getL l) 1 = l := by
  match l, h with
  | [a], _ =>
    simp [getL, putL, List.range_succ]
theorem u8_of {n : Nat} {a : UInt8} (h : n % 256 = a.toNat) : UInt8.ofNat n = a := by
  apply UInt8.toNat.inj
  rw [UInt8.toNat_ofNat']
  exact h
theorem put_get2 (l : List UInt8) (h : l.length = 2) : putL (getL l) 2 = l := by
  match l, h with
  | [a, b], _ =>
    have h1 := a.toNat_lt; have h2 := b.toNat_lt
    simp only [getL, putL, List.range_succ, List.range_zero, List.nil_append, List.cons_append, List.map_cons, List.map_nil, List.foldl_cons, List.foldl_nil]
    simp only [List.cons.injEq, and_true]
    exact ⟨by rw [if_pos (by omega)]; exact u8_of (by simp <;> omega), by rw [if_pos (by omega)]; exact u8_of (by simp <;> omega)⟩
theorem put_get4 (l : List UInt8) (h : l.length = 4) : putL (getL l) 4 = l := by
  match l, h with
  | [a, b, c, d], _ =>
    have h1 := a.toNat_lt; have h2 := b.toNat_lt; have h3 := c.toNat_lt; have h4 := d.toNat_lt
    simp only [getL, putL, List.range_succ, List.range_zero, List.nil_append, List.cons_append, List.map_cons, List.map_nil, List.foldl_cons, List.foldl_nil]
    simp only [List.cons.injEq, and_true]
    exact ⟨by rw [if_pos (by omega)]; exact u8_of (by simp <;> omega), by rw [if_pos (by omega)]; exact u8_of (by simp <;> omega), by rw [if_pos (by omega)]; exact u8_of (by simp <;> omega), by rw [if_pos (by omega)]; exact u8_of (by simp <;> omega)⟩

theorem extract_ls (t : ByteArray) (a k : Nat) : ls (t.extract a (a + k)) = ((ls t).drop a).take k := by
  unfold ls
  rw [Lib.extract_data]
  congr 1
  omega
theorem needS_yes {t : ByteArray} {a k : Nat} (h : a + k ≤ t.size) : needS t a 0 k = (t.extract a (a + k), a + k, 0) := by
  unfold needS
  rw [if_pos rfl, if_pos (by simp [hasC]; omega)]
  simp
theorem needS_no {t : ByteArray} {a k : Nat} (h : ¬ a + k ≤ t.size) : needS t a 0 k = (⟨#[]⟩, a, 5) := by
  unfold needS
  rw [if_pos rfl, if_neg (by simp [hasC]; omega)]
theorem needS_front {t : ByteArray} {a : Nat} {x rest : List UInt8} (h : (ls t).drop a = x ++ rest) (ha : a ≤ t.size) : needS t a 0 (x.length : Nat) = (⟨x.toArray⟩, a + x.length, 0) := by
  have hl : a + x.length ≤ t.size := by
    have := congrArg List.length h
    rw [List.length_drop, List.length_append, ls_len] at this
    omega
  rw [needS_yes hl]
  refine Prod.ext ?_ rfl
  apply ls_ext
  rw [extract_ls, h, ls_mk]
  simp
theorem drop_after {t : ByteArray} {a : Nat} {x rest : List UInt8} (h : (ls t).drop a = x ++ rest) : (ls t).drop (a + x.length) = rest := by
  rw [← List.drop_drop, h]
  simp
theorem needS_back {t : ByteArray} {a k : Nat} (ha : a ≤ t.size) (h : (needS t a 0 k).2.2 = 0) : a + k ≤ t.size ∧ (ls t).drop a = ls (needS t a 0 k).1 ++ (ls t).drop (a + k) ∧ (needS t a 0 k).2.1 = a + k ∧ (needS t a 0 k).1.size = k := by
  by_cases hk : a + k ≤ t.size
  · rw [needS_yes hk]
    refine ⟨hk, ?_, rfl, ?_⟩
    · simp only [extract_ls]
      rw [← List.drop_drop, List.take_append_drop]
    · show (t.extract a (a + k)).size = k
      rw [ByteArray.size_extract]; omega
  · rw [needS_no hk] at h
    simp at h
theorem framed_ls (s : ByteArray) : ls (framedS s) = putL s.size 2 ++ ls s := by
  unfold framedS
  unfold ls
  rw [ByteArray.data_append]
  simp
theorem dataS_front {t : ByteArray} {a : Nat} {s : ByteArray} {rest : List UInt8} (h : (ls t).drop a = ls (framedS s) ++ rest) (ha : a ≤ t.size) (hs : s.size ≤ 65535) : dataS t a 0 = (s, a + 2 + s.size, 0) := by
  rw [framed_ls, List.append_assoc] at h
  have h1 := needS_front h ha
  rw [putL_len] at h1
  have h2 := drop_after h
  rw [putL_len] at h2
  have hl : a + 2 ≤ t.size := by
    have := congrArg List.length h
    rw [List.length_drop, List.length_append, ls_len, putL_len] at this
    omega
  unfold dataS
  rw [show ((2 : Int)) = ((2 : Nat) : Int) from rfl, h1]
  simp only [ls_mk]
  rw [get_put2 _ (by omega)]
  have h3 := needS_front h2 hl
  rw [ls_len] at h3
  rw [h3]
  simp [mk_ls]
theorem dataS_err {t : ByteArray} {a : Nat} (h : (needS t a 0 2).2.2 ≠ 0) : (dataS t a 0).2.2 ≠ 0 := by
  unfold dataS
  generalize needS t a 0 2 = D at *
  obtain ⟨d, b, e⟩ := D
  simp only at h ⊢
  unfold needS
  rw [if_neg h]
  exact h
theorem dataS_back {t : ByteArray} {a : Nat} (ha : a ≤ t.size) (h : (dataS t a 0).2.2 = 0) : (dataS t a 0).1.size ≤ 65535 ∧ (ls t).drop a = ls (framedS (dataS t a 0).1) ++ (ls t).drop (dataS t a 0).2.1 ∧ (dataS t a 0).2.1 = a + 2 + (dataS t a 0).1.size := by
  have h0 : (needS t a 0 2).2.2 = 0 := by
    rcases Decidable.em ((needS t a 0 2).2.2 = 0) with h1 | h1
    · exact h1
    · exact absurd h (dataS_err h1)
  obtain ⟨h1, h2, h3, h4⟩ := needS_back (k := 2) ha h0
  have hq := getL_lt (ls (needS t a 0 2).1)
  have hl2 : (ls (needS t a 0 2).1).length = 2 := by rw [ls_len]; exact h4
  rw [hl2] at hq
  have hpg := put_get2 _ hl2
  unfold dataS at h ⊢
  rw [show ((2 : Int)) = ((2 : Nat) : Int) from rfl] at *
  rw [h0, h3] at h ⊢
  generalize hq' : getL (ls (needS t a 0 ((2 : Nat) : Int)).1) = q at *
  obtain ⟨h5, h6, h7, h8⟩ := needS_back (k := q) h1 h
  refine ⟨by rw [h8]; omega, ?_, by rw [h7, h8]⟩
  rw [h2, h6, framed_ls, h8, hpg, h7]
  simp
theorem rv_back : ∀ (l : List UInt8) (n k n' k' : Nat), k ≤ 3 → rv l n k = (n', k', 0) → ∃ m, n' = n + m * 2 ^ (7 * k) ∧ m < 128 ^ (4 - k) ∧ (0 < k → 0 < m) ∧ l = varF (3 - k) m ++ l.drop (k' - k) ∧ k' = k + (varF (3 - k) m).length
  | [], n, k, n', k', hk, h => by simp [rv] at h
  | b :: l, n, k, n', k', hk, h => by
    rw [rv] at h
    have hb := b.toNat_lt
    split at h
    · rename_i h1
      split at h
      · simp at h
      · rename_i h3
        obtain ⟨m, hm1, hm2, hm3, hm4, hm5⟩ := rv_back l (pushN n k b) (k + 1) n' k' (by omega) h
        have hm3' := hm3 (by omega)
        have hf : 3 - k = (3 - (k + 1)) + 1 := by omega
        have hge : ¬ (b.toNat % 128 + m * 128 < 128) := by omega
        have e1 : (b.toNat % 128 + m * 128) % 128 + 128 = b.toNat := by omega
        have e2 : (b.toNat % 128 + m * 128) / 128 = m := by omega
        have hv : varF (3 - k) (b.toNat % 128 + m * 128) = b :: varF (3 - (k + 1)) m := by
          rw [hf, varF, if_neg hge, e1, e2]
          simp
        refine ⟨b.toNat % 128 + m * 128, ?_, ?_, fun _ => by omega, ?_, ?_⟩
        · rw [hm1]
          unfold pushN
          rw [show 7 * (k + 1) = 7 * k + 7 by omega, Nat.pow_add, Nat.add_mul, show (2 : Nat) ^ 7 = 128 by rfl]
          generalize 2 ^ (7 * k) = X
          rw [Nat.mul_comm X 128, ← Nat.mul_assoc]
          omega
        · have h4 : 4 - k = (4 - (k + 1)) + 1 := by omega
          rw [h4, Nat.pow_succ]
          omega
        · rw [hv]
          have hk' : k' - k = (k' - (k + 1)) + 1 := by omega
          rw [hk', List.drop_succ_cons]
          exact congrArg (b :: ·) hm4
        · rw [hv, hm5, List.length_cons]; omega
    · rename_i h1
      split at h
      · simp at h
      · rename_i h2
        simp only [Prod.mk.injEq] at h
        obtain ⟨rfl, rfl, -⟩ := h
        have hv : varF (3 - k) b.toNat = [b] := by
          rcases Nat.eq_zero_or_pos (3 - k) with h0 | h0
          · rw [h0, varF]; simp
          · obtain ⟨f, hf⟩ : ∃ f, 3 - k = f + 1 := ⟨3 - k - 1, by omega⟩
            rw [hf, varF, if_pos (by omega)]; simp
        refine ⟨b.toNat, ?_, ?_, fun h0 => ?_, ?_, ?_⟩
        · unfold pushN
          rw [Nat.mod_eq_of_lt (by omega)]
        · have : 128 ^ 1 ≤ 128 ^ (4 - k) := Nat.pow_le_pow_right (by omega) (by omega)
          omega
        · rcases Nat.eq_zero_or_pos b.toNat with hz | hz
          · exact absurd ⟨hz, h0⟩ h2
          · exact hz
        · rw [hv]; simp
        · rw [hv]; rfl
theorem readV_back {l : List UInt8} {n k : Nat} (h : readV l = (n, k, 0)) : l = varL n ++ l.drop k ∧ k = (varL n).length ∧ n ≤ 268435455 := by
  obtain ⟨m, h1, h2, _, h4, h5⟩ := rv_back l 0 0 n k (by omega) h
  simp at h1 h2 h4 h5
  subst h1
  exact ⟨h4, by simpa [varL] using h5, by omega⟩
end Go.Proofs.Ytcokgfmlkanoiaa
