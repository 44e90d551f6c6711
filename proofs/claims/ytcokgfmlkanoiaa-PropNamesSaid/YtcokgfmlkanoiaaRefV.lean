/- Reference 02: Read. -/
import Derived.Test.YtcokgfmlkanoiaaVarB
namespace Go.Proofs.Ytcokgfmlkanoiaa
open Go.RowKit

theorem ret3 {a b c a' b' c' : Int} (h1 : a = a') (h2 : b = b') (h3 : c = c') : Ending.returned (.tuple #[.int .i64 a, .int .i64 b, .int .i64 c]) = .returned (.tuple #[.int .i64 a', .int .i64 b', .int .i64 c']) := by rw [h1, h2, h3]
set_option maxHeartbeats 2000000 in
set_option maxRecDepth 10000 in
theorem ref2Read_any (s : ByteArray) (w : World) (hs : s.size ≤ 4611686018427387904) :
    Calls Try.prog 61 #[.string s] w fun e w' => e = .returned (.tuple #[.int .i64 (readV (ls s)).1, .int .i64 (readV (ls s)).2.1, .int .i64 (readV (ls s)).2.2]) ∧ w = w' := by
  go_enter Try.func61, Try.ntmps61
  go_wp2
  go_loop [5, 6, 7] (fun n t i => ∃ k m : Nat, k ≤ 4 ∧ k ≤ s.size ∧ i = .int .i64 k ∧ n = .int .i64 m ∧ t = .int .i64 ((128 ^ k : Nat) : Int) ∧ m < 2 ^ (7 * k) ∧ readV (ls s) = (if k = 4 then (0, 0, 5) else rv ((ls s).drop k) m k)) (fun _ _ i => 4 - (intOf i).toNat)
  case atStart => exact ⟨0, 0, by omega, by omega, rfl, rfl, rfl, by simp, rfl⟩
  case round =>
    obtain ⟨k, m, hk, hks, rfl, rfl, rfl, hm, hv⟩ := hrel
    have HV := Lib.hid hv; clear hv
    by_cases h4 : k < 4
    · by_cases hlt : k < s.size
      · have HC := Lib.hid (rv_cons hlt m)
        have hb := UInt8.toNat_lt s[k]
        have hbi : ((s[k].toNat : Nat) : Int) ≤ 255 := by omega
        have HP : Hid (pushN m k s[k] = m + s[k].toNat % 128 * 2 ^ (7 * k)) := rfl
        have HLT := Lib.hid (pushN_lt s[k] hm)
        by_cases h128 : 128 ≤ s[k].toNat
        · have HE : Hid (readV (ls s) = if k + 1 = 4 then (0, 0, 5) else rv ((ls s).drop (k + 1)) (pushN m k s[k]) (k + 1)) := Lib.hid (by
            rw [HV.out, if_neg (by omega), HC.out, rv, if_pos h128]
            by_cases h3 : k = 3
            · rw [if_pos h3, if_pos (by omega)]
            · rw [if_neg h3, if_neg (by omega)])
          clear HV HC
          obtain rfl | rfl | rfl | rfl : k = 0 ∨ k = 1 ∨ k = 2 ∨ k = 3 := by omega
          · simp only [Nat.reduceMul, Nat.reducePow] at hm HP
            have h128i : (128 : Int) ≤ (s[0].toNat : Int) := by omega
            have hlti : (0 : Int) < (s.size : Int) := by omega
            have hne : ¬ s = ByteArray.empty := fun h => by subst h; simp at hlti
            clear h128
            go_wp2
            go_round
            case rel => exact ⟨1, pushN m 0 s[0], by omega, by omega, rfl, congrArg (Value.int .i64) (by have := HP.out; omega), rfl, HLT.out, HE.out⟩
            case measure => simp [intOf]
          · simp only [Nat.reduceMul, Nat.reducePow] at hm HP
            have h128i : (128 : Int) ≤ (s[1].toNat : Int) := by omega
            have hlti : (1 : Int) < (s.size : Int) := by omega
            have hne : ¬ s = ByteArray.empty := fun h => by subst h; simp at hlti
            clear h128
            go_wp2
            go_round
            case rel => exact ⟨2, pushN m 1 s[1], by omega, by omega, rfl, congrArg (Value.int .i64) (by have := HP.out; omega), rfl, HLT.out, HE.out⟩
            case measure => simp [intOf]
          · simp only [Nat.reduceMul, Nat.reducePow] at hm HP
            have h128i : (128 : Int) ≤ (s[2].toNat : Int) := by omega
            have hlti : (2 : Int) < (s.size : Int) := by omega
            have hne : ¬ s = ByteArray.empty := fun h => by subst h; simp at hlti
            clear h128
            go_wp2
            go_round
            case rel => exact ⟨3, pushN m 2 s[2], by omega, by omega, rfl, congrArg (Value.int .i64) (by have := HP.out; omega), rfl, HLT.out, HE.out⟩
            case measure => simp [intOf]
          · simp only [Nat.reduceMul, Nat.reducePow] at hm HP
            have h128i : (128 : Int) ≤ (s[3].toNat : Int) := by omega
            have hlti : (3 : Int) < (s.size : Int) := by omega
            have hne : ¬ s = ByteArray.empty := fun h => by subst h; simp at hlti
            clear h128
            go_wp2
            go_round
            case rel => exact ⟨4, pushN m 3 s[3], by omega, by omega, rfl, congrArg (Value.int .i64) (by have := HP.out; omega), rfl, HLT.out, HE.out⟩
            case measure => simp [intOf]
        · by_cases h0 : s[k].toNat = 0 ∧ 0 < k
          · have HE : Hid (readV (ls s) = (0, 0, 5)) := Lib.hid (by
              rw [HV.out, if_neg (by omega), HC.out, rv, if_neg h128, if_pos h0])
            have hz : (s[k].toNat : Int) = 0 := by omega
            have hkp := h0.2
            clear HV HC h0
            obtain rfl | rfl | rfl | rfl : k = 0 ∨ k = 1 ∨ k = 2 ∨ k = 3 := by omega
            · omega
            · simp only [Nat.reduceMul, Nat.reducePow] at hm HP
              have h128i : (s[1].toNat : Int) < 128 := by omega
              have hz0 : ((s[1].toNat : Int) == 0) = true := beq_iff_eq.2 hz
              have hlti : (1 : Int) < (s.size : Int) := by omega
              clear h128 hz
              go_wp2
              go_ret3
              exact ⟨by rw [HE.out]; rfl, rfl⟩
            · simp only [Nat.reduceMul, Nat.reducePow] at hm HP
              have h128i : (s[2].toNat : Int) < 128 := by omega
              have hz0 : ((s[2].toNat : Int) == 0) = true := beq_iff_eq.2 hz
              have hlti : (2 : Int) < (s.size : Int) := by omega
              clear h128 hz
              go_wp2
              go_ret3
              exact ⟨by rw [HE.out]; rfl, rfl⟩
            · simp only [Nat.reduceMul, Nat.reducePow] at hm HP
              have h128i : (s[3].toNat : Int) < 128 := by omega
              have hz0 : ((s[3].toNat : Int) == 0) = true := beq_iff_eq.2 hz
              have hlti : (3 : Int) < (s.size : Int) := by omega
              clear h128 hz
              go_wp2
              go_ret3
              exact ⟨by rw [HE.out]; rfl, rfl⟩
          · have HE : Hid (readV (ls s) = (pushN m k s[k], k + 1, 0)) := Lib.hid (by
              rw [HV.out, if_neg (by omega), HC.out, rv, if_neg h128, if_neg h0])
            have HZ := Lib.hid h0
            clear HV HC h0
            obtain rfl | rfl | rfl | rfl : k = 0 ∨ k = 1 ∨ k = 2 ∨ k = 3 := by omega
            · simp only [Nat.reduceMul, Nat.reducePow] at hm HP
              have h128i : (s[0].toNat : Int) < 128 := by omega
              have hlti : (0 : Int) < (s.size : Int) := by omega
              have hne : ¬ s = ByteArray.empty := fun h => by subst h; simp at hlti
              clear h128
              go_wp2
              go_ret3
              exact ⟨by rw [HE.out]; exact ret3 (by have := HP.out; show _ = ((pushN m 0 s[0] : Nat) : Int); omega) rfl rfl, rfl⟩
            · simp only [Nat.reduceMul, Nat.reducePow] at hm HP
              have h128i : (s[1].toNat : Int) < 128 := by omega
              have hz0 : ((s[1].toNat : Int) == 0) = false := beq_eq_false_iff_ne.2 (fun h => HZ.out ⟨by omega, by omega⟩)
              have hlti : (1 : Int) < (s.size : Int) := by omega
              have hne : ¬ s = ByteArray.empty := fun h => by subst h; simp at hlti
              clear h128
              go_wp2
              go_ret3
              exact ⟨by rw [HE.out]; exact ret3 (by have := HP.out; show _ = ((pushN m 1 s[1] : Nat) : Int); omega) rfl rfl, rfl⟩
            · simp only [Nat.reduceMul, Nat.reducePow] at hm HP
              have h128i : (s[2].toNat : Int) < 128 := by omega
              have hz0 : ((s[2].toNat : Int) == 0) = false := beq_eq_false_iff_ne.2 (fun h => HZ.out ⟨by omega, by omega⟩)
              have hlti : (2 : Int) < (s.size : Int) := by omega
              have hne : ¬ s = ByteArray.empty := fun h => by subst h; simp at hlti
              clear h128
              go_wp2
              go_ret3
              exact ⟨by rw [HE.out]; exact ret3 (by have := HP.out; show _ = ((pushN m 2 s[2] : Nat) : Int); omega) rfl rfl, rfl⟩
            · simp only [Nat.reduceMul, Nat.reducePow] at hm HP
              have h128i : (s[3].toNat : Int) < 128 := by omega
              have hz0 : ((s[3].toNat : Int) == 0) = false := beq_eq_false_iff_ne.2 (fun h => HZ.out ⟨by omega, by omega⟩)
              have hlti : (3 : Int) < (s.size : Int) := by omega
              have hne : ¬ s = ByteArray.empty := fun h => by subst h; simp at hlti
              clear h128
              go_wp2
              go_ret3
              exact ⟨by rw [HE.out]; exact ret3 (by have := HP.out; show _ = ((pushN m 3 s[3] : Nat) : Int); omega) rfl rfl, rfl⟩
      · obtain rfl : k = s.size := by omega
        have HE : Hid (readV (ls s) = (0, 0, 3)) := Lib.hid (by
          rw [HV.out, if_neg (by omega), List.drop_of_length_le (by rw [ls_len]; omega)]; rfl)
        clear HV
        go_wp2
        go_ret3
        exact ⟨by rw [HE.out]; rfl, rfl⟩
    · obtain rfl : k = 4 := by omega
      have HE : Hid (readV (ls s) = (0, 0, 5)) := Lib.hid (by rw [HV.out, if_pos rfl])
      clear HV
      go_wp2
      go_ret3
      exact ⟨by rw [HE.out]; rfl, rfl⟩
end Go.Proofs.Ytcokgfmlkanoiaa
