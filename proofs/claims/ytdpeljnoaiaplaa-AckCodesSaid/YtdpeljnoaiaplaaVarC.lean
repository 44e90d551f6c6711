/- Walks of varint: Bytes. -/
import Derived.Test.YtdpeljnoaiaplaaVarB
namespace Go.Proofs.Ytdpeljnoaiaplaa
open Go.RowKit

theorem bys_one (l : List UInt8) : ∀ u ∈ bys l, u.oneCell' = true := by
  intro u hu
  obtain ⟨c, _, rfl⟩ := List.mem_map.1 hu
  rfl
theorem bys_len (l : List UInt8) : (bys l).length = l.length := by simp [bys]
theorem varF_len : ∀ (f n : Nat), (varF f n).length ≤ f + 1
  | 0, n => by simp [varF]
  | f + 1, n => by
    unfold varF
    split
    · simp
    · have := varF_len f (n / 128)
      simp; omega
theorem or_top (n : Nat) (h : n < 128) : bits BinOp.or IntKind.u8 (n : Int) 128 = ((n + 128 : Nat) : Int) := by
  have : ∀ i : Fin 128, bits BinOp.or IntKind.u8 ((i.1 : Nat) : Int) 128 = ((i.1 + 128 : Nat) : Int) := by decide +kernel
  exact this ⟨n, h⟩

set_option maxHeartbeats 1000000 in
set_option maxRecDepth 10000 in
theorem varBytes_any (n : Nat) (w : World) (hn : n ≤ 268435455) :
    Calls Try.prog 83 #[.int .i64 n] w fun e w' => e = .returned (.tuple #[.string ⟨(varL n).toArray⟩, .int .i64 0]) ∧ Below w.heap.size w w' := by
  have hm : Hid (mayV n = true) := by show _ = _; simp [mayV]; omega
  go_enter Try.func83, Try.ntmps83
  go_wp2_with fail
  refine (mayV_any _ _).mono ?_
  rintro e w' ⟨rfl, rfl⟩
  rw [hm.out]
  go_wp2
  go_loopw [0, 4] (fun v o wr => ∃ (m f : Nat) (pre : List UInt8), f ≤ 3 ∧ m < 128 ^ (f + 1) ∧ pre.length + f = 3 ∧ v = .int .i64 m ∧ varL n = pre ++ varF f m ∧ wr.ownsRow w.heap.size 5 1 o pre.length (bys pre) ∧ Below w.heap.size w wr) (fun v _ _ => (intOf v).toNat)
  case atStart => exact ⟨n, 3, [], by omega, by simp; omega, rfl, rfl, rfl, World.ownsRow_nil _ _ _ _, Below.refl _ _⟩
  case round =>
    obtain ⟨m, f, pre, hf, hmf, hpf, rfl, hv, hown, hbel⟩ := hrel
    have HV := Lib.hid hv; have HO := Lib.hid hown; have HP := Lib.hid hpf; have HMF := Lib.hid hmf
    have hpl : pre.length ≤ 3 := by omega
    have hz := hbel.size
    have hm2 : m < 268435456 := by
      have : 128 ^ (f + 1) ≤ 128 ^ 4 := Nat.pow_le_pow_right (by omega) (by omega)
      have h4 : (128 : Nat) ^ 4 = 268435456 := by decide
      omega
    clear hv hown hpf hmf hm
    by_cases hge : 128 ≤ m
    · have hge' : (128 : Int) ≤ (m : Int) := by omega
      obtain ⟨c, hc⟩ : ∃ c, c = UInt8.ofNat (m % 128 + 128) := ⟨_, rfl⟩
      have hor : bits BinOp.or IntKind.u8 ((m : Int) % 128) 128 = (c.toNat : Int) := by
        have h1 := or_top (m % 128) (Nat.mod_lt _ (by omega))
        have h2 : (c.toNat : Int) = ((m % 128 + 128 : Nat) : Int) := by
          rw [hc, UInt8.toNat_ofNat']
          have := Nat.mod_lt m (show 0 < 128 by omega)
          omega
        rw [h2, ← h1]; simp
      have HCc := Lib.hid hc; clear hc
      have HF : Hid (∃ f', f = f' + 1) := by
        refine ⟨f - 1, ?_⟩
        rcases Nat.eq_zero_or_pos f with rfl | h
        · have := HMF.out; simp at this; omega
        · omega
      go_wp2_with (at_builtin; refine wpList_app _ rfl (.tmp 12) (.tmp 17) 42 rfl w.heap.size 5 (.int .u8 0) 1 1 Try.underlying42 info_byte rfl (by decide) u4 _ _ rfl (HO.out.alloc _) _ _ 1 1 (bys [c]) rfl (Rd.lit _ _ _ rfl (Nat.lt_succ_self _) rfl) (bys_one _) (by unfold maxLen; omega) (by omega) (by simp; omega) ?_; intro v' w3 hown3 hg3 hat3)
      have R : ∃ f', f = f' + 1 ∧ m / 128 < 128 ^ (f' + 1) ∧ (pre ++ [c]).length + f' = 3 ∧ varL n = (pre ++ [c]) ++ varF f' (m / 128) ∧ w3.ownsRow w.heap.size 5 1 v' (pre ++ [c]).length (bys (pre ++ [c])) ∧ Below w.heap.size w w3 := by
        obtain ⟨f', rfl⟩ := HF.out
        have h1 := HMF.out
        have h2 := HP.out
        refine ⟨f', rfl, ?_, by simp; omega, ?_, ?_, below_app (hbel.alloc (by omega) _) hg3 (by simp; omega) (fun g hg => (own_block HO.out g hg).1)⟩
        · rw [Nat.pow_succ] at h1
          exact Nat.div_lt_of_lt_mul (by rw [Nat.mul_comm]; exact h1)
        · rw [HV.out, varF, if_neg (by omega), HCc.out]
          simp
        · simpa [bys] using hown3
      have HR := Lib.hid R
      clear hown3 hg3 hat3 R
      go_wp2
      go_roundw
      case rel =>
        obtain ⟨f', _, h1, h2, h3, h4, h5⟩ := HR.out
        exact ⟨m / 128, f', pre ++ [c], by omega, h1, h2, by simp, h3, h4, h5⟩
      case measure => simp [intOf]; omega
    · have hlt : (m : Int) < 128 := by omega
      obtain ⟨c, hc⟩ : ∃ c, c = UInt8.ofNat m := ⟨_, rfl⟩
      have hcm : c.toNat = m := by rw [hc, UInt8.toNat_ofNat']; omega
      have hfin : varL n = pre ++ [c] := by
        rw [HV.out, hc]
        cases f with
        | zero => rfl
        | succ f => rw [varF, if_pos (by omega)]
      have HFi := Lib.hid hfin
      clear hc hfin HV HMF
      subst hcm
      go_wp2_with (at_builtin; refine wpList_app _ rfl (.tmp 19) (.tmp 22) 42 rfl w.heap.size 5 (.int .u8 0) 1 1 Try.underlying42 info_byte rfl (by decide) u4 _ _ rfl (HO.out.alloc _) _ _ 1 1 (bys [c]) rfl (Rd.lit _ _ _ rfl (Nat.lt_succ_self _) rfl) (bys_one _) (by unfold maxLen; omega) (by omega) (by simp; omega) ?_; intro v' w3 hown3 hg3 hat3; have hbel3 := below_app (hbel.alloc (by omega) _) hg3 (by simp; omega) (fun g hg => (own_block HO.out g hg).1); obtain ⟨A, cp, rfl, _, hrd⟩ := own_rd hown3; have hrd' : Rd w3 w3.heap.size 1 A (pre.length + 1) (bys (pre ++ [c])) := (by simpa [bys] using hrd); have hconv := conv_rd (P := Try.prog) 42 9 5 Try.underlying42 Try.underlying5 Try.underlying9 cp hrd')
      go_ret2
      exact ⟨by rw [HFi.out]; rfl, hbel3⟩

set_option maxHeartbeats 400000 in
theorem varBytes_bad (n : Int) (w : World) (hn : mayV n = false) :
    Calls Try.prog 83 #[.int .i64 n] w fun e w' => e = .returned (.tuple #[.string ⟨#[]⟩, .int .i64 2]) ∧ w = w' := by
  have HM := Lib.hid hn; clear hn
  go_enter Try.func83, Try.ntmps83
  go_wp2_with fail
  refine (mayV_any _ _).mono ?_
  rintro e w' ⟨rfl, rfl⟩
  rw [HM.out]
  go_wp2
  go_ret2
  exact ⟨rfl, rfl⟩

end Go.Proofs.Ytdpeljnoaiaplaa
