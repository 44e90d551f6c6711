/- Reference 02: Size, Bytes. -/
import Derived.Test.YtpcaffimahapjaaGreatMVar
import Derived.Test.YtpcaffimahapjaaGreatMPrp
namespace Go.Proofs.YtpcaffimahapjaaGreat
open Go.RowKit

theorem varL_len (n : Nat) : (varL n).length = if n < 128 then 1 else if n < 16384 then 2 else if n < 2097152 then 3 else 4 := by
  unfold varL
  by_cases h1 : n < 128
  · simp [varF, h1]
  · rw [if_neg h1]
    by_cases h2 : n < 16384
    · have : n / 128 < 128 := by omega
      simp [varF, h1, h2, this]
    · rw [if_neg h2]
      have a2 : ¬ n / 128 < 128 := by omega
      by_cases h3 : n < 2097152
      · have : n / 128 / 128 < 128 := by omega
        simp [varF, h1, a2, h3, this]
      · have : ¬ n / 128 / 128 < 128 := by omega
        simp [varF, h1, a2, h3, this]
theorem varF_pos (f n : Nat) : 1 ≤ (varF f n).length := by
  cases f with
  | zero => simp [varF]
  | succ f => unfold varF; split <;> simp
set_option maxHeartbeats 400000 in
set_option maxRecDepth 10000 in
theorem ref2Size_any (n : Nat) (w : World) (hn : n ≤ 268435455) :
    Calls Tryz.prog 174 #[.int .i64 n] w fun e w' => e = .returned (.int .i64 ((varL n).length : Nat)) ∧ w = w' := by
  have HL := Lib.hid (varL_len n)
  have d0 : decide ((n : Int) < 0) = false := decide_eq_false (by omega)
  have dm : decide ((268435455 : Int) < (n : Int)) = false := decide_eq_false (by omega)
  clear hn
  by_cases a1 : n < 128
  · have HX : Hid ((varL n).length = 1) := Lib.hid (by rw [HL.out, if_pos a1])
    have b1 : decide ((n : Int) < 128) = true := decide_eq_true (by omega)
    clear a1
    go_enter Tryz.func174, Tryz.ntmps174
    go_wp2
    go_ret
    exact ⟨by rw [HX.out]; rfl, rfl⟩
  · have b1 : decide ((n : Int) < 128) = false := decide_eq_false (by omega)
    by_cases a2 : n < 16384
    · have HX : Hid ((varL n).length = 2) := Lib.hid (by rw [HL.out, if_neg a1, if_pos a2])
      have b2 : decide ((n : Int) < 16384) = true := decide_eq_true (by omega)
      clear a1 a2
      go_enter Tryz.func174, Tryz.ntmps174
      go_wp2
      go_ret
      exact ⟨by rw [HX.out]; rfl, rfl⟩
    · have b2 : decide ((n : Int) < 16384) = false := decide_eq_false (by omega)
      by_cases a3 : n < 2097152
      · have HX : Hid ((varL n).length = 3) := Lib.hid (by rw [HL.out, if_neg a1, if_neg a2, if_pos a3])
        have b3 : decide ((n : Int) < 2097152) = true := decide_eq_true (by omega)
        clear a1 a2 a3
        go_enter Tryz.func174, Tryz.ntmps174
        go_wp2
        go_ret
        exact ⟨by rw [HX.out]; rfl, rfl⟩
      · have HX : Hid ((varL n).length = 4) := Lib.hid (by rw [HL.out, if_neg a1, if_neg a2, if_neg a3])
        have b3 : decide ((n : Int) < 2097152) = false := decide_eq_false (by omega)
        clear a1 a2 a3
        go_enter Tryz.func174, Tryz.ntmps174
        go_wp2
        go_ret
        exact ⟨by rw [HX.out]; rfl, rfl⟩

set_option maxHeartbeats 1000000 in
set_option maxRecDepth 10000 in
theorem ref2Bytes_any (n : Nat) (w : World) (hn : n ≤ 268435455) :
    Calls Tryz.prog 88 #[.int .i64 n] w fun e w' => e = .returned (.tuple #[.string ⟨(varL n).toArray⟩, .int .i64 0]) ∧ Below w.heap.size w w' := by
  have HN := Lib.hid hn
  clear hn
  have hpos := varF_pos 3 n
  have hle := varF_len 3 n
  obtain ⟨sz, hsz⟩ : ∃ sz, (varL n).length = sz := ⟨_, rfl⟩
  have HSZ := Lib.hid hsz
  rw [show varF 3 n = varL n from rfl, hsz] at hpos hle
  clear hsz
  have e0 : ((sz : Int) == 0) = false := beq_eq_false_iff_ne.2 (by omega)
  go_enter Tryz.func88, Tryz.ntmps88
  go_wp2_with fail
  refine (ref2Size_any n _ HN.out).mono ?_
  rintro e w1 ⟨rfl, rfl⟩
  rw [HSZ.out]
  go_wp2
  go_loopw [0, 5, 6] (fun v o i wr => ∃ (m f k : Nat) (pre : List UInt8), k ≤ sz ∧ i = .int .i64 k ∧ v = .int .i64 m ∧ pre.length = k ∧ (k < sz → k + f = 3 ∧ m < 128 ^ (f + 1) ∧ varL n = pre ++ varF f m) ∧ (k = sz → varL n = pre) ∧ wr.ownsRow w.heap.size 5 1 o pre.length (bys pre) ∧ Below w.heap.size w wr) (fun _ _ i _ => sz - (intOf i).toNat)
  case atStart => exact ⟨n, 3, 0, [], by omega, rfl, rfl, rfl, fun _ => ⟨rfl, by have := HN.out; simp; omega, rfl⟩, fun h => by omega, World.ownsRow_nil _ _ _ _, Below.refl _ _⟩
  case round =>
    obtain ⟨m, f, k, pre, hk, rfl, rfl, hpl, hlo, heq, hown, hbel⟩ := hrel
    have HPL := Lib.hid hpl; have HLO := Lib.hid hlo; have HEQ := Lib.hid heq; have HOWN := Lib.hid hown
    clear hpl hlo heq hown
    by_cases hlt : k < sz
    · obtain ⟨h1, h2, h3⟩ := HLO.out hlt
      have hm : m < 268435456 := by
        have : 128 ^ (f + 1) ≤ 128 ^ 4 := Nat.pow_le_pow_right (by omega) (by omega)
        have h4 : (128 : Nat) ^ 4 = 268435456 := by decide
        omega
      have hmi : (0 : Int) ≤ (m : Int) := by omega
      have hlen : sz = k + (varF f m).length := by rw [← HSZ.out, h3, List.length_append, HPL.out]
      have H1 := Lib.hid h1; have H2 := Lib.hid h2; have H3 := Lib.hid h3
      have HMB := Lib.hid hm
      clear h1 h2 h3 hm
      have hk3 : pre.length ≤ 3 := by have := HPL.out; have := H1.out; omega
      have hbs := hbel.size
      by_cases hmore : 128 ≤ m
      · obtain ⟨f', rfl⟩ : ∃ f', f = f' + 1 := by
          refine ⟨f - 1, ?_⟩
          rcases Nat.eq_zero_or_pos f with rfl | h
          · have := H2.out; simp at this; omega
          · omega
        have hvf : varF (f' + 1) m = UInt8.ofNat (m % 128 + 128) :: varF f' (m / 128) := by rw [varF, if_neg (by omega)]
        have hp := varF_pos f' (m / 128)
        rw [hvf, List.length_cons] at hlen
        obtain ⟨b, hb⟩ : ∃ b, b = UInt8.ofNat (m % 128 + 128) := ⟨_, rfl⟩
        have hbn : (b.toNat : Int) = (m : Int) % 128 + 128 := by rw [hb, UInt8.toNat_ofNat']; omega
        have hu1 : IntKind.u8.wrap ((m : Int) % 128) = (m : Int) % 128 := by rw [IntKind.wrap_u8]; omega
        have hu2 : IntKind.u8.wrap ((m : Int) % 128 + 128) = (b.toNat : Int) := by rw [hbn, IntKind.wrap_u8]; omega
        have d1 : (k : Int) + 1 < (sz : Int) := by omega
        have HV : Hid (varL n = (pre ++ [b]) ++ varF f' (m / 128)) := Lib.hid (by rw [H3.out, hvf, hb]; simp)
        have HM : Hid (m / 128 < 128 ^ (f' + 1)) := Lib.hid (by
          have := H2.out
          rw [Nat.pow_succ] at this
          exact Nat.div_lt_of_lt_mul (by rw [Nat.mul_comm]; exact this))
        have HLEN := Lib.hid hlen
        clear hvf hb hbn hlen hp
        go_wp2_with (at_builtin; refine wpList_app _ rfl (.tmp 28) (.tmp 30) 65 rfl w.heap.size 5 (.int .u8 0) 1 1 Tryz.underlying65 info_byte rfl (by decide) u5 _ _ rfl (HOWN.out.alloc _) _ _ 1 1 (bys [b]) rfl (Rd.lit _ _ _ rfl (Nat.lt_succ_self _) rfl) (bys_one _) (by unfold maxLen; omega) (by omega) (by simp; omega) ?_; intro v' w3 hown3 hg3 hat3)
        have hbel3 := below_app (hbel.alloc (by omega) _) hg3 (by simp; omega) (fun g hg => (own_block HOWN.out g hg).1)
        have HO3 : Hid (w3.ownsRow w.heap.size 5 1 v' (pre ++ [b]).length (bys (pre ++ [b]))) := Lib.hid (by simpa [bys] using hown3)
        clear hown3 hg3 hat3
        go_wp2
        go_roundw
        case rel =>
          exact ⟨m / 128, f', k + 1, pre ++ [b], by omega, by go_num, congrArg (Value.int .i64) (by have := HMB.out; unfold wrap64; omega), by rw [List.length_append, HPL.out]; rfl, fun _ => ⟨by have := H1.out; omega, HM.out, HV.out⟩, fun h => by omega, HO3.out, hbel3⟩
        case measure => simp [intOf]; omega
      · have hvf : varF f m = [UInt8.ofNat m] := by
          cases f with
          | zero => rfl
          | succ f => rw [varF, if_pos (by omega)]
        rw [hvf] at hlen
        simp at hlen
        obtain ⟨b, hb⟩ : ∃ b, b = UInt8.ofNat m := ⟨_, rfl⟩
        have hbn : (b.toNat : Int) = (m : Int) % 128 := by rw [hb, UInt8.toNat_ofNat']; omega
        have hu1 : IntKind.u8.wrap ((m : Int) % 128) = (b.toNat : Int) := by rw [hbn, IntKind.wrap_u8]; omega
        have HML : Hid (m < 128) := Lib.hid (by omega)
        have d1 : (sz : Int) ≤ (k : Int) + 1 := by omega
        have HV : Hid (varL n = pre ++ [b]) := Lib.hid (by rw [H3.out, hvf, hb])
        have HLEN := Lib.hid hlen
        clear hvf hb hbn hlen hmore
        go_wp2_with (at_builtin; refine wpList_app _ rfl (.tmp 28) (.tmp 30) 65 rfl w.heap.size 5 (.int .u8 0) 1 1 Tryz.underlying65 info_byte rfl (by decide) u5 _ _ rfl (HOWN.out.alloc _) _ _ 1 1 (bys [b]) rfl (Rd.lit _ _ _ rfl (Nat.lt_succ_self _) rfl) (bys_one _) (by unfold maxLen; omega) (by omega) (by simp; omega) ?_; intro v' w3 hown3 hg3 hat3)
        have hbel3 := below_app (hbel.alloc (by omega) _) hg3 (by simp; omega) (fun g hg => (own_block HOWN.out g hg).1)
        have HO3 : Hid (w3.ownsRow w.heap.size 5 1 v' (pre ++ [b]).length (bys (pre ++ [b]))) := Lib.hid (by simpa [bys] using hown3)
        clear hown3 hg3 hat3
        go_wp2
        go_roundw
        case rel =>
          exact ⟨m / 128, f, k + 1, pre ++ [b], by omega, by go_num, congrArg (Value.int .i64) (by have := HMB.out; unfold wrap64; omega), by rw [List.length_append, HPL.out]; rfl, fun h => by have := HLEN.out; omega, fun _ => HV.out, HO3.out, hbel3⟩
        case measure => simp [intOf]; omega
    · obtain rfl : k = sz := by omega
      have HV := Lib.hid (HEQ.out rfl)
      obtain ⟨A, cp, rfl, _, hrd⟩ := own_rd HOWN.out
      have hconv := conv_rd (P := Tryz.prog) 65 9 5 Tryz.underlying65 Tryz.underlying5 Tryz.underlying9 cp hrd
      clear hrd
      go_wp2
      go_ret2
      exact ⟨by rw [HV.out]; rfl, hbel⟩
end Go.Proofs.YtpcaffimahapjaaGreat
