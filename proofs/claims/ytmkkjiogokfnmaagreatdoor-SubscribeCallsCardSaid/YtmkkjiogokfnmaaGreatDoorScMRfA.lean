/-
  Reference 02: Size, Bytes.
  Reference 01: Put, Get and the cursor answer what the program's own answer.
  Reference 05: a property's row.
  Reference 05: a property's row (look).
  Reference 05: Shape, May, Many, Check, value.
  Reference 05: Check.
  Reference 03: texts and binary data; reference 05: value, Get, twice, lone.
-/
import Derived.Test.YtmkkjiogokfnmaaGreatDoorScMVar
import Derived.Test.YtmkkjiogokfnmaaGreatDoorScMPrp
import Derived.Test.YtmkkjiogokfnmaaGreatDoorScMOct
import Derived.Test.YtmkkjiogokfnmaaGreatDoorScMPro
import Derived.Test.YtmkkjiogokfnmaaGreatDoorScMRef
import Derived.Test.YtmkkjiogokfnmaaGreatDoorScPubD
import Derived.Test.YtmkkjiogokfnmaaGreatDoorScMPubB
import Derived.Test.YtmkkjiogokfnmaaGreatDoorScMPubA
namespace Go.Proofs.YtmkkjiogokfnmaaGreatDoor
open Go.RowKit

theorem varL_len (n : Nat) : (varL n).length = if n < 128 then 1 else if n < 16384 then 2 else if n < 2097152 then 3 else 4 := by
  unfold varL
  by_cases h1 : n < 128
  · simp [varF, h1]
  · rw [if_neg h1]
    by_cases h2 : n < 16384
    · have : n / 128 < 128 := by omega
      simp [varF, h1, h2, this]
    · rw [if_neg h2]
      have a2 : ¬ n / 128 < 128 := by omega
      by_cases h3 : n < 2097152
      · have : n / 128 / 128 < 128 := by omega
        simp [varF, h1, a2, h3, this]
      · have : ¬ n / 128 / 128 < 128 := by omega
        simp [varF, h1, a2, h3, this]
theorem varF_pos (f n : Nat) : 1 ≤ (varF f n).length := by
  cases f with
  | zero => simp [varF]
  | succ f => unfold varF; split <;> simp
set_option maxHeartbeats 400000 in
set_option maxRecDepth 10000 in
theorem ref2Size_any (n : Nat) (w : World) (hn : n ≤ 268435455) :
    Calls Tryz.prog 216 #[.int .i64 n] w fun e w' => e = .returned (.int .i64 ((varL n).length : Nat)) ∧ w = w' := by
  have HL := Lib.hid (varL_len n)
  have d0 : decide ((n : Int) < 0) = false := decide_eq_false (by omega)
  have dm : decide ((268435455 : Int) < (n : Int)) = false := decide_eq_false (by omega)
  clear hn
  by_cases a1 : n < 128
  · have HX : Hid ((varL n).length = 1) := Lib.hid (by rw [HL.out, if_pos a1])
    have b1 : decide ((n : Int) < 128) = true := decide_eq_true (by omega)
    clear a1
    go_enter Tryz.func216, Tryz.ntmps216
    go_wp2
    go_ret
    exact ⟨by rw [HX.out]; rfl, rfl⟩
  · have b1 : decide ((n : Int) < 128) = false := decide_eq_false (by omega)
    by_cases a2 : n < 16384
    · have HX : Hid ((varL n).length = 2) := Lib.hid (by rw [HL.out, if_neg a1, if_pos a2])
      have b2 : decide ((n : Int) < 16384) = true := decide_eq_true (by omega)
      clear a1 a2
      go_enter Tryz.func216, Tryz.ntmps216
      go_wp2
      go_ret
      exact ⟨by rw [HX.out]; rfl, rfl⟩
    · have b2 : decide ((n : Int) < 16384) = false := decide_eq_false (by omega)
      by_cases a3 : n < 2097152
      · have HX : Hid ((varL n).length = 3) := Lib.hid (by rw [HL.out, if_neg a1, if_neg a2, if_pos a3])
        have b3 : decide ((n : Int) < 2097152) = true := decide_eq_true (by omega)
        clear a1 a2 a3
        go_enter Tryz.func216, Tryz.ntmps216
        go_wp2
        go_ret
        exact ⟨by rw [HX.out]; rfl, rfl⟩
      · have HX : Hid ((varL n).length = 4) := Lib.hid (by rw [HL.out, if_neg a1, if_neg a2, if_neg a3])
        have b3 : decide ((n : Int) < 2097152) = false := decide_eq_false (by omega)
        clear a1 a2 a3
        go_enter Tryz.func216, Tryz.ntmps216
        go_wp2
        go_ret
        exact ⟨by rw [HX.out]; rfl, rfl⟩

set_option maxHeartbeats 1000000 in
set_option maxRecDepth 10000 in
theorem ref2Bytes_any (n : Nat) (w : World) (hn : n ≤ 268435455) :
    Calls Tryz.prog 159 #[.int .i64 n] w fun e w' => e = .returned (.tuple #[.string ⟨(varL n).toArray⟩, .int .i64 0]) ∧ Below w.heap.size w w' := by
  have HN := Lib.hid hn
  clear hn
  have hpos := varF_pos 3 n
  have hle := varF_len 3 n
  obtain ⟨sz, hsz⟩ : ∃ sz, (varL n).length = sz := ⟨_, rfl⟩
  have HSZ := Lib.hid hsz
  rw [show varF 3 n = varL n from rfl, hsz] at hpos hle
  clear hsz
  have e0 : ((sz : Int) == 0) = false := beq_eq_false_iff_ne.2 (by omega)
  go_enter Tryz.func159, Tryz.ntmps159
  go_wp2_with fail
  refine (ref2Size_any n _ HN.out).mono ?_
  rintro e w1 ⟨rfl, rfl⟩
  rw [HSZ.out]
  go_wp2
  go_loopw [0, 5, 6] (fun v o i wr => ∃ (m f k : Nat) (pre : List UInt8), k ≤ sz ∧ i = .int .i64 k ∧ v = .int .i64 m ∧ pre.length = k ∧ (k < sz → k + f = 3 ∧ m < 128 ^ (f + 1) ∧ varL n = pre ++ varF f m) ∧ (k = sz → varL n = pre) ∧ wr.ownsRow w.heap.size 5 1 o pre.length (bys pre) ∧ Below w.heap.size w wr) (fun _ _ i _ => sz - (intOf i).toNat)
  case atStart => exact ⟨n, 3, 0, [], by omega, rfl, rfl, rfl, fun _ => ⟨rfl, by have := HN.out; simp; omega, rfl⟩, fun h => by omega, World.ownsRow_nil _ _ _ _, Below.refl _ _⟩
  case round =>
    obtain ⟨m, f, k, pre, hk, rfl, rfl, hpl, hlo, heq, hown, hbel⟩ := hrel
    have HPL := Lib.hid hpl; have HLO := Lib.hid hlo; have HEQ := Lib.hid heq; have HOWN := Lib.hid hown
    clear hpl hlo heq hown
    by_cases hlt : k < sz
    · obtain ⟨h1, h2, h3⟩ := HLO.out hlt
      have hm : m < 268435456 := by
        have : 128 ^ (f + 1) ≤ 128 ^ 4 := Nat.pow_le_pow_right (by omega) (by omega)
        have h4 : (128 : Nat) ^ 4 = 268435456 := by decide
        omega
      have hmi : (0 : Int) ≤ (m : Int) := by omega
      have hlen : sz = k + (varF f m).length := by rw [← HSZ.out, h3, List.length_append, HPL.out]
      have H1 := Lib.hid h1; have H2 := Lib.hid h2; have H3 := Lib.hid h3
      have HMB := Lib.hid hm
      clear h1 h2 h3 hm
      have hk3 : pre.length ≤ 3 := by have := HPL.out; have := H1.out; omega
      have hbs := hbel.size
      by_cases hmore : 128 ≤ m
      · obtain ⟨f', rfl⟩ : ∃ f', f = f' + 1 := by
          refine ⟨f - 1, ?_⟩
          rcases Nat.eq_zero_or_pos f with rfl | h
          · have := H2.out; simp at this; omega
          · omega
        have hvf : varF (f' + 1) m = UInt8.ofNat (m % 128 + 128) :: varF f' (m / 128) := by rw [varF, if_neg (by omega)]
        have hp := varF_pos f' (m / 128)
        rw [hvf, List.length_cons] at hlen
        obtain ⟨b, hb⟩ : ∃ b, b = UInt8.ofNat (m % 128 + 128) := ⟨_, rfl⟩
        have hbn : (b.toNat : Int) = (m : Int) % 128 + 128 := by rw [hb, UInt8.toNat_ofNat']; omega
        have hu1 : IntKind.u8.wrap ((m : Int) % 128) = (m : Int) % 128 := by rw [IntKind.wrap_u8]; omega
        have hu2 : IntKind.u8.wrap ((m : Int) % 128 + 128) = (b.toNat : Int) := by rw [hbn, IntKind.wrap_u8]; omega
        have d1 : (k : Int) + 1 < (sz : Int) := by omega
        have HV : Hid (varL n = (pre ++ [b]) ++ varF f' (m / 128)) := Lib.hid (by rw [H3.out, hvf, hb]; simp)
        have HM : Hid (m / 128 < 128 ^ (f' + 1)) := Lib.hid (by
          have := H2.out
          rw [Nat.pow_succ] at this
          exact Nat.div_lt_of_lt_mul (by rw [Nat.mul_comm]; exact this))
        have HLEN := Lib.hid hlen
        clear hvf hb hbn hlen hp
        go_wp2_with (at_builtin; refine wpList_app _ rfl (.tmp 28) (.tmp 30) 64 rfl w.heap.size 5 (.int .u8 0) 1 1 Tryz.underlying64 info_byte rfl (by decide) u5 _ _ rfl (HOWN.out.alloc _) _ _ 1 1 (bys [b]) rfl (Rd.lit _ _ _ rfl (Nat.lt_succ_self _) rfl) (bys_one _) (by unfold maxLen; omega) (by omega) (by simp; omega) ?_; intro v' w3 hown3 hg3 hat3)
        have hbel3 := below_app (hbel.alloc (by omega) _) hg3 (by simp; omega) (fun g hg => (own_block HOWN.out g hg).1)
        have HO3 : Hid (w3.ownsRow w.heap.size 5 1 v' (pre ++ [b]).length (bys (pre ++ [b]))) := Lib.hid (by simpa [bys] using hown3)
        clear hown3 hg3 hat3
        go_wp2
        go_roundw
        case rel =>
          exact ⟨m / 128, f', k + 1, pre ++ [b], by omega, by go_num, congrArg (Value.int .i64) (by have := HMB.out; unfold wrap64; omega), by rw [List.length_append, HPL.out]; rfl, fun _ => ⟨by have := H1.out; omega, HM.out, HV.out⟩, fun h => by omega, HO3.out, hbel3⟩
        case measure => simp [intOf]; omega
      · have hvf : varF f m = [UInt8.ofNat m] := by
          cases f with
          | zero => rfl
          | succ f => rw [varF, if_pos (by omega)]
        rw [hvf] at hlen
        simp at hlen
        obtain ⟨b, hb⟩ : ∃ b, b = UInt8.ofNat m := ⟨_, rfl⟩
        have hbn : (b.toNat : Int) = (m : Int) % 128 := by rw [hb, UInt8.toNat_ofNat']; omega
        have hu1 : IntKind.u8.wrap ((m : Int) % 128) = (b.toNat : Int) := by rw [hbn, IntKind.wrap_u8]; omega
        have HML : Hid (m < 128) := Lib.hid (by omega)
        have d1 : (sz : Int) ≤ (k : Int) + 1 := by omega
        have HV : Hid (varL n = pre ++ [b]) := Lib.hid (by rw [H3.out, hvf, hb])
        have HLEN := Lib.hid hlen
        clear hvf hb hbn hlen hmore
        go_wp2_with (at_builtin; refine wpList_app _ rfl (.tmp 28) (.tmp 30) 64 rfl w.heap.size 5 (.int .u8 0) 1 1 Tryz.underlying64 info_byte rfl (by decide) u5 _ _ rfl (HOWN.out.alloc _) _ _ 1 1 (bys [b]) rfl (Rd.lit _ _ _ rfl (Nat.lt_succ_self _) rfl) (bys_one _) (by unfold maxLen; omega) (by omega) (by simp; omega) ?_; intro v' w3 hown3 hg3 hat3)
        have hbel3 := below_app (hbel.alloc (by omega) _) hg3 (by simp; omega) (fun g hg => (own_block HOWN.out g hg).1)
        have HO3 : Hid (w3.ownsRow w.heap.size 5 1 v' (pre ++ [b]).length (bys (pre ++ [b]))) := Lib.hid (by simpa [bys] using hown3)
        clear hown3 hg3 hat3
        go_wp2
        go_roundw
        case rel =>
          exact ⟨m / 128, f, k + 1, pre ++ [b], by omega, by go_num, congrArg (Value.int .i64) (by have := HMB.out; unfold wrap64; omega), by rw [List.length_append, HPL.out]; rfl, fun h => by have := HLEN.out; omega, fun _ => HV.out, HO3.out, hbel3⟩
        case measure => simp [intOf]; omega
    · obtain rfl : k = sz := by omega
      have HV := Lib.hid (HEQ.out rfl)
      obtain ⟨A, cp, rfl, _, hrd⟩ := own_rd HOWN.out
      have hconv := conv_rd (P := Tryz.prog) 64 9 5 Tryz.underlying64 Tryz.underlying5 Tryz.underlying9 cp hrd
      clear hrd
      go_wp2
      go_ret2
      exact ⟨by rw [HV.out]; rfl, hbel⟩
end Go.Proofs.YtmkkjiogokfnmaaGreatDoor

namespace Go.Proofs.YtmkkjiogokfnmaaGreatDoor
open Go.RowKit

theorem putL_step {n k m : Nat} (hm : m + 1 ≤ k) (hk : k ≤ 8) : bys ((putL n k).take (k - m)) = bys ((putL n k).take (k - (m + 1))) ++ [.int .u8 ((n : Int) / 2 ^ (8 * m) % 256)] := by
  have e : k - m = (k - (m + 1)) + 1 := by omega
  have hl : k - (m + 1) < (putL n k).length := by rw [putL_len]; omega
  rw [e, List.take_succ_eq_append_getElem hl, bys, List.map_append]
  have hb : (putL n k)[k - (m + 1)] = UInt8.ofNat (n / 2 ^ (8 * m)) := by
    simp only [putL, List.getElem_map, List.getElem_range]
    rw [if_pos (by omega), show k - 1 - (k - (m + 1)) = m by omega]
  rw [hb]
  simp [bys, UInt8.toNat_ofNat']
set_option maxHeartbeats 1000000 in
set_option maxRecDepth 10000 in
theorem refPut_any (n k : Nat) (w : World) (hn : n < 18446744073709551616) (hk : 0 < k) (hk8 : k ≤ 8) :
    Calls Tryz.prog 71 #[.int .u64 n, .int .i64 k] w fun e w' => e = .returned (.string ⟨(putL n k).toArray⟩) ∧ Below w.heap.size w w' := by
  have HN := Lib.hid hn; clear hn
  have HK := Lib.hid hk8
  have b1 : (0 : Int) < (k : Int) := by omega
  have b2 : (k : Int) ≤ 8 := by omega
  go_enter Tryz.func71, Tryz.ntmps71
  go_wp2
  go_loopw [5, 6] (fun out i wr => ∃ j : Nat, j ≤ k ∧ i = .int .i64 ((j : Int) - 1) ∧ wr.ownsRow w.heap.size 5 1 out (k - j) (bys ((putL n k).take (k - j))) ∧ Below w.heap.size w wr) (fun _ i _ => (intOf i + 1).toNat)
  case atStart => exact ⟨k, Nat.le_refl _, by go_num, by rw [Nat.sub_self]; exact World.ownsRow_nil _ _ _ _, Below.refl _ _⟩
  case round =>
    obtain ⟨j, hj, rfl, hown, hbel⟩ := hrel
    have HO := Lib.hid hown; clear hown
    by_cases hlt : 0 < j
    · obtain ⟨m, rfl⟩ : ∃ m, j = m + 1 := ⟨j - 1, by omega⟩
      have e1 : (((m + 1 : Nat) : Int) - 1) = (m : Int) := by omega
      rw [e1]
      clear e1
      have c1 : (m : Int) < 8 := by omega
      have c0 : (0 : Int) ≤ (m : Int) := by omega
      have HM : Hid (m + 1 ≤ k) := Lib.hid hj
      have HB := Lib.hid hbel
      clear hj hlt hbel
      go_wp2_with (at_builtin; refine wpList_app _ rfl (.tmp 24) (.tmp 26) 64 rfl w.heap.size 5 (.int .u8 0) 1 1 Tryz.underlying64 info_byte rfl (by decide) u5 _ _ rfl (HO.out.alloc _) _ _ 1 1 [_] rfl (Rd.lit _ _ _ rfl (Nat.lt_succ_self _) rfl) (by intro u hu; simp at hu; subst hu; rfl) (by have := HM.out; unfold maxLen; omega) (by have := HM.out; omega) (by have := HB.out.size; simp; omega) ?_; intro v' w3 hown3 hg3 hat3)
      go_roundw
      case rel =>
        have e2 : k - (m + 1) + 1 = k - m := by have := HM.out; omega
        refine ⟨m, by have := HM.out; omega, by go_num, ?_, below_app (HB.out.alloc HB.out.size _) hg3 (by have := HB.out.size; simp; omega) (fun g hg => (own_block HO.out g hg).1)⟩
        rw [e2] at hown3
        have e3 : bys ((putL n k).take (k - m)) = bys ((putL n k).take (k - (m + 1))) ++ [.int .u8 ((n : Int) / 2 ^ (8 * m) % 256)] := putL_step HM.out HK.out
        rw [e3]
        exact hown3
      case measure => simp [intOf]
    · obtain rfl : j = 0 := by omega
      obtain ⟨A, c, rfl, _, hrd⟩ := own_rd HO.out
      have hconv := conv_rd (P := Tryz.prog) 64 9 5 Tryz.underlying64 Tryz.underlying5 Tryz.underlying9 c hrd
      have HTK : Hid ((putL n k).take (k - 0) = putL n k) := Lib.hid (by rw [List.take_of_length_le (by rw [putL_len]; omega)])
      rw [HTK.out] at hconv
      simp only [Nat.sub_zero] at hconv
      clear hrd
      go_wp2
      go_ret
      exact ⟨rfl, hbel⟩

set_option maxHeartbeats 400000 in
set_option maxRecDepth 10000 in
theorem refGet_any (s : ByteArray) (w : World) (hs : s.size ≤ 8) :
    Calls Tryz.prog 126 #[.string s] w fun e w' => e = .returned (.int .u64 (getL (ls s))) ∧ w = w' := by
  have hmx : max (0 : Int) ((s.size : Int) - 8) = 0 := by omega
  go_enter Tryz.func126, Tryz.ntmps126
  go_wp2
  go_loop [3, 4] (fun n i => ∃ k : Nat, k ≤ s.size ∧ i = .int .i64 k ∧ n = .int .u64 (getL ((ls s).take k))) (fun _ i => s.size - (intOf i).toNat)
  case atStart => exact ⟨0, by omega, rfl, rfl⟩
  case round =>
    obtain ⟨k, hk, rfl, rfl⟩ := hrel
    by_cases hlt : k < s.size
    · have hlen : getL ((ls s).take k) < 72057594037927936 := by
        have h1 := getL_lt ((ls s).take k)
        have h2 : ((ls s).take k).length = k := by rw [List.length_take, ls_len]; omega
        rw [h2] at h1
        exact Nat.lt_of_lt_of_le h1 (Nat.le_trans (Nat.pow_le_pow_right (by omega) (by omega : k ≤ 7)) (by decide))
      have HS : Hid (((getL ((ls s).take (k + 1)) : Nat) : Int) = bits BinOp.or IntKind.u64 (IntKind.u64.wrap ((getL ((ls s).take k) : Int) * 256)) (IntKind.u64.wrap (s[k].toNat : Int))) := by
        show _ = _
        rw [wrap_byte, or_low _ _ hlen, ls_take_succ s k hlt, getL_snoc]
      generalize getL ((ls s).take k) = n at *
      have HL := Lib.hid hlen; clear hlen
      go_wp2
      go_round
      case rel => exact ⟨k + 1, by omega, by go_num, by rw [HS.out]⟩
      case measure => simp [intOf]; omega
    · obtain rfl : k = s.size := by omega
      go_wp2
      go_ret
      refine ⟨?_, rfl⟩
      show Ending.returned (.int .u64 (getL ((ls s).take s.size))) = _
      rw [List.take_of_length_le (by rw [ls_len]; exact Nat.le_refl _)]

abbrev RCT : TypeId := 104
/-- The reference's cursor. -/
def RCur (w : World) (g : Nat) (t : ByteArray) (a : Nat) (e : Int) : Prop := Bk w g RCT (curC t a e) ∧ a ≤ t.size ∧ t.size ≤ 4611686018427387904
theorem RCur.cells {w : World} {g a : Nat} {t : ByteArray} {e : Int} (h : RCur w g t a e) : (w.cell? ⟨g, 0, none⟩ = some (.string t) ∧ w.cell? ⟨g, 1, none⟩ = some (.int .i64 a) ∧ w.cell? ⟨g, 2, none⟩ = some (.int .i64 e)) ∧ w.frozen? ⟨g, 0, none⟩ = false ∧ w.frozen? ⟨g, 1, none⟩ = false ∧ w.frozen? ⟨g, 2, none⟩ = false := h.1.three
theorem RCur.lt {w : World} {g a : Nat} {t : ByteArray} {e : Int} (h : RCur w g t a e) : g < w.heap.size := h.1.lt
theorem RCur.below {w w' : World} {g a : Nat} {t : ByteArray} {e : Int} (h : RCur w g t a e) (hb : Below w.heap.size w w') : RCur w' g t a e := ⟨h.1.below hb h.lt, h.2⟩
theorem RCur.drewN {w : World} {g a : Nat} {t : ByteArray} {e : Int} (h : RCur w g t a e) (n : Nat) : RCur (w.drewN n) g t a e := ⟨h.1.drewN n, h.2⟩
set_option maxHeartbeats 400000 in
theorem refNew_any (s : ByteArray) (w : World) (hs : s.size ≤ 4611686018427387904) :
    Calls Tryz.prog 75 #[.string s] w fun e w' => e = .returned (.pointer (some ⟨w.heap.size, 0, none⟩)) ∧ RCur w' w.heap.size s 0 0 ∧ Below w.heap.size w w' := by
  go_enter Tryz.func75, Tryz.ntmps75
  go_wp2
  go_ret
  exact ⟨rfl, ⟨Bk.fresh _ _ _, by omega, hs⟩, (Below.refl _ _).alloc (Nat.le_refl _) _⟩

/-- What is seen of the next bytes. -/
def peekS (t : ByteArray) (a : Nat) (e n : Int) : ByteArray := if e = 0 ∧ hasC t a n = true then t.extract a (a + n.toNat) else ⟨#[]⟩
set_option maxHeartbeats 1000000 in
set_option maxRecDepth 10000 in
theorem refPeek_any (g a : Nat) (t : ByteArray) (e : Int) (n : Int) (w : World) (h : RCur w g t a e) :
    Calls Tryz.prog 189 #[.pointer (some ⟨g, 0, none⟩), .int .i64 n] w fun e' w' => e' = .returned (.string (peekS t a e n)) ∧ Below w.heap.size w w' := by
  obtain ⟨⟨c0, c1, c2⟩, _⟩ := h.cells
  obtain ⟨_, ha, ht⟩ := h
  have w0 : IntKind.i64.wrap ((t.size : Int) - (a : Int)) = (t.size : Int) - (a : Int) := by rw [IntKind.wrap_i64]; omega
  by_cases he : e = 0
  rotate_left
  · have HX : Hid (peekS t a e n = ⟨#[]⟩) := Lib.hid (by unfold peekS; rw [if_neg (fun x => he x.1)])
    have e1 : (e != 0) = true := bne_iff_ne.2 he
    clear he
    go_enter Tryz.func189, Tryz.ntmps189
    go_wp2
    go_quiet (fail)
    go_wp2
    go_ret
    exact ⟨by rw [HX.out]; rfl, below_drawn (Below.refl _ _) _⟩
  subst he
  by_cases h0 : n < 0
  · have HX : Hid (peekS t a 0 n = ⟨#[]⟩) := Lib.hid (by unfold peekS; rw [if_neg]; rintro ⟨-, x⟩; simp [hasC] at x; omega)
    have d0 : decide (n < 0) = true := decide_eq_true h0
    clear h0
    go_enter Tryz.func189, Tryz.ntmps189
    go_wp2
    go_quiet (fail)
    go_wp2
    go_ret
    exact ⟨by rw [HX.out]; rfl, below_drawn (Below.refl _ _) _⟩
  obtain ⟨m, rfl⟩ := Int.eq_ofNat_of_zero_le (show 0 ≤ n by omega)
  have d0 : decide ((m : Int) < 0) = false := decide_eq_false h0
  clear h0
  by_cases h1 : (t.size : Int) - a < m
  · have HX : Hid (peekS t a 0 m = ⟨#[]⟩) := Lib.hid (by unfold peekS; rw [if_neg]; rintro ⟨-, x⟩; simp [hasC] at x; omega)
    have d1 : decide ((t.size : Int) - a < m) = true := decide_eq_true h1
    clear h1
    go_enter Tryz.func189, Tryz.ntmps189
    go_wp2
    go_quiet (fail)
    go_wp2
    go_ret
    exact ⟨by rw [HX.out]; rfl, below_drawn (Below.refl _ _) _⟩
  · have HX : Hid (peekS t a 0 m = t.extract a (a + m)) := Lib.hid (by unfold peekS; rw [if_pos ⟨rfl, by simp [hasC]; omega⟩]; rfl)
    have d1 : decide ((t.size : Int) - a < m) = false := decide_eq_false h1
    have i1 : (0 : Int) ≤ (a : Int) := by omega
    have i2 : (a : Int) ≤ (a : Int) + (m : Int) := by omega
    have i3 : (a : Int) + (m : Int) ≤ (t.size : Int) := by omega
    have w1 : IntKind.i64.wrap ((a : Int) + (m : Int)) = (a : Int) + (m : Int) := by rw [IntKind.wrap_i64]; omega
    clear h1
    go_enter Tryz.func189, Tryz.ntmps189
    go_wp2
    go_quiet (fail)
    go_wp2
    go_quiet (fail)
    go_wp2
    go_ret
    exact ⟨by rw [HX.out]; rfl, below_drawn (below_drawn (Below.refl _ _) _) _⟩

theorem peek_take {t : ByteArray} {a : Nat} {e n : Int} : peekS t a (takeS t a e n).2.2 n = (takeS t a e n).1 ∧ (takeS t a e n).2.1 = a + (takeS t a e n).1.size := by
  unfold peekS takeS
  by_cases he : e = 0
  · subst he
    cases hh : hasC t a n
    · simp
      rfl
    · have : 0 ≤ n ∧ n ≤ (t.size : Int) - a := by simpa [hasC] using hh
      simp only [if_true, and_self, true_and]
      rw [ByteArray.size_extract]
      omega
  · simp [he]
    rfl
set_option maxHeartbeats 2000000 in
set_option maxRecDepth 10000 in
theorem refTake_any (g a : Nat) (t : ByteArray) (e : Int) (n : Int) (w : World) (h : RCur w g t a e) :
    Calls Tryz.prog 127 #[.pointer (some ⟨g, 0, none⟩), .int .i64 n] w fun e' w' =>
      e' = .returned (.string (takeS t a e n).1) ∧ RCur w' g t (takeS t a e n).2.1 (takeS t a e n).2.2 ∧ w.grownBy w' (some g) := by
  have HC := Lib.hid h
  obtain ⟨hp1, hp2⟩ := peek_take (t := t) (a := a) (e := e) (n := n)
  have HP := Lib.hid hp1; have HQ := Lib.hid hp2
  have HLE := Lib.hid (takeS_le h.2.1 e n)
  obtain ⟨⟨c0, c1, c2⟩, f0, f1, f2⟩ := h.cells
  obtain ⟨_, ha, ht⟩ := h
  have HT := Lib.hid ht
  have w0 : IntKind.i64.wrap ((t.size : Int) - (a : Int)) = (t.size : Int) - (a : Int) := by rw [IntKind.wrap_i64]; omega
  clear hp1 hp2
  have tail : ∀ (E : Int) (x : World), (takeS t a e n).2.2 = E → RCur x g t a E → w.grownBy x (some g) →
      Calls Tryz.prog 189 #[.pointer (some ⟨g, 0, none⟩), .int .i64 n] x fun e' x' => e' = .returned (.string (takeS t a e n).1) ∧ RCur x' g t a E ∧ w.grownBy x' (some g) := by
    intro E x hE hc hm
    refine (refPeek_any g a t E n x hc).mono ?_
    rintro e' x' ⟨rfl, hb⟩
    refine ⟨?_, hc.below hb, hm.trans (mod_below hb (some g))⟩
    rw [← HP.out, hE]
  have HTail := Lib.hid tail; clear tail
  by_cases he : e = 0
  rotate_left
  · have HE : Hid ((takeS t a e n).2.2 = e) := Lib.hid (by unfold takeS; rw [if_neg he])
    have e1 : (e == 0) = false := beq_eq_false_iff_ne.2 he
    clear he
    obtain ⟨N, hN⟩ : ∃ N, (takeS t a e n).1 = N := ⟨_, rfl⟩
    rw [hN] at HQ HTail ⊢
    have HN := Lib.hid hN; clear hN
    go_enter Tryz.func127, Tryz.ntmps127
    go_wp2
    go_quiet (fail)
    go_wp2_with fail
    refine (HTail.out e _ HE.out (HC.out.drewN _) (mod_drawn (mod_refl _ _) _)).mono ?_
    rintro e' x' ⟨rfl, hc, hm⟩
    obtain ⟨⟨d0, d1, d2⟩, g0, g1, g2⟩ := hc.cells
    have HC9 := Lib.hid hc; have HM9 := Lib.hid hm
    have w9 : IntKind.i64.wrap ((a : Int) + (N.size : Int)) = (a : Int) + (N.size : Int) := by rw [IntKind.wrap_i64]; have := HQ.out; have := HLE.out; have := HT.out; omega
    clear hc hm
    go_wp2
    go_ret
    refine ⟨rfl, ⟨?_, HLE.out, HT.out⟩, HM9.out.trans (mod_set _ _ _ _)⟩
    refine HC9.out.1.upd 1 _ ?_
    rw [HE.out, HQ.out]
    simp [curC]
  subst he
  by_cases h0 : n < 0
  · have HE : Hid ((takeS t a 0 n).2.2 = 3) := Lib.hid (by unfold takeS; rw [if_pos rfl, if_neg]; simp [hasC]; omega)
    have d0 : decide (n < 0) = true := decide_eq_true h0
    clear h0
    obtain ⟨N, hN⟩ : ∃ N, (takeS t a 0 n).1 = N := ⟨_, rfl⟩
    rw [hN] at HQ HTail ⊢
    have HN := Lib.hid hN; clear hN
    go_enter Tryz.func127, Tryz.ntmps127
    go_wp2
    go_quiet (fail)
    go_wp2_with fail
    refine (HTail.out 3 _ HE.out ⟨(HC.out.drewN _).1.upd 2 _ (by simp [curC]), HC.out.2⟩ ((mod_drawn (mod_refl _ _) _).trans (mod_set _ _ _ _))).mono ?_
    rintro e' x' ⟨rfl, hc, hm⟩
    obtain ⟨⟨d0, d1, d2⟩, g0, g1, g2⟩ := hc.cells
    have HC9 := Lib.hid hc; have HM9 := Lib.hid hm
    have w9 : IntKind.i64.wrap ((a : Int) + (N.size : Int)) = (a : Int) + (N.size : Int) := by rw [IntKind.wrap_i64]; have := HQ.out; have := HLE.out; have := HT.out; omega
    clear hc hm
    go_wp2
    go_ret
    refine ⟨rfl, ⟨?_, HLE.out, HT.out⟩, HM9.out.trans (mod_set _ _ _ _)⟩
    refine HC9.out.1.upd 1 _ ?_
    rw [HE.out, HQ.out]
    simp [curC]
  have d0 : decide (n < 0) = false := decide_eq_false h0
  by_cases h1 : (t.size : Int) - a < n
  · have HE : Hid ((takeS t a 0 n).2.2 = 3) := Lib.hid (by unfold takeS; rw [if_pos rfl, if_neg]; simp [hasC]; omega)
    have d1 : decide ((t.size : Int) - a < n) = true := decide_eq_true h1
    clear h0 h1
    obtain ⟨N, hN⟩ : ∃ N, (takeS t a 0 n).1 = N := ⟨_, rfl⟩
    rw [hN] at HQ HTail ⊢
    have HN := Lib.hid hN; clear hN
    go_enter Tryz.func127, Tryz.ntmps127
    go_wp2
    go_quiet (fail)
    go_wp2_with fail
    refine (HTail.out 3 _ HE.out ⟨(HC.out.drewN _).1.upd 2 _ (by simp [curC]), HC.out.2⟩ ((mod_drawn (mod_refl _ _) _).trans (mod_set _ _ _ _))).mono ?_
    rintro e' x' ⟨rfl, hc, hm⟩
    obtain ⟨⟨d0, d1, d2⟩, g0, g1, g2⟩ := hc.cells
    have HC9 := Lib.hid hc; have HM9 := Lib.hid hm
    have w9 : IntKind.i64.wrap ((a : Int) + (N.size : Int)) = (a : Int) + (N.size : Int) := by rw [IntKind.wrap_i64]; have := HQ.out; have := HLE.out; have := HT.out; omega
    clear hc hm
    go_wp2
    go_ret
    refine ⟨rfl, ⟨?_, HLE.out, HT.out⟩, HM9.out.trans (mod_set _ _ _ _)⟩
    refine HC9.out.1.upd 1 _ ?_
    rw [HE.out, HQ.out]
    simp [curC]
  · have HE : Hid ((takeS t a 0 n).2.2 = 0) := Lib.hid (by unfold takeS; rw [if_pos rfl, if_pos]; simp [hasC]; omega)
    have d1 : decide ((t.size : Int) - a < n) = false := decide_eq_false h1
    clear h0 h1
    obtain ⟨N, hN⟩ : ∃ N, (takeS t a 0 n).1 = N := ⟨_, rfl⟩
    rw [hN] at HQ HTail ⊢
    have HN := Lib.hid hN; clear hN
    go_enter Tryz.func127, Tryz.ntmps127
    go_wp2
    go_quiet (fail)
    go_wp2_with fail
    refine (HTail.out 0 _ HE.out (HC.out.drewN _) (mod_drawn (mod_refl _ _) _)).mono ?_
    rintro e' x' ⟨rfl, hc, hm⟩
    obtain ⟨⟨d0, d1, d2⟩, g0, g1, g2⟩ := hc.cells
    have HC9 := Lib.hid hc; have HM9 := Lib.hid hm
    have w9 : IntKind.i64.wrap ((a : Int) + (N.size : Int)) = (a : Int) + (N.size : Int) := by rw [IntKind.wrap_i64]; have := HQ.out; have := HLE.out; have := HT.out; omega
    clear hc hm
    go_wp2
    go_ret
    refine ⟨rfl, ⟨?_, HLE.out, HT.out⟩, HM9.out.trans (mod_set _ _ _ _)⟩
    refine HC9.out.1.upd 1 _ ?_
    rw [HE.out, HQ.out]
    simp [curC]

set_option maxHeartbeats 400000 in
set_option maxRecDepth 10000 in
theorem refNumber_any (g a : Nat) (t : ByteArray) (e : Int) (n : Int) (w : World) (h : RCur w g t a e) (hn : n ≤ 8) :
    Calls Tryz.prog 76 #[.pointer (some ⟨g, 0, none⟩), .int .i64 n] w fun e' w' =>
      e' = .returned (.int .u64 (numS t a e n)) ∧ RCur w' g t (takeS t a e n).2.1 (takeS t a e n).2.2 ∧ w.grownBy w' (some g) := by
  have HZ := Lib.hid (takeS_size h.2.1 e n 8 hn)
  have HC := Lib.hid h; clear h
  go_enter Tryz.func76, Tryz.ntmps76
  go_wp2_with fail
  refine (refTake_any g a t e n _ HC.out).mono ?_
  rintro e' w1 ⟨rfl, hc, hm⟩
  have HH := Lib.hid (And.intro hc hm); clear hc hm
  go_wp2_with fail
  refine (refGet_any _ _ HZ.out).mono ?_
  rintro e' w' ⟨rfl, rfl⟩
  go_wp2
  go_ret
  exact ⟨rfl, HH.out⟩

set_option maxHeartbeats 400000 in
set_option maxRecDepth 10000 in
theorem refFail_any (g a : Nat) (t : ByteArray) (e : Int) (n : Int) (w : World) (h : RCur w g t a e) :
    Calls Tryz.prog 131 #[.pointer (some ⟨g, 0, none⟩), .int .i64 n] w fun e' w' =>
      e' = .returned (.tuple #[]) ∧ RCur w' g t a (if e = 0 then n else e) ∧ w.grownBy w' (some g) := by
  have HC := Lib.hid h
  obtain ⟨⟨c0, c1, c2⟩, f0, f1, f2⟩ := h.cells
  clear h
  by_cases he : e = 0
  · subst he
    rw [if_pos rfl]
    go_enter Tryz.func131, Tryz.ntmps131
    go_wp2
    go_end0
    refine ⟨rfl, ⟨HC.out.1.upd 2 _ ?_, HC.out.2⟩, mod_set _ _ _ _⟩
    simp [curC]
  · rw [if_neg he]
    have hb : (e == 0) = false := by simpa using he
    clear he
    go_enter Tryz.func131, Tryz.ntmps131
    go_wp2
    go_end0
    exact ⟨rfl, HC.out, mod_refl _ _⟩

set_option maxHeartbeats 400000 in
set_option maxRecDepth 10000 in
theorem refRest_any (g a : Nat) (t : ByteArray) (e : Int) (w : World) (h : RCur w g t a e) :
    Calls Tryz.prog 129 #[.pointer (some ⟨g, 0, none⟩)] w fun e' w' => e' = .returned (.string (t.extract a t.size)) ∧ Below w.heap.size w w' := by
  obtain ⟨⟨c0, c1, c2⟩, f0, f1, f2⟩ := h.cells
  obtain ⟨_, ha, ht⟩ := h
  have i1 : (0 : Int) ≤ (a : Int) := by omega
  have i3 : (a : Int) ≤ (t.size : Int) := by omega
  go_enter Tryz.func129, Tryz.ntmps129
  go_wp2
  go_quiet (fail)
  go_wp2
  go_ret
  exact ⟨rfl, below_drawn (Below.refl _ _) _⟩

set_option maxHeartbeats 400000 in
set_option maxRecDepth 10000 in
theorem refLeft_any (g a : Nat) (t : ByteArray) (e : Int) (w : World) (h : RCur w g t a e) :
    Calls Tryz.prog 78 #[.pointer (some ⟨g, 0, none⟩)] w fun e' w' => e' = .returned (.int .i64 ((t.size - a : Nat) : Int)) ∧ Below w.heap.size w w' := by
  obtain ⟨⟨c0, c1, c2⟩, f0, f1, f2⟩ := h.cells
  obtain ⟨_, ha, ht⟩ := h
  have w0 : IntKind.i64.wrap ((t.size : Int) - (a : Int)) = (t.size : Int) - (a : Int) := by rw [IntKind.wrap_i64]; omega
  have HS : Hid (((t.size - a : Nat) : Int) = (t.size : Int) - (a : Int)) := Lib.hid (by omega)
  go_enter Tryz.func78, Tryz.ntmps78
  go_wp2
  go_quiet (fail)
  go_wp2
  go_ret
  exact ⟨by rw [HS.out]; rfl, below_drawn (Below.refl _ _) _⟩
end Go.Proofs.YtmkkjiogokfnmaaGreatDoor

namespace Go.Proofs.YtmkkjiogokfnmaaGreatDoor
open Go.RowKit
/-- Who may have a property, as the reference lists it. -/
def kindTab : List (Nat × List Int) :=
  [(1, [3, 16]), (2, [3, 16]), (3, [3, 16]), (8, [3, 16]), (9, [3, 16]), (11, [3, 8]), (17, [1, 2, 14]), (18, [2]), (26, [2]), (19, [2]), (21, [1, 2, 15]), (22, [1, 2, 15]), (23, [1]), (25, [1]), (24, [16]), (28, [2, 14]),
   (31, [2, 4, 5, 6, 7, 9, 11, 14, 15]), (33, [1, 2]), (34, [1, 2]), (35, [3]), (36, [2]), (37, [2]), (40, [2]), (41, [2]), (42, [2]), (38, [1, 2, 3, 4, 5, 6, 7, 8, 9, 10, 11, 14, 15, 16]), (39, [1, 2])]
def kindsOf (id : Int) : List Int := ((kindTab.find? fun p => (p.1 : Int) == id).map (·.2)).getD []
def rowV (id : Int) (A : Option Addr) (c : Nat) : Value := .agg #[.int .i64 (ruleOf id).shape, .slice A (kindsOf id).length c, .int .u32 (ruleOf id).least, .int .u32 (ruleOf id).most]
abbrev RwT : TypeId := 205
def RowOut (id : Int) (w : World) (e : Ending) (w' : World) : Prop := ∃ A c, e = .returned (rowV id A c) ∧ Rd w' w'.heap.size 1 A (kindsOf id).length (iv (kindsOf id)) ∧ Below w.heap.size w w'
set_option maxHeartbeats 400000 in
theorem rone_any (A : Option Addr) (n c : Nat) (w : World) : Calls Tryz.prog 294 #[.slice A n c] w fun e w' => e = .returned (.agg #[.int .i64 1, .slice A n c, .int .u32 0, .int .u32 1]) ∧ Below w.heap.size w w' := by
  go_enter Tryz.func294, Tryz.ntmps294
  go_wp2
  exact bodyPost_ret (v := .agg #[.int .i64 1, .slice A n c, .int .u32 0, .int .u32 1]) (by simp [results, Tryz.results294, go_sem]) rfl ⟨rfl, (Below.refl _ _).alloc (Nat.le_refl _) _⟩
set_option maxHeartbeats 400000 in
theorem rtwo_any (A : Option Addr) (n c : Nat) (l : Int) (w : World) : Calls Tryz.prog 297 #[.slice A n c, .int .u32 l] w fun e w' => e = .returned (.agg #[.int .i64 2, .slice A n c, .int .u32 l, .int .u32 65535]) ∧ Below w.heap.size w w' := by
  go_enter Tryz.func297, Tryz.ntmps297
  go_wp2
  exact bodyPost_ret (v := .agg #[.int .i64 2, .slice A n c, .int .u32 l, .int .u32 65535]) (by simp [results, Tryz.results297, go_sem]) rfl ⟨rfl, (Below.refl _ _).alloc (Nat.le_refl _) _⟩
set_option maxHeartbeats 400000 in
theorem rfour_any (A : Option Addr) (n c : Nat) (l : Int) (w : World) : Calls Tryz.prog 295 #[.slice A n c, .int .u32 l] w fun e w' => e = .returned (.agg #[.int .i64 3, .slice A n c, .int .u32 l, .int .u32 4294967295]) ∧ Below w.heap.size w w' := by
  go_enter Tryz.func295, Tryz.ntmps295
  go_wp2
  exact bodyPost_ret (v := .agg #[.int .i64 3, .slice A n c, .int .u32 l, .int .u32 4294967295]) (by simp [results, Tryz.results295, go_sem]) rfl ⟨rfl, (Below.refl _ _).alloc (Nat.le_refl _) _⟩
set_option maxHeartbeats 400000 in
theorem rof_any (A : Option Addr) (n c : Nat) (k : Int) (w : World) : Calls Tryz.prog 296 #[.int .i64 k, .slice A n c] w fun e w' => e = .returned (.agg #[.int .i64 k, .slice A n c, .int .u32 0, .int .u32 0]) ∧ Below w.heap.size w w' := by
  go_enter Tryz.func296, Tryz.ntmps296
  go_wp2
  exact bodyPost_ret (v := .agg #[.int .i64 k, .slice A n c, .int .u32 0, .int .u32 0]) (by simp [results, Tryz.results296, go_sem]) rfl ⟨rfl, (Below.refl _ _).alloc (Nat.le_refl _) _⟩
end Go.Proofs.YtmkkjiogokfnmaaGreatDoor

namespace Go.Proofs.YtmkkjiogokfnmaaGreatDoor
open Go.RowKit
theorem heap_alloc_sz (w : World) (o : Obj) : (w.alloc o).heap.size = w.heap.size + 1 := by simp
theorem Rd.of_bk {w : World} {g n : Nat} {t : TypeId} {cs : Array Value} {xs : List Value} (h : Bk w g t cs) (hx : cs.toList = xs) (hn : xs.length = n) : Rd w w.heap.size 1 (some ⟨g, 0, none⟩) n xs := by
  subst hx hn
  refine Rd.of_addr (by omega) h.lt fun j u hu => ?_
  have e : (⟨g, 0, none⟩ : Addr).add j = ⟨g, j, none⟩ := by simp [Addr.add]; intro e; exact e.symm
  rw [e, h.cell, ← hu]
  simp
theorem row_fin {w x : World} {id : Int} {cs : Array Value} {t : TypeId} {n : Nat} {sh le mo : Int} {a b c d : Value} {ks : List Int} (hk : kindsOf id = ks) (hc : cs.toList = iv ks) (hn : ks.length = n) (hr : ((ruleOf id).shape : Int) = sh ∧ ((ruleOf id).least : Int) = le ∧ ((ruleOf id).most : Int) = mo)
    (hs : Bk x (w.heap.size + 1) t cs) (hb : Below w.heap.size w x) :
    RowOut id w (.returned (.agg #[.int .i64 sh, .slice (some ⟨w.heap.size + 1, 0, none⟩) n n, .int .u32 le, .int .u32 mo])) ((((x.setCell ⟨w.heap.size, 0, none⟩ a).setCell ⟨w.heap.size, 1, none⟩ b).setCell ⟨w.heap.size, 2, none⟩ c).setCell ⟨w.heap.size, 3, none⟩ d) := by
  obtain ⟨rfl, rfl, rfl⟩ := hr
  subst hk hn
  exact ⟨_, _, rfl, Rd.of_bk (hs.put_other (by omega)) hc (iv_len _), below_four hb (Nat.le_refl _) _ _ _ _⟩
theorem results_row {fn : Func} {p : Tmp} (hr : fn.results = #[.cell p RwT]) (tmps : Array Value) {w : World} {g : Nat} {a b c d : Value} (hp : tmps.getD p undef = .pointer (some ⟨g, 0, none⟩)) (hb : Bk w g RwT #[a, b, c, d]) : (results fn tmps).run Tryz.prog w = .ok (.agg #[a, b, c, d]) w := by
  obtain ⟨⟨c0, c1, c2, c3⟩, -⟩ := hb.four
  rw [Array.getD_eq_getD_getElem?] at hp
  simp only [results, hr]
  simp [hp, go_sem, c0, c1, c2, c3]
set_option maxHeartbeats 1000000 in
set_option maxRecDepth 10000 in
theorem look_1 (w : World) : Calls Tryz.prog 243 #[.int .i64 1] w (RowOut 1 w) := by
  have HR := Lib.hid ((Bk.fresh w RwT #[.int .i64 0, .slice none 0 0, .int .u32 0, .int .u32 0]).alloc (.cells #[.int .i64 3, .int .i64 16] 3))
  have HS := Lib.hid (Bk.fresh (w.alloc (.cells #[.int .i64 0, .slice none 0 0, .int .u32 0, .int .u32 0] RwT)) 3 #[.int .i64 3, .int .i64 16])
  rw [heap_alloc_sz] at HS
  have HB := Lib.hid (((Below.refl w.heap.size w).alloc (Nat.le_refl _) (.cells #[.int .i64 0, .slice none 0 0, .int .u32 0, .int .u32 0] RwT)).alloc (by simp) (.cells #[.int .i64 3, .int .i64 16] 3))
  go_enter Tryz.func243, Tryz.ntmps243
  go_wp2_with fail
  refine (rone_any _ _ _ _).mono ?_
  rintro e w1 ⟨rfl, hb⟩
  have HR1 := Lib.hid (HR.out.below hb HR.out.lt); have HS1 := Lib.hid (HS.out.below hb HS.out.lt); have HB1 := Lib.hid (HB.out.trans (hb.mono HB.out.size)); clear hb
  obtain ⟨⟨c0, c1, c2, c3⟩, f0, f1, f2, f3⟩ := HR1.out.four
  go_wp2
  refine bodyPost_ret (results_row rfl _ rfl HR1.out.put_four) rfl (row_fin (ks := [3, 16]) (by decide +kernel) rfl rfl (by decide +kernel) HS1.out HB1.out)
set_option maxHeartbeats 1000000 in
set_option maxRecDepth 10000 in
theorem look_2 (w : World) : Calls Tryz.prog 243 #[.int .i64 2] w (RowOut 2 w) := by
  have HR := Lib.hid ((Bk.fresh w RwT #[.int .i64 0, .slice none 0 0, .int .u32 0, .int .u32 0]).alloc (.cells #[.int .i64 3, .int .i64 16] 3))
  have HS := Lib.hid (Bk.fresh (w.alloc (.cells #[.int .i64 0, .slice none 0 0, .int .u32 0, .int .u32 0] RwT)) 3 #[.int .i64 3, .int .i64 16])
  rw [heap_alloc_sz] at HS
  have HB := Lib.hid (((Below.refl w.heap.size w).alloc (Nat.le_refl _) (.cells #[.int .i64 0, .slice none 0 0, .int .u32 0, .int .u32 0] RwT)).alloc (by simp) (.cells #[.int .i64 3, .int .i64 16] 3))
  go_enter Tryz.func243, Tryz.ntmps243
  go_wp2_with fail
  refine (rfour_any _ _ _ 0 _).mono ?_
  rintro e w1 ⟨rfl, hb⟩
  have HR1 := Lib.hid (HR.out.below hb HR.out.lt); have HS1 := Lib.hid (HS.out.below hb HS.out.lt); have HB1 := Lib.hid (HB.out.trans (hb.mono HB.out.size)); clear hb
  obtain ⟨⟨c0, c1, c2, c3⟩, f0, f1, f2, f3⟩ := HR1.out.four
  go_wp2
  refine bodyPost_ret (results_row rfl _ rfl HR1.out.put_four) rfl (row_fin (ks := [3, 16]) (by decide +kernel) rfl rfl (by decide +kernel) HS1.out HB1.out)
set_option maxHeartbeats 1000000 in
set_option maxRecDepth 10000 in
theorem look_3 (w : World) : Calls Tryz.prog 243 #[.int .i64 3] w (RowOut 3 w) := by
  have HR := Lib.hid ((Bk.fresh w RwT #[.int .i64 0, .slice none 0 0, .int .u32 0, .int .u32 0]).alloc (.cells #[.int .i64 3, .int .i64 16] 3))
  have HS := Lib.hid (Bk.fresh (w.alloc (.cells #[.int .i64 0, .slice none 0 0, .int .u32 0, .int .u32 0] RwT)) 3 #[.int .i64 3, .int .i64 16])
  rw [heap_alloc_sz] at HS
  have HB := Lib.hid (((Below.refl w.heap.size w).alloc (Nat.le_refl _) (.cells #[.int .i64 0, .slice none 0 0, .int .u32 0, .int .u32 0] RwT)).alloc (by simp) (.cells #[.int .i64 3, .int .i64 16] 3))
  go_enter Tryz.func243, Tryz.ntmps243
  go_wp2_with fail
  refine (rof_any _ _ _ 5 _).mono ?_
  rintro e w1 ⟨rfl, hb⟩
  have HR1 := Lib.hid (HR.out.below hb HR.out.lt); have HS1 := Lib.hid (HS.out.below hb HS.out.lt); have HB1 := Lib.hid (HB.out.trans (hb.mono HB.out.size)); clear hb
  obtain ⟨⟨c0, c1, c2, c3⟩, f0, f1, f2, f3⟩ := HR1.out.four
  go_wp2
  refine bodyPost_ret (results_row rfl _ rfl HR1.out.put_four) rfl (row_fin (ks := [3, 16]) (by decide +kernel) rfl rfl (by decide +kernel) HS1.out HB1.out)
set_option maxHeartbeats 1000000 in
set_option maxRecDepth 10000 in
theorem look_8 (w : World) : Calls Tryz.prog 243 #[.int .i64 8] w (RowOut 8 w) := by
  have HR := Lib.hid ((Bk.fresh w RwT #[.int .i64 0, .slice none 0 0, .int .u32 0, .int .u32 0]).alloc (.cells #[.int .i64 3, .int .i64 16] 3))
  have HS := Lib.hid (Bk.fresh (w.alloc (.cells #[.int .i64 0, .slice none 0 0, .int .u32 0, .int .u32 0] RwT)) 3 #[.int .i64 3, .int .i64 16])
  rw [heap_alloc_sz] at HS
  have HB := Lib.hid (((Below.refl w.heap.size w).alloc (Nat.le_refl _) (.cells #[.int .i64 0, .slice none 0 0, .int .u32 0, .int .u32 0] RwT)).alloc (by simp) (.cells #[.int .i64 3, .int .i64 16] 3))
  go_enter Tryz.func243, Tryz.ntmps243
  go_wp2_with fail
  refine (rof_any _ _ _ 5 _).mono ?_
  rintro e w1 ⟨rfl, hb⟩
  have HR1 := Lib.hid (HR.out.below hb HR.out.lt); have HS1 := Lib.hid (HS.out.below hb HS.out.lt); have HB1 := Lib.hid (HB.out.trans (hb.mono HB.out.size)); clear hb
  obtain ⟨⟨c0, c1, c2, c3⟩, f0, f1, f2, f3⟩ := HR1.out.four
  go_wp2
  refine bodyPost_ret (results_row rfl _ rfl HR1.out.put_four) rfl (row_fin (ks := [3, 16]) (by decide +kernel) rfl rfl (by decide +kernel) HS1.out HB1.out)
set_option maxHeartbeats 1000000 in
set_option maxRecDepth 10000 in
theorem look_9 (w : World) : Calls Tryz.prog 243 #[.int .i64 9] w (RowOut 9 w) := by
  have HR := Lib.hid ((Bk.fresh w RwT #[.int .i64 0, .slice none 0 0, .int .u32 0, .int .u32 0]).alloc (.cells #[.int .i64 3, .int .i64 16] 3))
  have HS := Lib.hid (Bk.fresh (w.alloc (.cells #[.int .i64 0, .slice none 0 0, .int .u32 0, .int .u32 0] RwT)) 3 #[.int .i64 3, .int .i64 16])
  rw [heap_alloc_sz] at HS
  have HB := Lib.hid (((Below.refl w.heap.size w).alloc (Nat.le_refl _) (.cells #[.int .i64 0, .slice none 0 0, .int .u32 0, .int .u32 0] RwT)).alloc (by simp) (.cells #[.int .i64 3, .int .i64 16] 3))
  go_enter Tryz.func243, Tryz.ntmps243
  go_wp2_with fail
  refine (rof_any _ _ _ 6 _).mono ?_
  rintro e w1 ⟨rfl, hb⟩
  have HR1 := Lib.hid (HR.out.below hb HR.out.lt); have HS1 := Lib.hid (HS.out.below hb HS.out.lt); have HB1 := Lib.hid (HB.out.trans (hb.mono HB.out.size)); clear hb
  obtain ⟨⟨c0, c1, c2, c3⟩, f0, f1, f2, f3⟩ := HR1.out.four
  go_wp2
  refine bodyPost_ret (results_row rfl _ rfl HR1.out.put_four) rfl (row_fin (ks := [3, 16]) (by decide +kernel) rfl rfl (by decide +kernel) HS1.out HB1.out)
set_option maxHeartbeats 1000000 in
set_option maxRecDepth 10000 in
theorem look_11 (w : World) : Calls Tryz.prog 243 #[.int .i64 11] w (RowOut 11 w) := by
  have HR := Lib.hid ((Bk.fresh w RwT #[.int .i64 0, .slice none 0 0, .int .u32 0, .int .u32 0]).alloc (.cells #[.int .i64 3, .int .i64 8] 3))
  have HS := Lib.hid (Bk.fresh (w.alloc (.cells #[.int .i64 0, .slice none 0 0, .int .u32 0, .int .u32 0] RwT)) 3 #[.int .i64 3, .int .i64 8])
  rw [heap_alloc_sz] at HS
  have HB := Lib.hid (((Below.refl w.heap.size w).alloc (Nat.le_refl _) (.cells #[.int .i64 0, .slice none 0 0, .int .u32 0, .int .u32 0] RwT)).alloc (by simp) (.cells #[.int .i64 3, .int .i64 8] 3))
  go_enter Tryz.func243, Tryz.ntmps243
  have HR1 := HR; have HS1 := HS; have HB1 := HB
  go_wp2
  refine bodyPost_ret (v := .agg #[.int .i64 4, .slice (some ⟨w.heap.size + 1, 0, none⟩) 2 2, .int .u32 1, .int .u32 268435455]) (by simp [results, Tryz.results243, go_sem]) rfl ⟨_, _, rfl, ?_, ((Below.refl w.heap.size w).alloc (Nat.le_refl _) _).alloc (by simp) _⟩
  have hb := Bk.fresh (w.alloc (.cells #[.int .i64 4, .slice (some ⟨w.heap.size + 1, 0, none⟩) 2 2, .int .u32 1, .int .u32 268435455] RwT)) 3 #[.int .i64 3, .int .i64 8]
  rw [heap_alloc_sz] at hb
  exact Rd.of_bk hb rfl rfl
set_option maxHeartbeats 1000000 in
set_option maxRecDepth 10000 in
theorem look_17 (w : World) : Calls Tryz.prog 243 #[.int .i64 17] w (RowOut 17 w) := by
  have HR := Lib.hid ((Bk.fresh w RwT #[.int .i64 0, .slice none 0 0, .int .u32 0, .int .u32 0]).alloc (.cells #[.int .i64 1, .int .i64 2, .int .i64 14] 3))
  have HS := Lib.hid (Bk.fresh (w.alloc (.cells #[.int .i64 0, .slice none 0 0, .int .u32 0, .int .u32 0] RwT)) 3 #[.int .i64 1, .int .i64 2, .int .i64 14])
  rw [heap_alloc_sz] at HS
  have HB := Lib.hid (((Below.refl w.heap.size w).alloc (Nat.le_refl _) (.cells #[.int .i64 0, .slice none 0 0, .int .u32 0, .int .u32 0] RwT)).alloc (by simp) (.cells #[.int .i64 1, .int .i64 2, .int .i64 14] 3))
  go_enter Tryz.func243, Tryz.ntmps243
  go_wp2_with fail
  refine (rfour_any _ _ _ 0 _).mono ?_
  rintro e w1 ⟨rfl, hb⟩
  have HR1 := Lib.hid (HR.out.below hb HR.out.lt); have HS1 := Lib.hid (HS.out.below hb HS.out.lt); have HB1 := Lib.hid (HB.out.trans (hb.mono HB.out.size)); clear hb
  obtain ⟨⟨c0, c1, c2, c3⟩, f0, f1, f2, f3⟩ := HR1.out.four
  go_wp2
  refine bodyPost_ret (results_row rfl _ rfl HR1.out.put_four) rfl (row_fin (ks := [1, 2, 14]) (by decide +kernel) rfl rfl (by decide +kernel) HS1.out HB1.out)
set_option maxHeartbeats 1000000 in
set_option maxRecDepth 10000 in
theorem look_18 (w : World) : Calls Tryz.prog 243 #[.int .i64 18] w (RowOut 18 w) := by
  have HR := Lib.hid ((Bk.fresh w RwT #[.int .i64 0, .slice none 0 0, .int .u32 0, .int .u32 0]).alloc (.cells #[.int .i64 2] 3))
  have HS := Lib.hid (Bk.fresh (w.alloc (.cells #[.int .i64 0, .slice none 0 0, .int .u32 0, .int .u32 0] RwT)) 3 #[.int .i64 2])
  rw [heap_alloc_sz] at HS
  have HB := Lib.hid (((Below.refl w.heap.size w).alloc (Nat.le_refl _) (.cells #[.int .i64 0, .slice none 0 0, .int .u32 0, .int .u32 0] RwT)).alloc (by simp) (.cells #[.int .i64 2] 3))
  go_enter Tryz.func243, Tryz.ntmps243
  go_wp2_with fail
  refine (rof_any _ _ _ 5 _).mono ?_
  rintro e w1 ⟨rfl, hb⟩
  have HR1 := Lib.hid (HR.out.below hb HR.out.lt); have HS1 := Lib.hid (HS.out.below hb HS.out.lt); have HB1 := Lib.hid (HB.out.trans (hb.mono HB.out.size)); clear hb
  obtain ⟨⟨c0, c1, c2, c3⟩, f0, f1, f2, f3⟩ := HR1.out.four
  go_wp2
  refine bodyPost_ret (results_row rfl _ rfl HR1.out.put_four) rfl (row_fin (ks := [2]) (by decide +kernel) rfl rfl (by decide +kernel) HS1.out HB1.out)
set_option maxHeartbeats 1000000 in
set_option maxRecDepth 10000 in
theorem look_26 (w : World) : Calls Tryz.prog 243 #[.int .i64 26] w (RowOut 26 w) := by
  have HR := Lib.hid ((Bk.fresh w RwT #[.int .i64 0, .slice none 0 0, .int .u32 0, .int .u32 0]).alloc (.cells #[.int .i64 2] 3))
  have HS := Lib.hid (Bk.fresh (w.alloc (.cells #[.int .i64 0, .slice none 0 0, .int .u32 0, .int .u32 0] RwT)) 3 #[.int .i64 2])
  rw [heap_alloc_sz] at HS
  have HB := Lib.hid (((Below.refl w.heap.size w).alloc (Nat.le_refl _) (.cells #[.int .i64 0, .slice none 0 0, .int .u32 0, .int .u32 0] RwT)).alloc (by simp) (.cells #[.int .i64 2] 3))
  go_enter Tryz.func243, Tryz.ntmps243
  go_wp2_with fail
  refine (rof_any _ _ _ 5 _).mono ?_
  rintro e w1 ⟨rfl, hb⟩
  have HR1 := Lib.hid (HR.out.below hb HR.out.lt); have HS1 := Lib.hid (HS.out.below hb HS.out.lt); have HB1 := Lib.hid (HB.out.trans (hb.mono HB.out.size)); clear hb
  obtain ⟨⟨c0, c1, c2, c3⟩, f0, f1, f2, f3⟩ := HR1.out.four
  go_wp2
  refine bodyPost_ret (results_row rfl _ rfl HR1.out.put_four) rfl (row_fin (ks := [2]) (by decide +kernel) rfl rfl (by decide +kernel) HS1.out HB1.out)
set_option maxHeartbeats 1000000 in
set_option maxRecDepth 10000 in
theorem look_19 (w : World) : Calls Tryz.prog 243 #[.int .i64 19] w (RowOut 19 w) := by
  have HR := Lib.hid ((Bk.fresh w RwT #[.int .i64 0, .slice none 0 0, .int .u32 0, .int .u32 0]).alloc (.cells #[.int .i64 2] 3))
  have HS := Lib.hid (Bk.fresh (w.alloc (.cells #[.int .i64 0, .slice none 0 0, .int .u32 0, .int .u32 0] RwT)) 3 #[.int .i64 2])
  rw [heap_alloc_sz] at HS
  have HB := Lib.hid (((Below.refl w.heap.size w).alloc (Nat.le_refl _) (.cells #[.int .i64 0, .slice none 0 0, .int .u32 0, .int .u32 0] RwT)).alloc (by simp) (.cells #[.int .i64 2] 3))
  go_enter Tryz.func243, Tryz.ntmps243
  go_wp2_with fail
  refine (rtwo_any _ _ _ 0 _).mono ?_
  rintro e w1 ⟨rfl, hb⟩
  have HR1 := Lib.hid (HR.out.below hb HR.out.lt); have HS1 := Lib.hid (HS.out.below hb HS.out.lt); have HB1 := Lib.hid (HB.out.trans (hb.mono HB.out.size)); clear hb
  obtain ⟨⟨c0, c1, c2, c3⟩, f0, f1, f2, f3⟩ := HR1.out.four
  go_wp2
  refine bodyPost_ret (results_row rfl _ rfl HR1.out.put_four) rfl (row_fin (ks := [2]) (by decide +kernel) rfl rfl (by decide +kernel) HS1.out HB1.out)
set_option maxHeartbeats 1000000 in
set_option maxRecDepth 10000 in
theorem look_21 (w : World) : Calls Tryz.prog 243 #[.int .i64 21] w (RowOut 21 w) := by
  have HR := Lib.hid ((Bk.fresh w RwT #[.int .i64 0, .slice none 0 0, .int .u32 0, .int .u32 0]).alloc (.cells #[.int .i64 1, .int .i64 2, .int .i64 15] 3))
  have HS := Lib.hid (Bk.fresh (w.alloc (.cells #[.int .i64 0, .slice none 0 0, .int .u32 0, .int .u32 0] RwT)) 3 #[.int .i64 1, .int .i64 2, .int .i64 15])
  rw [heap_alloc_sz] at HS
  have HB := Lib.hid (((Below.refl w.heap.size w).alloc (Nat.le_refl _) (.cells #[.int .i64 0, .slice none 0 0, .int .u32 0, .int .u32 0] RwT)).alloc (by simp) (.cells #[.int .i64 1, .int .i64 2, .int .i64 15] 3))
  go_enter Tryz.func243, Tryz.ntmps243
  go_wp2_with fail
  refine (rof_any _ _ _ 5 _).mono ?_
  rintro e w1 ⟨rfl, hb⟩
  have HR1 := Lib.hid (HR.out.below hb HR.out.lt); have HS1 := Lib.hid (HS.out.below hb HS.out.lt); have HB1 := Lib.hid (HB.out.trans (hb.mono HB.out.size)); clear hb
  obtain ⟨⟨c0, c1, c2, c3⟩, f0, f1, f2, f3⟩ := HR1.out.four
  go_wp2
  refine bodyPost_ret (results_row rfl _ rfl HR1.out.put_four) rfl (row_fin (ks := [1, 2, 15]) (by decide +kernel) rfl rfl (by decide +kernel) HS1.out HB1.out)
set_option maxHeartbeats 1000000 in
set_option maxRecDepth 10000 in
theorem look_22 (w : World) : Calls Tryz.prog 243 #[.int .i64 22] w (RowOut 22 w) := by
  have HR := Lib.hid ((Bk.fresh w RwT #[.int .i64 0, .slice none 0 0, .int .u32 0, .int .u32 0]).alloc (.cells #[.int .i64 1, .int .i64 2, .int .i64 15] 3))
  have HS := Lib.hid (Bk.fresh (w.alloc (.cells #[.int .i64 0, .slice none 0 0, .int .u32 0, .int .u32 0] RwT)) 3 #[.int .i64 1, .int .i64 2, .int .i64 15])
  rw [heap_alloc_sz] at HS
  have HB := Lib.hid (((Below.refl w.heap.size w).alloc (Nat.le_refl _) (.cells #[.int .i64 0, .slice none 0 0, .int .u32 0, .int .u32 0] RwT)).alloc (by simp) (.cells #[.int .i64 1, .int .i64 2, .int .i64 15] 3))
  go_enter Tryz.func243, Tryz.ntmps243
  go_wp2_with fail
  refine (rof_any _ _ _ 6 _).mono ?_
  rintro e w1 ⟨rfl, hb⟩
  have HR1 := Lib.hid (HR.out.below hb HR.out.lt); have HS1 := Lib.hid (HS.out.below hb HS.out.lt); have HB1 := Lib.hid (HB.out.trans (hb.mono HB.out.size)); clear hb
  obtain ⟨⟨c0, c1, c2, c3⟩, f0, f1, f2, f3⟩ := HR1.out.four
  go_wp2
  refine bodyPost_ret (results_row rfl _ rfl HR1.out.put_four) rfl (row_fin (ks := [1, 2, 15]) (by decide +kernel) rfl rfl (by decide +kernel) HS1.out HB1.out)
set_option maxHeartbeats 1000000 in
set_option maxRecDepth 10000 in
theorem look_23 (w : World) : Calls Tryz.prog 243 #[.int .i64 23] w (RowOut 23 w) := by
  have HR := Lib.hid ((Bk.fresh w RwT #[.int .i64 0, .slice none 0 0, .int .u32 0, .int .u32 0]).alloc (.cells #[.int .i64 1] 3))
  have HS := Lib.hid (Bk.fresh (w.alloc (.cells #[.int .i64 0, .slice none 0 0, .int .u32 0, .int .u32 0] RwT)) 3 #[.int .i64 1])
  rw [heap_alloc_sz] at HS
  have HB := Lib.hid (((Below.refl w.heap.size w).alloc (Nat.le_refl _) (.cells #[.int .i64 0, .slice none 0 0, .int .u32 0, .int .u32 0] RwT)).alloc (by simp) (.cells #[.int .i64 1] 3))
  go_enter Tryz.func243, Tryz.ntmps243
  go_wp2_with fail
  refine (rone_any _ _ _ _).mono ?_
  rintro e w1 ⟨rfl, hb⟩
  have HR1 := Lib.hid (HR.out.below hb HR.out.lt); have HS1 := Lib.hid (HS.out.below hb HS.out.lt); have HB1 := Lib.hid (HB.out.trans (hb.mono HB.out.size)); clear hb
  obtain ⟨⟨c0, c1, c2, c3⟩, f0, f1, f2, f3⟩ := HR1.out.four
  go_wp2
  refine bodyPost_ret (results_row rfl _ rfl HR1.out.put_four) rfl (row_fin (ks := [1]) (by decide +kernel) rfl rfl (by decide +kernel) HS1.out HB1.out)
set_option maxHeartbeats 1000000 in
set_option maxRecDepth 10000 in
theorem look_25 (w : World) : Calls Tryz.prog 243 #[.int .i64 25] w (RowOut 25 w) := by
  have HR := Lib.hid ((Bk.fresh w RwT #[.int .i64 0, .slice none 0 0, .int .u32 0, .int .u32 0]).alloc (.cells #[.int .i64 1] 3))
  have HS := Lib.hid (Bk.fresh (w.alloc (.cells #[.int .i64 0, .slice none 0 0, .int .u32 0, .int .u32 0] RwT)) 3 #[.int .i64 1])
  rw [heap_alloc_sz] at HS
  have HB := Lib.hid (((Below.refl w.heap.size w).alloc (Nat.le_refl _) (.cells #[.int .i64 0, .slice none 0 0, .int .u32 0, .int .u32 0] RwT)).alloc (by simp) (.cells #[.int .i64 1] 3))
  go_enter Tryz.func243, Tryz.ntmps243
  go_wp2_with fail
  refine (rone_any _ _ _ _).mono ?_
  rintro e w1 ⟨rfl, hb⟩
  have HR1 := Lib.hid (HR.out.below hb HR.out.lt); have HS1 := Lib.hid (HS.out.below hb HS.out.lt); have HB1 := Lib.hid (HB.out.trans (hb.mono HB.out.size)); clear hb
  obtain ⟨⟨c0, c1, c2, c3⟩, f0, f1, f2, f3⟩ := HR1.out.four
  go_wp2
  refine bodyPost_ret (results_row rfl _ rfl HR1.out.put_four) rfl (row_fin (ks := [1]) (by decide +kernel) rfl rfl (by decide +kernel) HS1.out HB1.out)
set_option maxHeartbeats 1000000 in
set_option maxRecDepth 10000 in
theorem look_24 (w : World) : Calls Tryz.prog 243 #[.int .i64 24] w (RowOut 24 w) := by
  have HR := Lib.hid ((Bk.fresh w RwT #[.int .i64 0, .slice none 0 0, .int .u32 0, .int .u32 0]).alloc (.cells #[.int .i64 16] 3))
  have HS := Lib.hid (Bk.fresh (w.alloc (.cells #[.int .i64 0, .slice none 0 0, .int .u32 0, .int .u32 0] RwT)) 3 #[.int .i64 16])
  rw [heap_alloc_sz] at HS
  have HB := Lib.hid (((Below.refl w.heap.size w).alloc (Nat.le_refl _) (.cells #[.int .i64 0, .slice none 0 0, .int .u32 0, .int .u32 0] RwT)).alloc (by simp) (.cells #[.int .i64 16] 3))
  go_enter Tryz.func243, Tryz.ntmps243
  go_wp2_with fail
  refine (rfour_any _ _ _ 0 _).mono ?_
  rintro e w1 ⟨rfl, hb⟩
  have HR1 := Lib.hid (HR.out.below hb HR.out.lt); have HS1 := Lib.hid (HS.out.below hb HS.out.lt); have HB1 := Lib.hid (HB.out.trans (hb.mono HB.out.size)); clear hb
  obtain ⟨⟨c0, c1, c2, c3⟩, f0, f1, f2, f3⟩ := HR1.out.four
  go_wp2
  refine bodyPost_ret (results_row rfl _ rfl HR1.out.put_four) rfl (row_fin (ks := [16]) (by decide +kernel) rfl rfl (by decide +kernel) HS1.out HB1.out)
set_option maxHeartbeats 1000000 in
set_option maxRecDepth 10000 in
theorem look_28 (w : World) : Calls Tryz.prog 243 #[.int .i64 28] w (RowOut 28 w) := by
  have HR := Lib.hid ((Bk.fresh w RwT #[.int .i64 0, .slice none 0 0, .int .u32 0, .int .u32 0]).alloc (.cells #[.int .i64 2, .int .i64 14] 3))
  have HS := Lib.hid (Bk.fresh (w.alloc (.cells #[.int .i64 0, .slice none 0 0, .int .u32 0, .int .u32 0] RwT)) 3 #[.int .i64 2, .int .i64 14])
  rw [heap_alloc_sz] at HS
  have HB := Lib.hid (((Below.refl w.heap.size w).alloc (Nat.le_refl _) (.cells #[.int .i64 0, .slice none 0 0, .int .u32 0, .int .u32 0] RwT)).alloc (by simp) (.cells #[.int .i64 2, .int .i64 14] 3))
  go_enter Tryz.func243, Tryz.ntmps243
  go_wp2_with fail
  refine (rof_any _ _ _ 5 _).mono ?_
  rintro e w1 ⟨rfl, hb⟩
  have HR1 := Lib.hid (HR.out.below hb HR.out.lt); have HS1 := Lib.hid (HS.out.below hb HS.out.lt); have HB1 := Lib.hid (HB.out.trans (hb.mono HB.out.size)); clear hb
  obtain ⟨⟨c0, c1, c2, c3⟩, f0, f1, f2, f3⟩ := HR1.out.four
  go_wp2
  refine bodyPost_ret (results_row rfl _ rfl HR1.out.put_four) rfl (row_fin (ks := [2, 14]) (by decide +kernel) rfl rfl (by decide +kernel) HS1.out HB1.out)
set_option maxHeartbeats 1000000 in
set_option maxRecDepth 10000 in
theorem look_31 (w : World) : Calls Tryz.prog 243 #[.int .i64 31] w (RowOut 31 w) := by
  have HR := Lib.hid ((Bk.fresh w RwT #[.int .i64 0, .slice none 0 0, .int .u32 0, .int .u32 0]).alloc (.cells #[.int .i64 2, .int .i64 4, .int .i64 5, .int .i64 6, .int .i64 7, .int .i64 9, .int .i64 11, .int .i64 14, .int .i64 15] 3))
  have HS := Lib.hid (Bk.fresh (w.alloc (.cells #[.int .i64 0, .slice none 0 0, .int .u32 0, .int .u32 0] RwT)) 3 #[.int .i64 2, .int .i64 4, .int .i64 5, .int .i64 6, .int .i64 7, .int .i64 9, .int .i64 11, .int .i64 14, .int .i64 15])
  rw [heap_alloc_sz] at HS
  have HB := Lib.hid (((Below.refl w.heap.size w).alloc (Nat.le_refl _) (.cells #[.int .i64 0, .slice none 0 0, .int .u32 0, .int .u32 0] RwT)).alloc (by simp) (.cells #[.int .i64 2, .int .i64 4, .int .i64 5, .int .i64 6, .int .i64 7, .int .i64 9, .int .i64 11, .int .i64 14, .int .i64 15] 3))
  go_enter Tryz.func243, Tryz.ntmps243
  go_wp2_with fail
  refine (rof_any _ _ _ 5 _).mono ?_
  rintro e w1 ⟨rfl, hb⟩
  have HR1 := Lib.hid (HR.out.below hb HR.out.lt); have HS1 := Lib.hid (HS.out.below hb HS.out.lt); have HB1 := Lib.hid (HB.out.trans (hb.mono HB.out.size)); clear hb
  obtain ⟨⟨c0, c1, c2, c3⟩, f0, f1, f2, f3⟩ := HR1.out.four
  go_wp2
  refine bodyPost_ret (results_row rfl _ rfl HR1.out.put_four) rfl (row_fin (ks := [2, 4, 5, 6, 7, 9, 11, 14, 15]) (by decide +kernel) rfl rfl (by decide +kernel) HS1.out HB1.out)
set_option maxHeartbeats 1000000 in
set_option maxRecDepth 10000 in
theorem look_33 (w : World) : Calls Tryz.prog 243 #[.int .i64 33] w (RowOut 33 w) := by
  have HR := Lib.hid ((Bk.fresh w RwT #[.int .i64 0, .slice none 0 0, .int .u32 0, .int .u32 0]).alloc (.cells #[.int .i64 1, .int .i64 2] 3))
  have HS := Lib.hid (Bk.fresh (w.alloc (.cells #[.int .i64 0, .slice none 0 0, .int .u32 0, .int .u32 0] RwT)) 3 #[.int .i64 1, .int .i64 2])
  rw [heap_alloc_sz] at HS
  have HB := Lib.hid (((Below.refl w.heap.size w).alloc (Nat.le_refl _) (.cells #[.int .i64 0, .slice none 0 0, .int .u32 0, .int .u32 0] RwT)).alloc (by simp) (.cells #[.int .i64 1, .int .i64 2] 3))
  go_enter Tryz.func243, Tryz.ntmps243
  go_wp2_with fail
  refine (rtwo_any _ _ _ 1 _).mono ?_
  rintro e w1 ⟨rfl, hb⟩
  have HR1 := Lib.hid (HR.out.below hb HR.out.lt); have HS1 := Lib.hid (HS.out.below hb HS.out.lt); have HB1 := Lib.hid (HB.out.trans (hb.mono HB.out.size)); clear hb
  obtain ⟨⟨c0, c1, c2, c3⟩, f0, f1, f2, f3⟩ := HR1.out.four
  go_wp2
  refine bodyPost_ret (results_row rfl _ rfl HR1.out.put_four) rfl (row_fin (ks := [1, 2]) (by decide +kernel) rfl rfl (by decide +kernel) HS1.out HB1.out)
set_option maxHeartbeats 1000000 in
set_option maxRecDepth 10000 in
theorem look_34 (w : World) : Calls Tryz.prog 243 #[.int .i64 34] w (RowOut 34 w) := by
  have HR := Lib.hid ((Bk.fresh w RwT #[.int .i64 0, .slice none 0 0, .int .u32 0, .int .u32 0]).alloc (.cells #[.int .i64 1, .int .i64 2] 3))
  have HS := Lib.hid (Bk.fresh (w.alloc (.cells #[.int .i64 0, .slice none 0 0, .int .u32 0, .int .u32 0] RwT)) 3 #[.int .i64 1, .int .i64 2])
  rw [heap_alloc_sz] at HS
  have HB := Lib.hid (((Below.refl w.heap.size w).alloc (Nat.le_refl _) (.cells #[.int .i64 0, .slice none 0 0, .int .u32 0, .int .u32 0] RwT)).alloc (by simp) (.cells #[.int .i64 1, .int .i64 2] 3))
  go_enter Tryz.func243, Tryz.ntmps243
  go_wp2_with fail
  refine (rtwo_any _ _ _ 0 _).mono ?_
  rintro e w1 ⟨rfl, hb⟩
  have HR1 := Lib.hid (HR.out.below hb HR.out.lt); have HS1 := Lib.hid (HS.out.below hb HS.out.lt); have HB1 := Lib.hid (HB.out.trans (hb.mono HB.out.size)); clear hb
  obtain ⟨⟨c0, c1, c2, c3⟩, f0, f1, f2, f3⟩ := HR1.out.four
  go_wp2
  refine bodyPost_ret (results_row rfl _ rfl HR1.out.put_four) rfl (row_fin (ks := [1, 2]) (by decide +kernel) rfl rfl (by decide +kernel) HS1.out HB1.out)
set_option maxHeartbeats 1000000 in
set_option maxRecDepth 10000 in
theorem look_35 (w : World) : Calls Tryz.prog 243 #[.int .i64 35] w (RowOut 35 w) := by
  have HR := Lib.hid ((Bk.fresh w RwT #[.int .i64 0, .slice none 0 0, .int .u32 0, .int .u32 0]).alloc (.cells #[.int .i64 3] 3))
  have HS := Lib.hid (Bk.fresh (w.alloc (.cells #[.int .i64 0, .slice none 0 0, .int .u32 0, .int .u32 0] RwT)) 3 #[.int .i64 3])
  rw [heap_alloc_sz] at HS
  have HB := Lib.hid (((Below.refl w.heap.size w).alloc (Nat.le_refl _) (.cells #[.int .i64 0, .slice none 0 0, .int .u32 0, .int .u32 0] RwT)).alloc (by simp) (.cells #[.int .i64 3] 3))
  go_enter Tryz.func243, Tryz.ntmps243
  go_wp2_with fail
  refine (rtwo_any _ _ _ 1 _).mono ?_
  rintro e w1 ⟨rfl, hb⟩
  have HR1 := Lib.hid (HR.out.below hb HR.out.lt); have HS1 := Lib.hid (HS.out.below hb HS.out.lt); have HB1 := Lib.hid (HB.out.trans (hb.mono HB.out.size)); clear hb
  obtain ⟨⟨c0, c1, c2, c3⟩, f0, f1, f2, f3⟩ := HR1.out.four
  go_wp2
  refine bodyPost_ret (results_row rfl _ rfl HR1.out.put_four) rfl (row_fin (ks := [3]) (by decide +kernel) rfl rfl (by decide +kernel) HS1.out HB1.out)
set_option maxHeartbeats 1000000 in
set_option maxRecDepth 10000 in
theorem look_36 (w : World) : Calls Tryz.prog 243 #[.int .i64 36] w (RowOut 36 w) := by
  have HR := Lib.hid ((Bk.fresh w RwT #[.int .i64 0, .slice none 0 0, .int .u32 0, .int .u32 0]).alloc (.cells #[.int .i64 2] 3))
  have HS := Lib.hid (Bk.fresh (w.alloc (.cells #[.int .i64 0, .slice none 0 0, .int .u32 0, .int .u32 0] RwT)) 3 #[.int .i64 2])
  rw [heap_alloc_sz] at HS
  have HB := Lib.hid (((Below.refl w.heap.size w).alloc (Nat.le_refl _) (.cells #[.int .i64 0, .slice none 0 0, .int .u32 0, .int .u32 0] RwT)).alloc (by simp) (.cells #[.int .i64 2] 3))
  go_enter Tryz.func243, Tryz.ntmps243
  go_wp2_with fail
  refine (rone_any _ _ _ _).mono ?_
  rintro e w1 ⟨rfl, hb⟩
  have HR1 := Lib.hid (HR.out.below hb HR.out.lt); have HS1 := Lib.hid (HS.out.below hb HS.out.lt); have HB1 := Lib.hid (HB.out.trans (hb.mono HB.out.size)); clear hb
  obtain ⟨⟨c0, c1, c2, c3⟩, f0, f1, f2, f3⟩ := HR1.out.four
  go_wp2
  refine bodyPost_ret (results_row rfl _ rfl HR1.out.put_four) rfl (row_fin (ks := [2]) (by decide +kernel) rfl rfl (by decide +kernel) HS1.out HB1.out)
set_option maxHeartbeats 1000000 in
set_option maxRecDepth 10000 in
theorem look_37 (w : World) : Calls Tryz.prog 243 #[.int .i64 37] w (RowOut 37 w) := by
  have HR := Lib.hid ((Bk.fresh w RwT #[.int .i64 0, .slice none 0 0, .int .u32 0, .int .u32 0]).alloc (.cells #[.int .i64 2] 3))
  have HS := Lib.hid (Bk.fresh (w.alloc (.cells #[.int .i64 0, .slice none 0 0, .int .u32 0, .int .u32 0] RwT)) 3 #[.int .i64 2])
  rw [heap_alloc_sz] at HS
  have HB := Lib.hid (((Below.refl w.heap.size w).alloc (Nat.le_refl _) (.cells #[.int .i64 0, .slice none 0 0, .int .u32 0, .int .u32 0] RwT)).alloc (by simp) (.cells #[.int .i64 2] 3))
  go_enter Tryz.func243, Tryz.ntmps243
  go_wp2_with fail
  refine (rone_any _ _ _ _).mono ?_
  rintro e w1 ⟨rfl, hb⟩
  have HR1 := Lib.hid (HR.out.below hb HR.out.lt); have HS1 := Lib.hid (HS.out.below hb HS.out.lt); have HB1 := Lib.hid (HB.out.trans (hb.mono HB.out.size)); clear hb
  obtain ⟨⟨c0, c1, c2, c3⟩, f0, f1, f2, f3⟩ := HR1.out.four
  go_wp2
  refine bodyPost_ret (results_row rfl _ rfl HR1.out.put_four) rfl (row_fin (ks := [2]) (by decide +kernel) rfl rfl (by decide +kernel) HS1.out HB1.out)
set_option maxHeartbeats 1000000 in
set_option maxRecDepth 10000 in
theorem look_40 (w : World) : Calls Tryz.prog 243 #[.int .i64 40] w (RowOut 40 w) := by
  have HR := Lib.hid ((Bk.fresh w RwT #[.int .i64 0, .slice none 0 0, .int .u32 0, .int .u32 0]).alloc (.cells #[.int .i64 2] 3))
  have HS := Lib.hid (Bk.fresh (w.alloc (.cells #[.int .i64 0, .slice none 0 0, .int .u32 0, .int .u32 0] RwT)) 3 #[.int .i64 2])
  rw [heap_alloc_sz] at HS
  have HB := Lib.hid (((Below.refl w.heap.size w).alloc (Nat.le_refl _) (.cells #[.int .i64 0, .slice none 0 0, .int .u32 0, .int .u32 0] RwT)).alloc (by simp) (.cells #[.int .i64 2] 3))
  go_enter Tryz.func243, Tryz.ntmps243
  go_wp2_with fail
  refine (rone_any _ _ _ _).mono ?_
  rintro e w1 ⟨rfl, hb⟩
  have HR1 := Lib.hid (HR.out.below hb HR.out.lt); have HS1 := Lib.hid (HS.out.below hb HS.out.lt); have HB1 := Lib.hid (HB.out.trans (hb.mono HB.out.size)); clear hb
  obtain ⟨⟨c0, c1, c2, c3⟩, f0, f1, f2, f3⟩ := HR1.out.four
  go_wp2
  refine bodyPost_ret (results_row rfl _ rfl HR1.out.put_four) rfl (row_fin (ks := [2]) (by decide +kernel) rfl rfl (by decide +kernel) HS1.out HB1.out)
set_option maxHeartbeats 1000000 in
set_option maxRecDepth 10000 in
theorem look_41 (w : World) : Calls Tryz.prog 243 #[.int .i64 41] w (RowOut 41 w) := by
  have HR := Lib.hid ((Bk.fresh w RwT #[.int .i64 0, .slice none 0 0, .int .u32 0, .int .u32 0]).alloc (.cells #[.int .i64 2] 3))
  have HS := Lib.hid (Bk.fresh (w.alloc (.cells #[.int .i64 0, .slice none 0 0, .int .u32 0, .int .u32 0] RwT)) 3 #[.int .i64 2])
  rw [heap_alloc_sz] at HS
  have HB := Lib.hid (((Below.refl w.heap.size w).alloc (Nat.le_refl _) (.cells #[.int .i64 0, .slice none 0 0, .int .u32 0, .int .u32 0] RwT)).alloc (by simp) (.cells #[.int .i64 2] 3))
  go_enter Tryz.func243, Tryz.ntmps243
  go_wp2_with fail
  refine (rone_any _ _ _ _).mono ?_
  rintro e w1 ⟨rfl, hb⟩
  have HR1 := Lib.hid (HR.out.below hb HR.out.lt); have HS1 := Lib.hid (HS.out.below hb HS.out.lt); have HB1 := Lib.hid (HB.out.trans (hb.mono HB.out.size)); clear hb
  obtain ⟨⟨c0, c1, c2, c3⟩, f0, f1, f2, f3⟩ := HR1.out.four
  go_wp2
  refine bodyPost_ret (results_row rfl _ rfl HR1.out.put_four) rfl (row_fin (ks := [2]) (by decide +kernel) rfl rfl (by decide +kernel) HS1.out HB1.out)
set_option maxHeartbeats 1000000 in
set_option maxRecDepth 10000 in
theorem look_42 (w : World) : Calls Tryz.prog 243 #[.int .i64 42] w (RowOut 42 w) := by
  have HR := Lib.hid ((Bk.fresh w RwT #[.int .i64 0, .slice none 0 0, .int .u32 0, .int .u32 0]).alloc (.cells #[.int .i64 2] 3))
  have HS := Lib.hid (Bk.fresh (w.alloc (.cells #[.int .i64 0, .slice none 0 0, .int .u32 0, .int .u32 0] RwT)) 3 #[.int .i64 2])
  rw [heap_alloc_sz] at HS
  have HB := Lib.hid (((Below.refl w.heap.size w).alloc (Nat.le_refl _) (.cells #[.int .i64 0, .slice none 0 0, .int .u32 0, .int .u32 0] RwT)).alloc (by simp) (.cells #[.int .i64 2] 3))
  go_enter Tryz.func243, Tryz.ntmps243
  go_wp2_with fail
  refine (rone_any _ _ _ _).mono ?_
  rintro e w1 ⟨rfl, hb⟩
  have HR1 := Lib.hid (HR.out.below hb HR.out.lt); have HS1 := Lib.hid (HS.out.below hb HS.out.lt); have HB1 := Lib.hid (HB.out.trans (hb.mono HB.out.size)); clear hb
  obtain ⟨⟨c0, c1, c2, c3⟩, f0, f1, f2, f3⟩ := HR1.out.four
  go_wp2
  refine bodyPost_ret (results_row rfl _ rfl HR1.out.put_four) rfl (row_fin (ks := [2]) (by decide +kernel) rfl rfl (by decide +kernel) HS1.out HB1.out)
set_option maxHeartbeats 1000000 in
set_option maxRecDepth 10000 in
theorem look_38 (w : World) : Calls Tryz.prog 243 #[.int .i64 38] w (RowOut 38 w) := by
  have HR := Lib.hid ((Bk.fresh w RwT #[.int .i64 0, .slice none 0 0, .int .u32 0, .int .u32 0]).alloc (.cells #[.int .i64 1, .int .i64 2, .int .i64 3, .int .i64 4, .int .i64 5, .int .i64 6, .int .i64 7, .int .i64 8, .int .i64 9, .int .i64 10, .int .i64 11, .int .i64 14, .int .i64 15, .int .i64 16] 3))
  have HS := Lib.hid (Bk.fresh (w.alloc (.cells #[.int .i64 0, .slice none 0 0, .int .u32 0, .int .u32 0] RwT)) 3 #[.int .i64 1, .int .i64 2, .int .i64 3, .int .i64 4, .int .i64 5, .int .i64 6, .int .i64 7, .int .i64 8, .int .i64 9, .int .i64 10, .int .i64 11, .int .i64 14, .int .i64 15, .int .i64 16])
  rw [heap_alloc_sz] at HS
  have HB := Lib.hid (((Below.refl w.heap.size w).alloc (Nat.le_refl _) (.cells #[.int .i64 0, .slice none 0 0, .int .u32 0, .int .u32 0] RwT)).alloc (by simp) (.cells #[.int .i64 1, .int .i64 2, .int .i64 3, .int .i64 4, .int .i64 5, .int .i64 6, .int .i64 7, .int .i64 8, .int .i64 9, .int .i64 10, .int .i64 11, .int .i64 14, .int .i64 15, .int .i64 16] 3))
  go_enter Tryz.func243, Tryz.ntmps243
  go_wp2_with fail
  refine (rof_any _ _ _ 7 _).mono ?_
  rintro e w1 ⟨rfl, hb⟩
  have HR1 := Lib.hid (HR.out.below hb HR.out.lt); have HS1 := Lib.hid (HS.out.below hb HS.out.lt); have HB1 := Lib.hid (HB.out.trans (hb.mono HB.out.size)); clear hb
  obtain ⟨⟨c0, c1, c2, c3⟩, f0, f1, f2, f3⟩ := HR1.out.four
  go_wp2
  refine bodyPost_ret (results_row rfl _ rfl HR1.out.put_four) rfl (row_fin (ks := [1, 2, 3, 4, 5, 6, 7, 8, 9, 10, 11, 14, 15, 16]) (by decide +kernel) rfl rfl (by decide +kernel) HS1.out HB1.out)
set_option maxHeartbeats 1000000 in
set_option maxRecDepth 10000 in
theorem look_39 (w : World) : Calls Tryz.prog 243 #[.int .i64 39] w (RowOut 39 w) := by
  have HR := Lib.hid ((Bk.fresh w RwT #[.int .i64 0, .slice none 0 0, .int .u32 0, .int .u32 0]).alloc (.cells #[.int .i64 1, .int .i64 2] 3))
  have HS := Lib.hid (Bk.fresh (w.alloc (.cells #[.int .i64 0, .slice none 0 0, .int .u32 0, .int .u32 0] RwT)) 3 #[.int .i64 1, .int .i64 2])
  rw [heap_alloc_sz] at HS
  have HB := Lib.hid (((Below.refl w.heap.size w).alloc (Nat.le_refl _) (.cells #[.int .i64 0, .slice none 0 0, .int .u32 0, .int .u32 0] RwT)).alloc (by simp) (.cells #[.int .i64 1, .int .i64 2] 3))
  go_enter Tryz.func243, Tryz.ntmps243
  go_wp2_with fail
  refine (rfour_any _ _ _ 1 _).mono ?_
  rintro e w1 ⟨rfl, hb⟩
  have HR1 := Lib.hid (HR.out.below hb HR.out.lt); have HS1 := Lib.hid (HS.out.below hb HS.out.lt); have HB1 := Lib.hid (HB.out.trans (hb.mono HB.out.size)); clear hb
  obtain ⟨⟨c0, c1, c2, c3⟩, f0, f1, f2, f3⟩ := HR1.out.four
  go_wp2
  refine bodyPost_ret (results_row rfl _ rfl HR1.out.put_four) rfl (row_fin (ks := [1, 2]) (by decide +kernel) rfl rfl (by decide +kernel) HS1.out HB1.out)
theorem find_absent {X : Type} {id : Int} {l : List (Nat × X)} (h : ∀ k : Nat, k ∈ l.map (·.1) → id ≠ (k : Int)) : (l.find? fun p => (p.1 : Int) == id) = none := by
  rw [List.find?_eq_none]
  intro p hp
  have := h p.1 (List.mem_map_of_mem hp)
  simp
  exact fun e => this e.symm
set_option maxHeartbeats 4000000 in
set_option maxRecDepth 10000 in
theorem look_no {id : Int} (h : ∀ k : Nat, k ∈ kindTab.map (·.1) → id ≠ (k : Int)) (w : World) : Calls Tryz.prog 243 #[.int .i64 id] w (RowOut id w) := by
  have hk : kindsOf id = [] := by unfold kindsOf; rw [find_absent h]; rfl
  have hr : ruleOf id = ⟨0, 0, 0, 0⟩ := by
    unfold ruleOf
    rw [find_absent (fun k hk => h k ?_)]
    · rfl
    · have e : ∀ k ∈ ruleTab.map (·.1), k ∈ kindTab.map (·.1) := by decide +kernel
      exact e k hk
  have HK := Lib.hid hk; have HRR := Lib.hid hr; clear hk hr
  have n1 : (id == 1) = false := beq_eq_false_iff_ne.2 (h 1 (by decide +kernel))
  have n2 : (id == 2) = false := beq_eq_false_iff_ne.2 (h 2 (by decide +kernel))
  have n3 : (id == 3) = false := beq_eq_false_iff_ne.2 (h 3 (by decide +kernel))
  have n8 : (id == 8) = false := beq_eq_false_iff_ne.2 (h 8 (by decide +kernel))
  have n9 : (id == 9) = false := beq_eq_false_iff_ne.2 (h 9 (by decide +kernel))
  have n11 : (id == 11) = false := beq_eq_false_iff_ne.2 (h 11 (by decide +kernel))
  have n17 : (id == 17) = false := beq_eq_false_iff_ne.2 (h 17 (by decide +kernel))
  have n18 : (id == 18) = false := beq_eq_false_iff_ne.2 (h 18 (by decide +kernel))
  have n26 : (id == 26) = false := beq_eq_false_iff_ne.2 (h 26 (by decide +kernel))
  have n19 : (id == 19) = false := beq_eq_false_iff_ne.2 (h 19 (by decide +kernel))
  have n21 : (id == 21) = false := beq_eq_false_iff_ne.2 (h 21 (by decide +kernel))
  have n22 : (id == 22) = false := beq_eq_false_iff_ne.2 (h 22 (by decide +kernel))
  have n23 : (id == 23) = false := beq_eq_false_iff_ne.2 (h 23 (by decide +kernel))
  have n25 : (id == 25) = false := beq_eq_false_iff_ne.2 (h 25 (by decide +kernel))
  have n24 : (id == 24) = false := beq_eq_false_iff_ne.2 (h 24 (by decide +kernel))
  have n28 : (id == 28) = false := beq_eq_false_iff_ne.2 (h 28 (by decide +kernel))
  have n31 : (id == 31) = false := beq_eq_false_iff_ne.2 (h 31 (by decide +kernel))
  have n33 : (id == 33) = false := beq_eq_false_iff_ne.2 (h 33 (by decide +kernel))
  have n34 : (id == 34) = false := beq_eq_false_iff_ne.2 (h 34 (by decide +kernel))
  have n35 : (id == 35) = false := beq_eq_false_iff_ne.2 (h 35 (by decide +kernel))
  have n36 : (id == 36) = false := beq_eq_false_iff_ne.2 (h 36 (by decide +kernel))
  have n37 : (id == 37) = false := beq_eq_false_iff_ne.2 (h 37 (by decide +kernel))
  have n40 : (id == 40) = false := beq_eq_false_iff_ne.2 (h 40 (by decide +kernel))
  have n41 : (id == 41) = false := beq_eq_false_iff_ne.2 (h 41 (by decide +kernel))
  have n42 : (id == 42) = false := beq_eq_false_iff_ne.2 (h 42 (by decide +kernel))
  have n38 : (id == 38) = false := beq_eq_false_iff_ne.2 (h 38 (by decide +kernel))
  have n39 : (id == 39) = false := beq_eq_false_iff_ne.2 (h 39 (by decide +kernel))
  have HR := Lib.hid (Bk.fresh w RwT #[.int .i64 0, .slice none 0 0, .int .u32 0, .int .u32 0])
  have HB := Lib.hid ((Below.refl w.heap.size w).alloc (Nat.le_refl _) (.cells #[.int .i64 0, .slice none 0 0, .int .u32 0, .int .u32 0] RwT))
  clear h
  go_enter Tryz.func243, Tryz.ntmps243
  go_wp2
  refine bodyPost_ret (v := .agg #[.int .i64 0, .slice none 0 0, .int .u32 0, .int .u32 0]) (by simp [results, Tryz.results243, go_sem]) rfl ⟨none, 0, ?_, ?_, HB.out⟩
  · unfold rowV
    rw [HK.out, HRR.out]
    rfl
  · rw [HK.out]; exact Rd.nil _ _ _ _
theorem look_any (id : Int) (w : World) : Calls Tryz.prog 243 #[.int .i64 id] w (RowOut id w) := by
  by_cases h : ∀ k : Nat, k ∈ kindTab.map (·.1) → id ≠ (k : Int)
  · exact look_no h w
  · have h' : ∃ k : Nat, k ∈ kindTab.map (·.1) ∧ id = (k : Int) := by
      by_cases hx : ∃ k : Nat, k ∈ kindTab.map (·.1) ∧ id = (k : Int)
      · exact hx
      · exact absurd (fun k hk e => hx ⟨k, hk, e⟩) h
    obtain ⟨k, hk, rfl⟩ := h'
    have hk' : k = 1 ∨ k = 2 ∨ k = 3 ∨ k = 8 ∨ k = 9 ∨ k = 11 ∨ k = 17 ∨ k = 18 ∨ k = 26 ∨ k = 19 ∨ k = 21 ∨ k = 22 ∨ k = 23 ∨ k = 25 ∨ k = 24 ∨ k = 28 ∨ k = 31 ∨ k = 33 ∨ k = 34 ∨ k = 35 ∨ k = 36 ∨ k = 37 ∨ k = 40 ∨ k = 41 ∨ k = 42 ∨ k = 38 ∨ k = 39 := by simpa [kindTab] using hk
    obtain rfl | rfl | rfl | rfl | rfl | rfl | rfl | rfl | rfl | rfl | rfl | rfl | rfl | rfl | rfl | rfl | rfl | rfl | rfl | rfl | rfl | rfl | rfl | rfl | rfl | rfl | rfl := hk'
    · exact look_1 w
    · exact look_2 w
    · exact look_3 w
    · exact look_8 w
    · exact look_9 w
    · exact look_11 w
    · exact look_17 w
    · exact look_18 w
    · exact look_26 w
    · exact look_19 w
    · exact look_21 w
    · exact look_22 w
    · exact look_23 w
    · exact look_25 w
    · exact look_24 w
    · exact look_28 w
    · exact look_31 w
    · exact look_33 w
    · exact look_34 w
    · exact look_35 w
    · exact look_36 w
    · exact look_37 w
    · exact look_40 w
    · exact look_41 w
    · exact look_42 w
    · exact look_38 w
    · exact look_39 w
end Go.Proofs.YtmkkjiogokfnmaaGreatDoor

namespace Go.Proofs.YtmkkjiogokfnmaaGreatDoor
open Go.RowKit
theorem kinds_in (id : Int) : ∀ k ∈ kindsOf id, 1 ≤ k ∧ k ≤ 16 := by
  have h : ∀ p ∈ kindTab, ∀ k ∈ p.2, 1 ≤ k ∧ k ≤ 16 := by decide +kernel
  unfold kindsOf
  cases hf : kindTab.find? fun p => (p.1 : Int) == id with
  | none => simp
  | some p => exact h p (List.mem_of_find?_eq_some hf)
theorem kinds_tab : ∀ p ∈ kindTab, ∀ k : Fin 17, (p.2.contains ((k.1 : Nat) : Int)) = hasR (ruleOf p.1) ((k.1 : Nat) : Int) := by decide +kernel
theorem may_kinds (kind id : Int) : (kindsOf id).contains kind = mayP kind id := by
  by_cases hk : 0 ≤ kind ∧ kind ≤ 16
  · obtain ⟨k, rfl⟩ := Int.eq_ofNat_of_zero_le hk.1
    have hk' : k < 17 := by omega
    unfold kindsOf mayP
    cases hf : kindTab.find? fun p => (p.1 : Int) == id with
    | none =>
      have hr : ruleOf id = ⟨0, 0, 0, 0⟩ := by
        have h0 := List.find?_eq_none.1 hf
        unfold ruleOf
        rw [find_absent (fun j hj e => ?_)]
        · rfl
        · have h1 : ∀ j ∈ ruleTab.map (·.1), j ∈ kindTab.map (·.1) := by decide +kernel
          obtain ⟨p, hp, hpe⟩ := List.mem_map.1 (h1 j hj)
          have := h0 p hp
          subst hpe
          simp [e] at this
      rw [hr]
      simp [hasR]
    | some p =>
      have hp := List.mem_of_find?_eq_some hf
      have he : (p.1 : Int) = id := by simpa using List.find?_some hf
      have := kinds_tab p hp ⟨k, hk'⟩
      simp only [Option.map_some, Option.getD_some]
      rw [← he]
      exact this
  · have h1 : hasR (ruleOf id) kind = false := by
      unfold hasR
      by_cases h : 1 ≤ kind
      · rw [decide_eq_true h, decide_eq_false (by omega)]; rfl
      · rw [decide_eq_false h]; rfl
    unfold mayP
    rw [h1]
    rw [← Bool.not_eq_true, List.contains_iff_mem]
    intro h
    have := kinds_in id kind h
    omega
theorem row_f0 (a b c d : Value) (W : World) : (Instr.field RwT (.agg #[a, b, c, d]) 0).run Tryz.prog W = .ok a W := by kernel_rfl
theorem row_f1 (a b c d : Value) (W : World) : (Instr.field RwT (.agg #[a, b, c, d]) 1).run Tryz.prog W = .ok b W := by kernel_rfl
attribute [local go_sem] row_f0 row_f1
set_option maxHeartbeats 1000000 in
set_option maxRecDepth 10000 in
theorem refMayP_any (kind id : Int) (w : World) : Calls Tryz.prog 190 #[.int .i64 kind, .int .i64 id] w fun e w' => e = .returned (.bool (mayP kind id)) ∧ Below w.heap.size w w' := by
  have HF := Lib.hid (may_kinds kind id)
  go_enter Tryz.func190, Tryz.ntmps190
  go_wp2_with fail
  refine (look_any id _).mono ?_
  rintro e w1 ⟨A, c, rfl, hr, hb⟩
  unfold rowV
  have HR := Lib.hid hr; have HB := Lib.hid hb; clear hr hb
  have HL : Hid ((kindsOf id).length ≤ 20) := Lib.hid (by
    have h : ∀ p ∈ kindTab, p.2.length ≤ 20 := by decide +kernel
    unfold kindsOf
    cases hf : kindTab.find? fun p => (p.1 : Int) == id with
    | none => simp
    | some p => exact h p (List.mem_of_find?_eq_some hf))
  generalize kindsOf id = l at *
  have hl20 := HL.out
  go_wp2
  go_loop [6] (fun i => ∃ k : Nat, k ≤ l.length ∧ i = .int .i64 k ∧ (∀ j, j < k → l[j]? ≠ some kind)) (fun i => l.length - (intOf i).toNat)
  case atStart => exact ⟨0, by omega, rfl, fun j hj => by omega⟩
  case round =>
    obtain ⟨k, hk, rfl, hall⟩ := hrel
    have HA := Lib.hid hall; clear hall
    by_cases hlt : k < l.length
    · obtain ⟨b, o, z, rfl, hbb, hz, hc⟩ := HR.out.atI hlt
      have HZ := Lib.hid hz; clear hz
      have b1 : (0 : Int) ≤ (k : Int) := by omega
      have b2 : (k : Int) < (l.length : Int) := by omega
      by_cases he : z = kind
      · have e1 : (z == kind) = true := beq_iff_eq.2 he
        have HT : Hid (l.contains kind = true) := Lib.hid (by rw [List.contains_iff_mem, ← he]; exact List.mem_of_getElem? HZ.out)
        clear he
        go_wp2
        go_ret
        exact ⟨by rw [← HF.out, HT.out]; rfl, HB.out⟩
      · have e1 : (z == kind) = false := beq_eq_false_iff_ne.2 he
        have HE := Lib.hid he
        clear he
        go_wp2
        go_round
        case rel =>
          refine ⟨k + 1, by omega, by go_num, fun j hj => ?_⟩
          rcases Nat.lt_succ_iff_lt_or_eq.1 hj with h | rfl
          · exact HA.out j h
          · rw [HZ.out]; intro e; exact HE.out (Option.some.inj e)
        case measure => simp [intOf]; omega
    · obtain rfl : k = l.length := by omega
      have HT : Hid (l.contains kind = false) := Lib.hid (by
        rw [← Bool.not_eq_true, List.contains_iff_mem]
        intro h
        obtain ⟨j, hj, he⟩ := List.getElem_of_mem h
        exact HA.out j hj (by rw [List.getElem?_eq_getElem hj, he]))
      go_wp2
      go_ret
      exact ⟨by rw [← HF.out, HT.out]; rfl, HB.out⟩
set_option maxHeartbeats 1000000 in
set_option maxRecDepth 10000 in
theorem refManyP_any (kind id : Int) (w : World) : Calls Tryz.prog 247 #[.int .i64 kind, .int .i64 id] w fun e w' => e = .returned (.bool (manyP kind id)) ∧ Below w.heap.size w w' := by
  have HF : Hid (manyP kind id = (oftenP kind id && mayP kind id)) := Lib.hid rfl
  have HO : Hid (oftenP kind id = (id == 38 || (id == 11 && kind == 3))) := Lib.hid rfl
  cases hm : mayP kind id
  · have HM := Lib.hid hm; clear hm
    go_enter Tryz.func247, Tryz.ntmps247
    go_wp2_with fail
    refine (refMayP_any kind id _).mono ?_
    rintro e w1 ⟨rfl, hb⟩
    rw [HM.out]
    go_wp2
    go_ret
    exact ⟨by rw [HF.out, HM.out, Bool.and_false]; rfl, hb⟩
  · have HM := Lib.hid hm; clear hm
    cases h38 : (id == 38) <;> cases h11 : (id == 11) <;> cases h3 : (kind == 3)
    all_goals
      have HH : Hid (oftenP kind id = _) := Lib.hid (by rw [HO.out, h38, h11, h3])
      go_enter Tryz.func247, Tryz.ntmps247
      go_wp2_with fail
      refine (refMayP_any kind id _).mono ?_
      rintro e w1 ⟨rfl, hb⟩
      rw [HM.out]
      go_wp2
      go_ret
      exact ⟨by rw [HF.out, HM.out, HH.out]; rfl, hb⟩
end Go.Proofs.YtmkkjiogokfnmaaGreatDoor

namespace Go.Proofs.YtmkkjiogokfnmaaGreatDoor
open Go.RowKit
theorem rule_eight {sh ki le mo : Nat} {id : Int} (h : ruleOf id = ⟨sh, ki, le, mo⟩) (h5 : sh ≠ 5) : (id == 8) = false := by
  refine beq_eq_false_iff_ne.2 fun e => h5 ?_
  subst e
  have : (ruleOf 8).shape = 5 := by decide +kernel
  rw [h] at this
  exact this
set_option maxHeartbeats 4000000 in
set_option maxRecDepth 10000 in
theorem refCheckP_any (kind : Int) (p : Pr) (hp : p.Ok) (w : World) :
    Calls Tryz.prog 192 #[.int .i64 kind, p.val] w fun e w' => e = .returned (.int .i64 (checkE (ruleOf p.id) kind p)) ∧ Below w.heap.size w w' := by
  obtain ⟨id, n, t, v⟩ := p
  obtain ⟨sh, ki, le, mo, hR⟩ : ∃ sh ki le mo, ruleOf id = ⟨sh, ki, le, mo⟩ := ⟨_, _, _, _, rfl⟩
  have h7' := (ruleOf_ok id).1
  rw [hR] at h7'
  have h7 : sh ≤ 7 := h7'
  clear h7'
  obtain ⟨E, hE⟩ : ∃ E, checkE (ruleOf id) kind ⟨id, n, t, v⟩ = E := ⟨_, rfl⟩
  have HE := Lib.hid hE
  have HP : Hid (t.size ≤ 4611686018427387904 ∧ v.size ≤ 4611686018427387904) := Lib.hid hp.2
  have HMP : Hid (mayP kind id = hasR (ruleOf id) kind) := Lib.hid rfl
  simp only [Pr.val, hE]
  have HR := Lib.hid hR
  clear hE hp
  have HX := Lib.hid (Bk.fresh w 87 #[.int .i64 id, .int .u32 n, .string t, .string v])
  have HB := Lib.hid ((Below.refl w.heap.size w).alloc (Nat.le_refl _) (.cells #[.int .i64 id, .int .u32 n, .string t, .string v] 87))
  cases hm : mayP kind id
  · have HF : Hid (E = 9) := Lib.hid (by rw [← HE.out]; unfold checkE; rw [← HMP.out, hm]; rfl)
    have HM := Lib.hid hm
    clear hm hR
    go_enter Tryz.func192, Tryz.ntmps192
    go_wp2_with fail
    refine (refMayP_any kind id _).mono ?_
    rintro e w1 ⟨rfl, hb⟩
    rw [HM.out]
    have B1 := Lib.hid (HB.out.trans (hb.mono HB.out.size)); clear hb
    go_wp2
    go_ret
    exact ⟨by rw [HF.out]; rfl, B1.out⟩
  have HM := Lib.hid hm
  have HCK : Hid (checkE (ruleOf id) kind ⟨id, n, t, v⟩ = (if sh ≤ 4 then (if t.toList.isEmpty = false ∨ v.toList.isEmpty = false then 2 else if n < le ∨ mo < n then 9 else 0)
      else if n ≠ 0 ∨ (v.toList.isEmpty = false ∧ sh ≠ 7) then 2 else if sh = 6 then (if 65535 < t.size then 2 else 0) else if validB t = false ∨ validB v = false then 6 else if id = 8 ∧ nameB t = false then 9 else 0)) :=
    Lib.hid (by unfold checkE; rw [← HMP.out, hm, hR]; rfl)
  clear hm
  by_cases h4 : sh ≤ 4
  · have s4 : decide ((sh : Int) ≤ 4) = true := decide_eq_true (by omega)
    have s7 : ((sh : Int) != 7) = true := bne_iff_ne.2 (by omega)
    have q5 : ((sh : Int) == 5) = false := beq_eq_false_iff_ne.2 (by omega)
    have q7 : ((sh : Int) == 7) = false := beq_eq_false_iff_ne.2 (by omega)
    have q6 : ((sh : Int) == 6) = false := beq_eq_false_iff_ne.2 (by omega)
    have e8 := rule_eight hR (by omega)
    clear hR
    cases ht : t.toList.isEmpty
    · have HF : Hid (E = 2) := Lib.hid (by rw [← HE.out, HCK.out, if_pos h4, if_pos (.inl ht)])
      clear h4 h7
      go_enter Tryz.func192, Tryz.ntmps192
      go_wp2_with fail
      refine (refMayP_any kind id _).mono ?_
      rintro e w1 ⟨rfl, hb⟩
      rw [HM.out]
      have X1 := Lib.hid (HX.out.below hb HX.out.lt); have B1 := Lib.hid (HB.out.trans (hb.mono HB.out.size)); clear hb
      obtain ⟨⟨c0, c1, c2, c3⟩, f0, f1, f2, f3⟩ := X1.out.four
      go_wp2_with fail
      refine (look_any id _).mono ?_
      rintro e w2 ⟨A, c, rfl, -, hb⟩
      unfold rowV
      rw [HR.out]
      clear c0 c1 c2 c3 f0 f1 f2 f3
      have X2 := Lib.hid ((X1.out.below hb X1.out.lt).alloc (.cells #[.int .i64 sh, .slice A (kindsOf id).length c, .int .u32 le, .int .u32 mo] RwT))
      have B2 := Lib.hid ((B1.out.trans (hb.mono B1.out.size)).alloc (B1.out.trans (hb.mono B1.out.size)).size (.cells #[.int .i64 sh, .slice A (kindsOf id).length c, .int .u32 le, .int .u32 mo] RwT)); clear hb
      obtain ⟨⟨c0, c1, c2, c3⟩, f0, f1, f2, f3⟩ := X2.out.four
      go_wp2
      go_ret
      exact ⟨by rw [HF.out]; rfl, B2.out⟩
    cases hv : v.toList.isEmpty
    · have HF : Hid (E = 2) := Lib.hid (by rw [← HE.out, HCK.out, if_pos h4, if_pos (.inr hv)])
      clear h4 h7
      go_enter Tryz.func192, Tryz.ntmps192
      go_wp2_with fail
      refine (refMayP_any kind id _).mono ?_
      rintro e w1 ⟨rfl, hb⟩
      rw [HM.out]
      have X1 := Lib.hid (HX.out.below hb HX.out.lt); have B1 := Lib.hid (HB.out.trans (hb.mono HB.out.size)); clear hb
      obtain ⟨⟨c0, c1, c2, c3⟩, f0, f1, f2, f3⟩ := X1.out.four
      go_wp2_with fail
      refine (look_any id _).mono ?_
      rintro e w2 ⟨A, c, rfl, -, hb⟩
      unfold rowV
      rw [HR.out]
      clear c0 c1 c2 c3 f0 f1 f2 f3
      have X2 := Lib.hid ((X1.out.below hb X1.out.lt).alloc (.cells #[.int .i64 sh, .slice A (kindsOf id).length c, .int .u32 le, .int .u32 mo] RwT))
      have B2 := Lib.hid ((B1.out.trans (hb.mono B1.out.size)).alloc (B1.out.trans (hb.mono B1.out.size)).size (.cells #[.int .i64 sh, .slice A (kindsOf id).length c, .int .u32 le, .int .u32 mo] RwT)); clear hb
      obtain ⟨⟨c0, c1, c2, c3⟩, f0, f1, f2, f3⟩ := X2.out.four
      go_wp2
      go_ret
      exact ⟨by rw [HF.out]; rfl, B2.out⟩
    have HC2 : Hid (E = if n < le ∨ mo < n then 9 else 0) := Lib.hid (by rw [← HE.out, HCK.out, if_pos h4, if_neg (by rw [ht, hv]; simp)])
    clear h4 h7
    by_cases hl : n < le
    · have HF : Hid (E = 9) := Lib.hid (by rw [HC2.out, if_pos (.inl hl)])
      have dl : decide ((n : Int) < (le : Int)) = true := decide_eq_true (by omega)
      have dl' : decide (n < le) = true := decide_eq_true hl
      clear hl
      go_enter Tryz.func192, Tryz.ntmps192
      go_wp2_with fail
      refine (refMayP_any kind id _).mono ?_
      rintro e w1 ⟨rfl, hb⟩
      rw [HM.out]
      have X1 := Lib.hid (HX.out.below hb HX.out.lt); have B1 := Lib.hid (HB.out.trans (hb.mono HB.out.size)); clear hb
      obtain ⟨⟨c0, c1, c2, c3⟩, f0, f1, f2, f3⟩ := X1.out.four
      go_wp2_with fail
      refine (look_any id _).mono ?_
      rintro e w2 ⟨A, c, rfl, -, hb⟩
      unfold rowV
      rw [HR.out]
      clear c0 c1 c2 c3 f0 f1 f2 f3
      have X2 := Lib.hid ((X1.out.below hb X1.out.lt).alloc (.cells #[.int .i64 sh, .slice A (kindsOf id).length c, .int .u32 le, .int .u32 mo] RwT))
      have B2 := Lib.hid ((B1.out.trans (hb.mono B1.out.size)).alloc (B1.out.trans (hb.mono B1.out.size)).size (.cells #[.int .i64 sh, .slice A (kindsOf id).length c, .int .u32 le, .int .u32 mo] RwT)); clear hb
      obtain ⟨⟨c0, c1, c2, c3⟩, f0, f1, f2, f3⟩ := X2.out.four
      go_wp2
      go_ret
      exact ⟨by rw [HF.out]; rfl, B2.out⟩
    have dl : decide ((n : Int) < (le : Int)) = false := decide_eq_false (by omega)
    have dl' : decide (n < le) = false := decide_eq_false hl
    by_cases hu : mo < n
    · have HF : Hid (E = 9) := Lib.hid (by rw [HC2.out, if_pos (.inr hu)])
      have du : decide ((mo : Int) < (n : Int)) = true := decide_eq_true (by omega)
      have du' : decide (mo < n) = true := decide_eq_true hu
      clear hl hu
      go_enter Tryz.func192, Tryz.ntmps192
      go_wp2_with fail
      refine (refMayP_any kind id _).mono ?_
      rintro e w1 ⟨rfl, hb⟩
      rw [HM.out]
      have X1 := Lib.hid (HX.out.below hb HX.out.lt); have B1 := Lib.hid (HB.out.trans (hb.mono HB.out.size)); clear hb
      obtain ⟨⟨c0, c1, c2, c3⟩, f0, f1, f2, f3⟩ := X1.out.four
      go_wp2_with fail
      refine (look_any id _).mono ?_
      rintro e w2 ⟨A, c, rfl, -, hb⟩
      unfold rowV
      rw [HR.out]
      clear c0 c1 c2 c3 f0 f1 f2 f3
      have X2 := Lib.hid ((X1.out.below hb X1.out.lt).alloc (.cells #[.int .i64 sh, .slice A (kindsOf id).length c, .int .u32 le, .int .u32 mo] RwT))
      have B2 := Lib.hid ((B1.out.trans (hb.mono B1.out.size)).alloc (B1.out.trans (hb.mono B1.out.size)).size (.cells #[.int .i64 sh, .slice A (kindsOf id).length c, .int .u32 le, .int .u32 mo] RwT)); clear hb
      obtain ⟨⟨c0, c1, c2, c3⟩, f0, f1, f2, f3⟩ := X2.out.four
      go_wp2
      go_ret
      exact ⟨by rw [HF.out]; rfl, B2.out⟩
    · have HF : Hid (E = 0) := Lib.hid (by rw [HC2.out, if_neg (by omega)])
      have du : decide ((mo : Int) < (n : Int)) = false := decide_eq_false (by omega)
      have du' : decide (mo < n) = false := decide_eq_false hu
      clear hl hu
      go_enter Tryz.func192, Tryz.ntmps192
      go_wp2_with fail
      refine (refMayP_any kind id _).mono ?_
      rintro e w1 ⟨rfl, hb⟩
      rw [HM.out]
      have X1 := Lib.hid (HX.out.below hb HX.out.lt); have B1 := Lib.hid (HB.out.trans (hb.mono HB.out.size)); clear hb
      obtain ⟨⟨c0, c1, c2, c3⟩, f0, f1, f2, f3⟩ := X1.out.four
      go_wp2_with fail
      refine (look_any id _).mono ?_
      rintro e w2 ⟨A, c, rfl, -, hb⟩
      unfold rowV
      rw [HR.out]
      clear c0 c1 c2 c3 f0 f1 f2 f3
      have X2 := Lib.hid ((X1.out.below hb X1.out.lt).alloc (.cells #[.int .i64 sh, .slice A (kindsOf id).length c, .int .u32 le, .int .u32 mo] RwT))
      have B2 := Lib.hid ((B1.out.trans (hb.mono B1.out.size)).alloc (B1.out.trans (hb.mono B1.out.size)).size (.cells #[.int .i64 sh, .slice A (kindsOf id).length c, .int .u32 le, .int .u32 mo] RwT)); clear hb
      obtain ⟨⟨c0, c1, c2, c3⟩, f0, f1, f2, f3⟩ := X2.out.four
      go_wp2
      go_ret
      exact ⟨by rw [HF.out]; rfl, B2.out⟩
  have s4 : decide ((sh : Int) ≤ 4) = false := decide_eq_false (by omega)
  by_cases hn : n = 0
  rotate_left
  · have HF : Hid (E = 2) := Lib.hid (by rw [← HE.out, HCK.out, if_neg h4, if_pos (.inl hn)])
    have n0 : ((n : Int) != 0) = true := bne_iff_ne.2 (by omega)
    clear h4 h7 hn hR
    go_enter Tryz.func192, Tryz.ntmps192
    go_wp2_with fail
    refine (refMayP_any kind id _).mono ?_
    rintro e w1 ⟨rfl, hb⟩
    rw [HM.out]
    have X1 := Lib.hid (HX.out.below hb HX.out.lt); have B1 := Lib.hid (HB.out.trans (hb.mono HB.out.size)); clear hb
    obtain ⟨⟨c0, c1, c2, c3⟩, f0, f1, f2, f3⟩ := X1.out.four
    go_wp2_with fail
    refine (look_any id _).mono ?_
    rintro e w2 ⟨A, c, rfl, -, hb⟩
    unfold rowV
    rw [HR.out]
    clear c0 c1 c2 c3 f0 f1 f2 f3
    have X2 := Lib.hid ((X1.out.below hb X1.out.lt).alloc (.cells #[.int .i64 sh, .slice A (kindsOf id).length c, .int .u32 le, .int .u32 mo] RwT))
    have B2 := Lib.hid ((B1.out.trans (hb.mono B1.out.size)).alloc (B1.out.trans (hb.mono B1.out.size)).size (.cells #[.int .i64 sh, .slice A (kindsOf id).length c, .int .u32 le, .int .u32 mo] RwT)); clear hb
    obtain ⟨⟨c0, c1, c2, c3⟩, f0, f1, f2, f3⟩ := X2.out.four
    go_wp2
    go_ret
    exact ⟨by rw [HF.out]; rfl, B2.out⟩
  have n0 : ((n : Int) != 0) = false := by simp; omega
  by_cases hs7 : sh = 7
  · have s7 : ((sh : Int) != 7) = false := by simp; omega
    have q5 : ((sh : Int) == 5) = false := beq_eq_false_iff_ne.2 (by omega)
    have q7 : ((sh : Int) == 7) = true := beq_iff_eq.2 (by omega)
    have q6 : ((sh : Int) == 6) = false := beq_eq_false_iff_ne.2 (by omega)
    have e8 := rule_eight hR (by omega)
    have HC3 : Hid (E = if validB t = false ∨ validB v = false then 6 else if id = 8 ∧ nameB t = false then 9 else 0) := Lib.hid (by rw [← HE.out, HCK.out, if_neg h4, if_neg (by simp [hn, hs7]), if_neg (by omega)])
    clear h4 h7 hn hs7 hR
    cases hvt : validB t
    · have HF : Hid (E = 6) := Lib.hid (by rw [HC3.out, if_pos (.inl hvt)])
      have HVT := Lib.hid hvt; clear hvt
      go_enter Tryz.func192, Tryz.ntmps192
      go_wp2_with fail
      refine (refMayP_any kind id _).mono ?_
      rintro e w1 ⟨rfl, hb⟩
      rw [HM.out]
      have X1 := Lib.hid (HX.out.below hb HX.out.lt); have B1 := Lib.hid (HB.out.trans (hb.mono HB.out.size)); clear hb
      obtain ⟨⟨c0, c1, c2, c3⟩, f0, f1, f2, f3⟩ := X1.out.four
      go_wp2_with fail
      refine (look_any id _).mono ?_
      rintro e w2 ⟨A, c, rfl, -, hb⟩
      unfold rowV
      rw [HR.out]
      clear c0 c1 c2 c3 f0 f1 f2 f3
      have X2 := Lib.hid ((X1.out.below hb X1.out.lt).alloc (.cells #[.int .i64 sh, .slice A (kindsOf id).length c, .int .u32 le, .int .u32 mo] RwT))
      have B2 := Lib.hid ((B1.out.trans (hb.mono B1.out.size)).alloc (B1.out.trans (hb.mono B1.out.size)).size (.cells #[.int .i64 sh, .slice A (kindsOf id).length c, .int .u32 le, .int .u32 mo] RwT)); clear hb
      obtain ⟨⟨c0, c1, c2, c3⟩, f0, f1, f2, f3⟩ := X2.out.four
      go_wp2_with fail
      refine (refValid_any t _ HP.out.1).mono ?_
      rintro e w3 ⟨rfl, rfl⟩
      rw [HVT.out]
      go_wp2
      go_ret
      exact ⟨by rw [HF.out]; rfl, B2.out⟩
    cases hvv : validB v
    · have HF : Hid (E = 6) := Lib.hid (by rw [HC3.out, if_pos (.inr hvv)])
      have HVT := Lib.hid hvt; have HVV := Lib.hid hvv; clear hvt hvv
      go_enter Tryz.func192, Tryz.ntmps192
      go_wp2_with fail
      refine (refMayP_any kind id _).mono ?_
      rintro e w1 ⟨rfl, hb⟩
      rw [HM.out]
      have X1 := Lib.hid (HX.out.below hb HX.out.lt); have B1 := Lib.hid (HB.out.trans (hb.mono HB.out.size)); clear hb
      obtain ⟨⟨c0, c1, c2, c3⟩, f0, f1, f2, f3⟩ := X1.out.four
      go_wp2_with fail
      refine (look_any id _).mono ?_
      rintro e w2 ⟨A, c, rfl, -, hb⟩
      unfold rowV
      rw [HR.out]
      clear c0 c1 c2 c3 f0 f1 f2 f3
      have X2 := Lib.hid ((X1.out.below hb X1.out.lt).alloc (.cells #[.int .i64 sh, .slice A (kindsOf id).length c, .int .u32 le, .int .u32 mo] RwT))
      have B2 := Lib.hid ((B1.out.trans (hb.mono B1.out.size)).alloc (B1.out.trans (hb.mono B1.out.size)).size (.cells #[.int .i64 sh, .slice A (kindsOf id).length c, .int .u32 le, .int .u32 mo] RwT)); clear hb
      obtain ⟨⟨c0, c1, c2, c3⟩, f0, f1, f2, f3⟩ := X2.out.four
      go_wp2_with fail
      refine (refValid_any t _ HP.out.1).mono ?_
      rintro e w3 ⟨rfl, rfl⟩
      rw [HVT.out]
      go_wp2_with fail
      refine (refValid_any v _ HP.out.2).mono ?_
      rintro e w3 ⟨rfl, rfl⟩
      rw [HVV.out]
      go_wp2
      go_ret
      exact ⟨by rw [HF.out]; rfl, B2.out⟩
    have HVT := Lib.hid hvt; have HVV := Lib.hid hvv
    have HC4 : Hid (E = if id = 8 ∧ nameB t = false then 9 else 0) := Lib.hid (by rw [HC3.out, if_neg (by rw [hvt, hvv]; simp)])
    clear hvt hvv
    have HF : Hid (E = 0) := Lib.hid (by rw [HC4.out, if_neg (fun x => by have := x.1; rw [this] at e8; cases e8)])
    go_enter Tryz.func192, Tryz.ntmps192
    go_wp2_with fail
    refine (refMayP_any kind id _).mono ?_
    rintro e w1 ⟨rfl, hb⟩
    rw [HM.out]
    have X1 := Lib.hid (HX.out.below hb HX.out.lt); have B1 := Lib.hid (HB.out.trans (hb.mono HB.out.size)); clear hb
    obtain ⟨⟨c0, c1, c2, c3⟩, f0, f1, f2, f3⟩ := X1.out.four
    go_wp2_with fail
    refine (look_any id _).mono ?_
    rintro e w2 ⟨A, c, rfl, -, hb⟩
    unfold rowV
    rw [HR.out]
    clear c0 c1 c2 c3 f0 f1 f2 f3
    have X2 := Lib.hid ((X1.out.below hb X1.out.lt).alloc (.cells #[.int .i64 sh, .slice A (kindsOf id).length c, .int .u32 le, .int .u32 mo] RwT))
    have B2 := Lib.hid ((B1.out.trans (hb.mono B1.out.size)).alloc (B1.out.trans (hb.mono B1.out.size)).size (.cells #[.int .i64 sh, .slice A (kindsOf id).length c, .int .u32 le, .int .u32 mo] RwT)); clear hb
    obtain ⟨⟨c0, c1, c2, c3⟩, f0, f1, f2, f3⟩ := X2.out.four
    go_wp2_with fail
    refine (refValid_any t _ HP.out.1).mono ?_
    rintro e w3 ⟨rfl, rfl⟩
    rw [HVT.out]
    go_wp2_with fail
    refine (refValid_any v _ HP.out.2).mono ?_
    rintro e w3 ⟨rfl, rfl⟩
    rw [HVV.out]
    go_wp2
    go_ret
    exact ⟨by rw [HF.out]; rfl, B2.out⟩
  have s7 : ((sh : Int) != 7) = true := bne_iff_ne.2 (by omega)
  cases hv : v.toList.isEmpty
  · have HF : Hid (E = 2) := Lib.hid (by rw [← HE.out, HCK.out, if_neg h4, if_pos (.inr ⟨hv, hs7⟩)])
    clear h4 h7 hn hs7 hR
    go_enter Tryz.func192, Tryz.ntmps192
    go_wp2_with fail
    refine (refMayP_any kind id _).mono ?_
    rintro e w1 ⟨rfl, hb⟩
    rw [HM.out]
    have X1 := Lib.hid (HX.out.below hb HX.out.lt); have B1 := Lib.hid (HB.out.trans (hb.mono HB.out.size)); clear hb
    obtain ⟨⟨c0, c1, c2, c3⟩, f0, f1, f2, f3⟩ := X1.out.four
    go_wp2_with fail
    refine (look_any id _).mono ?_
    rintro e w2 ⟨A, c, rfl, -, hb⟩
    unfold rowV
    rw [HR.out]
    clear c0 c1 c2 c3 f0 f1 f2 f3
    have X2 := Lib.hid ((X1.out.below hb X1.out.lt).alloc (.cells #[.int .i64 sh, .slice A (kindsOf id).length c, .int .u32 le, .int .u32 mo] RwT))
    have B2 := Lib.hid ((B1.out.trans (hb.mono B1.out.size)).alloc (B1.out.trans (hb.mono B1.out.size)).size (.cells #[.int .i64 sh, .slice A (kindsOf id).length c, .int .u32 le, .int .u32 mo] RwT)); clear hb
    obtain ⟨⟨c0, c1, c2, c3⟩, f0, f1, f2, f3⟩ := X2.out.four
    go_wp2
    go_ret
    exact ⟨by rw [HF.out]; rfl, B2.out⟩
  have HC5 : Hid (E = if sh = 6 then (if 65535 < t.size then 2 else 0) else if validB t = false ∨ validB v = false then 6 else if id = 8 ∧ nameB t = false then 9 else 0) := Lib.hid (by rw [← HE.out, HCK.out, if_neg h4, if_neg (by rw [hv]; simp [hn])])
  have q7 : ((sh : Int) == 7) = false := beq_eq_false_iff_ne.2 (by omega)
  by_cases hs6 : sh = 6
  · have q5 : ((sh : Int) == 5) = false := beq_eq_false_iff_ne.2 (by omega)
    have q6 : ((sh : Int) == 6) = true := beq_iff_eq.2 (by omega)
    have e8 := rule_eight hR (by omega)
    by_cases hl : 65535 < t.size
    · have HF : Hid (E = 2) := Lib.hid (by rw [HC5.out, if_pos hs6, if_pos hl])
      have dl : decide ((65535 : Int) < (t.size : Int)) = true := decide_eq_true (by omega)
      clear h4 h7 hn hs7 hs6 hl hR
      go_enter Tryz.func192, Tryz.ntmps192
      go_wp2_with fail
      refine (refMayP_any kind id _).mono ?_
      rintro e w1 ⟨rfl, hb⟩
      rw [HM.out]
      have X1 := Lib.hid (HX.out.below hb HX.out.lt); have B1 := Lib.hid (HB.out.trans (hb.mono HB.out.size)); clear hb
      obtain ⟨⟨c0, c1, c2, c3⟩, f0, f1, f2, f3⟩ := X1.out.four
      go_wp2_with fail
      refine (look_any id _).mono ?_
      rintro e w2 ⟨A, c, rfl, -, hb⟩
      unfold rowV
      rw [HR.out]
      clear c0 c1 c2 c3 f0 f1 f2 f3
      have X2 := Lib.hid ((X1.out.below hb X1.out.lt).alloc (.cells #[.int .i64 sh, .slice A (kindsOf id).length c, .int .u32 le, .int .u32 mo] RwT))
      have B2 := Lib.hid ((B1.out.trans (hb.mono B1.out.size)).alloc (B1.out.trans (hb.mono B1.out.size)).size (.cells #[.int .i64 sh, .slice A (kindsOf id).length c, .int .u32 le, .int .u32 mo] RwT)); clear hb
      obtain ⟨⟨c0, c1, c2, c3⟩, f0, f1, f2, f3⟩ := X2.out.four
      go_wp2
      go_ret
      exact ⟨by rw [HF.out]; rfl, B2.out⟩
    · have HF : Hid (E = 0) := Lib.hid (by rw [HC5.out, if_pos hs6, if_neg hl])
      have dl : decide ((65535 : Int) < (t.size : Int)) = false := decide_eq_false (by omega)
      clear h4 h7 hn hs7 hs6 hl hR
      go_enter Tryz.func192, Tryz.ntmps192
      go_wp2_with fail
      refine (refMayP_any kind id _).mono ?_
      rintro e w1 ⟨rfl, hb⟩
      rw [HM.out]
      have X1 := Lib.hid (HX.out.below hb HX.out.lt); have B1 := Lib.hid (HB.out.trans (hb.mono HB.out.size)); clear hb
      obtain ⟨⟨c0, c1, c2, c3⟩, f0, f1, f2, f3⟩ := X1.out.four
      go_wp2_with fail
      refine (look_any id _).mono ?_
      rintro e w2 ⟨A, c, rfl, -, hb⟩
      unfold rowV
      rw [HR.out]
      clear c0 c1 c2 c3 f0 f1 f2 f3
      have X2 := Lib.hid ((X1.out.below hb X1.out.lt).alloc (.cells #[.int .i64 sh, .slice A (kindsOf id).length c, .int .u32 le, .int .u32 mo] RwT))
      have B2 := Lib.hid ((B1.out.trans (hb.mono B1.out.size)).alloc (B1.out.trans (hb.mono B1.out.size)).size (.cells #[.int .i64 sh, .slice A (kindsOf id).length c, .int .u32 le, .int .u32 mo] RwT)); clear hb
      obtain ⟨⟨c0, c1, c2, c3⟩, f0, f1, f2, f3⟩ := X2.out.four
      go_wp2
      go_ret
      exact ⟨by rw [HF.out]; rfl, B2.out⟩
  have q5 : ((sh : Int) == 5) = true := beq_iff_eq.2 (by omega)
  have q6 : ((sh : Int) == 6) = false := beq_eq_false_iff_ne.2 (by omega)
  have HC3 : Hid (E = if validB t = false ∨ validB v = false then 6 else if id = 8 ∧ nameB t = false then 9 else 0) := Lib.hid (by rw [HC5.out, if_neg hs6])
  clear h4 h7 hn hs7 hs6 hR
  cases hvt : validB t
  · have HF : Hid (E = 6) := Lib.hid (by rw [HC3.out, if_pos (.inl hvt)])
    have HVT := Lib.hid hvt; clear hvt
    go_enter Tryz.func192, Tryz.ntmps192
    go_wp2_with fail
    refine (refMayP_any kind id _).mono ?_
    rintro e w1 ⟨rfl, hb⟩
    rw [HM.out]
    have X1 := Lib.hid (HX.out.below hb HX.out.lt); have B1 := Lib.hid (HB.out.trans (hb.mono HB.out.size)); clear hb
    obtain ⟨⟨c0, c1, c2, c3⟩, f0, f1, f2, f3⟩ := X1.out.four
    go_wp2_with fail
    refine (look_any id _).mono ?_
    rintro e w2 ⟨A, c, rfl, -, hb⟩
    unfold rowV
    rw [HR.out]
    clear c0 c1 c2 c3 f0 f1 f2 f3
    have X2 := Lib.hid ((X1.out.below hb X1.out.lt).alloc (.cells #[.int .i64 sh, .slice A (kindsOf id).length c, .int .u32 le, .int .u32 mo] RwT))
    have B2 := Lib.hid ((B1.out.trans (hb.mono B1.out.size)).alloc (B1.out.trans (hb.mono B1.out.size)).size (.cells #[.int .i64 sh, .slice A (kindsOf id).length c, .int .u32 le, .int .u32 mo] RwT)); clear hb
    obtain ⟨⟨c0, c1, c2, c3⟩, f0, f1, f2, f3⟩ := X2.out.four
    go_wp2_with fail
    refine (refValid_any t _ HP.out.1).mono ?_
    rintro e w3 ⟨rfl, rfl⟩
    rw [HVT.out]
    go_wp2
    go_ret
    exact ⟨by rw [HF.out]; rfl, B2.out⟩
  cases hvv : validB v
  · have HF : Hid (E = 6) := Lib.hid (by rw [HC3.out, if_pos (.inr hvv)])
    have HVT := Lib.hid hvt; have HVV := Lib.hid hvv; clear hvt hvv
    go_enter Tryz.func192, Tryz.ntmps192
    go_wp2_with fail
    refine (refMayP_any kind id _).mono ?_
    rintro e w1 ⟨rfl, hb⟩
    rw [HM.out]
    have X1 := Lib.hid (HX.out.below hb HX.out.lt); have B1 := Lib.hid (HB.out.trans (hb.mono HB.out.size)); clear hb
    obtain ⟨⟨c0, c1, c2, c3⟩, f0, f1, f2, f3⟩ := X1.out.four
    go_wp2_with fail
    refine (look_any id _).mono ?_
    rintro e w2 ⟨A, c, rfl, -, hb⟩
    unfold rowV
    rw [HR.out]
    clear c0 c1 c2 c3 f0 f1 f2 f3
    have X2 := Lib.hid ((X1.out.below hb X1.out.lt).alloc (.cells #[.int .i64 sh, .slice A (kindsOf id).length c, .int .u32 le, .int .u32 mo] RwT))
    have B2 := Lib.hid ((B1.out.trans (hb.mono B1.out.size)).alloc (B1.out.trans (hb.mono B1.out.size)).size (.cells #[.int .i64 sh, .slice A (kindsOf id).length c, .int .u32 le, .int .u32 mo] RwT)); clear hb
    obtain ⟨⟨c0, c1, c2, c3⟩, f0, f1, f2, f3⟩ := X2.out.four
    go_wp2_with fail
    refine (refValid_any t _ HP.out.1).mono ?_
    rintro e w3 ⟨rfl, rfl⟩
    rw [HVT.out]
    go_wp2_with fail
    refine (refValid_any v _ HP.out.2).mono ?_
    rintro e w3 ⟨rfl, rfl⟩
    rw [HVV.out]
    go_wp2
    go_ret
    exact ⟨by rw [HF.out]; rfl, B2.out⟩
  have HVT := Lib.hid hvt; have HVV := Lib.hid hvv
  have HC4 : Hid (E = if id = 8 ∧ nameB t = false then 9 else 0) := Lib.hid (by rw [HC3.out, if_neg (by rw [hvt, hvv]; simp)])
  clear hvt hvv
  by_cases h8 : id = 8
  · have e8 : (id == 8) = true := beq_iff_eq.2 h8
    cases hnm : nameB t
    · have HF : Hid (E = 9) := Lib.hid (by rw [HC4.out, if_pos ⟨h8, hnm⟩])
      have HNM := Lib.hid hnm; clear hnm h8
      go_enter Tryz.func192, Tryz.ntmps192
      go_wp2_with fail
      refine (refMayP_any kind id _).mono ?_
      rintro e w1 ⟨rfl, hb⟩
      rw [HM.out]
      have X1 := Lib.hid (HX.out.below hb HX.out.lt); have B1 := Lib.hid (HB.out.trans (hb.mono HB.out.size)); clear hb
      obtain ⟨⟨c0, c1, c2, c3⟩, f0, f1, f2, f3⟩ := X1.out.four
      go_wp2_with fail
      refine (look_any id _).mono ?_
      rintro e w2 ⟨A, c, rfl, -, hb⟩
      unfold rowV
      rw [HR.out]
      clear c0 c1 c2 c3 f0 f1 f2 f3
      have X2 := Lib.hid ((X1.out.below hb X1.out.lt).alloc (.cells #[.int .i64 sh, .slice A (kindsOf id).length c, .int .u32 le, .int .u32 mo] RwT))
      have B2 := Lib.hid ((B1.out.trans (hb.mono B1.out.size)).alloc (B1.out.trans (hb.mono B1.out.size)).size (.cells #[.int .i64 sh, .slice A (kindsOf id).length c, .int .u32 le, .int .u32 mo] RwT)); clear hb
      obtain ⟨⟨c0, c1, c2, c3⟩, f0, f1, f2, f3⟩ := X2.out.four
      go_wp2_with fail
      refine (refValid_any t _ HP.out.1).mono ?_
      rintro e w3 ⟨rfl, rfl⟩
      rw [HVT.out]
      go_wp2_with fail
      refine (refValid_any v _ HP.out.2).mono ?_
      rintro e w3 ⟨rfl, rfl⟩
      rw [HVV.out]
      go_wp2_with fail
      refine (refName_any t _ HP.out.1).mono ?_
      rintro e w3 ⟨rfl, rfl⟩
      rw [HNM.out]
      go_wp2
      go_ret
      exact ⟨by rw [HF.out]; rfl, B2.out⟩
    · have HF : Hid (E = 0) := Lib.hid (by rw [HC4.out, if_neg (fun x => by rw [hnm] at x; cases x.2)])
      have HNM := Lib.hid hnm; clear hnm h8
      go_enter Tryz.func192, Tryz.ntmps192
      go_wp2_with fail
      refine (refMayP_any kind id _).mono ?_
      rintro e w1 ⟨rfl, hb⟩
      rw [HM.out]
      have X1 := Lib.hid (HX.out.below hb HX.out.lt); have B1 := Lib.hid (HB.out.trans (hb.mono HB.out.size)); clear hb
      obtain ⟨⟨c0, c1, c2, c3⟩, f0, f1, f2, f3⟩ := X1.out.four
      go_wp2_with fail
      refine (look_any id _).mono ?_
      rintro e w2 ⟨A, c, rfl, -, hb⟩
      unfold rowV
      rw [HR.out]
      clear c0 c1 c2 c3 f0 f1 f2 f3
      have X2 := Lib.hid ((X1.out.below hb X1.out.lt).alloc (.cells #[.int .i64 sh, .slice A (kindsOf id).length c, .int .u32 le, .int .u32 mo] RwT))
      have B2 := Lib.hid ((B1.out.trans (hb.mono B1.out.size)).alloc (B1.out.trans (hb.mono B1.out.size)).size (.cells #[.int .i64 sh, .slice A (kindsOf id).length c, .int .u32 le, .int .u32 mo] RwT)); clear hb
      obtain ⟨⟨c0, c1, c2, c3⟩, f0, f1, f2, f3⟩ := X2.out.four
      go_wp2_with fail
      refine (refValid_any t _ HP.out.1).mono ?_
      rintro e w3 ⟨rfl, rfl⟩
      rw [HVT.out]
      go_wp2_with fail
      refine (refValid_any v _ HP.out.2).mono ?_
      rintro e w3 ⟨rfl, rfl⟩
      rw [HVV.out]
      go_wp2_with fail
      refine (refName_any t _ HP.out.1).mono ?_
      rintro e w3 ⟨rfl, rfl⟩
      rw [HNM.out]
      go_wp2
      go_ret
      exact ⟨by rw [HF.out]; rfl, B2.out⟩
  · have HF : Hid (E = 0) := Lib.hid (by rw [HC4.out, if_neg (fun x => h8 x.1)])
    have e8 : (id == 8) = false := beq_eq_false_iff_ne.2 h8
    clear h8
    go_enter Tryz.func192, Tryz.ntmps192
    go_wp2_with fail
    refine (refMayP_any kind id _).mono ?_
    rintro e w1 ⟨rfl, hb⟩
    rw [HM.out]
    have X1 := Lib.hid (HX.out.below hb HX.out.lt); have B1 := Lib.hid (HB.out.trans (hb.mono HB.out.size)); clear hb
    obtain ⟨⟨c0, c1, c2, c3⟩, f0, f1, f2, f3⟩ := X1.out.four
    go_wp2_with fail
    refine (look_any id _).mono ?_
    rintro e w2 ⟨A, c, rfl, -, hb⟩
    unfold rowV
    rw [HR.out]
    clear c0 c1 c2 c3 f0 f1 f2 f3
    have X2 := Lib.hid ((X1.out.below hb X1.out.lt).alloc (.cells #[.int .i64 sh, .slice A (kindsOf id).length c, .int .u32 le, .int .u32 mo] RwT))
    have B2 := Lib.hid ((B1.out.trans (hb.mono B1.out.size)).alloc (B1.out.trans (hb.mono B1.out.size)).size (.cells #[.int .i64 sh, .slice A (kindsOf id).length c, .int .u32 le, .int .u32 mo] RwT)); clear hb
    obtain ⟨⟨c0, c1, c2, c3⟩, f0, f1, f2, f3⟩ := X2.out.four
    go_wp2_with fail
    refine (refValid_any t _ HP.out.1).mono ?_
    rintro e w3 ⟨rfl, rfl⟩
    rw [HVT.out]
    go_wp2_with fail
    refine (refValid_any v _ HP.out.2).mono ?_
    rintro e w3 ⟨rfl, rfl⟩
    rw [HVV.out]
    go_wp2
    go_ret
    exact ⟨by rw [HF.out]; rfl, B2.out⟩
end Go.Proofs.YtmkkjiogokfnmaaGreatDoor

namespace Go.Proofs.YtmkkjiogokfnmaaGreatDoor
open Go.RowKit
attribute [local go_sem] row_f0 row_f1
set_option maxHeartbeats 1000000 in
set_option maxRecDepth 10000 in
theorem refBinary_any (s : ByteArray) (w : World) (hs : s.size ≤ 65535) :
    Calls Tryz.prog 292 #[.string s] w fun e w' => e = .returned (.tuple #[.string (framedS s), .int .i64 0]) ∧ Below w.heap.size w w' := by
  have HF : Hid (framedS s = ⟨(putL s.size 2).toArray⟩ ++ s) := Lib.hid rfl
  have d1 : decide ((65535 : Int) < (s.size : Int)) = false := decide_eq_false (by omega)
  have HZ : Hid ((⟨(putL s.size 2).toArray⟩ : ByteArray).size = 2) := Lib.hid (by rw [mk_size, putL_len])
  obtain ⟨X, hX⟩ : ∃ X : ByteArray, ⟨(putL s.size 2).toArray⟩ = X := ⟨_, rfl⟩
  rw [hX] at HF HZ
  have HX := Lib.hid hX; clear hX
  have w0 : IntKind.u64.wrap (s.size : Int) = (s.size : Int) := by rw [IntKind.wrap_u64]; omega
  have hsum : ¬ (9223372036854775807 < X.size + s.size) := by have := HZ.out; omega
  go_enter Tryz.func292, Tryz.ntmps292
  go_wp2_with fail
  refine (refPut_any s.size 2 _ (by omega) (by omega) (by omega)).mono ?_
  rintro e w1 ⟨rfl, hb⟩
  rw [HX.out]
  go_wp2
  go_ret2
  exact ⟨by rw [HF.out]; rfl, hb⟩
set_option maxHeartbeats 1000000 in
set_option maxRecDepth 10000 in
theorem refTextU_any (s : ByteArray) (w : World) (hs : s.size ≤ 4611686018427387904) :
    Calls Tryz.prog 73 #[.string s] w fun e w' => e = .returned (.tuple #[.string (textUS s).1, .int .i64 (textUS s).2]) ∧ Below w.heap.size w w' := by
  cases hv : validB s
  · have HX : Hid (textUS s = (⟨#[]⟩, 6)) := Lib.hid (by unfold textUS; rw [hv]; rfl)
    have HV := Lib.hid hv; clear hv
    go_enter Tryz.func73, Tryz.ntmps73
    go_wp2_with fail
    refine (refValid_any s _ hs).mono ?_
    rintro e w1 ⟨rfl, rfl⟩
    rw [HV.out]
    go_wp2
    go_ret2
    exact ⟨by rw [HX.out]; rfl, Below.refl _ _⟩
  · have HX : Hid (textUS s = (framedS s, 0)) := Lib.hid (by unfold textUS; rw [if_pos hv])
    have hsz := valid_size hv
    have HV := Lib.hid hv; clear hv
    have HF : Hid (framedS s = ⟨(putL s.size 2).toArray⟩ ++ s) := Lib.hid rfl
    have HZ : Hid ((⟨(putL s.size 2).toArray⟩ : ByteArray).size = 2) := Lib.hid (by rw [mk_size, putL_len])
    obtain ⟨X, hX⟩ : ∃ X : ByteArray, ⟨(putL s.size 2).toArray⟩ = X := ⟨_, rfl⟩
    rw [hX] at HF HZ
    have HX2 := Lib.hid hX; clear hX
    have w0 : IntKind.u64.wrap (s.size : Int) = (s.size : Int) := by rw [IntKind.wrap_u64]; omega
    have hsum : ¬ (9223372036854775807 < X.size + s.size) := by have := HZ.out; omega
    go_enter Tryz.func73, Tryz.ntmps73
    go_wp2_with fail
    refine (refValid_any s _ hs).mono ?_
    rintro e w1 ⟨rfl, rfl⟩
    rw [HV.out]
    go_wp2_with fail
    refine (refPut_any s.size 2 _ (by omega) (by omega) (by omega)).mono ?_
    rintro e w1 ⟨rfl, hb⟩
    rw [HX2.out]
    go_wp2
    go_ret2
    exact ⟨by rw [HX.out, HF.out]; rfl, hb⟩
set_option maxHeartbeats 1000000 in
set_option maxRecDepth 10000 in
theorem refReadB_any (s : ByteArray) (w : World) (hs : s.size ≤ 4611686018427387904) :
    Calls Tryz.prog 248 #[.string s] w fun e w' => e = .returned (.tuple #[.string (readB s).1, .int .i64 (readB s).2.1, .int .i64 (readB s).2.2]) ∧ w = w' := by
  by_cases h2 : s.size < 2
  · have HX : Hid (readB s = (⟨#[]⟩, 0, 3)) := Lib.hid (by unfold readB; rw [if_pos h2])
    have d2 : decide ((s.size : Int) < 2) = true := decide_eq_true (by omega)
    clear h2
    go_enter Tryz.func248, Tryz.ntmps248
    go_wp2
    go_ret3
    exact ⟨by rw [HX.out]; rfl, rfl⟩
  have d2 : decide ((s.size : Int) < 2) = false := decide_eq_false (by omega)
  have d3 : (2 : Int) ≤ (s.size : Int) := by omega
  have HN : Hid (getL (ls (s.extract 0 2)) = numS s 0 0 2) := Lib.hid (by
    unfold numS takeS
    rw [if_pos rfl, if_pos (by simp [hasC]; omega)]
    rfl)
  have HZ : Hid ((s.extract 0 2).size ≤ 8) := Lib.hid (by rw [ByteArray.size_extract]; omega)
  have HB : Hid (numS s 0 0 2 < 65536) := Lib.hid (by
    rw [← HN.out]
    have h1 := getL_lt (ls (s.extract 0 2))
    rw [ls_len, ByteArray.size_extract, show min 2 s.size - 0 = 2 by omega] at h1
    omega)
  have HXX : Hid (readB s = if s.size < 2 + numS s 0 0 2 then (⟨#[]⟩, 0, 3) else (s.extract 2 (2 + numS s 0 0 2), 2 + numS s 0 0 2, 0)) := Lib.hid (by unfold readB; rw [if_neg h2])
  clear h2
  generalize numS s 0 0 2 = n at *
  have w1 : IntKind.i64.wrap (n : Int) = (n : Int) := by rw [IntKind.wrap_i64]; have := HB.out; omega
  have w2 : IntKind.i64.wrap (2 + (n : Int)) = 2 + (n : Int) := by rw [IntKind.wrap_i64]; have := HB.out; omega
  have w3 : IntKind.i64.wrap ((s.size : Int) - 2) = (s.size : Int) - 2 := by rw [IntKind.wrap_i64]; omega
  by_cases h3 : s.size < 2 + n
  · have HX : Hid (readB s = (⟨#[]⟩, 0, 3)) := Lib.hid (by rw [HXX.out, if_pos h3])
    have d4 : decide ((s.size : Int) - 2 < (n : Int)) = true := decide_eq_true (by omega)
    clear h3
    go_enter Tryz.func248, Tryz.ntmps248
    go_wp2_with fail
    refine (refGet_any _ _ HZ.out).mono ?_
    rintro e w1 ⟨rfl, rfl⟩
    rw [HN.out]
    go_wp2
    go_ret3
    exact ⟨by rw [HX.out]; rfl, rfl⟩
  · have HX : Hid (readB s = (s.extract 2 (2 + n), 2 + n, 0)) := Lib.hid (by rw [HXX.out, if_neg h3])
    have d4 : decide ((s.size : Int) - 2 < (n : Int)) = false := decide_eq_false (by omega)
    have d5 : (2 : Int) + (n : Int) ≤ (s.size : Int) := by omega
    have d6 : ((2 : Int) + (n : Int)).toNat = 2 + n := by omega
    clear h3
    go_enter Tryz.func248, Tryz.ntmps248
    go_wp2_with fail
    refine (refGet_any _ _ HZ.out).mono ?_
    rintro e w1 ⟨rfl, rfl⟩
    rw [HN.out]
    go_wp2
    go_ret3
    exact ⟨by rw [HX.out]; rfl, rfl⟩
set_option maxHeartbeats 1000000 in
set_option maxRecDepth 10000 in
theorem refReadU_any (s : ByteArray) (w : World) (hs : s.size ≤ 4611686018427387904) :
    Calls Tryz.prog 195 #[.string s] w fun e w' => e = .returned (.tuple #[.string (readU s).1, .int .i64 (readU s).2.1, .int .i64 (readU s).2.2]) ∧ w = w' := by
  have HZ : Hid ((readB s).1.size ≤ 4611686018427387904) := Lib.hid (by
    unfold readB
    split
    · exact Nat.zero_le _
    · split
      · exact Nat.zero_le _
      · show (s.extract _ _).size ≤ _
        rw [ByteArray.size_extract]; omega)
  have HXX : Hid (readU s = if (readB s).2.2 = 0 ∧ validB (readB s).1 = false then (⟨#[]⟩, 0, 6) else readB s) := Lib.hid rfl
  have HB : Hid ((readB s).2.2 = 0 ∨ readB s = (⟨#[]⟩, 0, 3)) := Lib.hid (by
    unfold readB
    split
    · exact .inr rfl
    · split
      · exact .inr rfl
      · exact .inl rfl)
  rcases HB.out with hb | hb
  rotate_left
  · have HX : Hid (readU s = (⟨#[]⟩, 0, 3)) := Lib.hid (by rw [HXX.out, hb, if_neg (fun x => by cases x.1)])
    have HB2 := Lib.hid hb; clear hb
    go_enter Tryz.func195, Tryz.ntmps195
    go_wp2_with fail
    refine (refReadB_any s _ hs).mono ?_
    rintro e w1 ⟨rfl, rfl⟩
    rw [HB2.out]
    go_wp2
    go_ret3
    exact ⟨by rw [HX.out]; rfl, rfl⟩
  have HE := Lib.hid hb; clear hb
  obtain ⟨T, N, F, hR⟩ : ∃ T N F, readB s = (T, N, F) := ⟨_, _, _, rfl⟩
  rw [hR] at HZ HXX HE
  simp only at HZ HXX HE
  obtain rfl := HE.out
  have HR := Lib.hid hR; clear hR
  cases hv : validB T
  · have HX : Hid (readU s = (⟨#[]⟩, 0, 6)) := Lib.hid (by rw [HXX.out, if_pos ⟨rfl, hv⟩])
    have HV := Lib.hid hv; clear hv HE
    go_enter Tryz.func195, Tryz.ntmps195
    go_wp2_with fail
    refine (refReadB_any s _ hs).mono ?_
    rintro e w1 ⟨rfl, rfl⟩
    rw [HR.out]
    go_wp2_with fail
    refine (refValid_any T _ HZ.out).mono ?_
    rintro e w1 ⟨rfl, rfl⟩
    rw [HV.out]
    go_wp2
    go_ret3
    exact ⟨by rw [HX.out]; rfl, rfl⟩
  · have HX : Hid (readU s = (T, N, 0)) := Lib.hid (by rw [HXX.out, if_neg (fun x => by rw [hv] at x; cases x.2)])
    have HV := Lib.hid hv; clear hv HE
    go_enter Tryz.func195, Tryz.ntmps195
    go_wp2_with fail
    refine (refReadB_any s _ hs).mono ?_
    rintro e w1 ⟨rfl, rfl⟩
    rw [HR.out]
    go_wp2_with fail
    refine (refValid_any T _ HZ.out).mono ?_
    rintro e w1 ⟨rfl, rfl⟩
    rw [HV.out]
    go_wp2
    go_ret3
    exact ⟨by rw [HX.out]; rfl, rfl⟩
set_option maxHeartbeats 400000 in
set_option maxRecDepth 10000 in
theorem refGetP_any (id : Int) (l : List Pr) (A : Option Addr) (c : Nat) (w : World) (h : Rd w w.heap.size 4 A l.length (prs l)) (hl : l.length ≤ 4611686018427387904) :
    Calls Tryz.prog 246 #[.slice A l.length c, .int .i64 id] w fun e w' => e = .returned (.tuple #[(getR l id).val, .bool (getP l id).isSome]) ∧ Below w.heap.size w w' := by
  have H := Lib.hid h; clear h
  go_enter Tryz.func246, Tryz.ntmps246
  go_wp2
  go_loopw [6] (fun i wr => ∃ k : Nat, k ≤ l.length ∧ i = .int .i64 k ∧ getP l id = getP (l.drop k) id ∧ Bk wr w.heap.size 87 #[.int .i64 0, .int .u32 0, .string ⟨#[]⟩, .string ⟨#[]⟩] ∧ Below w.heap.size w wr) (fun i _ => l.length - (intOf i).toNat)
  case atStart => exact ⟨0, by omega, rfl, rfl, Bk.fresh _ _ _, (Below.refl _ _).alloc (Nat.le_refl _) _⟩
  case round =>
    obtain ⟨k, hk, rfl, hg, hbk, hbel⟩ := hrel
    have HG := Lib.hid hg; have HB := Lib.hid hbk
    have hz := hbel.size
    have hlw := hbk.lt
    clear hg hbk
    by_cases hlt : k < l.length
    · obtain ⟨b, o, rfl, hb, c0, c1, c2, c3⟩ := (H.out.below hbel).atP hlt
      have HD := Lib.hid (List.drop_eq_getElem_cons hlt)
      generalize l[k] = p at *
      obtain ⟨pid, n, t, v⟩ := p
      simp only at c0 c1 c2 c3
      have b1 : (0 : Int) ≤ (k : Int) := by omega
      have b2 : (k : Int) < (l.length : Int) := by omega
      by_cases he : pid = id
      · subst he
        obtain ⟨⟨d0, d1, d2, d3⟩, f0, f1, f2, f3⟩ := HB.out.four
        have HF : Hid (getP l pid = some ⟨pid, n, t, v⟩) := Lib.hid (by rw [HG.out, HD.out]; simp [getP])
        go_wp2
        have HX := Lib.hid ((below_four hbel (Nat.le_refl _) (.int .i64 pid) (.int .u32 n) (.string t) (.string v)))
        exact bodyPost_ret (v := .tuple #[.agg #[.int .i64 pid, .int .u32 n, .string t, .string v], .bool true]) (by simp [results, Tryz.results246, go_sem, d0, d1, d2, d3]) rfl ⟨by unfold getR; rw [HF.out]; rfl, HX.out⟩
      · have e1 : (pid == id) = false := beq_eq_false_iff_ne.2 he
        have HF : Hid (getP l id = getP (l.drop (k + 1)) id) := Lib.hid (by rw [HG.out, HD.out]; simp [getP, e1])
        have HE := Lib.hid he; clear he
        go_wp2
        go_roundw
        case rel => exact ⟨k + 1, by omega, by go_num, HF.out, HB.out, hbel⟩
        case measure => simp [intOf]; omega
    · obtain rfl : k = l.length := by omega
      have HF : Hid (getP l id = none) := Lib.hid (by rw [HG.out, List.drop_length]; rfl)
      obtain ⟨⟨d0, d1, d2, d3⟩, f0, f1, f2, f3⟩ := HB.out.four
      go_wp2
      have HX := Lib.hid (below_four hbel (Nat.le_refl _) (.int .i64 0) (.int .u32 0) (.string ⟨#[]⟩) (.string ⟨#[]⟩))
      exact bodyPost_ret (v := .tuple #[.agg #[.int .i64 0, .int .u32 0, .string ⟨#[]⟩, .string ⟨#[]⟩], .bool false]) (by simp [results, Tryz.results246, go_sem, d0, d1, d2, d3]) rfl ⟨by unfold getR; rw [HF.out]; rfl, HX.out⟩
set_option maxHeartbeats 2000000 in
set_option maxRecDepth 10000 in
theorem refValue_any (sh : Nat) (p : Pr) (hsh : shapeOf p.id = sh) (h1 : 1 ≤ sh) (h7 : sh ≤ 7) (hn : p.n < 4294967296) (h4 : sh = 4 → p.n ≤ 268435455) (ht : 5 ≤ sh → p.text.size ≤ 65535) (hv : 5 ≤ sh → p.value.size ≤ 65535) (w : World) :
    Calls Tryz.prog 241 #[p.val] w fun e w' => e = .returned (.string (valueS sh p)) ∧ Below w.heap.size w w' := by
  obtain ⟨id, n, t, v⟩ := p
  simp only [Pr.val]
  have HN : Hid (n < 4294967296) := Lib.hid hn
  have H := Lib.hid (And.intro hn (And.intro h4 (And.intro ht hv)))
  obtain ⟨sh', ki, le, mo, hR⟩ : ∃ sh ki le mo, ruleOf id = ⟨sh, ki, le, mo⟩ := ⟨_, _, _, _, rfl⟩
  have hs' : sh' = sh := by
    have : (ruleOf id).shape = sh := hsh
    rw [hR] at this
    exact this
  subst hs'
  have HR := Lib.hid hR
  clear hn h4 ht hv hsh hR
  have hw : IntKind.u64.wrap (n : Int) = n := by rw [IntKind.wrap_u64]; have := HN.out; omega
  have hw2 : IntKind.i64.wrap (n : Int) = n := by rw [IntKind.wrap_i64]; have := HN.out; omega
  have HL := Lib.hid ((Below.refl w.heap.size w).alloc (Nat.le_refl _) (.cells #[.int .i64 id, .int .u32 n, .string t, .string v] 87))
  have HZ := Lib.hid (Bk.fresh w 87 #[.int .i64 id, .int .u32 n, .string t, .string v])
  obtain rfl | rfl | rfl | rfl | hs : sh' = 1 ∨ sh' = 2 ∨ sh' = 3 ∨ sh' = 4 ∨ 5 ≤ sh' := by omega
  · have HV : Hid (valueS 1 ⟨id, n, t, v⟩ = ⟨(putL n 1).toArray⟩) := Lib.hid rfl
    go_enter Tryz.func241, Tryz.ntmps241
    go_wp2_with fail
    refine (look_any id _).mono ?_
    rintro e w1 ⟨A, c, rfl, -, hb⟩
    unfold rowV
    rw [HR.out]
    have Z1 := Lib.hid (HZ.out.below hb HZ.out.lt); have L1 := Lib.hid (HL.out.trans (hb.mono HL.out.size)); clear hb
    obtain ⟨⟨c0, c1, c2, c3⟩, f0, f1, f2, f3⟩ := Z1.out.four
    go_wp2_with fail
    refine (refPut_any n 1 _ (by have := HN.out; omega) (by omega) (by omega)).mono ?_
    rintro e w2 ⟨rfl, hb⟩
    have L2 := Lib.hid (L1.out.trans (hb.mono L1.out.size)); clear hb
    go_wp2
    go_ret
    exact ⟨by rw [HV.out]; rfl, L2.out⟩
  · have HV : Hid (valueS 2 ⟨id, n, t, v⟩ = ⟨(putL n 2).toArray⟩) := Lib.hid rfl
    go_enter Tryz.func241, Tryz.ntmps241
    go_wp2_with fail
    refine (look_any id _).mono ?_
    rintro e w1 ⟨A, c, rfl, -, hb⟩
    unfold rowV
    rw [HR.out]
    have Z1 := Lib.hid (HZ.out.below hb HZ.out.lt); have L1 := Lib.hid (HL.out.trans (hb.mono HL.out.size)); clear hb
    obtain ⟨⟨c0, c1, c2, c3⟩, f0, f1, f2, f3⟩ := Z1.out.four
    go_wp2_with fail
    refine (refPut_any n 2 _ (by have := HN.out; omega) (by omega) (by omega)).mono ?_
    rintro e w2 ⟨rfl, hb⟩
    have L2 := Lib.hid (L1.out.trans (hb.mono L1.out.size)); clear hb
    go_wp2
    go_ret
    exact ⟨by rw [HV.out]; rfl, L2.out⟩
  · have HV : Hid (valueS 3 ⟨id, n, t, v⟩ = ⟨(putL n 4).toArray⟩) := Lib.hid rfl
    go_enter Tryz.func241, Tryz.ntmps241
    go_wp2_with fail
    refine (look_any id _).mono ?_
    rintro e w1 ⟨A, c, rfl, -, hb⟩
    unfold rowV
    rw [HR.out]
    have Z1 := Lib.hid (HZ.out.below hb HZ.out.lt); have L1 := Lib.hid (HL.out.trans (hb.mono HL.out.size)); clear hb
    obtain ⟨⟨c0, c1, c2, c3⟩, f0, f1, f2, f3⟩ := Z1.out.four
    go_wp2_with fail
    refine (refPut_any n 4 _ (by have := HN.out; omega) (by omega) (by omega)).mono ?_
    rintro e w2 ⟨rfl, hb⟩
    have L2 := Lib.hid (L1.out.trans (hb.mono L1.out.size)); clear hb
    go_wp2
    go_ret
    exact ⟨by rw [HV.out]; rfl, L2.out⟩
  · have HV : Hid (valueS 4 ⟨id, n, t, v⟩ = ⟨(varL n).toArray⟩) := Lib.hid rfl
    go_enter Tryz.func241, Tryz.ntmps241
    go_wp2_with fail
    refine (look_any id _).mono ?_
    rintro e w1 ⟨A, c, rfl, -, hb⟩
    unfold rowV
    rw [HR.out]
    have Z1 := Lib.hid (HZ.out.below hb HZ.out.lt); have L1 := Lib.hid (HL.out.trans (hb.mono HL.out.size)); clear hb
    obtain ⟨⟨c0, c1, c2, c3⟩, f0, f1, f2, f3⟩ := Z1.out.four
    go_wp2_with fail
    refine (ref2Bytes_any n _ (H.out.2.1 (by trivial))).mono ?_
    rintro e w2 ⟨rfl, hb⟩
    have L2 := Lib.hid (L1.out.trans (hb.mono L1.out.size)); clear hb
    go_wp2
    go_ret
    exact ⟨by rw [HV.out]; rfl, L2.out⟩
  have HT := Lib.hid (H.out.2.2.1 hs); have HVV := Lib.hid (H.out.2.2.2 hs)
  have q1 : ((sh' : Int) == 1) = false := beq_eq_false_iff_ne.2 (by omega)
  have q2 : ((sh' : Int) == 2) = false := beq_eq_false_iff_ne.2 (by omega)
  have q3 : ((sh' : Int) == 3) = false := beq_eq_false_iff_ne.2 (by omega)
  have q4 : ((sh' : Int) == 4) = false := beq_eq_false_iff_ne.2 (by omega)
  by_cases h7' : sh' = 7
  · have HV : Hid (valueS sh' ⟨id, n, t, v⟩ = framedS t ++ framedS v) := Lib.hid (by unfold valueS; rw [if_neg (by omega), if_neg (by omega), if_neg (by omega), if_pos h7'])
    have hz1 : (framedS t).size ≤ 65537 := by rw [framedS_size]; have := HT.out; simp only at this; omega
    have hz2 : (framedS v).size ≤ 65537 := by rw [framedS_size]; have := HVV.out; simp only at this; omega
    have q7 : ((sh' : Int) == 7) = true := beq_iff_eq.2 (by omega)
    obtain ⟨X, hX⟩ : ∃ X, framedS t = X := ⟨_, rfl⟩
    obtain ⟨Y, hY⟩ : ∃ Y, framedS v = Y := ⟨_, rfl⟩
    rw [hX] at hz1 HV
    rw [hY] at hz2 HV
    have HX := Lib.hid hX; have HY := Lib.hid hY
    have hsum : ¬ (9223372036854775807 < X.size + Y.size) := by omega
    clear h7' hs h1 h7 hX hY
    go_enter Tryz.func241, Tryz.ntmps241
    go_wp2_with fail
    refine (look_any id _).mono ?_
    rintro e w1 ⟨A, c, rfl, -, hb⟩
    unfold rowV
    rw [HR.out]
    have Z1 := Lib.hid (HZ.out.below hb HZ.out.lt); have L1 := Lib.hid (HL.out.trans (hb.mono HL.out.size)); clear hb
    obtain ⟨⟨c0, c1, c2, c3⟩, f0, f1, f2, f3⟩ := Z1.out.four
    go_wp2_with fail
    refine (refBinary_any t _ HT.out).mono ?_
    rintro e w2 ⟨rfl, hb⟩
    rw [HX.out]
    have Z2 := Lib.hid (Z1.out.below hb Z1.out.lt); have L2 := Lib.hid (L1.out.trans (hb.mono L1.out.size)); clear hb c0 c1 c2 c3 f0 f1 f2 f3
    obtain ⟨⟨c0, c1, c2, c3⟩, f0, f1, f2, f3⟩ := Z2.out.four
    go_wp2_with fail
    refine (look_any id _).mono ?_
    rintro e w3 ⟨A, c, rfl, -, hb⟩
    unfold rowV
    rw [HR.out]
    have Z3 := Lib.hid (Z2.out.below hb Z2.out.lt); have L3 := Lib.hid (L2.out.trans (hb.mono L2.out.size)); clear hb c0 c1 c2 c3 f0 f1 f2 f3
    obtain ⟨⟨c0, c1, c2, c3⟩, f0, f1, f2, f3⟩ := Z3.out.four
    go_wp2_with fail
    refine (refBinary_any v _ HVV.out).mono ?_
    rintro e w4 ⟨rfl, hb⟩
    rw [HY.out]
    have L4 := Lib.hid (L3.out.trans (hb.mono L3.out.size)); clear hb
    go_wp2
    go_ret
    exact ⟨by rw [HV.out]; rfl, L4.out⟩
  · have HV : Hid (valueS sh' ⟨id, n, t, v⟩ = framedS t) := Lib.hid (by unfold valueS; rw [if_neg (by omega), if_neg (by omega), if_neg (by omega), if_neg h7'])
    have q7 : ((sh' : Int) == 7) = false := beq_eq_false_iff_ne.2 (by omega)
    clear h7' hs h1 h7
    go_enter Tryz.func241, Tryz.ntmps241
    go_wp2_with fail
    refine (look_any id _).mono ?_
    rintro e w1 ⟨A, c, rfl, -, hb⟩
    unfold rowV
    rw [HR.out]
    have Z1 := Lib.hid (HZ.out.below hb HZ.out.lt); have L1 := Lib.hid (HL.out.trans (hb.mono HL.out.size)); clear hb
    obtain ⟨⟨c0, c1, c2, c3⟩, f0, f1, f2, f3⟩ := Z1.out.four
    go_wp2_with fail
    refine (refBinary_any t _ HT.out).mono ?_
    rintro e w2 ⟨rfl, hb⟩
    have Z2 := Lib.hid (Z1.out.below hb Z1.out.lt); have L2 := Lib.hid (L1.out.trans (hb.mono L1.out.size)); clear hb c0 c1 c2 c3 f0 f1 f2 f3
    obtain ⟨⟨c0, c1, c2, c3⟩, f0, f1, f2, f3⟩ := Z2.out.four
    go_wp2_with fail
    refine (look_any id _).mono ?_
    rintro e w3 ⟨A, c, rfl, -, hb⟩
    unfold rowV
    rw [HR.out]
    have L3 := Lib.hid (L2.out.trans (hb.mono L2.out.size)); clear hb c0 c1 c2 c3 f0 f1 f2 f3
    go_wp2
    go_ret
    exact ⟨by rw [HV.out]; rfl, L3.out⟩
/-- Is there one of an id among some already, that may not come often? -/
def twB (kind : Int) (l : List Pr) (id : Int) : Bool := (getP l id).isSome && !manyP kind id
set_option maxHeartbeats 1000000 in
set_option maxRecDepth 10000 in
theorem refTwice_any (kind id : Int) (l : List Pr) (n : Nat) (hn : l.length = n) (A : Option Addr) (c : Nat) (w : World) (h : Rd w w.heap.size 4 A n (prs l)) (hl : n ≤ 4611686018427387904) :
    Calls Tryz.prog 193 #[.int .i64 kind, .slice A n c, .int .i64 id] w fun e w' => e = .returned (.bool (twB kind l id)) ∧ Below w.heap.size w w' := by
  subst hn
  have H := Lib.hid h; clear h
  have HT : Hid (twB kind l id = ((getP l id).isSome && !manyP kind id)) := Lib.hid rfl
  cases hg : (getP l id).isSome
  · have HX : Hid (twB kind l id = false) := Lib.hid (by rw [HT.out, hg]; rfl)
    have HG := Lib.hid hg; clear hg
    go_enter Tryz.func193, Tryz.ntmps193
    go_wp2_with fail
    refine (refGetP_any id l A c _ H.out hl).mono ?_
    rintro e w1 ⟨rfl, hb⟩
    rw [HG.out]
    unfold Pr.val
    have HB := Lib.hid (hb.alloc hb.size (.cells #[.int .i64 (getR l id).id, .int .u32 (getR l id).n, .string (getR l id).text, .string (getR l id).value] 87)); clear hb
    go_wp2
    go_ret
    exact ⟨by rw [HX.out]; rfl, HB.out⟩
  · have HX : Hid (twB kind l id = !manyP kind id) := Lib.hid (by rw [HT.out, hg]; rfl)
    have HG := Lib.hid hg; clear hg
    go_enter Tryz.func193, Tryz.ntmps193
    go_wp2_with fail
    refine (refGetP_any id l A c _ H.out hl).mono ?_
    rintro e w1 ⟨rfl, hb⟩
    rw [HG.out]
    unfold Pr.val
    have HB := Lib.hid (hb.alloc hb.size (.cells #[.int .i64 (getR l id).id, .int .u32 (getR l id).n, .string (getR l id).text, .string (getR l id).value] 87)); clear hb
    go_wp2_with fail
    refine (refManyP_any kind id _).mono ?_
    rintro e w2 ⟨rfl, hb⟩
    have HB2 := Lib.hid (HB.out.trans (hb.mono HB.out.size)); clear hb
    go_wp2
    go_ret
    exact ⟨by rw [HX.out]; rfl, HB2.out⟩
def loneL (l : List Pr) : Bool := (getP l 22).isSome && !(getP l 21).isSome
set_option maxHeartbeats 1000000 in
set_option maxRecDepth 10000 in
theorem refLone_any (l : List Pr) (n : Nat) (hn : l.length = n) (A : Option Addr) (c : Nat) (w : World) (h : Rd w w.heap.size 4 A n (prs l)) (hl : n ≤ 4611686018427387904) :
    Calls Tryz.prog 194 #[.slice A n c] w fun e w' => e = .returned (.bool (loneL l)) ∧ Below w.heap.size w w' := by
  subst hn
  have H := Lib.hid h; clear h
  have HT : Hid (loneL l = ((getP l 22).isSome && !(getP l 21).isSome)) := Lib.hid rfl
  cases hg : (getP l 22).isSome <;> cases hm : (getP l 21).isSome
  all_goals
    have HX := Lib.hid (HT.out.trans (by rw [hg, hm]))
    have HG := Lib.hid hg; have HM := Lib.hid hm; clear hg hm
    go_enter Tryz.func194, Tryz.ntmps194
    go_wp2_with fail
    refine (refGetP_any 22 l A c _ H.out hl).mono ?_
    rintro e w1 ⟨rfl, hb⟩
    rw [HG.out]
    unfold Pr.val
    have HB := Lib.hid (hb.alloc hb.size (.cells #[.int .i64 (getR l 22).id, .int .u32 (getR l 22).n, .string (getR l 22).text, .string (getR l 22).value] 87)); clear hb
    go_wp2_with fail
    refine (refGetP_any 21 l A c _ ((H.out.below HB.out).wider HB.out.size) hl).mono ?_
    rintro e w2 ⟨rfl, hb⟩
    rw [HM.out]
    unfold Pr.val
    have HB2 := Lib.hid ((HB.out.trans (hb.mono HB.out.size)).alloc (HB.out.trans (hb.mono HB.out.size)).size (.cells #[.int .i64 (getR l 21).id, .int .u32 (getR l 21).n, .string (getR l 21).text, .string (getR l 21).value] 87)); clear hb
    go_wp2
    go_ret
    exact ⟨by rw [HX.out]; rfl, HB2.out⟩
end Go.Proofs.YtmkkjiogokfnmaaGreatDoor

