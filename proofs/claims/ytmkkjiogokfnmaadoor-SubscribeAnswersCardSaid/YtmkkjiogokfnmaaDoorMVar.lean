/-
  Walks of varint: the reader.
  Walks of varint: Read, Bytes.
  Walks of varint: Bytes.
  Numbers read back, plain.
-/
import Derived.Test.YtmkkjiogokfnmaaDoorMOct
import Derived.RegionTactic
import Derived.BigRegion

namespace Go.Proofs.YtmkkjiogokfnmaaDoor
open Go.RowKit

def pushN (n k : Nat) (b : UInt8) : Nat := n + b.toNat % 128 * 2 ^ (7 * k)
theorem rdr_mod (w : World) (g i j k : Nat) (x y z : Value) : w.grownBy (((w.setCell ⟨g, i, none⟩ x).setCell ⟨g, j, none⟩ y).setCell ⟨g, k, none⟩ z).drew (some g) :=
  mod_drawn (((mod_set _ _ _ _).trans (mod_set _ _ _ _)).trans (mod_set _ _ _ _)) 1
theorem u8_and (a b : UInt8) : bits BinOp.and IntKind.u8 (a.toNat : Int) (b.toNat : Int) = ((a &&& b).toNat : Int) := by
  have h : ∀ x : UInt8, (BitVec.ofInt 8 (x.toNat : Int)).toNat = x.toNat := fun x => by
    rw [BitVec.ofInt_natCast, BitVec.toNat_ofNat]
    exact Nat.mod_eq_of_lt x.toNat_lt
  show IntKind.u8.wrap ((BitVec.ofInt 8 (a.toNat : Int) &&& BitVec.ofInt 8 (b.toNat : Int)).toNat : Int) = _
  rw [BitVec.toNat_and, h, h, UInt8.toNat_and]
  have h2 := (a &&& b).toNat_lt
  rw [UInt8.toNat_and] at h2
  simp only [IntKind.wrap, IntKind.bits, IntKind.signed]
  simp
  omega
theorem low7 (b : UInt8) : bits BinOp.and IntKind.u8 (b.toNat : Int) 127 = ((b.toNat % 128 : Nat) : Int) := by
  have h := u8_and b 127
  rw [UInt8.toNat_and] at h
  rw [show (127 : UInt8).toNat = 2 ^ 7 - 1 by decide, Nat.and_two_pow_sub_one_eq_mod] at h
  exact h
theorem top1 (b : UInt8) : bits BinOp.and IntKind.u8 (b.toNat : Int) 128 = if 128 ≤ b.toNat then 128 else 0 := by
  have h : ∀ b : Fin 256, ((UInt8.ofNat b.1 &&& 128).toNat : Int) = if 128 ≤ (UInt8.ofNat b.1).toNat then 128 else 0 := by decide +kernel
  have h1 := u8_and b 128
  have h2 := h ⟨b.toNat, b.toNat_lt⟩
  simp only [UInt8.ofNat_toNat] at h2
  exact h1.trans h2

end Go.Proofs.YtmkkjiogokfnmaaDoor

namespace Go.Proofs.YtmkkjiogokfnmaaDoor
open Go.RowKit

/-- A number read on, n of k bytes read. -/
def rv : List UInt8 → Nat → Nat → Nat × Nat × Int
  | [], _, _ => (0, 0, 3)
  | b :: l, n, k =>
    if 128 ≤ b.toNat then (if k = 3 then (0, 0, 5) else rv l (pushN n k b) (k + 1))
    else if b.toNat = 0 ∧ 0 < k then (0, 0, 5) else (pushN n k b, k + 1, 0)
def readV (l : List UInt8) : Nat × Nat × Int := rv l 0 0
theorem pushN_lt {n k : Nat} (b : UInt8) (h : n < 2 ^ (7 * k)) : pushN n k b < 2 ^ (7 * (k + 1)) := by
  unfold pushN
  have h1 : b.toNat % 128 < 128 := Nat.mod_lt _ (by omega)
  have h2 : 2 ^ (7 * (k + 1)) = 128 * 2 ^ (7 * k) := by rw [Nat.mul_add, Nat.pow_add, Nat.mul_comm]
  rw [h2]
  have h3 : b.toNat % 128 * 2 ^ (7 * k) ≤ 127 * 2 ^ (7 * k) := Nat.mul_le_mul_right _ (by omega)
  omega
theorem rv_cons {s : ByteArray} {k : Nat} (h : k < s.size) (n : Nat) : rv ((ls s).drop k) n k = rv (s[k] :: (ls s).drop (k + 1)) n k := by
  rw [List.drop_eq_getElem_cons (by rw [ls_len]; exact h), ls_at s k h]

/-- A number may be told. -/
def mayV (n : Int) : Bool := decide (0 ≤ n) && decide (n ≤ 268435455)
set_option maxHeartbeats 400000 in
theorem mayV_any (n : Int) (w : World) :
    Calls Tryd.prog 54 #[.int .i64 n] w fun e w' => e = .returned (.bool (mayV n)) ∧ w = w' := by
  go_enter Tryd.func54, Tryd.ntmps54
  go_wp2
  all_goals
    go_ret
    refine ⟨?_, rfl⟩
    (try simp [mayV]) <;> omega

/-- A number's bytes, in at most f + 1 bytes. -/
def varF : Nat → Nat → List UInt8
  | 0, n => [UInt8.ofNat n]
  | f + 1, n => if n < 128 then [UInt8.ofNat n] else UInt8.ofNat (n % 128 + 128) :: varF f (n / 128)
def varL (n : Nat) : List UInt8 := varF 3 n

end Go.Proofs.YtmkkjiogokfnmaaDoor

namespace Go.Proofs.YtmkkjiogokfnmaaDoor
open Go.RowKit

theorem bys_one (l : List UInt8) : ∀ u ∈ bys l, u.oneCell' = true := by
  intro u hu
  obtain ⟨c, _, rfl⟩ := List.mem_map.1 hu
  rfl
theorem bys_len (l : List UInt8) : (bys l).length = l.length := by simp [bys]
theorem varF_len : ∀ (f n : Nat), (varF f n).length ≤ f + 1
  | 0, n => by simp [varF]
  | f + 1, n => by
    unfold varF
    split
    · simp
    · have := varF_len f (n / 128)
      simp; omega
theorem or_top (n : Nat) (h : n < 128) : bits BinOp.or IntKind.u8 (n : Int) 128 = ((n + 128 : Nat) : Int) := by
  have : ∀ i : Fin 128, bits BinOp.or IntKind.u8 ((i.1 : Nat) : Int) 128 = ((i.1 + 128 : Nat) : Int) := by decide +kernel
  exact this ⟨n, h⟩

set_option maxHeartbeats 1000000 in
set_option maxRecDepth 10000 in
theorem varBytes_any (n : Nat) (w : World) (hn : n ≤ 268435455) :
    Calls Tryd.prog 37 #[.int .i64 n] w fun e w' => e = .returned (.tuple #[.string ⟨(varL n).toArray⟩, .int .i64 0]) ∧ Below w.heap.size w w' := by
  have hm : Hid (mayV n = true) := by show _ = _; simp [mayV]; omega
  go_enter Tryd.func37, Tryd.ntmps37
  go_wp2_with fail
  refine (mayV_any _ _).mono ?_
  rintro e w' ⟨rfl, rfl⟩
  rw [hm.out]
  go_wp2
  go_loopw [0, 4] (fun v o wr => ∃ (m f : Nat) (pre : List UInt8), f ≤ 3 ∧ m < 128 ^ (f + 1) ∧ pre.length + f = 3 ∧ v = .int .i64 m ∧ varL n = pre ++ varF f m ∧ wr.ownsRow w.heap.size 5 1 o pre.length (bys pre) ∧ Below w.heap.size w wr) (fun v _ _ => (intOf v).toNat)
  case atStart => exact ⟨n, 3, [], by omega, by simp; omega, rfl, rfl, rfl, World.ownsRow_nil _ _ _ _, Below.refl _ _⟩
  case round =>
    obtain ⟨m, f, pre, hf, hmf, hpf, rfl, hv, hown, hbel⟩ := hrel
    have HV := Lib.hid hv; have HO := Lib.hid hown; have HP := Lib.hid hpf; have HMF := Lib.hid hmf
    have hpl : pre.length ≤ 3 := by omega
    have hz := hbel.size
    have hm2 : m < 268435456 := by
      have : 128 ^ (f + 1) ≤ 128 ^ 4 := Nat.pow_le_pow_right (by omega) (by omega)
      have h4 : (128 : Nat) ^ 4 = 268435456 := by decide
      omega
    clear hv hown hpf hmf hm
    by_cases hge : 128 ≤ m
    · have hge' : (128 : Int) ≤ (m : Int) := by omega
      obtain ⟨c, hc⟩ : ∃ c, c = UInt8.ofNat (m % 128 + 128) := ⟨_, rfl⟩
      have hor : bits BinOp.or IntKind.u8 ((m : Int) % 128) 128 = (c.toNat : Int) := by
        have h1 := or_top (m % 128) (Nat.mod_lt _ (by omega))
        have h2 : (c.toNat : Int) = ((m % 128 + 128 : Nat) : Int) := by
          rw [hc, UInt8.toNat_ofNat']
          have := Nat.mod_lt m (show 0 < 128 by omega)
          omega
        rw [h2, ← h1]; simp
      have HCc := Lib.hid hc; clear hc
      have HF : Hid (∃ f', f = f' + 1) := by
        refine ⟨f - 1, ?_⟩
        rcases Nat.eq_zero_or_pos f with rfl | h
        · have := HMF.out; simp at this; omega
        · omega
      go_wp2_with (at_builtin; refine wpList_app _ rfl (.tmp 12) (.tmp 17) 49 rfl w.heap.size 5 (.int .u8 0) 1 1 Tryd.underlying49 info_byte rfl (by decide) u4 _ _ rfl (HO.out.alloc _) _ _ 1 1 (bys [c]) rfl (Rd.lit _ _ _ rfl (Nat.lt_succ_self _) rfl) (bys_one _) (by unfold maxLen; omega) (by omega) (by simp; omega) ?_; intro v' w3 hown3 hg3 hat3)
      have R : ∃ f', f = f' + 1 ∧ m / 128 < 128 ^ (f' + 1) ∧ (pre ++ [c]).length + f' = 3 ∧ varL n = (pre ++ [c]) ++ varF f' (m / 128) ∧ w3.ownsRow w.heap.size 5 1 v' (pre ++ [c]).length (bys (pre ++ [c])) ∧ Below w.heap.size w w3 := by
        obtain ⟨f', rfl⟩ := HF.out
        have h1 := HMF.out
        have h2 := HP.out
        refine ⟨f', rfl, ?_, by simp; omega, ?_, ?_, below_app (hbel.alloc (by omega) _) hg3 (by simp; omega) (fun g hg => (own_block HO.out g hg).1)⟩
        · rw [Nat.pow_succ] at h1
          exact Nat.div_lt_of_lt_mul (by rw [Nat.mul_comm]; exact h1)
        · rw [HV.out, varF, if_neg (by omega), HCc.out]
          simp
        · simpa [bys] using hown3
      have HR := Lib.hid R
      clear hown3 hg3 hat3 R
      go_wp2
      go_roundw
      case rel =>
        obtain ⟨f', _, h1, h2, h3, h4, h5⟩ := HR.out
        exact ⟨m / 128, f', pre ++ [c], by omega, h1, h2, by simp, h3, h4, h5⟩
      case measure => simp [intOf]; omega
    · have hlt : (m : Int) < 128 := by omega
      obtain ⟨c, hc⟩ : ∃ c, c = UInt8.ofNat m := ⟨_, rfl⟩
      have hcm : c.toNat = m := by rw [hc, UInt8.toNat_ofNat']; omega
      have hfin : varL n = pre ++ [c] := by
        rw [HV.out, hc]
        cases f with
        | zero => rfl
        | succ f => rw [varF, if_pos (by omega)]
      have HFi := Lib.hid hfin
      clear hc hfin HV HMF
      subst hcm
      go_wp2_with (at_builtin; refine wpList_app _ rfl (.tmp 19) (.tmp 22) 49 rfl w.heap.size 5 (.int .u8 0) 1 1 Tryd.underlying49 info_byte rfl (by decide) u4 _ _ rfl (HO.out.alloc _) _ _ 1 1 (bys [c]) rfl (Rd.lit _ _ _ rfl (Nat.lt_succ_self _) rfl) (bys_one _) (by unfold maxLen; omega) (by omega) (by simp; omega) ?_; intro v' w3 hown3 hg3 hat3; have hbel3 := below_app (hbel.alloc (by omega) _) hg3 (by simp; omega) (fun g hg => (own_block HO.out g hg).1); obtain ⟨A, cp, rfl, _, hrd⟩ := own_rd hown3; have hrd' : Rd w3 w3.heap.size 1 A (pre.length + 1) (bys (pre ++ [c])) := (by simpa [bys] using hrd); have hconv := conv_rd (P := Tryd.prog) 49 9 5 Tryd.underlying49 Tryd.underlying5 Tryd.underlying9 cp hrd')
      go_ret2
      exact ⟨by rw [HFi.out]; rfl, hbel3⟩

set_option maxHeartbeats 400000 in
theorem varBytes_bad (n : Int) (w : World) (hn : mayV n = false) :
    Calls Tryd.prog 37 #[.int .i64 n] w fun e w' => e = .returned (.tuple #[.string ⟨#[]⟩, .int .i64 2]) ∧ w = w' := by
  have HM := Lib.hid hn; clear hn
  go_enter Tryd.func37, Tryd.ntmps37
  go_wp2_with fail
  refine (mayV_any _ _).mono ?_
  rintro e w' ⟨rfl, rfl⟩
  rw [HM.out]
  go_wp2
  go_ret2
  exact ⟨rfl, rfl⟩

end Go.Proofs.YtmkkjiogokfnmaaDoor

namespace Go.Proofs.YtmkkjiogokfnmaaDoor
open Go.RowKit

theorem rv_varF : ∀ (f m n k : Nat) (rest : List UInt8), k + f ≤ 3 → m < 128 ^ (f + 1) → (0 < k → 0 < m) → rv (varF f m ++ rest) n k = (n + m * 2 ^ (7 * k), k + (varF f m).length, 0)
  | 0, m, n, k, rest, hk, hm, hp => by
    have h1 : m < 128 := by simpa using hm
    have h2 : (UInt8.ofNat m).toNat = m := by rw [UInt8.toNat_ofNat']; omega
    show rv (UInt8.ofNat m :: rest) n k = _
    rw [rv, h2, if_neg (by omega), if_neg (by omega)]
    unfold pushN
    rw [h2, Nat.mod_eq_of_lt h1]
    rfl
  | f + 1, m, n, k, rest, hk, hm, hp => by
    by_cases h1 : m < 128
    · have h2 : (UInt8.ofNat m).toNat = m := by rw [UInt8.toNat_ofNat']; omega
      rw [varF, if_pos h1]
      show rv (UInt8.ofNat m :: rest) n k = _
      rw [rv, h2, if_neg (by omega), if_neg (by omega)]
      unfold pushN
      rw [h2, Nat.mod_eq_of_lt h1]
      rfl
    · have h2 : (UInt8.ofNat (m % 128 + 128)).toNat = m % 128 + 128 := by rw [UInt8.toNat_ofNat']; omega
      rw [varF, if_neg h1]
      show rv (UInt8.ofNat (m % 128 + 128) :: (varF f (m / 128) ++ rest)) n k = _
      have hm' : m / 128 < 128 ^ (f + 1) := by
        rw [Nat.pow_succ] at hm
        exact Nat.div_lt_of_lt_mul (by rw [Nat.mul_comm]; exact hm)
      rw [rv, h2, if_pos (by omega), if_neg (by omega), rv_varF f (m / 128) _ (k + 1) rest (by omega) hm' (fun _ => by omega)]
      unfold pushN
      rw [h2, List.length_cons, show (m % 128 + 128) % 128 = m % 128 by omega, show 7 * (k + 1) = 7 * k + 7 by omega, Nat.pow_add]
      refine Prod.ext ?_ (Prod.ext ?_ rfl)
      · show n + m % 128 * 2 ^ (7 * k) + m / 128 * (2 ^ (7 * k) * 2 ^ 7) = n + m * 2 ^ (7 * k)
        have h3 := Nat.div_add_mod m 128
        generalize 2 ^ (7 * k) = X at *
        generalize m / 128 = q at *
        generalize m % 128 = r at *
        subst h3
        rw [Nat.add_mul, show (2 : Nat) ^ 7 = 128 by rfl, Nat.mul_comm X 128, ← Nat.mul_assoc, Nat.mul_comm q 128]
        omega
      · show k + 1 + _ = k + (_ + 1)
        omega
theorem readV_varL (n : Nat) (hn : n ≤ 268435455) (rest : List UInt8) : readV (varL n ++ rest) = (n, (varL n).length, 0) := by
  unfold readV varL
  rw [rv_varF 3 n 0 0 rest (by omega) (by simp; omega) (fun h => by omega)]
  simp
theorem rv_size : ∀ (l : List UInt8) (n k : Nat), (rv l n k).2.1 ≤ k + l.length
  | [], n, k => by simp [rv]
  | b :: l, n, k => by
    rw [rv]
    split
    · split
      · simp
      · have := rv_size l (pushN n k b) (k + 1)
        simp; omega
    · split
      · simp
      · simp <;> omega
theorem readV_size (l : List UInt8) : (readV l).2.1 ≤ l.length := by
  have := rv_size l 0 0
  unfold readV
  omega
end Go.Proofs.YtmkkjiogokfnmaaDoor
