/- Walks of varint: Read, Bytes. -/
import Derived.Test.YtdpeljnoaiaplaaVarA
namespace Go.Proofs.Ytdpeljnoaiaplaa
open Go.RowKit

/-- A number read on, n of k bytes read. -/
def rv : List UInt8 → Nat → Nat → Nat × Nat × Int
  | [], _, _ => (0, 0, 3)
  | b :: l, n, k =>
    if 128 ≤ b.toNat then (if k = 3 then (0, 0, 5) else rv l (pushN n k b) (k + 1))
    else if b.toNat = 0 ∧ 0 < k then (0, 0, 5) else (pushN n k b, k + 1, 0)
def readV (l : List UInt8) : Nat × Nat × Int := rv l 0 0
theorem pushN_lt {n k : Nat} (b : UInt8) (h : n < 2 ^ (7 * k)) : pushN n k b < 2 ^ (7 * (k + 1)) := by
  unfold pushN
  have h1 : b.toNat % 128 < 128 := Nat.mod_lt _ (by omega)
  have h2 : 2 ^ (7 * (k + 1)) = 128 * 2 ^ (7 * k) := by rw [Nat.mul_add, Nat.pow_add, Nat.mul_comm]
  rw [h2]
  have h3 : b.toNat % 128 * 2 ^ (7 * k) ≤ 127 * 2 ^ (7 * k) := Nat.mul_le_mul_right _ (by omega)
  omega
theorem rv_cons {s : ByteArray} {k : Nat} (h : k < s.size) (n : Nat) : rv ((ls s).drop k) n k = rv (s[k] :: (ls s).drop (k + 1)) n k := by
  rw [List.drop_eq_getElem_cons (by rw [ls_len]; exact h), ls_at s k h]

set_option maxHeartbeats 1000000 in
set_option maxRecDepth 10000 in
theorem readV_any (s : ByteArray) (w : World) (hs : s.size ≤ 4611686018427387904) :
    Calls Try.prog 134 #[.string s] w fun e w' => e = .returned (.tuple #[.int .i64 (readV (ls s)).1, .int .i64 (readV (ls s)).2.1, .int .i64 (readV (ls s)).2.2]) ∧ Below w.heap.size w w' := by
  go_enter Try.func134, Try.ntmps134
  go_wp2_with fail
  refine (newRdr_any _).mono ?_
  rintro e w1 ⟨rfl, hr0, hb1⟩
  have hlt1 : w.heap.size < w1.heap.size := Bk.lt hr0
  go_wp2
  go_loopw [12] (fun i wr => ∃ k n : Nat, k ≤ s.size ∧ k ≤ 3 ∧ i = .int .i64 k ∧ n < 2 ^ (7 * k) ∧ Rdr wr w.heap.size n k false false ∧ readV (ls s) = rv ((ls s).drop k) n k ∧ Below w.heap.size w wr) (fun i _ => s.size - (intOf i).toNat)
  case atStart => exact ⟨0, 0, by omega, by omega, rfl, by simp, hr0, rfl, hb1⟩
  case round =>
    obtain ⟨k, n, hk, hk3, rfl, hn, hr, hv, hbel⟩ := hrel
    have HR := Lib.hid hr; have HV := Lib.hid hv; have HN := Lib.hid hn
    have hz := Bk.lt hr
    clear hr hv hn hr0
    by_cases hlt : k < s.size
    · have HC := Lib.hid (rv_cons hlt n)
      have hidx : (k : Int) < (s.size : Int) := by omega
      obtain ⟨b, hb⟩ : ∃ b, b = s[k] := ⟨_, rfl⟩
      have HBb := Lib.hid hb
      rw [← hb] at HC
      clear hb
      by_cases h128 : 128 ≤ b.toNat
      · by_cases hk4 : k = 3
        · have hfin : readV (ls s) = (0, 0, 5) := by rw [HV.out, HC.out]; simp [rv, h128, hk4]
          have HF := Lib.hid hfin; have HK4 := Lib.hid hk4; clear hfin hk4
          go_wp2_with fail
          rw [← HBb.out]
          refine (push_more w.heap.size n k b _ HR.out hk3 HN.out h128).mono ?_
          rintro e w2 ⟨rfl, hr2, hm2⟩
          rw [if_pos HK4.out]
          go_wp2
          go_ret3
          exact ⟨by rw [HF.out]; rfl, below_mod hbel hm2 (by omega) (Nat.le_refl _)⟩
        · have hfin : readV (ls s) = rv ((ls s).drop (k + 1)) (pushN n k b) (k + 1) := by rw [HV.out, HC.out]; simp [rv, h128, hk4]
          have HF := Lib.hid hfin; clear hfin
          go_wp2_with fail
          rw [← HBb.out]
          refine (push_more w.heap.size n k b _ HR.out hk3 HN.out h128).mono ?_
          rintro e w2 ⟨rfl, hr2, hm2⟩
          rw [if_neg hk4]
          have hr2' : Rdr w2 w.heap.size (pushN n k b) (k + 1) false false := by
            have : (k == 3) = false := by simpa using hk4
            rwa [this] at hr2
          have R := Lib.hid (And.intro hr2' (below_mod hbel hm2 (by omega) (Nat.le_refl _)))
          clear hr2 hr2' hm2
          go_wp2
          go_roundw
          case rel => exact ⟨k + 1, pushN n k b, by omega, by omega, by go_num, pushN_lt b HN.out, R.out.1, HF.out, R.out.2⟩
          case measure => simp [intOf]; omega
      · by_cases h0 : b.toNat = 0 ∧ 0 < k
        · have hfin : readV (ls s) = (0, 0, 5) := by rw [HV.out, HC.out]; simp [rv, h0]
          have HF := Lib.hid hfin; clear hfin
          go_wp2_with fail
          rw [← HBb.out]
          refine (push_zero w.heap.size n k b _ HR.out hk3 HN.out h0.1 h0.2).mono ?_
          rintro e w2 ⟨rfl, hr2, hm2⟩
          go_wp2
          go_ret3
          exact ⟨by rw [HF.out]; rfl, below_mod hbel hm2 (by omega) (Nat.le_refl _)⟩
        · have hfin : readV (ls s) = (pushN n k b, k + 1, 0) := by rw [HV.out, HC.out]; simp [rv, h128, h0]
          have HF := Lib.hid hfin; clear hfin
          go_wp2_with fail
          rw [← HBb.out]
          refine (push_done w.heap.size n k b _ HR.out hk3 HN.out (by omega) (by omega)).mono ?_
          rintro e w2 ⟨rfl, hr2, hm2⟩
          obtain ⟨⟨c0, c1, c2, c3⟩, _⟩ := Bk.four hr2
          have hbel2 := below_mod hbel hm2 (by omega) (Nat.le_refl _)
          clear hr2 hm2
          go_wp2
          go_quiet (fail)
          go_wp2
          go_ret3
          exact ⟨by rw [HF.out]; rfl, below_drawn hbel2 _⟩
    · obtain rfl : k = s.size := by omega
      have hfin : readV (ls s) = (0, 0, 3) := by
        rw [HV.out, List.drop_of_length_le (by rw [ls_len]; exact Nat.le_refl _)]; rfl
      have HF := Lib.hid hfin; clear hfin
      go_wp2
      go_ret3
      exact ⟨by rw [HF.out]; rfl, hbel⟩

/-- A number may be told. -/
def mayV (n : Int) : Bool := decide (0 ≤ n) && decide (n ≤ 268435455)
set_option maxHeartbeats 400000 in
theorem mayV_any (n : Int) (w : World) :
    Calls Try.prog 116 #[.int .i64 n] w fun e w' => e = .returned (.bool (mayV n)) ∧ w = w' := by
  go_enter Try.func116, Try.ntmps116
  go_wp2
  all_goals
    go_ret
    refine ⟨?_, rfl⟩
    (try simp [mayV]) <;> omega

/-- A number's bytes, in at most f + 1 bytes. -/
def varF : Nat → Nat → List UInt8
  | 0, n => [UInt8.ofNat n]
  | f + 1, n => if n < 128 then [UInt8.ofNat n] else UInt8.ofNat (n % 128 + 128) :: varF f (n / 128)
def varL (n : Nat) : List UInt8 := varF 3 n

end Go.Proofs.Ytdpeljnoaiaplaa
