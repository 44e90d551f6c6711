/-
  The reference's code points: polyglotref03.more, Point, Bad, Valid.
  The reference's code point: the walk of polyglotref03.Point.
  The reference's strings: the walks of polyglotref03.Bad, Valid; polyglotkit.Pick.
-/
import Derived.Test.YtjbpafkdbfbdlaaMTop
import Derived.LoopN

namespace Go.Proofs.Ytjbpafkdbfbdlaa
open Go.RowKit

theorem get_at (s : ByteArray) (p : Nat) (h : p < s.size) : s[p] = s.get! p := by
  simp [ByteArray.get!, getElem!_pos, h]
  rfl

def moreB (s : ByteArray) (p : Nat) : Bool := decide (p < s.size ∧ (s.get! p).toNat / 64 = 2)
def moreV (s : ByteArray) (p : Nat) : Int := if p < s.size ∧ (s.get! p).toNat / 64 = 2 then (((s.get! p).toNat % 64 : Nat) : Int) else 0
theorem more_no {s : ByteArray} {p : Nat} (h : ¬ (p < s.size ∧ (s.get! p).toNat / 64 = 2)) : moreB s p = false ∧ moreV s p = 0 := ⟨decide_eq_false h, if_neg h⟩
theorem more_yes {s : ByteArray} {p : Nat} (h : p < s.size ∧ (s.get! p).toNat / 64 = 2) : moreB s p = true ∧ moreV s p = (((s.get! p).toNat % 64 : Nat) : Int) := ⟨decide_eq_true h, if_pos h⟩

set_option maxHeartbeats 400000 in
set_option maxRecDepth 10000 in
theorem more_any (s : ByteArray) (p : Nat) (q : Int) (hq : q = p) (w : World) (_hp : p ≤ 9000000000000000000) :
    Calls Try.prog 66 #[.string s, .int .i64 q] w fun e w' =>
      e = .returned (.tuple #[.int .i64 (moreV s p), .bool (moreB s p)]) ∧ w = w' := by
  subst hq
  have h0 : (0 : Int) ≤ (p : Int) := Int.natCast_nonneg _
  by_cases h : p < s.size
  · have hi : (p : Int) < (s.size : Int) := by omega
    have d1 : decide ((s.size : Int) ≤ (p : Int)) = false := decide_eq_false (by omega)
    have d1' : decide (s.size ≤ p) = false := decide_eq_false (by omega)
    have hx := get_at s p h
    obtain ⟨x, hxx⟩ : ∃ x, s.get! p = x := ⟨_, rfl⟩
    rw [hxx] at hx
    by_cases h1 : x.toNat < 128
    · have d2 : decide ((x.toNat : Int) < 128) = true := decide_eq_true (by omega)
      have HF : Hid (moreB s p = false ∧ moreV s p = 0) := Lib.hid (more_no (by rw [hxx]; omega))
      clear h1 hxx
      go_enter Try.func66, Try.ntmps66
      go_wp2
      go_ret2
      exact ⟨by rw [HF.out.1, HF.out.2]; rfl, rfl⟩
    · have d2 : decide ((x.toNat : Int) < 128) = false := decide_eq_false (by omega)
      by_cases h2 : 191 < x.toNat
      · have d3 : decide ((191 : Int) < (x.toNat : Int)) = true := decide_eq_true (by omega)
        have HF : Hid (moreB s p = false ∧ moreV s p = 0) := Lib.hid (more_no (by rw [hxx]; omega))
        clear h1 h2 hxx
        go_enter Try.func66, Try.ntmps66
        go_wp2
        go_ret2
        exact ⟨by rw [HF.out.1, HF.out.2]; rfl, rfl⟩
      · have d3 : decide ((191 : Int) < (x.toNat : Int)) = false := decide_eq_false (by omega)
        have HF : Hid (moreB s p = true ∧ moreV s p = ((x.toNat % 64 : Nat) : Int)) := Lib.hid (by have := more_yes (s := s) (p := p) (by rw [hxx]; exact ⟨h, by omega⟩); rwa [hxx] at this)
        have hs : (x.toNat : Int) - 128 = ((x.toNat % 64 : Nat) : Int) := by omega
        have HS := Lib.hid hs; clear hs
        have hb1 : (128 : Int) ≤ (x.toNat : Int) := by omega
        have hb2 : (x.toNat : Int) ≤ 191 := by omega
        clear h1 h2 hxx
        go_enter Try.func66, Try.ntmps66
        go_wp2
        go_ret2
        exact ⟨by rw [HF.out.1, HF.out.2, ← HS.out]; rfl, rfl⟩
  · have d1 : decide ((s.size : Int) ≤ (p : Int)) = true := decide_eq_true (by omega)
    have d1' : decide (s.size ≤ p) = true := decide_eq_true (by omega)
    have HF : Hid (moreB s p = false ∧ moreV s p = 0) := Lib.hid (more_no (by omega))
    clear h
    go_enter Try.func66, Try.ntmps66
    go_wp2
    go_ret2
    exact ⟨by rw [HF.out.1, HF.out.2]; rfl, rfl⟩

/-- The code point at a place: 0 bytes where none begins. -/
def pointS (s : ByteArray) (at_ : Nat) : Nat × Nat := if Utf8.decode s at_ = (65533, 1) then (0, 0) else Utf8.decode s at_

theorem dec_bad {n b0 b1 b2 b3 : Nat} (h1 : 128 ≤ b0) (h2 : ¬ (b0 / 32 = 6 ∧ 1 < n ∧ b1 / 64 = 2 ∧ 128 ≤ b0 % 32 * 64 + b1 % 64))
    (h3 : ¬ (b0 / 16 = 14 ∧ 2 < n ∧ b1 / 64 = 2 ∧ b2 / 64 = 2 ∧ 2048 ≤ b0 % 16 * 4096 + b1 % 64 * 64 + b2 % 64 ∧ (b0 % 16 * 4096 + b1 % 64 * 64 + b2 % 64 < 55296 ∨ 57344 ≤ b0 % 16 * 4096 + b1 % 64 * 64 + b2 % 64)))
    (h4 : ¬ (b0 / 8 = 30 ∧ 3 < n ∧ b1 / 64 = 2 ∧ b2 / 64 = 2 ∧ b3 / 64 = 2 ∧ 65536 ≤ b0 % 8 * 262144 + b1 % 64 * 4096 + b2 % 64 * 64 + b3 % 64 ∧ b0 % 8 * 262144 + b1 % 64 * 4096 + b2 % 64 * 64 + b3 % 64 ≤ 1114111)) :
    Lib.decodeN n b0 b1 b2 b3 = (65533, 1) := by
  rcases Lib.decodeN_shape n b0 b1 b2 b3 with ⟨e1, _⟩ | ⟨e1, e2, e3, e4, _⟩ | ⟨e1, e2, e3, e4, e5, e6, _⟩ | ⟨e1, e2, e3, e4, e5, e6, e7, _⟩ | e
  · omega
  · exact absurd ⟨e1, e2, e3, e4⟩ h2
  · exact absurd ⟨e1, e2, e3, e4, e5, e6⟩ h3
  · exact absurd ⟨e1, e2, e3, e4, e5, e6, e7⟩ h4
  · exact e
theorem dec_2 {n b0 b1 b2 b3 : Nat} (h1 : b0 / 32 = 6) (h2 : 1 < n) (h3 : b1 / 64 = 2) (h4 : 128 ≤ b0 % 32 * 64 + b1 % 64) : Lib.decodeN n b0 b1 b2 b3 = (b0 % 32 * 64 + b1 % 64, 2) := by
  unfold Lib.decodeN
  rw [if_neg (by omega), if_pos ⟨h1, h2, h3⟩, if_pos h4]
theorem dec_3 {n b0 b1 b2 b3 : Nat} (h1 : b0 / 16 = 14) (h2 : 2 < n) (h3 : b1 / 64 = 2) (h4 : b2 / 64 = 2) (h5 : 2048 ≤ b0 % 16 * 4096 + b1 % 64 * 64 + b2 % 64)
    (h6 : b0 % 16 * 4096 + b1 % 64 * 64 + b2 % 64 < 55296 ∨ 57344 ≤ b0 % 16 * 4096 + b1 % 64 * 64 + b2 % 64) : Lib.decodeN n b0 b1 b2 b3 = (b0 % 16 * 4096 + b1 % 64 * 64 + b2 % 64, 3) := by
  unfold Lib.decodeN
  rw [if_neg (by omega), if_neg (by omega), if_pos ⟨h1, ⟨by omega, h3⟩, h2, h4⟩, if_pos ⟨h5, by omega⟩]
theorem dec_4 {n b0 b1 b2 b3 : Nat} (h1 : b0 / 8 = 30) (h2 : 3 < n) (h3 : b1 / 64 = 2) (h4 : b2 / 64 = 2) (h5 : b3 / 64 = 2) (h6 : 65536 ≤ b0 % 8 * 262144 + b1 % 64 * 4096 + b2 % 64 * 64 + b3 % 64)
    (h7 : b0 % 8 * 262144 + b1 % 64 * 4096 + b2 % 64 * 64 + b3 % 64 ≤ 1114111) : Lib.decodeN n b0 b1 b2 b3 = (b0 % 8 * 262144 + b1 % 64 * 4096 + b2 % 64 * 64 + b3 % 64, 4) := by
  unfold Lib.decodeN
  rw [if_neg (by omega), if_neg (by omega), if_neg (by omega), if_pos ⟨h1, ⟨by omega, h3⟩, ⟨by omega, h4⟩, h2, h5⟩, if_pos ⟨h6, by omega⟩]
theorem point_bad {s : ByteArray} {p : Nat} (h : Lib.decodeN (s.size - p) (s.get! p).toNat (s.get! (p + 1)).toNat (s.get! (p + 2)).toNat (s.get! (p + 3)).toNat = (65533, 1)) : pointS s p = (0, 0) := by
  unfold pointS
  rw [Lib.decode_at, if_pos h]
theorem point_ok {s : ByteArray} {p m k : Nat} (h : Lib.decodeN (s.size - p) (s.get! p).toNat (s.get! (p + 1)).toNat (s.get! (p + 2)).toNat (s.get! (p + 3)).toNat = (m, k)) (hm : m ≠ 65533 ∨ k ≠ 1) : pointS s p = (m, k) := by
  unfold pointS
  rw [Lib.decode_at, if_neg (by rw [h]; simp; omega), h]
end Go.Proofs.Ytjbpafkdbfbdlaa

namespace Go.Proofs.Ytjbpafkdbfbdlaa
open Go.RowKit

set_option maxHeartbeats 1000000 in
set_option maxRecDepth 10000 in
theorem point_any (s : ByteArray) (p : Nat) (w : World) (hp : p < s.size) (hs : s.size ≤ 4611686018427387904) :
    Calls Try.prog 55 #[.string s, .int .i64 p] w fun e w' => e = .returned (.tuple #[.int .i64 (pointS s p).1, .int .i64 (pointS s p).2]) ∧ w = w' := by
  have h0 : (0 : Int) ≤ (p : Int) := Int.natCast_nonneg _
  have hi : (p : Int) < (s.size : Int) := by omega
  have hx := get_at s p hp
  obtain ⟨x, hxx⟩ : ∃ x, s.get! p = x := ⟨_, rfl⟩
  rw [hxx] at hx
  have HXX := Lib.hid hxx; have HS := Lib.hid (And.intro hp hs)
  have h256 := UInt8.toNat_lt x
  have h255 : (x.toNat : Int) ≤ 255 := by omega
  have hpm : (p : Int) < 4611686018427387904 := by omega
  clear hxx hs
  by_cases g1 : x.toNat < 128
  · have HF : Hid (pointS s p = (x.toNat, 1)) := Lib.hid (point_ok (by rw [HXX.out]; unfold Lib.decodeN; rw [if_pos g1]) (.inl (by omega)))
    have e1 : decide ((x.toNat : Int) < 128) = true := decide_eq_true (by omega)
    clear g1 h256
    go_enter Try.func55, Try.ntmps55
    go_wp2
    go_ret2
    exact ⟨by rw [HF.out]; rfl, rfl⟩
  · have e1 : decide ((x.toNat : Int) < 128) = false := decide_eq_false (by omega)
    obtain g2 | g2 | g2 | g2 | g2 : x.toNat < 192 ∨ (192 ≤ x.toNat ∧ x.toNat < 224) ∨ (224 ≤ x.toNat ∧ x.toNat < 240) ∨ (240 ≤ x.toNat ∧ x.toNat < 248) ∨ 248 ≤ x.toNat := by omega
    · have a1 : decide ((192 : Int) ≤ (x.toNat : Int)) = false := decide_eq_false (by omega)
      have a2 : decide ((x.toNat : Int) < 224) = true := decide_eq_true (by omega)
      have a3 : decide ((224 : Int) ≤ (x.toNat : Int)) = false := decide_eq_false (by omega)
      have a4 : decide ((x.toNat : Int) < 240) = true := decide_eq_true (by omega)
      have a5 : decide ((240 : Int) ≤ (x.toNat : Int)) = false := decide_eq_false (by omega)
      have a6 : decide ((x.toNat : Int) < 248) = true := decide_eq_true (by omega)
      have HF : Hid (pointS s p = (0, 0)) := Lib.hid (point_bad (dec_bad (by rw [HXX.out]; omega) (by rw [HXX.out]; omega) (by rw [HXX.out]; omega) (by rw [HXX.out]; omega)))
      clear g1 g2 h256
      go_enter Try.func55, Try.ntmps55
      go_wp2
      go_ret2
      exact ⟨by rw [HF.out]; rfl, rfl⟩
    · have a1 : decide ((192 : Int) ≤ (x.toNat : Int)) = true := decide_eq_true (by omega)
      have a2 : decide ((x.toNat : Int) < 224) = true := decide_eq_true (by omega)
      have a3 : decide ((224 : Int) ≤ (x.toNat : Int)) = false := decide_eq_false (by omega)
      have a4 : decide ((x.toNat : Int) < 240) = true := decide_eq_true (by omega)
      have a5 : decide ((240 : Int) ≤ (x.toNat : Int)) = false := decide_eq_false (by omega)
      have a6 : decide ((x.toNat : Int) < 248) = true := decide_eq_true (by omega)
      have hm : (x.toNat : Int) - 192 = ((x.toNat % 32 : Nat) : Int) := by omega
      have hmb : ((x.toNat % 32 : Nat) : Int) ≤ 31 := by omega
      have M0 : Hid (x.toNat / 32 = 6) := Lib.hid (by omega)
      obtain ⟨m0, hm0⟩ : ∃ m0, x.toNat % 32 = m0 := ⟨_, rfl⟩
      rw [hm0] at hm hmb
      have HM0 := Lib.hid hm0
      clear hm0 g1 g2 h256
      go_enter Try.func55, Try.ntmps55
      go_wp2
      refine wp_loop_rounds 2 ?_
      rw [rounds_succ]
      go_wp2_with fail
      refine (more_any s (p + 1) _ (by simp) _ (by have := HS.out; omega)).mono ?_
      rintro e w1 ⟨rfl, rfl⟩
      by_cases c1 : p + 1 < s.size ∧ (s.get! (p + 1)).toNat / 64 = 2
      · rw [(more_yes c1).1, (more_yes c1).2]
        have C1 := Lib.hid c1; clear c1
        obtain ⟨l1, hl1⟩ : ∃ l, (s.get! (p + 1)).toNat % 64 = l := ⟨_, rfl⟩
        rw [hl1]
        have bl1 : (l1 : Int) ≤ 63 := by omega
        have HL1 := Lib.hid hl1; clear hl1
        obtain ⟨q1, hq1⟩ : ∃ q : Nat, 64 * (m0 : Int) + (l1 : Int) = (q : Int) := ⟨64 * m0 + l1, by omega⟩
        have bq1 : (q1 : Int) ≤ 2047 := by omega
        have HQ1 := Lib.hid hq1
        go_wp2
        by_cases z1 : q1 < 128
        · have tz1 : decide ((q1 : Int) < 128) = true := decide_eq_true (by omega)
          have HF : Hid (pointS s p = (0, 0)) := Lib.hid (point_bad (dec_bad (by rw [HXX.out]; omega) (by rw [HXX.out]; have k0 := M0.out; have k00 := HM0.out; have k000 := HS.out; have k1 := C1.out; have kk1 := HL1.out; have kkk1 := HQ1.out; omega) (by rw [HXX.out]; have k0 := M0.out; have k00 := HM0.out; have k000 := HS.out; have k1 := C1.out; have kk1 := HL1.out; have kkk1 := HQ1.out; omega) (by rw [HXX.out]; have k0 := M0.out; have k00 := HM0.out; have k000 := HS.out; have k1 := C1.out; have kk1 := HL1.out; have kkk1 := HQ1.out; omega)))
          clear z1
          rw [rounds_succ]
          go_wp2
          go_ret2
          exact ⟨by rw [HF.out]; rfl, rfl⟩
        · have tz1 : decide ((q1 : Int) < 128) = false := decide_eq_false (by omega)
          by_cases z2 : 1114111 < q1
          · have tz2 : decide ((1114111 : Int) < (q1 : Int)) = true := decide_eq_true (by omega)
            omega
          · have tz2 : decide ((1114111 : Int) < (q1 : Int)) = false := decide_eq_false (by omega)
            by_cases z3 : 55296 ≤ q1
            · have tz3 : decide ((55296 : Int) ≤ (q1 : Int)) = true := decide_eq_true (by omega)
              by_cases z4 : q1 ≤ 57343
              · have tz4 : decide ((q1 : Int) ≤ 57343) = true := decide_eq_true (by omega)
                omega
              · have tz4 : decide ((q1 : Int) ≤ 57343) = false := decide_eq_false (by omega)
                omega
            · have tz3 : decide ((55296 : Int) ≤ (q1 : Int)) = false := decide_eq_false (by omega)
              have HF : Hid (pointS s p = (q1, 2)) := Lib.hid (point_ok (by have k0 := M0.out; have k00 := HM0.out; have k000 := HS.out; have k1 := C1.out; have kk1 := HL1.out; have kkk1 := HQ1.out; replace k00 := k00; rw [show q1 = x.toNat % 32 * 64 + (s.get! (p + 1)).toNat % 64 by omega]; rw [HXX.out]; exact dec_2 (by omega) (by omega) (by omega) (by omega)) (.inr (by omega)))
              clear z1 z2 z3
              rw [rounds_succ]
              go_wp2
              go_ret2
              exact ⟨by rw [HF.out]; rfl, rfl⟩
      · rw [(more_no c1).1, (more_no c1).2]
        have HF : Hid (pointS s p = (0, 0)) := Lib.hid (point_bad (dec_bad (by rw [HXX.out]; omega) (by rw [HXX.out]; have k0 := M0.out; have k00 := HM0.out; have k000 := HS.out; omega) (by rw [HXX.out]; have k0 := M0.out; have k00 := HM0.out; have k000 := HS.out; omega) (by rw [HXX.out]; have k0 := M0.out; have k00 := HM0.out; have k000 := HS.out; omega)))
        clear c1
        go_wp2
        go_ret2
        exact ⟨by rw [HF.out]; rfl, rfl⟩
    · have a1 : decide ((192 : Int) ≤ (x.toNat : Int)) = true := decide_eq_true (by omega)
      have a2 : decide ((x.toNat : Int) < 224) = false := decide_eq_false (by omega)
      have a3 : decide ((224 : Int) ≤ (x.toNat : Int)) = true := decide_eq_true (by omega)
      have a4 : decide ((x.toNat : Int) < 240) = true := decide_eq_true (by omega)
      have a5 : decide ((240 : Int) ≤ (x.toNat : Int)) = false := decide_eq_false (by omega)
      have a6 : decide ((x.toNat : Int) < 248) = true := decide_eq_true (by omega)
      have hm : (x.toNat : Int) - 224 = ((x.toNat % 16 : Nat) : Int) := by omega
      have hmb : ((x.toNat % 16 : Nat) : Int) ≤ 15 := by omega
      have M0 : Hid (x.toNat / 16 = 14) := Lib.hid (by omega)
      obtain ⟨m0, hm0⟩ : ∃ m0, x.toNat % 16 = m0 := ⟨_, rfl⟩
      rw [hm0] at hm hmb
      have HM0 := Lib.hid hm0
      clear hm0 g1 g2 h256
      go_enter Try.func55, Try.ntmps55
      go_wp2
      refine wp_loop_rounds 3 ?_
      rw [rounds_succ]
      go_wp2_with fail
      refine (more_any s (p + 1) _ (by simp) _ (by have := HS.out; omega)).mono ?_
      rintro e w1 ⟨rfl, rfl⟩
      by_cases c1 : p + 1 < s.size ∧ (s.get! (p + 1)).toNat / 64 = 2
      · rw [(more_yes c1).1, (more_yes c1).2]
        have C1 := Lib.hid c1; clear c1
        obtain ⟨l1, hl1⟩ : ∃ l, (s.get! (p + 1)).toNat % 64 = l := ⟨_, rfl⟩
        rw [hl1]
        have bl1 : (l1 : Int) ≤ 63 := by omega
        have HL1 := Lib.hid hl1; clear hl1
        obtain ⟨q1, hq1⟩ : ∃ q : Nat, 64 * (m0 : Int) + (l1 : Int) = (q : Int) := ⟨64 * m0 + l1, by omega⟩
        have bq1 : (q1 : Int) ≤ 1023 := by omega
        have HQ1 := Lib.hid hq1
        go_wp2
        rw [rounds_succ]
        go_wp2_with fail
        refine (more_any s (p + 2) _ (by simp) _ (by have := HS.out; omega)).mono ?_
        rintro e w2 ⟨rfl, rfl⟩
        by_cases c2 : p + 2 < s.size ∧ (s.get! (p + 2)).toNat / 64 = 2
        · rw [(more_yes c2).1, (more_yes c2).2]
          have C2 := Lib.hid c2; clear c2
          obtain ⟨l2, hl2⟩ : ∃ l, (s.get! (p + 2)).toNat % 64 = l := ⟨_, rfl⟩
          rw [hl2]
          have bl2 : (l2 : Int) ≤ 63 := by omega
          have HL2 := Lib.hid hl2; clear hl2
          obtain ⟨q2, hq2⟩ : ∃ q : Nat, 64 * (q1 : Int) + (l2 : Int) = (q : Int) := ⟨64 * q1 + l2, by omega⟩
          have bq2 : (q2 : Int) ≤ 65535 := by omega
          have HQ2 := Lib.hid hq2
          go_wp2
          by_cases z1 : q2 < 2048
          · have tz1 : decide ((q2 : Int) < 2048) = true := decide_eq_true (by omega)
            have HF : Hid (pointS s p = (0, 0)) := Lib.hid (point_bad (dec_bad (by rw [HXX.out]; omega) (by rw [HXX.out]; have k0 := M0.out; have k00 := HM0.out; have k000 := HS.out; have k1 := C1.out; have kk1 := HL1.out; have kkk1 := HQ1.out; have k2 := C2.out; have kk2 := HL2.out; have kkk2 := HQ2.out; omega) (by rw [HXX.out]; have k0 := M0.out; have k00 := HM0.out; have k000 := HS.out; have k1 := C1.out; have kk1 := HL1.out; have kkk1 := HQ1.out; have k2 := C2.out; have kk2 := HL2.out; have kkk2 := HQ2.out; omega) (by rw [HXX.out]; have k0 := M0.out; have k00 := HM0.out; have k000 := HS.out; have k1 := C1.out; have kk1 := HL1.out; have kkk1 := HQ1.out; have k2 := C2.out; have kk2 := HL2.out; have kkk2 := HQ2.out; omega)))
            clear z1
            rw [rounds_succ]
            go_wp2
            go_ret2
            exact ⟨by rw [HF.out]; rfl, rfl⟩
          · have tz1 : decide ((q2 : Int) < 2048) = false := decide_eq_false (by omega)
            by_cases z2 : 1114111 < q2
            · have tz2 : decide ((1114111 : Int) < (q2 : Int)) = true := decide_eq_true (by omega)
              omega
            · have tz2 : decide ((1114111 : Int) < (q2 : Int)) = false := decide_eq_false (by omega)
              by_cases z3 : 55296 ≤ q2
              · have tz3 : decide ((55296 : Int) ≤ (q2 : Int)) = true := decide_eq_true (by omega)
                by_cases z4 : q2 ≤ 57343
                · have tz4 : decide ((q2 : Int) ≤ 57343) = true := decide_eq_true (by omega)
                  have HF : Hid (pointS s p = (0, 0)) := Lib.hid (point_bad (dec_bad (by rw [HXX.out]; omega) (by rw [HXX.out]; have k0 := M0.out; have k00 := HM0.out; have k000 := HS.out; have k1 := C1.out; have kk1 := HL1.out; have kkk1 := HQ1.out; have k2 := C2.out; have kk2 := HL2.out; have kkk2 := HQ2.out; omega) (by rw [HXX.out]; have k0 := M0.out; have k00 := HM0.out; have k000 := HS.out; have k1 := C1.out; have kk1 := HL1.out; have kkk1 := HQ1.out; have k2 := C2.out; have kk2 := HL2.out; have kkk2 := HQ2.out; omega) (by rw [HXX.out]; have k0 := M0.out; have k00 := HM0.out; have k000 := HS.out; have k1 := C1.out; have kk1 := HL1.out; have kkk1 := HQ1.out; have k2 := C2.out; have kk2 := HL2.out; have kkk2 := HQ2.out; omega)))
                  clear z1 z2 z3 z4
                  rw [rounds_succ]
                  go_wp2
                  go_ret2
                  exact ⟨by rw [HF.out]; rfl, rfl⟩
                · have tz4 : decide ((q2 : Int) ≤ 57343) = false := decide_eq_false (by omega)
                  have HF : Hid (pointS s p = (q2, 3)) := Lib.hid (point_ok (by have k0 := M0.out; have k00 := HM0.out; have k000 := HS.out; have k1 := C1.out; have kk1 := HL1.out; have kkk1 := HQ1.out; have k2 := C2.out; have kk2 := HL2.out; have kkk2 := HQ2.out; replace k00 := k00; rw [show q2 = x.toNat % 16 * 4096 + (s.get! (p + 1)).toNat % 64 * 64 + (s.get! (p + 2)).toNat % 64 by omega]; rw [HXX.out]; exact dec_3 (by omega) (by omega) (by omega) (by omega) (by omega) (by omega)) (.inr (by omega)))
                  clear z1 z2 z3 z4
                  rw [rounds_succ]
                  go_wp2
                  go_ret2
                  exact ⟨by rw [HF.out]; rfl, rfl⟩
              · have tz3 : decide ((55296 : Int) ≤ (q2 : Int)) = false := decide_eq_false (by omega)
                have HF : Hid (pointS s p = (q2, 3)) := Lib.hid (point_ok (by have k0 := M0.out; have k00 := HM0.out; have k000 := HS.out; have k1 := C1.out; have kk1 := HL1.out; have kkk1 := HQ1.out; have k2 := C2.out; have kk2 := HL2.out; have kkk2 := HQ2.out; replace k00 := k00; rw [show q2 = x.toNat % 16 * 4096 + (s.get! (p + 1)).toNat % 64 * 64 + (s.get! (p + 2)).toNat % 64 by omega]; rw [HXX.out]; exact dec_3 (by omega) (by omega) (by omega) (by omega) (by omega) (by omega)) (.inr (by omega)))
                clear z1 z2 z3
                rw [rounds_succ]
                go_wp2
                go_ret2
                exact ⟨by rw [HF.out]; rfl, rfl⟩
        · rw [(more_no c2).1, (more_no c2).2]
          have HF : Hid (pointS s p = (0, 0)) := Lib.hid (point_bad (dec_bad (by rw [HXX.out]; omega) (by rw [HXX.out]; have k0 := M0.out; have k00 := HM0.out; have k000 := HS.out; have k1 := C1.out; have kk1 := HL1.out; have kkk1 := HQ1.out; omega) (by rw [HXX.out]; have k0 := M0.out; have k00 := HM0.out; have k000 := HS.out; have k1 := C1.out; have kk1 := HL1.out; have kkk1 := HQ1.out; omega) (by rw [HXX.out]; have k0 := M0.out; have k00 := HM0.out; have k000 := HS.out; have k1 := C1.out; have kk1 := HL1.out; have kkk1 := HQ1.out; omega)))
          clear c2
          go_wp2
          go_ret2
          exact ⟨by rw [HF.out]; rfl, rfl⟩
      · rw [(more_no c1).1, (more_no c1).2]
        have HF : Hid (pointS s p = (0, 0)) := Lib.hid (point_bad (dec_bad (by rw [HXX.out]; omega) (by rw [HXX.out]; have k0 := M0.out; have k00 := HM0.out; have k000 := HS.out; omega) (by rw [HXX.out]; have k0 := M0.out; have k00 := HM0.out; have k000 := HS.out; omega) (by rw [HXX.out]; have k0 := M0.out; have k00 := HM0.out; have k000 := HS.out; omega)))
        clear c1
        go_wp2
        go_ret2
        exact ⟨by rw [HF.out]; rfl, rfl⟩
    · have a1 : decide ((192 : Int) ≤ (x.toNat : Int)) = true := decide_eq_true (by omega)
      have a2 : decide ((x.toNat : Int) < 224) = false := decide_eq_false (by omega)
      have a3 : decide ((224 : Int) ≤ (x.toNat : Int)) = true := decide_eq_true (by omega)
      have a4 : decide ((x.toNat : Int) < 240) = false := decide_eq_false (by omega)
      have a5 : decide ((240 : Int) ≤ (x.toNat : Int)) = true := decide_eq_true (by omega)
      have a6 : decide ((x.toNat : Int) < 248) = true := decide_eq_true (by omega)
      have hm : (x.toNat : Int) - 240 = ((x.toNat % 8 : Nat) : Int) := by omega
      have hmb : ((x.toNat % 8 : Nat) : Int) ≤ 7 := by omega
      have M0 : Hid (x.toNat / 8 = 30) := Lib.hid (by omega)
      obtain ⟨m0, hm0⟩ : ∃ m0, x.toNat % 8 = m0 := ⟨_, rfl⟩
      rw [hm0] at hm hmb
      have HM0 := Lib.hid hm0
      clear hm0 g1 g2 h256
      go_enter Try.func55, Try.ntmps55
      go_wp2
      refine wp_loop_rounds 4 ?_
      rw [rounds_succ]
      go_wp2_with fail
      refine (more_any s (p + 1) _ (by simp) _ (by have := HS.out; omega)).mono ?_
      rintro e w1 ⟨rfl, rfl⟩
      by_cases c1 : p + 1 < s.size ∧ (s.get! (p + 1)).toNat / 64 = 2
      · rw [(more_yes c1).1, (more_yes c1).2]
        have C1 := Lib.hid c1; clear c1
        obtain ⟨l1, hl1⟩ : ∃ l, (s.get! (p + 1)).toNat % 64 = l := ⟨_, rfl⟩
        rw [hl1]
        have bl1 : (l1 : Int) ≤ 63 := by omega
        have HL1 := Lib.hid hl1; clear hl1
        obtain ⟨q1, hq1⟩ : ∃ q : Nat, 64 * (m0 : Int) + (l1 : Int) = (q : Int) := ⟨64 * m0 + l1, by omega⟩
        have bq1 : (q1 : Int) ≤ 511 := by omega
        have HQ1 := Lib.hid hq1
        go_wp2
        rw [rounds_succ]
        go_wp2_with fail
        refine (more_any s (p + 2) _ (by simp) _ (by have := HS.out; omega)).mono ?_
        rintro e w2 ⟨rfl, rfl⟩
        by_cases c2 : p + 2 < s.size ∧ (s.get! (p + 2)).toNat / 64 = 2
        · rw [(more_yes c2).1, (more_yes c2).2]
          have C2 := Lib.hid c2; clear c2
          obtain ⟨l2, hl2⟩ : ∃ l, (s.get! (p + 2)).toNat % 64 = l := ⟨_, rfl⟩
          rw [hl2]
          have bl2 : (l2 : Int) ≤ 63 := by omega
          have HL2 := Lib.hid hl2; clear hl2
          obtain ⟨q2, hq2⟩ : ∃ q : Nat, 64 * (q1 : Int) + (l2 : Int) = (q : Int) := ⟨64 * q1 + l2, by omega⟩
          have bq2 : (q2 : Int) ≤ 32767 := by omega
          have HQ2 := Lib.hid hq2
          go_wp2
          rw [rounds_succ]
          go_wp2_with fail
          refine (more_any s (p + 3) _ (by simp) _ (by have := HS.out; omega)).mono ?_
          rintro e w3 ⟨rfl, rfl⟩
          by_cases c3 : p + 3 < s.size ∧ (s.get! (p + 3)).toNat / 64 = 2
          · rw [(more_yes c3).1, (more_yes c3).2]
            have C3 := Lib.hid c3; clear c3
            obtain ⟨l3, hl3⟩ : ∃ l, (s.get! (p + 3)).toNat % 64 = l := ⟨_, rfl⟩
            rw [hl3]
            have bl3 : (l3 : Int) ≤ 63 := by omega
            have HL3 := Lib.hid hl3; clear hl3
            obtain ⟨q3, hq3⟩ : ∃ q : Nat, 64 * (q2 : Int) + (l3 : Int) = (q : Int) := ⟨64 * q2 + l3, by omega⟩
            have bq3 : (q3 : Int) ≤ 2097151 := by omega
            have HQ3 := Lib.hid hq3
            go_wp2
            by_cases z1 : q3 < 65536
            · have tz1 : decide ((q3 : Int) < 65536) = true := decide_eq_true (by omega)
              have HF : Hid (pointS s p = (0, 0)) := Lib.hid (point_bad (dec_bad (by rw [HXX.out]; omega) (by rw [HXX.out]; have k0 := M0.out; have k00 := HM0.out; have k000 := HS.out; have k1 := C1.out; have kk1 := HL1.out; have kkk1 := HQ1.out; have k2 := C2.out; have kk2 := HL2.out; have kkk2 := HQ2.out; have k3 := C3.out; have kk3 := HL3.out; have kkk3 := HQ3.out; omega) (by rw [HXX.out]; have k0 := M0.out; have k00 := HM0.out; have k000 := HS.out; have k1 := C1.out; have kk1 := HL1.out; have kkk1 := HQ1.out; have k2 := C2.out; have kk2 := HL2.out; have kkk2 := HQ2.out; have k3 := C3.out; have kk3 := HL3.out; have kkk3 := HQ3.out; omega) (by rw [HXX.out]; have k0 := M0.out; have k00 := HM0.out; have k000 := HS.out; have k1 := C1.out; have kk1 := HL1.out; have kkk1 := HQ1.out; have k2 := C2.out; have kk2 := HL2.out; have kkk2 := HQ2.out; have k3 := C3.out; have kk3 := HL3.out; have kkk3 := HQ3.out; omega)))
              clear z1
              rw [rounds_succ]
              go_wp2
              go_ret2
              exact ⟨by rw [HF.out]; rfl, rfl⟩
            · have tz1 : decide ((q3 : Int) < 65536) = false := decide_eq_false (by omega)
              by_cases z2 : 1114111 < q3
              · have tz2 : decide ((1114111 : Int) < (q3 : Int)) = true := decide_eq_true (by omega)
                have HF : Hid (pointS s p = (0, 0)) := Lib.hid (point_bad (dec_bad (by rw [HXX.out]; omega) (by rw [HXX.out]; have k0 := M0.out; have k00 := HM0.out; have k000 := HS.out; have k1 := C1.out; have kk1 := HL1.out; have kkk1 := HQ1.out; have k2 := C2.out; have kk2 := HL2.out; have kkk2 := HQ2.out; have k3 := C3.out; have kk3 := HL3.out; have kkk3 := HQ3.out; omega) (by rw [HXX.out]; have k0 := M0.out; have k00 := HM0.out; have k000 := HS.out; have k1 := C1.out; have kk1 := HL1.out; have kkk1 := HQ1.out; have k2 := C2.out; have kk2 := HL2.out; have kkk2 := HQ2.out; have k3 := C3.out; have kk3 := HL3.out; have kkk3 := HQ3.out; omega) (by rw [HXX.out]; have k0 := M0.out; have k00 := HM0.out; have k000 := HS.out; have k1 := C1.out; have kk1 := HL1.out; have kkk1 := HQ1.out; have k2 := C2.out; have kk2 := HL2.out; have kkk2 := HQ2.out; have k3 := C3.out; have kk3 := HL3.out; have kkk3 := HQ3.out; omega)))
                clear z1 z2
                rw [rounds_succ]
                go_wp2
                go_ret2
                exact ⟨by rw [HF.out]; rfl, rfl⟩
              · have tz2 : decide ((1114111 : Int) < (q3 : Int)) = false := decide_eq_false (by omega)
                by_cases z3 : 55296 ≤ q3
                · have tz3 : decide ((55296 : Int) ≤ (q3 : Int)) = true := decide_eq_true (by omega)
                  by_cases z4 : q3 ≤ 57343
                  · have tz4 : decide ((q3 : Int) ≤ 57343) = true := decide_eq_true (by omega)
                    omega
                  · have tz4 : decide ((q3 : Int) ≤ 57343) = false := decide_eq_false (by omega)
                    have HF : Hid (pointS s p = (q3, 4)) := Lib.hid (point_ok (by have k0 := M0.out; have k00 := HM0.out; have k000 := HS.out; have k1 := C1.out; have kk1 := HL1.out; have kkk1 := HQ1.out; have k2 := C2.out; have kk2 := HL2.out; have kkk2 := HQ2.out; have k3 := C3.out; have kk3 := HL3.out; have kkk3 := HQ3.out; replace k00 := k00; rw [show q3 = x.toNat % 8 * 262144 + (s.get! (p + 1)).toNat % 64 * 4096 + (s.get! (p + 2)).toNat % 64 * 64 + (s.get! (p + 3)).toNat % 64 by omega]; rw [HXX.out]; exact dec_4 (by omega) (by omega) (by omega) (by omega) (by omega) (by omega) (by omega)) (.inr (by omega)))
                    clear z1 z2 z3 z4
                    rw [rounds_succ]
                    go_wp2
                    go_ret2
                    exact ⟨by rw [HF.out]; rfl, rfl⟩
                · have tz3 : decide ((55296 : Int) ≤ (q3 : Int)) = false := decide_eq_false (by omega)
                  omega
          · rw [(more_no c3).1, (more_no c3).2]
            have HF : Hid (pointS s p = (0, 0)) := Lib.hid (point_bad (dec_bad (by rw [HXX.out]; omega) (by rw [HXX.out]; have k0 := M0.out; have k00 := HM0.out; have k000 := HS.out; have k1 := C1.out; have kk1 := HL1.out; have kkk1 := HQ1.out; have k2 := C2.out; have kk2 := HL2.out; have kkk2 := HQ2.out; omega) (by rw [HXX.out]; have k0 := M0.out; have k00 := HM0.out; have k000 := HS.out; have k1 := C1.out; have kk1 := HL1.out; have kkk1 := HQ1.out; have k2 := C2.out; have kk2 := HL2.out; have kkk2 := HQ2.out; omega) (by rw [HXX.out]; have k0 := M0.out; have k00 := HM0.out; have k000 := HS.out; have k1 := C1.out; have kk1 := HL1.out; have kkk1 := HQ1.out; have k2 := C2.out; have kk2 := HL2.out; have kkk2 := HQ2.out; omega)))
            clear c3
            go_wp2
            go_ret2
            exact ⟨by rw [HF.out]; rfl, rfl⟩
        · rw [(more_no c2).1, (more_no c2).2]
          have HF : Hid (pointS s p = (0, 0)) := Lib.hid (point_bad (dec_bad (by rw [HXX.out]; omega) (by rw [HXX.out]; have k0 := M0.out; have k00 := HM0.out; have k000 := HS.out; have k1 := C1.out; have kk1 := HL1.out; have kkk1 := HQ1.out; omega) (by rw [HXX.out]; have k0 := M0.out; have k00 := HM0.out; have k000 := HS.out; have k1 := C1.out; have kk1 := HL1.out; have kkk1 := HQ1.out; omega) (by rw [HXX.out]; have k0 := M0.out; have k00 := HM0.out; have k000 := HS.out; have k1 := C1.out; have kk1 := HL1.out; have kkk1 := HQ1.out; omega)))
          clear c2
          go_wp2
          go_ret2
          exact ⟨by rw [HF.out]; rfl, rfl⟩
      · rw [(more_no c1).1, (more_no c1).2]
        have HF : Hid (pointS s p = (0, 0)) := Lib.hid (point_bad (dec_bad (by rw [HXX.out]; omega) (by rw [HXX.out]; have k0 := M0.out; have k00 := HM0.out; have k000 := HS.out; omega) (by rw [HXX.out]; have k0 := M0.out; have k00 := HM0.out; have k000 := HS.out; omega) (by rw [HXX.out]; have k0 := M0.out; have k00 := HM0.out; have k000 := HS.out; omega)))
        clear c1
        go_wp2
        go_ret2
        exact ⟨by rw [HF.out]; rfl, rfl⟩
    · have a1 : decide ((192 : Int) ≤ (x.toNat : Int)) = true := decide_eq_true (by omega)
      have a2 : decide ((x.toNat : Int) < 224) = false := decide_eq_false (by omega)
      have a3 : decide ((224 : Int) ≤ (x.toNat : Int)) = true := decide_eq_true (by omega)
      have a4 : decide ((x.toNat : Int) < 240) = false := decide_eq_false (by omega)
      have a5 : decide ((240 : Int) ≤ (x.toNat : Int)) = true := decide_eq_true (by omega)
      have a6 : decide ((x.toNat : Int) < 248) = false := decide_eq_false (by omega)
      have HF : Hid (pointS s p = (0, 0)) := Lib.hid (point_bad (dec_bad (by rw [HXX.out]; omega) (by rw [HXX.out]; omega) (by rw [HXX.out]; omega) (by rw [HXX.out]; omega)))
      clear g1 g2 h256
      go_enter Try.func55, Try.ntmps55
      go_wp2
      go_ret2
      exact ⟨by rw [HF.out]; rfl, rfl⟩
end Go.Proofs.Ytjbpafkdbfbdlaa

namespace Go.Proofs.Ytjbpafkdbfbdlaa
open Go.RowKit

theorem point_zero {s : ByteArray} {p : Nat} (h : (Utf8.decode s p).1 = 0 ∨ ((Utf8.decode s p).1 = 65533 ∧ (Utf8.decode s p).2 = 1)) : (pointS s p).1 = 0 := by
  unfold pointS
  split
  · rfl
  · rename_i hn
    rcases h with h | ⟨h1, h2⟩
    · exact h
    · exact absurd (Prod.ext h1 h2) hn
theorem point_more {s : ByteArray} {p : Nat} (h : ¬ ((Utf8.decode s p).1 = 0 ∨ ((Utf8.decode s p).1 = 65533 ∧ (Utf8.decode s p).2 = 1))) : pointS s p = Utf8.decode s p := by
  unfold pointS
  rw [if_neg]
  intro e
  rw [e] at h
  exact h (.inr ⟨rfl, rfl⟩)

set_option maxHeartbeats 400000 in
set_option maxRecDepth 10000 in
theorem refBadS_any (s : ByteArray) (w : World) (hs : s.size ≤ 4611686018427387904) :
    Calls Try.prog 41 #[.string s] w fun e w' => e = .returned (.int .i64 (badS s)) ∧ w = w' := by
  have HS := Lib.hid hs
  go_enter Try.func41, Try.ntmps41
  go_wp2
  go_loopw [3, 4, 5] (fun a _ _ wr => ∃ (pos f : Nat), a = .int .i64 pos ∧ pos ≤ s.size ∧ s.size ≤ pos + f ∧ badS s = badF f s pos ∧ w = wr) (fun a _ _ _ => s.size - (intOf a).toNat)
  case atStart => exact ⟨0, s.size, rfl, by omega, by omega, rfl, rfl⟩
  case round =>
    obtain ⟨pos, f, rfl, hle, hfu, hv, rfl⟩ := hrel
    have HV := Lib.hid hv; clear hv
    by_cases hp : pos < s.size
    · obtain ⟨f, rfl⟩ : ∃ f', f = f' + 1 := ⟨f - 1, by omega⟩
      have hi : (pos : Int) < (s.size : Int) := by omega
      have hwd := Lib.decode_width_pos s pos hp
      have hwl : pos + (Utf8.decode s pos).2 ≤ s.size := by rw [Lib.decode_at]; have := decodeN_wd (s.size - pos) (s.get! pos).toNat (s.get! (pos + 1)).toNat (s.get! (pos + 2)).toNat (s.get! (pos + 3)).toNat (by omega); omega
      have HP := Lib.hid (And.intro hp (And.intro hwd (And.intro hwl hfu)))
      have hb : Hid (badS s = if (Utf8.decode s pos).1 = 0 ∨ ((Utf8.decode s pos).1 = 65533 ∧ (Utf8.decode s pos).2 = 1) then (pos : Int) else badF f s (pos + (Utf8.decode s pos).2)) := Lib.hid (by rw [HV.out, badF, if_pos hp])
      clear hle hfu HV hp hwd hwl
      by_cases hz : (Utf8.decode s pos).1 = 0 ∨ ((Utf8.decode s pos).1 = 65533 ∧ (Utf8.decode s pos).2 = 1)
      · have HG : Hid (badS s = pos) := Lib.hid (by rw [hb.out, if_pos hz])
        have HZ := Lib.hid (point_zero hz); clear hz hb
        go_wp2_with fail
        refine (point_any s pos _ HP.out.1 HS.out).mono ?_
        rintro e w1 ⟨rfl, rfl⟩
        rw [HZ.out]
        cases hk : ((pointS s pos).2 : Int) == 0
        · go_wp2
          go_ret
          exact ⟨by rw [HG.out]; rfl, rfl⟩
        · go_wp2
          go_ret
          exact ⟨by rw [HG.out]; rfl, rfl⟩
      · have HG : Hid (badS s = badF f s (pos + (Utf8.decode s pos).2)) := Lib.hid (by rw [hb.out, if_neg hz])
        have HE := Lib.hid (point_more hz)
        have HC : Hid ((Utf8.decode s pos).1 ≠ 0) := Lib.hid fun e => hz (.inl e)
        clear hz hb
        go_wp2_with fail
        refine (point_any s pos _ HP.out.1 HS.out).mono ?_
        rintro e w1 ⟨rfl, rfl⟩
        rw [HE.out]
        obtain ⟨c, hc⟩ : ∃ c, (Utf8.decode s pos).1 = c := ⟨_, rfl⟩
        obtain ⟨wd, hw⟩ : ∃ wd, (Utf8.decode s pos).2 = wd := ⟨_, rfl⟩
        rw [hc, hw]
        rw [hc] at HC
        rw [hw] at HG HP
        have k1 : ((wd : Int) == 0) = false := beq_eq_false_iff_ne.2 (by have := HP.out; omega)
        have k2 : ((c : Int) == 0) = false := beq_eq_false_iff_ne.2 (by have := HC.out; omega)
        have k3 : (pos : Int) + (wd : Int) ≤ 4611686018427387904 := by have := HP.out; have := HS.out; omega
        have k4 : (0 : Int) ≤ (pos : Int) + (wd : Int) := by omega
        clear hc hw hs
        go_wp2
        go_roundw
        case rel => exact ⟨pos + wd, f, by simp, by have := HP.out; omega, by have := HP.out; omega, HG.out, by first | trivial | rfl⟩
        case measure => have := HP.out; simp [intOf]; omega
    · have hfin : badS s = -1 := by
        rw [HV.out]
        cases f with
        | zero => rfl
        | succ f => rw [badF, if_neg hp]
      have HF := Lib.hid hfin; clear hfin HV
      have hi : ¬ ((pos : Int) < (s.size : Int)) := by omega
      go_wp2
      go_ret
      exact ⟨by rw [HF.out]; rfl, rfl⟩

theorem badS_ge (s : ByteArray) : ∀ (f pos : Nat), -1 ≤ badF f s pos
  | 0, _ => by simp [badF]
  | f + 1, pos => by
    rw [badF]
    split
    · split
      · omega
      · exact badS_ge s f _
    · omega

set_option maxHeartbeats 400000 in
set_option maxRecDepth 10000 in
theorem refValid_any (s : ByteArray) (w : World) (hs : s.size ≤ 4611686018427387904) :
    Calls Try.prog 30 #[.string s] w fun e w' => e = .returned (.bool (validB s)) ∧ w = w' := by
  by_cases h : s.size ≤ 65535
  · have h1 : decide ((s.size : Int) ≤ 65535) = true := decide_eq_true (by omega)
    have hge : -1 ≤ badS s := badS_ge s _ _
    have HF : Hid (validB s = decide (badS s < 0)) := Lib.hid (by
      unfold validB
      rw [decide_eq_true h, Bool.true_and, Bool.eq_iff_iff]
      simp
      omega)
    have HS := Lib.hid hs
    clear h hge hs
    go_enter Try.func30, Try.ntmps30
    go_wp2_with fail
    refine (refBadS_any s _ HS.out).mono ?_
    rintro e w1 ⟨rfl, rfl⟩
    cases hk : decide (badS s < 0)
    · rw [hk] at HF
      go_wp2
      go_ret
      exact ⟨by rw [HF.out]; rfl, rfl⟩
    · rw [hk] at HF
      go_wp2
      go_ret
      exact ⟨by rw [HF.out]; rfl, rfl⟩
  · have h1 : decide ((s.size : Int) ≤ 65535) = false := decide_eq_false (by omega)
    have HF : Hid (validB s = false) := Lib.hid (by simp [validB, h])
    clear h
    go_enter Try.func30, Try.ntmps30
    go_wp2
    go_ret
    exact ⟨by rw [HF.out]; rfl, rfl⟩

end Go.Proofs.Ytjbpafkdbfbdlaa
