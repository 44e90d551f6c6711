/- The reference's code points: polyglotref03.more, Point, Bad, Valid. -/
import Derived.Test.YtpcaffimahapjaaGreatMTop
import Derived.LoopN
namespace Go.Proofs.YtpcaffimahapjaaGreat
open Go.RowKit

theorem get_at (s : ByteArray) (p : Nat) (h : p < s.size) : s[p] = s.get! p := by
  simp [ByteArray.get!, getElem!_pos, h]
  rfl

def moreB (s : ByteArray) (p : Nat) : Bool := decide (p < s.size ∧ (s.get! p).toNat / 64 = 2)
def moreV (s : ByteArray) (p : Nat) : Int := if p < s.size ∧ (s.get! p).toNat / 64 = 2 then (((s.get! p).toNat % 64 : Nat) : Int) else 0
theorem more_no {s : ByteArray} {p : Nat} (h : ¬ (p < s.size ∧ (s.get! p).toNat / 64 = 2)) : moreB s p = false ∧ moreV s p = 0 := ⟨decide_eq_false h, if_neg h⟩
theorem more_yes {s : ByteArray} {p : Nat} (h : p < s.size ∧ (s.get! p).toNat / 64 = 2) : moreB s p = true ∧ moreV s p = (((s.get! p).toNat % 64 : Nat) : Int) := ⟨decide_eq_true h, if_pos h⟩

set_option maxHeartbeats 400000 in
set_option maxRecDepth 10000 in
theorem more_any (s : ByteArray) (p : Nat) (q : Int) (hq : q = p) (w : World) (_hp : p ≤ 9000000000000000000) :
    Calls Tryz.prog 255 #[.string s, .int .i64 q] w fun e w' =>
      e = .returned (.tuple #[.int .i64 (moreV s p), .bool (moreB s p)]) ∧ w = w' := by
  subst hq
  have h0 : (0 : Int) ≤ (p : Int) := Int.natCast_nonneg _
  by_cases h : p < s.size
  · have hi : (p : Int) < (s.size : Int) := by omega
    have d1 : decide ((s.size : Int) ≤ (p : Int)) = false := decide_eq_false (by omega)
    have d1' : decide (s.size ≤ p) = false := decide_eq_false (by omega)
    have hx := get_at s p h
    obtain ⟨x, hxx⟩ : ∃ x, s.get! p = x := ⟨_, rfl⟩
    rw [hxx] at hx
    by_cases h1 : x.toNat < 128
    · have d2 : decide ((x.toNat : Int) < 128) = true := decide_eq_true (by omega)
      have HF : Hid (moreB s p = false ∧ moreV s p = 0) := Lib.hid (more_no (by rw [hxx]; omega))
      clear h1 hxx
      go_enter Tryz.func255, Tryz.ntmps255
      go_wp2
      go_ret2
      exact ⟨by rw [HF.out.1, HF.out.2]; rfl, rfl⟩
    · have d2 : decide ((x.toNat : Int) < 128) = false := decide_eq_false (by omega)
      by_cases h2 : 191 < x.toNat
      · have d3 : decide ((191 : Int) < (x.toNat : Int)) = true := decide_eq_true (by omega)
        have HF : Hid (moreB s p = false ∧ moreV s p = 0) := Lib.hid (more_no (by rw [hxx]; omega))
        clear h1 h2 hxx
        go_enter Tryz.func255, Tryz.ntmps255
        go_wp2
        go_ret2
        exact ⟨by rw [HF.out.1, HF.out.2]; rfl, rfl⟩
      · have d3 : decide ((191 : Int) < (x.toNat : Int)) = false := decide_eq_false (by omega)
        have HF : Hid (moreB s p = true ∧ moreV s p = ((x.toNat % 64 : Nat) : Int)) := Lib.hid (by have := more_yes (s := s) (p := p) (by rw [hxx]; exact ⟨h, by omega⟩); rwa [hxx] at this)
        have hs : (x.toNat : Int) - 128 = ((x.toNat % 64 : Nat) : Int) := by omega
        have HS := Lib.hid hs; clear hs
        have hb1 : (128 : Int) ≤ (x.toNat : Int) := by omega
        have hb2 : (x.toNat : Int) ≤ 191 := by omega
        clear h1 h2 hxx
        go_enter Tryz.func255, Tryz.ntmps255
        go_wp2
        go_ret2
        exact ⟨by rw [HF.out.1, HF.out.2, ← HS.out]; rfl, rfl⟩
  · have d1 : decide ((s.size : Int) ≤ (p : Int)) = true := decide_eq_true (by omega)
    have d1' : decide (s.size ≤ p) = true := decide_eq_true (by omega)
    have HF : Hid (moreB s p = false ∧ moreV s p = 0) := Lib.hid (more_no (by omega))
    clear h
    go_enter Tryz.func255, Tryz.ntmps255
    go_wp2
    go_ret2
    exact ⟨by rw [HF.out.1, HF.out.2]; rfl, rfl⟩

/-- The code point at a place: 0 bytes where none begins. -/
def pointS (s : ByteArray) (at_ : Nat) : Nat × Nat := if Utf8.decode s at_ = (65533, 1) then (0, 0) else Utf8.decode s at_

theorem dec_bad {n b0 b1 b2 b3 : Nat} (h1 : 128 ≤ b0) (h2 : ¬ (b0 / 32 = 6 ∧ 1 < n ∧ b1 / 64 = 2 ∧ 128 ≤ b0 % 32 * 64 + b1 % 64))
    (h3 : ¬ (b0 / 16 = 14 ∧ 2 < n ∧ b1 / 64 = 2 ∧ b2 / 64 = 2 ∧ 2048 ≤ b0 % 16 * 4096 + b1 % 64 * 64 + b2 % 64 ∧ (b0 % 16 * 4096 + b1 % 64 * 64 + b2 % 64 < 55296 ∨ 57344 ≤ b0 % 16 * 4096 + b1 % 64 * 64 + b2 % 64)))
    (h4 : ¬ (b0 / 8 = 30 ∧ 3 < n ∧ b1 / 64 = 2 ∧ b2 / 64 = 2 ∧ b3 / 64 = 2 ∧ 65536 ≤ b0 % 8 * 262144 + b1 % 64 * 4096 + b2 % 64 * 64 + b3 % 64 ∧ b0 % 8 * 262144 + b1 % 64 * 4096 + b2 % 64 * 64 + b3 % 64 ≤ 1114111)) :
    Lib.decodeN n b0 b1 b2 b3 = (65533, 1) := by
  rcases Lib.decodeN_shape n b0 b1 b2 b3 with ⟨e1, _⟩ | ⟨e1, e2, e3, e4, _⟩ | ⟨e1, e2, e3, e4, e5, e6, _⟩ | ⟨e1, e2, e3, e4, e5, e6, e7, _⟩ | e
  · omega
  · exact absurd ⟨e1, e2, e3, e4⟩ h2
  · exact absurd ⟨e1, e2, e3, e4, e5, e6⟩ h3
  · exact absurd ⟨e1, e2, e3, e4, e5, e6, e7⟩ h4
  · exact e
theorem dec_2 {n b0 b1 b2 b3 : Nat} (h1 : b0 / 32 = 6) (h2 : 1 < n) (h3 : b1 / 64 = 2) (h4 : 128 ≤ b0 % 32 * 64 + b1 % 64) : Lib.decodeN n b0 b1 b2 b3 = (b0 % 32 * 64 + b1 % 64, 2) := by
  unfold Lib.decodeN
  rw [if_neg (by omega), if_pos ⟨h1, h2, h3⟩, if_pos h4]
theorem dec_3 {n b0 b1 b2 b3 : Nat} (h1 : b0 / 16 = 14) (h2 : 2 < n) (h3 : b1 / 64 = 2) (h4 : b2 / 64 = 2) (h5 : 2048 ≤ b0 % 16 * 4096 + b1 % 64 * 64 + b2 % 64)
    (h6 : b0 % 16 * 4096 + b1 % 64 * 64 + b2 % 64 < 55296 ∨ 57344 ≤ b0 % 16 * 4096 + b1 % 64 * 64 + b2 % 64) : Lib.decodeN n b0 b1 b2 b3 = (b0 % 16 * 4096 + b1 % 64 * 64 + b2 % 64, 3) := by
  unfold Lib.decodeN
  rw [if_neg (by omega), if_neg (by omega), if_pos ⟨h1, ⟨by omega, h3⟩, h2, h4⟩, if_pos ⟨h5, by omega⟩]
theorem dec_4 {n b0 b1 b2 b3 : Nat} (h1 : b0 / 8 = 30) (h2 : 3 < n) (h3 : b1 / 64 = 2) (h4 : b2 / 64 = 2) (h5 : b3 / 64 = 2) (h6 : 65536 ≤ b0 % 8 * 262144 + b1 % 64 * 4096 + b2 % 64 * 64 + b3 % 64)
    (h7 : b0 % 8 * 262144 + b1 % 64 * 4096 + b2 % 64 * 64 + b3 % 64 ≤ 1114111) : Lib.decodeN n b0 b1 b2 b3 = (b0 % 8 * 262144 + b1 % 64 * 4096 + b2 % 64 * 64 + b3 % 64, 4) := by
  unfold Lib.decodeN
  rw [if_neg (by omega), if_neg (by omega), if_neg (by omega), if_pos ⟨h1, ⟨by omega, h3⟩, ⟨by omega, h4⟩, h2, h5⟩, if_pos ⟨h6, by omega⟩]
theorem point_bad {s : ByteArray} {p : Nat} (h : Lib.decodeN (s.size - p) (s.get! p).toNat (s.get! (p + 1)).toNat (s.get! (p + 2)).toNat (s.get! (p + 3)).toNat = (65533, 1)) : pointS s p = (0, 0) := by
  unfold pointS
  rw [Lib.decode_at, if_pos h]
theorem point_ok {s : ByteArray} {p m k : Nat} (h : Lib.decodeN (s.size - p) (s.get! p).toNat (s.get! (p + 1)).toNat (s.get! (p + 2)).toNat (s.get! (p + 3)).toNat = (m, k)) (hm : m ≠ 65533 ∨ k ≠ 1) : pointS s p = (m, k) := by
  unfold pointS
  rw [Lib.decode_at, if_neg (by rw [h]; simp; omega), h]
end Go.Proofs.YtpcaffimahapjaaGreat
