/- The reference's code point: the walk of polyglotref03.Point. -/
import Derived.Test.YtpcaffimahapjaaGreatRefA
namespace Go.Proofs.YtpcaffimahapjaaGreat
open Go.RowKit

set_option maxHeartbeats 1000000 in
set_option maxRecDepth 10000 in
theorem point_any (s : ByteArray) (p : Nat) (w : World) (hp : p < s.size) (hs : s.size ≤ 4611686018427387904) :
    Calls Tryz.prog 235 #[.string s, .int .i64 p] w fun e w' => e = .returned (.tuple #[.int .i64 (pointS s p).1, .int .i64 (pointS s p).2]) ∧ w = w' := by
  have h0 : (0 : Int) ≤ (p : Int) := Int.natCast_nonneg _
  have hi : (p : Int) < (s.size : Int) := by omega
  have hx := get_at s p hp
  obtain ⟨x, hxx⟩ : ∃ x, s.get! p = x := ⟨_, rfl⟩
  rw [hxx] at hx
  have HXX := Lib.hid hxx; have HS := Lib.hid (And.intro hp hs)
  have h256 := UInt8.toNat_lt x
  have h255 : (x.toNat : Int) ≤ 255 := by omega
  have hpm : (p : Int) < 4611686018427387904 := by omega
  clear hxx hs
  by_cases g1 : x.toNat < 128
  · have HF : Hid (pointS s p = (x.toNat, 1)) := Lib.hid (point_ok (by rw [HXX.out]; unfold Lib.decodeN; rw [if_pos g1]) (.inl (by omega)))
    have e1 : decide ((x.toNat : Int) < 128) = true := decide_eq_true (by omega)
    clear g1 h256
    go_enter Tryz.func235, Tryz.ntmps235
    go_wp2
    go_ret2
    exact ⟨by rw [HF.out]; rfl, rfl⟩
  · have e1 : decide ((x.toNat : Int) < 128) = false := decide_eq_false (by omega)
    obtain g2 | g2 | g2 | g2 | g2 : x.toNat < 192 ∨ (192 ≤ x.toNat ∧ x.toNat < 224) ∨ (224 ≤ x.toNat ∧ x.toNat < 240) ∨ (240 ≤ x.toNat ∧ x.toNat < 248) ∨ 248 ≤ x.toNat := by omega
    · have a1 : decide ((192 : Int) ≤ (x.toNat : Int)) = false := decide_eq_false (by omega)
      have a2 : decide ((x.toNat : Int) < 224) = true := decide_eq_true (by omega)
      have a3 : decide ((224 : Int) ≤ (x.toNat : Int)) = false := decide_eq_false (by omega)
      have a4 : decide ((x.toNat : Int) < 240) = true := decide_eq_true (by omega)
      have a5 : decide ((240 : Int) ≤ (x.toNat : Int)) = false := decide_eq_false (by omega)
      have a6 : decide ((x.toNat : Int) < 248) = true := decide_eq_true (by omega)
      have HF : Hid (pointS s p = (0, 0)) := Lib.hid (point_bad (dec_bad (by rw [HXX.out]; omega) (by rw [HXX.out]; omega) (by rw [HXX.out]; omega) (by rw [HXX.out]; omega)))
      clear g1 g2 h256
      go_enter Tryz.func235, Tryz.ntmps235
      go_wp2
      go_ret2
      exact ⟨by rw [HF.out]; rfl, rfl⟩
    · have a1 : decide ((192 : Int) ≤ (x.toNat : Int)) = true := decide_eq_true (by omega)
      have a2 : decide ((x.toNat : Int) < 224) = true := decide_eq_true (by omega)
      have a3 : decide ((224 : Int) ≤ (x.toNat : Int)) = false := decide_eq_false (by omega)
      have a4 : decide ((x.toNat : Int) < 240) = true := decide_eq_true (by omega)
      have a5 : decide ((240 : Int) ≤ (x.toNat : Int)) = false := decide_eq_false (by omega)
      have a6 : decide ((x.toNat : Int) < 248) = true := decide_eq_true (by omega)
      have hm : (x.toNat : Int) - 192 = ((x.toNat % 32 : Nat) : Int) := by omega
      have hmb : ((x.toNat % 32 : Nat) : Int) ≤ 31 := by omega
      have M0 : Hid (x.toNat / 32 = 6) := Lib.hid (by omega)
      obtain ⟨m0, hm0⟩ : ∃ m0, x.toNat % 32 = m0 := ⟨_, rfl⟩
      rw [hm0] at hm hmb
      have HM0 := Lib.hid hm0
      clear hm0 g1 g2 h256
      go_enter Tryz.func235, Tryz.ntmps235
      go_wp2
      refine wp_loop_rounds 2 ?_
      rw [rounds_succ]
      go_wp2_with fail
      refine (more_any s (p + 1) _ (by simp) _ (by have := HS.out; omega)).mono ?_
      rintro e w1 ⟨rfl, rfl⟩
      by_cases c1 : p + 1 < s.size ∧ (s.get! (p + 1)).toNat / 64 = 2
      · rw [(more_yes c1).1, (more_yes c1).2]
        have C1 := Lib.hid c1; clear c1
        obtain ⟨l1, hl1⟩ : ∃ l, (s.get! (p + 1)).toNat % 64 = l := ⟨_, rfl⟩
        rw [hl1]
        have bl1 : (l1 : Int) ≤ 63 := by omega
        have HL1 := Lib.hid hl1; clear hl1
        obtain ⟨q1, hq1⟩ : ∃ q : Nat, 64 * (m0 : Int) + (l1 : Int) = (q : Int) := ⟨64 * m0 + l1, by omega⟩
        have bq1 : (q1 : Int) ≤ 2047 := by omega
        have HQ1 := Lib.hid hq1
        go_wp2
        by_cases z1 : q1 < 128
        · have tz1 : decide ((q1 : Int) < 128) = true := decide_eq_true (by omega)
          have HF : Hid (pointS s p = (0, 0)) := Lib.hid (point_bad (dec_bad (by rw [HXX.out]; omega) (by rw [HXX.out]; have k0 := M0.out; have k00 := HM0.out; have k000 := HS.out; have k1 := C1.out; have kk1 := HL1.out; have kkk1 := HQ1.out; omega) (by rw [HXX.out]; have k0 := M0.out; have k00 := HM0.out; have k000 := HS.out; have k1 := C1.out; have kk1 := HL1.out; have kkk1 := HQ1.out; omega) (by rw [HXX.out]; have k0 := M0.out; have k00 := HM0.out; have k000 := HS.out; have k1 := C1.out; have kk1 := HL1.out; have kkk1 := HQ1.out; omega)))
          clear z1
          rw [rounds_succ]
          go_wp2
          go_ret2
          exact ⟨by rw [HF.out]; rfl, rfl⟩
        · have tz1 : decide ((q1 : Int) < 128) = false := decide_eq_false (by omega)
          by_cases z2 : 1114111 < q1
          · have tz2 : decide ((1114111 : Int) < (q1 : Int)) = true := decide_eq_true (by omega)
            omega
          · have tz2 : decide ((1114111 : Int) < (q1 : Int)) = false := decide_eq_false (by omega)
            by_cases z3 : 55296 ≤ q1
            · have tz3 : decide ((55296 : Int) ≤ (q1 : Int)) = true := decide_eq_true (by omega)
              by_cases z4 : q1 ≤ 57343
              · have tz4 : decide ((q1 : Int) ≤ 57343) = true := decide_eq_true (by omega)
                omega
              · have tz4 : decide ((q1 : Int) ≤ 57343) = false := decide_eq_false (by omega)
                omega
            · have tz3 : decide ((55296 : Int) ≤ (q1 : Int)) = false := decide_eq_false (by omega)
              have HF : Hid (pointS s p = (q1, 2)) := Lib.hid (point_ok (by have k0 := M0.out; have k00 := HM0.out; have k000 := HS.out; have k1 := C1.out; have kk1 := HL1.out; have kkk1 := HQ1.out; replace k00 := k00; rw [show q1 = x.toNat % 32 * 64 + (s.get! (p + 1)).toNat % 64 by omega]; rw [HXX.out]; exact dec_2 (by omega) (by omega) (by omega) (by omega)) (.inr (by omega)))
              clear z1 z2 z3
              rw [rounds_succ]
              go_wp2
              go_ret2
              exact ⟨by rw [HF.out]; rfl, rfl⟩
      · rw [(more_no c1).1, (more_no c1).2]
        have HF : Hid (pointS s p = (0, 0)) := Lib.hid (point_bad (dec_bad (by rw [HXX.out]; omega) (by rw [HXX.out]; have k0 := M0.out; have k00 := HM0.out; have k000 := HS.out; omega) (by rw [HXX.out]; have k0 := M0.out; have k00 := HM0.out; have k000 := HS.out; omega) (by rw [HXX.out]; have k0 := M0.out; have k00 := HM0.out; have k000 := HS.out; omega)))
        clear c1
        go_wp2
        go_ret2
        exact ⟨by rw [HF.out]; rfl, rfl⟩
    · have a1 : decide ((192 : Int) ≤ (x.toNat : Int)) = true := decide_eq_true (by omega)
      have a2 : decide ((x.toNat : Int) < 224) = false := decide_eq_false (by omega)
      have a3 : decide ((224 : Int) ≤ (x.toNat : Int)) = true := decide_eq_true (by omega)
      have a4 : decide ((x.toNat : Int) < 240) = true := decide_eq_true (by omega)
      have a5 : decide ((240 : Int) ≤ (x.toNat : Int)) = false := decide_eq_false (by omega)
      have a6 : decide ((x.toNat : Int) < 248) = true := decide_eq_true (by omega)
      have hm : (x.toNat : Int) - 224 = ((x.toNat % 16 : Nat) : Int) := by omega
      have hmb : ((x.toNat % 16 : Nat) : Int) ≤ 15 := by omega
      have M0 : Hid (x.toNat / 16 = 14) := Lib.hid (by omega)
      obtain ⟨m0, hm0⟩ : ∃ m0, x.toNat % 16 = m0 := ⟨_, rfl⟩
      rw [hm0] at hm hmb
      have HM0 := Lib.hid hm0
      clear hm0 g1 g2 h256
      go_enter Tryz.func235, Tryz.ntmps235
      go_wp2
      refine wp_loop_rounds 3 ?_
      rw [rounds_succ]
      go_wp2_with fail
      refine (more_any s (p + 1) _ (by simp) _ (by have := HS.out; omega)).mono ?_
      rintro e w1 ⟨rfl, rfl⟩
      by_cases c1 : p + 1 < s.size ∧ (s.get! (p + 1)).toNat / 64 = 2
      · rw [(more_yes c1).1, (more_yes c1).2]
        have C1 := Lib.hid c1; clear c1
        obtain ⟨l1, hl1⟩ : ∃ l, (s.get! (p + 1)).toNat % 64 = l := ⟨_, rfl⟩
        rw [hl1]
        have bl1 : (l1 : Int) ≤ 63 := by omega
        have HL1 := Lib.hid hl1; clear hl1
        obtain ⟨q1, hq1⟩ : ∃ q : Nat, 64 * (m0 : Int) + (l1 : Int) = (q : Int) := ⟨64 * m0 + l1, by omega⟩
        have bq1 : (q1 : Int) ≤ 1023 := by omega
        have HQ1 := Lib.hid hq1
        go_wp2
        rw [rounds_succ]
        go_wp2_with fail
        refine (more_any s (p + 2) _ (by simp) _ (by have := HS.out; omega)).mono ?_
        rintro e w2 ⟨rfl, rfl⟩
        by_cases c2 : p + 2 < s.size ∧ (s.get! (p + 2)).toNat / 64 = 2
        · rw [(more_yes c2).1, (more_yes c2).2]
          have C2 := Lib.hid c2; clear c2
          obtain ⟨l2, hl2⟩ : ∃ l, (s.get! (p + 2)).toNat % 64 = l := ⟨_, rfl⟩
          rw [hl2]
          have bl2 : (l2 : Int) ≤ 63 := by omega
          have HL2 := Lib.hid hl2; clear hl2
          obtain ⟨q2, hq2⟩ : ∃ q : Nat, 64 * (q1 : Int) + (l2 : Int) = (q : Int) := ⟨64 * q1 + l2, by omega⟩
          have bq2 : (q2 : Int) ≤ 65535 := by omega
          have HQ2 := Lib.hid hq2
          go_wp2
          by_cases z1 : q2 < 2048
          · have tz1 : decide ((q2 : Int) < 2048) = true := decide_eq_true (by omega)
            have HF : Hid (pointS s p = (0, 0)) := Lib.hid (point_bad (dec_bad (by rw [HXX.out]; omega) (by rw [HXX.out]; have k0 := M0.out; have k00 := HM0.out; have k000 := HS.out; have k1 := C1.out; have kk1 := HL1.out; have kkk1 := HQ1.out; have k2 := C2.out; have kk2 := HL2.out; have kkk2 := HQ2.out; omega) (by rw [HXX.out]; have k0 := M0.out; have k00 := HM0.out; have k000 := HS.out; have k1 := C1.out; have kk1 := HL1.out; have kkk1 := HQ1.out; have k2 := C2.out; have kk2 := HL2.out; have kkk2 := HQ2.out; omega) (by rw [HXX.out]; have k0 := M0.out; have k00 := HM0.out; have k000 := HS.out; have k1 := C1.out; have kk1 := HL1.out; have kkk1 := HQ1.out; have k2 := C2.out; have kk2 := HL2.out; have kkk2 := HQ2.out; omega)))
            clear z1
            rw [rounds_succ]
            go_wp2
            go_ret2
            exact ⟨by rw [HF.out]; rfl, rfl⟩
          · have tz1 : decide ((q2 : Int) < 2048) = false := decide_eq_false (by omega)
            by_cases z2 : 1114111 < q2
            · have tz2 : decide ((1114111 : Int) < (q2 : Int)) = true := decide_eq_true (by omega)
              omega
            · have tz2 : decide ((1114111 : Int) < (q2 : Int)) = false := decide_eq_false (by omega)
              by_cases z3 : 55296 ≤ q2
              · have tz3 : decide ((55296 : Int) ≤ (q2 : Int)) = true := decide_eq_true (by omega)
                by_cases z4 : q2 ≤ 57343
                · have tz4 : decide ((q2 : Int) ≤ 57343) = true := decide_eq_true (by omega)
                  have HF : Hid (pointS s p = (0, 0)) := Lib.hid (point_bad (dec_bad (by rw [HXX.out]; omega) (by rw [HXX.out]; have k0 := M0.out; have k00 := HM0.out; have k000 := HS.out; have k1 := C1.out; have kk1 := HL1.out; have kkk1 := HQ1.out; have k2 := C2.out; have kk2 := HL2.out; have kkk2 := HQ2.out; omega) (by rw [HXX.out]; have k0 := M0.out; have k00 := HM0.out; have k000 := HS.out; have k1 := C1.out; have kk1 := HL1.out; have kkk1 := HQ1.out; have k2 := C2.out; have kk2 := HL2.out; have kkk2 := HQ2.out; omega) (by rw [HXX.out]; have k0 := M0.out; have k00 := HM0.out; have k000 := HS.out; have k1 := C1.out; have kk1 := HL1.out; have kkk1 := HQ1.out; have k2 := C2.out; have kk2 := HL2.out; have kkk2 := HQ2.out; omega)))
                  clear z1 z2 z3 z4
                  rw [rounds_succ]
                  go_wp2
                  go_ret2
                  exact ⟨by rw [HF.out]; rfl, rfl⟩
                · have tz4 : decide ((q2 : Int) ≤ 57343) = false := decide_eq_false (by omega)
                  have HF : Hid (pointS s p = (q2, 3)) := Lib.hid (point_ok (by have k0 := M0.out; have k00 := HM0.out; have k000 := HS.out; have k1 := C1.out; have kk1 := HL1.out; have kkk1 := HQ1.out; have k2 := C2.out; have kk2 := HL2.out; have kkk2 := HQ2.out; replace k00 := k00; rw [show q2 = x.toNat % 16 * 4096 + (s.get! (p + 1)).toNat % 64 * 64 + (s.get! (p + 2)).toNat % 64 by omega]; rw [HXX.out]; exact dec_3 (by omega) (by omega) (by omega) (by omega) (by omega) (by omega)) (.inr (by omega)))
                  clear z1 z2 z3 z4
                  rw [rounds_succ]
                  go_wp2
                  go_ret2
                  exact ⟨by rw [HF.out]; rfl, rfl⟩
              · have tz3 : decide ((55296 : Int) ≤ (q2 : Int)) = false := decide_eq_false (by omega)
                have HF : Hid (pointS s p = (q2, 3)) := Lib.hid (point_ok (by have k0 := M0.out; have k00 := HM0.out; have k000 := HS.out; have k1 := C1.out; have kk1 := HL1.out; have kkk1 := HQ1.out; have k2 := C2.out; have kk2 := HL2.out; have kkk2 := HQ2.out; replace k00 := k00; rw [show q2 = x.toNat % 16 * 4096 + (s.get! (p + 1)).toNat % 64 * 64 + (s.get! (p + 2)).toNat % 64 by omega]; rw [HXX.out]; exact dec_3 (by omega) (by omega) (by omega) (by omega) (by omega) (by omega)) (.inr (by omega)))
                clear z1 z2 z3
                rw [rounds_succ]
                go_wp2
                go_ret2
                exact ⟨by rw [HF.out]; rfl, rfl⟩
        · rw [(more_no c2).1, (more_no c2).2]
          have HF : Hid (pointS s p = (0, 0)) := Lib.hid (point_bad (dec_bad (by rw [HXX.out]; omega) (by rw [HXX.out]; have k0 := M0.out; have k00 := HM0.out; have k000 := HS.out; have k1 := C1.out; have kk1 := HL1.out; have kkk1 := HQ1.out; omega) (by rw [HXX.out]; have k0 := M0.out; have k00 := HM0.out; have k000 := HS.out; have k1 := C1.out; have kk1 := HL1.out; have kkk1 := HQ1.out; omega) (by rw [HXX.out]; have k0 := M0.out; have k00 := HM0.out; have k000 := HS.out; have k1 := C1.out; have kk1 := HL1.out; have kkk1 := HQ1.out; omega)))
          clear c2
          go_wp2
          go_ret2
          exact ⟨by rw [HF.out]; rfl, rfl⟩
      · rw [(more_no c1).1, (more_no c1).2]
        have HF : Hid (pointS s p = (0, 0)) := Lib.hid (point_bad (dec_bad (by rw [HXX.out]; omega) (by rw [HXX.out]; have k0 := M0.out; have k00 := HM0.out; have k000 := HS.out; omega) (by rw [HXX.out]; have k0 := M0.out; have k00 := HM0.out; have k000 := HS.out; omega) (by rw [HXX.out]; have k0 := M0.out; have k00 := HM0.out; have k000 := HS.out; omega)))
        clear c1
        go_wp2
        go_ret2
        exact ⟨by rw [HF.out]; rfl, rfl⟩
    · have a1 : decide ((192 : Int) ≤ (x.toNat : Int)) = true := decide_eq_true (by omega)
      have a2 : decide ((x.toNat : Int) < 224) = false := decide_eq_false (by omega)
      have a3 : decide ((224 : Int) ≤ (x.toNat : Int)) = true := decide_eq_true (by omega)
      have a4 : decide ((x.toNat : Int) < 240) = false := decide_eq_false (by omega)
      have a5 : decide ((240 : Int) ≤ (x.toNat : Int)) = true := decide_eq_true (by omega)
      have a6 : decide ((x.toNat : Int) < 248) = true := decide_eq_true (by omega)
      have hm : (x.toNat : Int) - 240 = ((x.toNat % 8 : Nat) : Int) := by omega
      have hmb : ((x.toNat % 8 : Nat) : Int) ≤ 7 := by omega
      have M0 : Hid (x.toNat / 8 = 30) := Lib.hid (by omega)
      obtain ⟨m0, hm0⟩ : ∃ m0, x.toNat % 8 = m0 := ⟨_, rfl⟩
      rw [hm0] at hm hmb
      have HM0 := Lib.hid hm0
      clear hm0 g1 g2 h256
      go_enter Tryz.func235, Tryz.ntmps235
      go_wp2
      refine wp_loop_rounds 4 ?_
      rw [rounds_succ]
      go_wp2_with fail
      refine (more_any s (p + 1) _ (by simp) _ (by have := HS.out; omega)).mono ?_
      rintro e w1 ⟨rfl, rfl⟩
      by_cases c1 : p + 1 < s.size ∧ (s.get! (p + 1)).toNat / 64 = 2
      · rw [(more_yes c1).1, (more_yes c1).2]
        have C1 := Lib.hid c1; clear c1
        obtain ⟨l1, hl1⟩ : ∃ l, (s.get! (p + 1)).toNat % 64 = l := ⟨_, rfl⟩
        rw [hl1]
        have bl1 : (l1 : Int) ≤ 63 := by omega
        have HL1 := Lib.hid hl1; clear hl1
        obtain ⟨q1, hq1⟩ : ∃ q : Nat, 64 * (m0 : Int) + (l1 : Int) = (q : Int) := ⟨64 * m0 + l1, by omega⟩
        have bq1 : (q1 : Int) ≤ 511 := by omega
        have HQ1 := Lib.hid hq1
        go_wp2
        rw [rounds_succ]
        go_wp2_with fail
        refine (more_any s (p + 2) _ (by simp) _ (by have := HS.out; omega)).mono ?_
        rintro e w2 ⟨rfl, rfl⟩
        by_cases c2 : p + 2 < s.size ∧ (s.get! (p + 2)).toNat / 64 = 2
        · rw [(more_yes c2).1, (more_yes c2).2]
          have C2 := Lib.hid c2; clear c2
          obtain ⟨l2, hl2⟩ : ∃ l, (s.get! (p + 2)).toNat % 64 = l := ⟨_, rfl⟩
          rw [hl2]
          have bl2 : (l2 : Int) ≤ 63 := by omega
          have HL2 := Lib.hid hl2; clear hl2
          obtain ⟨q2, hq2⟩ : ∃ q : Nat, 64 * (q1 : Int) + (l2 : Int) = (q : Int) := ⟨64 * q1 + l2, by omega⟩
          have bq2 : (q2 : Int) ≤ 32767 := by omega
          have HQ2 := Lib.hid hq2
          go_wp2
          rw [rounds_succ]
          go_wp2_with fail
          refine (more_any s (p + 3) _ (by simp) _ (by have := HS.out; omega)).mono ?_
          rintro e w3 ⟨rfl, rfl⟩
          by_cases c3 : p + 3 < s.size ∧ (s.get! (p + 3)).toNat / 64 = 2
          · rw [(more_yes c3).1, (more_yes c3).2]
            have C3 := Lib.hid c3; clear c3
            obtain ⟨l3, hl3⟩ : ∃ l, (s.get! (p + 3)).toNat % 64 = l := ⟨_, rfl⟩
            rw [hl3]
            have bl3 : (l3 : Int) ≤ 63 := by omega
            have HL3 := Lib.hid hl3; clear hl3
            obtain ⟨q3, hq3⟩ : ∃ q : Nat, 64 * (q2 : Int) + (l3 : Int) = (q : Int) := ⟨64 * q2 + l3, by omega⟩
            have bq3 : (q3 : Int) ≤ 2097151 := by omega
            have HQ3 := Lib.hid hq3
            go_wp2
            by_cases z1 : q3 < 65536
            · have tz1 : decide ((q3 : Int) < 65536) = true := decide_eq_true (by omega)
              have HF : Hid (pointS s p = (0, 0)) := Lib.hid (point_bad (dec_bad (by rw [HXX.out]; omega) (by rw [HXX.out]; have k0 := M0.out; have k00 := HM0.out; have k000 := HS.out; have k1 := C1.out; have kk1 := HL1.out; have kkk1 := HQ1.out; have k2 := C2.out; have kk2 := HL2.out; have kkk2 := HQ2.out; have k3 := C3.out; have kk3 := HL3.out; have kkk3 := HQ3.out; omega) (by rw [HXX.out]; have k0 := M0.out; have k00 := HM0.out; have k000 := HS.out; have k1 := C1.out; have kk1 := HL1.out; have kkk1 := HQ1.out; have k2 := C2.out; have kk2 := HL2.out; have kkk2 := HQ2.out; have k3 := C3.out; have kk3 := HL3.out; have kkk3 := HQ3.out; omega) (by rw [HXX.out]; have k0 := M0.out; have k00 := HM0.out; have k000 := HS.out; have k1 := C1.out; have kk1 := HL1.out; have kkk1 := HQ1.out; have k2 := C2.out; have kk2 := HL2.out; have kkk2 := HQ2.out; have k3 := C3.out; have kk3 := HL3.out; have kkk3 := HQ3.out; omega)))
              clear z1
              rw [rounds_succ]
              go_wp2
              go_ret2
              exact ⟨by rw [HF.out]; rfl, rfl⟩
            · have tz1 : decide ((q3 : Int) < 65536) = false := decide_eq_false (by omega)
              by_cases z2 : 1114111 < q3
              · have tz2 : decide ((1114111 : Int) < (q3 : Int)) = true := decide_eq_true (by omega)
                have HF : Hid (pointS s p = (0, 0)) := Lib.hid (point_bad (dec_bad (by rw [HXX.out]; omega) (by rw [HXX.out]; have k0 := M0.out; have k00 := HM0.out; have k000 := HS.out; have k1 := C1.out; have kk1 := HL1.out; have kkk1 := HQ1.out; have k2 := C2.out; have kk2 := HL2.out; have kkk2 := HQ2.out; have k3 := C3.out; have kk3 := HL3.out; have kkk3 := HQ3.out; omega) (by rw [HXX.out]; have k0 := M0.out; have k00 := HM0.out; have k000 := HS.out; have k1 := C1.out; have kk1 := HL1.out; have kkk1 := HQ1.out; have k2 := C2.out; have kk2 := HL2.out; have kkk2 := HQ2.out; have k3 := C3.out; have kk3 := HL3.out; have kkk3 := HQ3.out; omega) (by rw [HXX.out]; have k0 := M0.out; have k00 := HM0.out; have k000 := HS.out; have k1 := C1.out; have kk1 := HL1.out; have kkk1 := HQ1.out; have k2 := C2.out; have kk2 := HL2.out; have kkk2 := HQ2.out; have k3 := C3.out; have kk3 := HL3.out; have kkk3 := HQ3.out; omega)))
                clear z1 z2
                rw [rounds_succ]
                go_wp2
                go_ret2
                exact ⟨by rw [HF.out]; rfl, rfl⟩
              · have tz2 : decide ((1114111 : Int) < (q3 : Int)) = false := decide_eq_false (by omega)
                by_cases z3 : 55296 ≤ q3
                · have tz3 : decide ((55296 : Int) ≤ (q3 : Int)) = true := decide_eq_true (by omega)
                  by_cases z4 : q3 ≤ 57343
                  · have tz4 : decide ((q3 : Int) ≤ 57343) = true := decide_eq_true (by omega)
                    omega
                  · have tz4 : decide ((q3 : Int) ≤ 57343) = false := decide_eq_false (by omega)
                    have HF : Hid (pointS s p = (q3, 4)) := Lib.hid (point_ok (by have k0 := M0.out; have k00 := HM0.out; have k000 := HS.out; have k1 := C1.out; have kk1 := HL1.out; have kkk1 := HQ1.out; have k2 := C2.out; have kk2 := HL2.out; have kkk2 := HQ2.out; have k3 := C3.out; have kk3 := HL3.out; have kkk3 := HQ3.out; replace k00 := k00; rw [show q3 = x.toNat % 8 * 262144 + (s.get! (p + 1)).toNat % 64 * 4096 + (s.get! (p + 2)).toNat % 64 * 64 + (s.get! (p + 3)).toNat % 64 by omega]; rw [HXX.out]; exact dec_4 (by omega) (by omega) (by omega) (by omega) (by omega) (by omega) (by omega)) (.inr (by omega)))
                    clear z1 z2 z3 z4
                    rw [rounds_succ]
                    go_wp2
                    go_ret2
                    exact ⟨by rw [HF.out]; rfl, rfl⟩
                · have tz3 : decide ((55296 : Int) ≤ (q3 : Int)) = false := decide_eq_false (by omega)
                  omega
          · rw [(more_no c3).1, (more_no c3).2]
            have HF : Hid (pointS s p = (0, 0)) := Lib.hid (point_bad (dec_bad (by rw [HXX.out]; omega) (by rw [HXX.out]; have k0 := M0.out; have k00 := HM0.out; have k000 := HS.out; have k1 := C1.out; have kk1 := HL1.out; have kkk1 := HQ1.out; have k2 := C2.out; have kk2 := HL2.out; have kkk2 := HQ2.out; omega) (by rw [HXX.out]; have k0 := M0.out; have k00 := HM0.out; have k000 := HS.out; have k1 := C1.out; have kk1 := HL1.out; have kkk1 := HQ1.out; have k2 := C2.out; have kk2 := HL2.out; have kkk2 := HQ2.out; omega) (by rw [HXX.out]; have k0 := M0.out; have k00 := HM0.out; have k000 := HS.out; have k1 := C1.out; have kk1 := HL1.out; have kkk1 := HQ1.out; have k2 := C2.out; have kk2 := HL2.out; have kkk2 := HQ2.out; omega)))
            clear c3
            go_wp2
            go_ret2
            exact ⟨by rw [HF.out]; rfl, rfl⟩
        · rw [(more_no c2).1, (more_no c2).2]
          have HF : Hid (pointS s p = (0, 0)) := Lib.hid (point_bad (dec_bad (by rw [HXX.out]; omega) (by rw [HXX.out]; have k0 := M0.out; have k00 := HM0.out; have k000 := HS.out; have k1 := C1.out; have kk1 := HL1.out; have kkk1 := HQ1.out; omega) (by rw [HXX.out]; have k0 := M0.out; have k00 := HM0.out; have k000 := HS.out; have k1 := C1.out; have kk1 := HL1.out; have kkk1 := HQ1.out; omega) (by rw [HXX.out]; have k0 := M0.out; have k00 := HM0.out; have k000 := HS.out; have k1 := C1.out; have kk1 := HL1.out; have kkk1 := HQ1.out; omega)))
          clear c2
          go_wp2
          go_ret2
          exact ⟨by rw [HF.out]; rfl, rfl⟩
      · rw [(more_no c1).1, (more_no c1).2]
        have HF : Hid (pointS s p = (0, 0)) := Lib.hid (point_bad (dec_bad (by rw [HXX.out]; omega) (by rw [HXX.out]; have k0 := M0.out; have k00 := HM0.out; have k000 := HS.out; omega) (by rw [HXX.out]; have k0 := M0.out; have k00 := HM0.out; have k000 := HS.out; omega) (by rw [HXX.out]; have k0 := M0.out; have k00 := HM0.out; have k000 := HS.out; omega)))
        clear c1
        go_wp2
        go_ret2
        exact ⟨by rw [HF.out]; rfl, rfl⟩
    · have a1 : decide ((192 : Int) ≤ (x.toNat : Int)) = true := decide_eq_true (by omega)
      have a2 : decide ((x.toNat : Int) < 224) = false := decide_eq_false (by omega)
      have a3 : decide ((224 : Int) ≤ (x.toNat : Int)) = true := decide_eq_true (by omega)
      have a4 : decide ((x.toNat : Int) < 240) = false := decide_eq_false (by omega)
      have a5 : decide ((240 : Int) ≤ (x.toNat : Int)) = true := decide_eq_true (by omega)
      have a6 : decide ((x.toNat : Int) < 248) = false := decide_eq_false (by omega)
      have HF : Hid (pointS s p = (0, 0)) := Lib.hid (point_bad (dec_bad (by rw [HXX.out]; omega) (by rw [HXX.out]; omega) (by rw [HXX.out]; omega) (by rw [HXX.out]; omega)))
      clear g1 g2 h256
      go_enter Tryz.func235, Tryz.ntmps235
      go_wp2
      go_ret2
      exact ⟨by rw [HF.out]; rfl, rfl⟩
end Go.Proofs.YtpcaffimahapjaaGreat
