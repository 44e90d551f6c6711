/- The law AckCodes: its example and its walk. -/
import Derived.Test.YtdpeljnoaiaplaaAckB
import Derived.Test.YtdpeljnoaiaplaaProH
import Derived.Test.YtdpeljnoaiaplaaProM
import Derived.Deep.QuietTactic
import Derived.BigQuiet
namespace Go.Proofs.Ytdpeljnoaiaplaa
open Go.RowKit
attribute [local go_sem ↓] to_ldPk to_bxPk to_bdPk to_alPk to_stPk
attribute [local go_sem] run_bxPk run_bxPk_agg ld_fresh run_alPk run_bd0 run_bdK run_bdKI run_bdKIC run_bdKC run_bdKICP run_stPk_fresh pkC_0 pkC_1 pkC_2 pkC_3 pkC_4 pkC_5 pkC_6 pkC_7 pkC_8 pkC_9 pkC_10 pkC_11 pkC_12 pkC_13 pkC_14 pkC_15 pkC_16 pkC_17 pkC_18 pkC_19 pkC_20 pkC_21 pkC_22 pkC_23 pkC_24


def ackQ (k i c : Int) : Pk := { pk0 with kind := k, id := i, code := c }
theorem PkIn.zero (w : World) (B : Nat) (k i c : Int) : PkIn w B (ackQ k i c) hs0 := ⟨Rd.nil _ _ _ _, Rd.nil _ _ _ _, Rd.nil _ _ _ _, Rd.nil _ _ _ _, Nat.zero_le _, Nat.zero_le _, Nat.zero_le _, Nat.zero_le _⟩
theorem PkOk.zero (k i c : Int) : PkOk (ackQ k i c) := by
  refine ⟨?_, ?_, ?_, ?_, ?_⟩
  · intro q hq; cases hq
  · intro q hq; cases hq
  · intro q hq; cases hq
  · exact ⟨Nat.zero_le _, Nat.zero_le _, Nat.zero_le _, Nat.zero_le _, Nat.zero_le _, Nat.zero_le _, Nat.zero_le _⟩
  · exact ⟨Nat.zero_le _, Nat.zero_le _, Nat.zero_le _, Nat.zero_le _⟩
theorem ackQ_code (k i : Int) : ({ pk0 with kind := k, id := i } : Pk) = ackQ k i 0 := rfl
theorem ackQ_all (k i c : Int) : ({ pk0 with kind := k, id := i, code := c } : Pk) = ackQ k i c := rfl
theorem bytesS_none (k : Int) : bytesS k [] = ([0], 0) := by
  show bytesGo k [] (fun _ => 0) [] = _
  rfl
theorem ackE_Q (v k i c : Int) (hv : v = 4 ∨ v = 5) (hk : 4 ≤ k ∧ k ≤ 7) (hi : i < 65536) : ackE v (ackQ k i c) = if i ≤ 0 ∨ may k c = false then 2 else if v = 4 ∧ c ≠ 0 then 2 else 0 := by
  have h1 : ackK v k = true := decide_eq_true ⟨hv, hk⟩
  unfold ackE
  rw [show (ackQ k i c).kind = k from rfl, show (ackQ k i c).id = i from rfl, show (ackQ k i c).code = c from rfl, show (ackQ k i c).props = [] from rfl, h1, bytesS_none]
  by_cases h : i ≤ 0 ∨ may k c = false
  · rw [if_pos h, if_pos]
    rcases h with h | h
    · exact .inr (.inl h)
    · exact .inr (.inr (.inr h))
  · rw [if_neg h, if_neg]
    · by_cases h4 : v = 4 ∧ c ≠ 0
      · rw [if_pos h4, if_pos ⟨h4.1, .inl h4.2⟩]
      · rw [if_neg h4, if_neg, if_neg]
        · exact fun x => x rfl
        · rintro ⟨x, y | y⟩
          · exact h4 ⟨x, y⟩
          · exact y rfl
    · rintro (x | x | x | x)
      · cases x
      · exact h (.inl x)
      · omega
      · exact h (.inr x)
theorem example_ack1 : ackB 5 (ackQ 4 7 0) = ([0, 7], 0) := by decide +kernel
theorem example_ack2 : ackB 5 (ackQ 4 7 16) = ([0, 7, 16], 0) := by decide +kernel

set_option maxHeartbeats 400000 in
set_option maxRecDepth 10000 in
theorem lives10_any (w : World) :
    Calls Try.prog 14 #[] w fun e w' => e = .returned (.bool true) ∧ Below w.heap.size w w' := by
  go_enter Try.func14, Try.ntmps14
  go_wp2_with fail
  refine (ackBody_any 5 (ackQ 4 7 0) hs0 _ (PkIn.zero _ _ _ _ _) (PkOk.zero _ _ _)).mono ?_
  rintro e w1 ⟨rfl, hb⟩
  have HB := Lib.hid hb; clear hb
  rw [example_ack1]
  go_wp2_with fail
  refine (ackBody_any 5 (ackQ 4 7 16) hs0 _ (PkIn.zero _ _ _ _ _) (PkOk.zero _ _ _)).mono ?_
  rintro e w2 ⟨rfl, hb⟩
  have HB2 := Lib.hid (HB.out.trans (hb.mono HB.out.size)); clear hb
  rw [example_ack2]
  go_wp2
  go_ret
  exact ⟨rfl, HB2.out⟩

theorem put_two (i : Int) (h : 0 < i) (h2 : i < 65536) : ∃ a b : UInt8, putL i.toNat 2 = [a, b] ∧ (a.toNat : Int) * 256 + b.toNat = i := by
  refine ⟨UInt8.ofNat (i.toNat / 2 ^ 8), UInt8.ofNat (i.toNat / 2 ^ 0), rfl, ?_⟩
  have e1 : (UInt8.ofNat (i.toNat / 2 ^ 8)).toNat = i.toNat / 256 % 256 := by simp
  have e2 : (UInt8.ofNat (i.toNat / 2 ^ 0)).toNat = i.toNat % 256 := by simp
  rw [e1, e2]
  omega
theorem put_one (i : Int) (h : 0 ≤ i) (h2 : i < 256) : ∃ a : UInt8, putL i.toNat 1 = [a] ∧ (a.toNat : Int) = i := by
  refine ⟨UInt8.ofNat (i.toNat / 2 ^ 0), rfl, ?_⟩
  have e2 : (UInt8.ofNat (i.toNat / 2 ^ 0)).toNat = i.toNat % 256 := by simp
  rw [e2]
  omega

/-- What the two bodies are: four ways. -/
theorem ack_ways (k i c : Int) (hk : 4 ≤ k ∧ k ≤ 7) (h0 : 0 ≤ i) (hi : i < 65536) :
    (i = 0 ∧ ackB 5 (ackQ k i c) = ([], 2) ∧ ackB 4 (ackQ k i c) = ([], 2)) ∨
    (0 < i ∧ c ≠ 0 ∧ may k c = false ∧ ackB 5 (ackQ k i c) = ([], 2) ∧ ackB 4 (ackQ k i c) = ([], 2)) ∨
    (0 < i ∧ c = 0 ∧ may k c = true ∧ ∃ a b : UInt8, ackB 5 (ackQ k i c) = ([a, b], 0) ∧ ackB 4 (ackQ k i c) = ([a, b], 0)) ∨
    (0 < i ∧ c ≠ 0 ∧ may k c = true ∧ ∃ a b d : UInt8, ackB 5 (ackQ k i c) = ([a, b, d], 0) ∧ ackB 4 (ackQ k i c) = ([], 2) ∧ (d.toNat : Int) = c ∧ (a.toNat : Int) * 256 + b.toNat = i) := by
  have hm0 : may k 0 = true := by
    obtain rfl | rfl | rfl | rfl : k = 4 ∨ k = 5 ∨ k = 6 ∨ k = 7 := by omega
    all_goals decide +kernel
  have e5 := ackE_Q 5 k i c (.inr rfl) hk hi
  have e4 := ackE_Q 4 k i c (.inl rfl) hk hi
  by_cases hz : i = 0
  · refine .inl ⟨hz, ?_, ?_⟩
    · rw [if_pos (.inl (by omega))] at e5
      unfold ackB; rw [e5]; rfl
    · rw [if_pos (.inl (by omega))] at e4
      unfold ackB; rw [e4]; rfl
  · have hp : 0 < i := by omega
    by_cases hm : may k c = false
    · refine .inr (.inl ⟨hp, ?_, hm, ?_, ?_⟩)
      · rintro rfl; rw [hm0] at hm; cases hm
      · rw [if_pos (.inr hm)] at e5
        unfold ackB; rw [e5]; rfl
      · rw [if_pos (.inr hm)] at e4
        unfold ackB; rw [e4]; rfl
    · have hm' : may k c = true := by cases e : may k c; · exact absurd e hm
                                      · rfl
      have hn : ¬ (i ≤ 0 ∨ may k c = false) := by rintro (x | x); · omega
                                                  · exact hm x
      rw [if_neg hn] at e5 e4
      rw [if_neg (by omega)] at e5
      obtain ⟨a, b, hab, hs⟩ := put_two i hp hi
      by_cases hc : c = 0
      · refine .inr (.inr (.inl ⟨hp, hc, hm', a, b, ?_, ?_⟩))
        · unfold ackB
          rw [if_pos e5, show (ackQ k i c).id = i from rfl, hab, ackT, if_pos ⟨hc, rfl⟩]; rfl
        · rw [if_neg (fun x => x.2 hc)] at e4
          unfold ackB
          rw [if_pos e4, show (ackQ k i c).id = i from rfl, hab, ackT, if_pos ⟨hc, rfl⟩]; rfl
      · have hr := may_range hm'
        obtain ⟨d, hd, hs2⟩ := put_one c hr.1 hr.2
        refine .inr (.inr (.inr ⟨hp, hc, hm', a, b, d, ?_, ?_, hs2, hs⟩))
        · unfold ackB
          rw [if_pos e5, show (ackQ k i c).id = i from rfl, hab, ackT, if_neg (fun x => hc x.1), show (ackQ k i c).code = c from rfl, hd]; rfl
        · rw [if_pos ⟨rfl, hc⟩] at e4
          unfold ackB; rw [e4]; rfl
end Go.Proofs.Ytdpeljnoaiaplaa
