/- The law AckCodes: its walk. -/
import Derived.Test.YtdpeljnoaiaplaaAckC
import Derived.Test.YtdpeljnoaiaplaaReaT
namespace Go.Proofs.Ytdpeljnoaiaplaa
open Go.RowKit
attribute [local go_sem ↓] to_ldPk to_bxPk to_bdPk to_alPk to_stPk
attribute [local go_sem] run_bxPk run_bxPk_agg ld_fresh run_alPk run_bd0 run_bdK run_bdKI run_bdKIC run_bdKC run_bdKICP run_stPk_fresh pkC_0 pkC_1 pkC_2 pkC_3 pkC_4 pkC_5 pkC_6 pkC_7 pkC_8 pkC_9 pkC_10 pkC_11 pkC_12 pkC_13 pkC_14 pkC_15 pkC_16 pkC_17 pkC_18 pkC_19 pkC_20 pkC_21 pkC_22 pkC_23 pkC_24


set_option maxHeartbeats 2000000 in
set_option maxRecDepth 10000 in
theorem ackCodes_any (kind : Int) (i : Int) (c : Int) (w : World) (h0 : 0 ≤ i) (h6 : i < 65536) :
    Calls Try.prog 3 #[.int .i64 kind, .int .u16 i, .int .i64 c] w fun e w' => e = .returned (.bool true) ∧ Below w.heap.size w w' := by
  have HI := Lib.hid (And.intro h0 h6)
  have hw1 : IntKind.i64.wrap i = i := by rw [IntKind.wrap_i64]; omega
  clear h0 h6
  obtain ⟨k, hk, hk4⟩ := pick_nat kind 4 (by decide)
  obtain ⟨K, hK⟩ : ∃ K : Int, K = 4 + (k : Int) := ⟨_, rfl⟩
  have hw2 : IntKind.i64.wrap (4 + (k : Int)) = K := by rw [IntKind.wrap_i64]; omega
  have HK := Lib.hid (show 4 ≤ K ∧ K ≤ 7 by omega)
  have hk : pickN kind 4 = (k : Int) := hk
  clear hk4 hK
  go_enter Try.func3, Try.ntmps3
  go_wp2_with fail
  refine (lives10_any _).mono ?_
  rintro e w1 ⟨rfl, hb⟩
  have HB := Lib.hid hb; clear hb
  go_wp2_with fail
  refine (pick_any kind 4 _ (by decide)).mono ?_
  rintro e w2 ⟨rfl, rfl⟩
  rw [hk]
  clear hk
  have HB1 := Lib.hid (HB.out.alloc HB.out.size (.cells (pkC (ackQ K i c) hs0) PkT))
  have HX := Lib.hid (Bk.fresh w1 PkT (pkC (ackQ K i c) hs0))
  go_wp2_with fail
  rw [ackQ_all]
  refine (ackBody_any 5 (ackQ K i c) hs0 _ (PkIn.zero _ _ _ _ _) (PkOk.zero _ _ _)).mono ?_
  rintro e w2 ⟨rfl, hb⟩
  have HB2 := Lib.hid (HB1.out.trans (hb.mono HB1.out.size)); have HX2 := Lib.hid (HX.out.below hb HX.out.lt)
  clear hb
  have hl := ld_bk HX2.out
  go_wp2_with fail
  refine (ackBody_any 4 (ackQ K i c) hs0 _ (PkIn.zero _ _ _ _ _) (PkOk.zero _ _ _)).mono ?_
  rintro e w3 ⟨rfl, hb⟩
  have HB3 := Lib.hid (HB2.out.trans (hb.mono HB2.out.size)); have HX3 := Lib.hid (HX2.out.below hb HX2.out.lt)
  clear hb hl
  have k3 := fun i => HX3.out.cell i
  have hkk : (ackQ K i c).kind = K := rfl
  rcases ack_ways K i c HK.out HI.out.1 HI.out.2 with ⟨hi, hA, hB⟩ | ⟨hi, hc, hm, hA, hB⟩ | ⟨hi, hc, hm, a, b, hA, hB⟩ | ⟨hi, hc, hm, a, b, d, hA, hB, hd, hab⟩
  all_goals
    rw [hA, hB]
    clear hA hB
  · have d1 : decide (0 < i) = false := decide_eq_false (by omega)
    clear hi
    go_wp2
    go_quiet (fail)
    go_wp2
    go_ret
    exact ⟨rfl, below_drawn HB3.out _⟩
  · have d2 : (c == 0) = false := beq_eq_false_iff_ne.2 hc
    clear hc
    go_wp2_with fail
    refine (refMay_any K c _).mono ?_
    rintro e w4 ⟨rfl, hb⟩
    have HB4 := Lib.hid (HB3.out.trans (hb.mono HB3.out.size))
    clear hb k3
    rw [hm]
    clear hm
    go_wp2
    go_quiet (fail)
    go_wp2
    go_ret
    exact ⟨rfl, below_drawn HB4.out _⟩
  · subst hc
    go_wp2_with fail
    refine (refMay_any K 0 _).mono ?_
    rintro e w4 ⟨rfl, hb⟩
    have HB4 := Lib.hid (HB3.out.trans (hb.mono HB3.out.size))
    clear hb k3
    rw [hm]
    clear hm
    go_wp2
    go_quiet (fail)
    go_wp2
    go_ret
    exact ⟨rfl, below_drawn HB4.out _⟩
  · have d2 : (c == 0) = false := beq_eq_false_iff_ne.2 hc
    have r0 : (⟨#[a, b, d]⟩ : ByteArray)[0]'(Nat.zero_lt_succ 2) = a := rfl
    have r1 : (⟨#[a, b, d]⟩ : ByteArray)[1]'(Nat.succ_lt_succ (Nat.zero_lt_succ 1)) = b := rfl
    have r2 : (⟨#[a, b, d]⟩ : ByteArray)[2]'(Nat.lt_succ_self 2) = d := rfl
    have q1 : IntKind.i64.wrap (a.toNat : Int) = a.toNat := by rw [IntKind.wrap_i64]; have := a.toNat_lt; omega
    have q2 : IntKind.i64.wrap (b.toNat : Int) = b.toNat := by rw [IntKind.wrap_i64]; have := b.toNat_lt; omega
    have q3 : IntKind.i64.wrap (d.toNat : Int) = c := by rw [IntKind.wrap_i64]; have := d.toNat_lt; omega
    have q4 : IntKind.i64.wrap c = c := by rw [IntKind.wrap_i64]; have := d.toNat_lt; omega
    have q5 : (c == c) = true := beq_iff_eq.2 rfl
    have q6 : (i == i) = true := beq_iff_eq.2 rfl
    clear hd
    have m1 : IntKind.i64.wrap ((a.toNat : Int) * 256) = (a.toNat : Int) * 256 := by rw [IntKind.wrap_i64]; have := a.toNat_lt; omega
    have m2 : IntKind.i64.wrap ((a.toNat : Int) * 256 + b.toNat) = i := by rw [IntKind.wrap_i64]; have := HI.out.1; have := HI.out.2; omega
    clear hc
    go_wp2_with fail
    refine (refMay_any K c _).mono ?_
    rintro e w4 ⟨rfl, hb⟩
    have HB4 := Lib.hid (HB3.out.trans (hb.mono HB3.out.size))
    clear hb k3
    rw [hm]
    clear hm
    go_wp2
    go_quiet (fail)
    go_wp2
    go_ret
    exact ⟨rfl, below_drawn HB4.out _⟩
theorem u16_lo {n : Int} (h : (Lit.int .u16 n).wf = true) : 0 ≤ n := by
  simp [Lit.wf, IntKind.min, IntKind.max, IntKind.bits, IntKind.signed] at h; omega
theorem u16_hi {n : Int} (h : (Lit.int .u16 n).wf = true) : n < 65536 := by
  simp [Lit.wf, IntKind.min, IntKind.max, IntKind.bits, IntKind.signed] at h; omega
end Go.Proofs.Ytdpeljnoaiaplaa
