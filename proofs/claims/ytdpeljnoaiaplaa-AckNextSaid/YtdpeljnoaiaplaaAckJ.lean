/- The law AckNext: its walk. -/
import Derived.Test.YtdpeljnoaiaplaaMAck
namespace Go.Proofs.Ytdpeljnoaiaplaa
open Go.RowKit
attribute [local go_sem ↓] to_ldPk to_bxPk to_bdPk to_alPk to_stPk
attribute [local go_sem] run_bxPk run_bxPk_agg ld_fresh run_alPk run_bd0 run_bdK run_bdKI run_bdKIC run_bdKC run_bdKICP run_stPk_fresh pkC_0 pkC_1 pkC_2 pkC_3 pkC_4 pkC_5 pkC_6 pkC_7 pkC_8 pkC_9 pkC_10 pkC_11 pkC_12 pkC_13 pkC_14 pkC_15 pkC_16 pkC_17 pkC_18 pkC_19 pkC_20 pkC_21 pkC_22 pkC_23 pkC_24


theorem may_none (k : Int) (h : 4 ≤ k ∧ k ≤ 7) : may k 0 = true := by
  obtain rfl | rfl | rfl | rfl : k = 4 ∨ k = 5 ∨ k = 6 ∨ k = 7 := by omega
  all_goals decide +kernel
theorem next_valid {v : Int} {p : Pk} (g : AckGood v p) {K : Int} (h : 4 ≤ K ∧ K ≤ 7) : ackE v (ackQ K p.id 0) = 0 := by
  have hv : (v = 4 ∨ v = 5) := (of_decide_eq_true g.k).1
  rw [ackE_Q v K p.id 0 hv h g.id2, if_neg, if_neg]
  · exact fun x => x.2 rfl
  · rintro (x | x)
    · have := g.id1; omega
    · rw [may_none K h] at x; cases x
theorem next_ways {v : Int} {p : Pk} (g : AckGood v p) :
    (ackN p = (pk0, false) ∧ p.kind ≠ 6 ∧ (p.kind ≠ 5 ∨ 128 ≤ p.code)) ∨
    (∃ K : Int, ackN p = (ackQ K p.id 0, true) ∧ (p.kind + 1 = K ∧ 0 ≤ K ∧ K ≤ 7) ∧ ackE v (ackQ K p.id 0) = 0 ∧ p.kind = 5 ∧ ackN (ackQ K p.id 0) = (ackQ 7 p.id 0, true) ∧ ackN (ackQ 7 p.id 0) = (pk0, false)) ∨
    (∃ K : Int, ackN p = (ackQ K p.id 0, true) ∧ (p.kind + 1 = K ∧ 0 ≤ K ∧ K ≤ 7) ∧ ackE v (ackQ K p.id 0) = 0 ∧ p.kind ≠ 5 ∧ ackN (ackQ K p.id 0) = (pk0, false) ∧ ackN pk0 = (pk0, false)) := by
  by_cases h5 : p.kind = 5
  · by_cases hb : badB p.code = true ∨ 255 < p.code
    · refine .inl ⟨by rw [ackN, if_pos h5, if_pos hb], by omega, .inr ?_⟩
      rcases hb with hb | hb
      · unfold badB at hb; simp at hb; omega
      · omega
    · exact .inr (.inl ⟨6, by rw [ackN, if_pos h5, if_neg hb], by omega, next_valid g (by decide), h5, rfl, rfl⟩)
  · by_cases h6 : p.kind = 6
    · exact .inr (.inr ⟨7, by rw [ackN, if_neg h5, if_pos h6], by omega, next_valid g (by decide), h5, rfl, rfl⟩)
    · exact .inl ⟨by rw [ackN, if_neg h5, if_neg h6], h6, .inl h5⟩
theorem PkIn.none (w : World) (B : Nat) (p : Pk) (h : p = pk0 ∨ ∃ k i c, p = ackQ k i c) : PkIn w B p hs0 := by
  rcases h with rfl | ⟨k, i, c, rfl⟩
  · exact pk0_in w B
  · exact PkIn.zero w B k i c

set_option maxHeartbeats 2000000 in
set_option maxRecDepth 10000 in
theorem ackNextLaw_any (v : Int) (p : Pk) (h : Hs) (w : World) (ip : PkIn w w.heap.size p h) (ok : PkOk p) :
    Calls Try.prog 4 #[.int .i64 v, pkV p h] w fun e w' => e = .returned (.bool true) ∧ Below w.heap.size w w' := by
  have IP := Lib.hid ip; have OK := Lib.hid ok; clear ip ok
  have HB0 := Lib.hid ((Below.refl w.heap.size w).alloc (Nat.le_refl _) (.cells (pkC p h) PkT))
  have HP0 := Lib.hid (Bk.fresh w PkT (pkC p h))
  go_enter Try.func4, Try.ntmps4
  go_wp2_with fail
  refine (lives10_any _).mono ?_
  rintro e w1 ⟨rfl, hb⟩
  have HB1 := Lib.hid (HB0.out.trans (hb.mono HB0.out.size)); have HP1 := Lib.hid (HP0.out.below hb HP0.out.lt)
  clear hb
  have hl := ld_bk HP1.out
  go_wp2_with fail
  refine (lightK_any p h _ ((IP.out.below HB1.out).wider HB1.out.size) OK.out).mono ?_
  rintro e w2 ⟨rfl, hb⟩
  have HB2 := Lib.hid (HB1.out.trans (hb.mono HB1.out.size)); have HP2 := Lib.hid (HP1.out.below hb HP1.out.lt)
  clear hb hl
  cases lightK p
  · go_wp2
    go_ret
    exact ⟨rfl, HB2.out⟩
  have hl := ld_bk HP2.out
  go_wp2_with fail
  refine (ackValid_any v p h _ ((IP.out.below HB2.out).wider HB2.out.size) OK.out).mono ?_
  rintro e w3 ⟨rfl, hb⟩
  have HB3 := Lib.hid (HB2.out.trans (hb.mono HB2.out.size)); have HP3 := Lib.hid (HP2.out.below hb HP2.out.lt)
  clear hb hl
  by_cases he : ackE v p = 0
  rotate_left
  · have e0 : (ackE v p != 0) = true := bne_iff_ne.2 he
    clear he
    go_wp2
    go_ret
    exact ⟨rfl, HB3.out⟩
  have W := next_ways (ackE_good he)
  rw [he]
  clear he
  have hl := ld_bk HP3.out
  go_wp2_with fail
  refine (ackNext_any p h _).mono ?_
  rintro e w4 ⟨rfl, hb⟩
  have HB4 := Lib.hid (HB3.out.trans (hb.mono HB3.out.size)); have HP4 := Lib.hid (HP3.out.below hb HP3.out.lt)
  clear hb hl
  rcases W with ⟨hN, h6, h5⟩ | ⟨K, hN, hK, hV, h5, hN2, hN3⟩ | ⟨K, hN, hK, hV, h5, hN2, hN3⟩
  · rw [hN]
    have HB5 := Lib.hid (HB4.out.alloc HB4.out.size (.cells (pkC pk0 hs0) PkT))
    have HP5 := Lib.hid (HP4.out.alloc (.cells (pkC pk0 hs0) PkT))
    have e6 : (p.kind != 6) = true := bne_iff_ne.2 h6
    clear h6 hN
    go_wp2_with fail
    refine (none_any pk0 hs0 _ (pk0_in _ _) pk0_len).mono ?_
    rintro e w6 ⟨rfl, hb⟩
    have HB6 := Lib.hid (HB5.out.trans (hb.mono HB5.out.size)); have HP6 := Lib.hid (HP5.out.below hb HP5.out.lt)
    clear hb
    rw [decide_eq_true rfl]
    have k6 := fun i => HP6.out.cell i
    rcases h5 with h5 | h5
    · have e5 : (p.kind != 5) = true := bne_iff_ne.2 h5
      clear h5
      go_wp2
      go_ret
      exact ⟨rfl, HB6.out⟩
    · by_cases h7 : p.kind = 5
      · have e5 : (p.kind != 5) = false := by simpa using h7
        clear h7
        go_wp2
        go_ret
        exact ⟨rfl, HB6.out⟩
      · have e5 : (p.kind != 5) = true := bne_iff_ne.2 h7
        clear h7 h5
        go_wp2
        go_ret
        exact ⟨rfl, HB6.out⟩
  · rw [hN]
    have HB5 := Lib.hid (HB4.out.alloc HB4.out.size (.cells (pkC (ackQ K p.id 0) hs0) PkT))
    have HP5 := Lib.hid (HP4.out.alloc (.cells (pkC (ackQ K p.id 0) hs0) PkT))
    have HQ5 := Lib.hid (Bk.fresh w4 PkT (pkC (ackQ K p.id 0) hs0))
    have m1 : IntKind.i64.wrap (p.kind + 1) = K := by rw [hK.1, IntKind.wrap_i64]; have := hK.2; omega
    have q1 : (ackQ K p.id 0).id = p.id := rfl
    have q2 : (ackQ K p.id 0).kind = K := rfl
    have e5 : (p.kind == 5) = true := beq_iff_eq.2 h5
    have k5 := fun i => HP5.out.cell i
    have j5 := fun i => HQ5.out.cell i
    clear h5 hN hK
    go_wp2_with fail
    refine (ackValid_any v (ackQ K p.id 0) hs0 _ (PkIn.zero _ _ _ _ _) (PkOk.zero _ _ _)).mono ?_
    rintro e w6 ⟨rfl, hb⟩
    have HB6 := Lib.hid (HB5.out.trans (hb.mono HB5.out.size)); have HP6 := Lib.hid (HP5.out.below hb HP5.out.lt); have HQ6 := Lib.hid (HQ5.out.below hb HQ5.out.lt)
    clear hb k5 j5
    rw [hV]
    clear hV
    have hl := ld_bk HQ6.out
    go_wp2_with fail
    refine (ackNext_any (ackQ K p.id 0) hs0 _).mono ?_
    rintro e w7 ⟨rfl, hb⟩
    have HB7 := Lib.hid (HB6.out.trans (hb.mono HB6.out.size)); have HP7 := Lib.hid (HP6.out.below hb HP6.out.lt)
    clear hb hl
    rw [hN2]
    clear hN2
    have HB8 := Lib.hid (HB7.out.alloc HB7.out.size (.cells (pkC (ackQ 7 p.id 0) hs0) PkT))
    have HP8 := Lib.hid (HP7.out.alloc (.cells (pkC (ackQ 7 p.id 0) hs0) PkT))
    go_wp2_with fail
    refine (ackNext_any (ackQ 7 p.id 0) hs0 _).mono ?_
    rintro e w9 ⟨rfl, hb⟩
    have HB9 := Lib.hid (HB8.out.trans (hb.mono HB8.out.size)); have HP9 := Lib.hid (HP8.out.below hb HP8.out.lt)
    clear hb
    rw [hN3]
    clear hN3
    have HBA := Lib.hid (HB9.out.alloc HB9.out.size (.cells (pkC pk0 hs0) PkT))
    have HPA := Lib.hid (HP9.out.alloc (.cells (pkC pk0 hs0) PkT))
    have kA := fun i => HPA.out.cell i
    go_wp2
    go_ret
    exact ⟨rfl, HBA.out⟩
  · rw [hN]
    have HB5 := Lib.hid (HB4.out.alloc HB4.out.size (.cells (pkC (ackQ K p.id 0) hs0) PkT))
    have HP5 := Lib.hid (HP4.out.alloc (.cells (pkC (ackQ K p.id 0) hs0) PkT))
    have HQ5 := Lib.hid (Bk.fresh w4 PkT (pkC (ackQ K p.id 0) hs0))
    have m1 : IntKind.i64.wrap (p.kind + 1) = K := by rw [hK.1, IntKind.wrap_i64]; have := hK.2; omega
    have q1 : (ackQ K p.id 0).id = p.id := rfl
    have q2 : (ackQ K p.id 0).kind = K := rfl
    have e5 : (p.kind == 5) = false := beq_eq_false_iff_ne.2 h5
    have k5 := fun i => HP5.out.cell i
    have j5 := fun i => HQ5.out.cell i
    clear h5 hN hK
    go_wp2_with fail
    refine (ackValid_any v (ackQ K p.id 0) hs0 _ (PkIn.zero _ _ _ _ _) (PkOk.zero _ _ _)).mono ?_
    rintro e w6 ⟨rfl, hb⟩
    have HB6 := Lib.hid (HB5.out.trans (hb.mono HB5.out.size)); have HP6 := Lib.hid (HP5.out.below hb HP5.out.lt); have HQ6 := Lib.hid (HQ5.out.below hb HQ5.out.lt)
    clear hb k5 j5
    rw [hV]
    clear hV
    have hl := ld_bk HQ6.out
    go_wp2_with fail
    refine (ackNext_any (ackQ K p.id 0) hs0 _).mono ?_
    rintro e w7 ⟨rfl, hb⟩
    have HB7 := Lib.hid (HB6.out.trans (hb.mono HB6.out.size)); have HP7 := Lib.hid (HP6.out.below hb HP6.out.lt)
    clear hb hl
    rw [hN2]
    clear hN2
    have HB8 := Lib.hid (HB7.out.alloc HB7.out.size (.cells (pkC pk0 hs0) PkT))
    have HP8 := Lib.hid (HP7.out.alloc (.cells (pkC pk0 hs0) PkT))
    go_wp2_with fail
    refine (ackNext_any pk0 hs0 _).mono ?_
    rintro e w9 ⟨rfl, hb⟩
    have HB9 := Lib.hid (HB8.out.trans (hb.mono HB8.out.size)); have HP9 := Lib.hid (HP8.out.below hb HP8.out.lt)
    clear hb
    rw [hN3]
    clear hN3
    have HBA := Lib.hid (HB9.out.alloc HB9.out.size (.cells (pkC pk0 hs0) PkT))
    have HPA := Lib.hid (HP9.out.alloc (.cells (pkC pk0 hs0) PkT))
    have kA := fun i => HPA.out.cell i
    go_wp2
    go_ret
    exact ⟨rfl, HBA.out⟩
end Go.Proofs.Ytdpeljnoaiaplaa
