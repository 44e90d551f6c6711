/- The law ControlBack: its walk. -/
import Derived.Test.YtdpeljnoaiaplaaConG
namespace Go.Proofs.Ytdpeljnoaiaplaa
open Go.RowKit
attribute [local go_sem ↓] to_ldPk to_bxPk to_bdPk to_alPk to_stPk
attribute [local go_sem] run_bxPk run_bxPk_agg ld_fresh run_alPk run_bd0 run_bdK run_bdKI run_bdKIC run_bdKC run_bdKICP run_stPk_fresh pkC_0 pkC_1 pkC_2 pkC_3 pkC_4 pkC_5 pkC_6 pkC_7 pkC_8 pkC_9 pkC_10 pkC_11 pkC_12 pkC_13 pkC_14 pkC_15 pkC_16 pkC_17 pkC_18 pkC_19 pkC_20 pkC_21 pkC_22 pkC_23 pkC_24

set_option maxHeartbeats 8000000 in
set_option maxRecDepth 10000 in
theorem controlBack_any (v : Int) (p : Pk) (h : Hs) (k : Int) (s : ByteArray) (w : World) (ip : PkIn w w.heap.size p h) (ok : PkOk p) (hs : s.size ≤ 140737488351232) :
    Calls Try.prog 13 #[.int .i64 v, pkV p h, .int .i64 k, .string s] w fun e w' => e = .returned (.bool true) ∧ Below w.heap.size w w' := by
  have OK := Lib.hid ok
  have HS := Lib.hid hs
  have S0 := Lib.hid ((St.start w).push ip)
  clear ip ok hs
  go_enter Try.func13, Try.ntmps13
  go_wp2_with fail
  refine (lives12_any _).mono ?_
  rintro e w1 ⟨rfl, hb⟩
  have S1 := Lib.hid (S0.out.below hb); clear hb
  have hl := S1.out.ld 0 rfl
  go_wp2_with fail
  refine (lightK_any p h _ (S1.out.into 0 rfl) OK.out).mono ?_
  rintro e w2 ⟨rfl, hb⟩
  have S2 := Lib.hid (S1.out.below hb); clear hb hl
  cases hL : lightK p
  · go_wp2
    go_ret
    exact ⟨rfl, S2.out.kept⟩
  clear hL
  by_cases hs1 : 2000 < s.size
  · have d2 : (2000 : Int) < (s.size : Int) := by omega
    clear hs1
    go_wp2
    go_ret
    exact ⟨rfl, S2.out.kept⟩
  have d2 : (s.size : Int) ≤ 2000 := by omega
  clear hs1
  have hl := S2.out.ld 0 rfl
  go_wp2_with fail
  refine (conBody_any v p h _ (S2.out.into 0 rfl) OK.out).mono ?_
  rintro e w3 ⟨rfl, hb⟩
  have S3 := Lib.hid (S2.out.below hb); clear hb hl
  have hl := S3.out.ld 0 rfl
  go_wp2_with fail
  refine (conValid_any v p h _ (S3.out.into 0 rfl) OK.out).mono ?_
  rintro e w4 ⟨rfl, hb⟩
  have S4 := Lib.hid (S3.out.below hb); clear hb hl
  by_cases hE : conE v p = 0
  · have G := conE_good hE
    have hB : conB v p = (tailS p.code p.props p.kind, 0) := by unfold conB; rw [if_pos hE]
    have ht2 := (tail_len p.kind p.code p.props).1
    rw [← G.tail] at ht2
    rw [hB, hE]
    simp only
    have hts : (tailS p.code p.props p.kind).length ≤ 131075005 := by
      rw [G.tail]
      have hbs := (bytesS_size p.kind p.props G.bytes).2
      unfold tailL
      split
      · simp
      · rw [List.length_append, putL_len]
        split
        · simp
        · omega
    obtain ⟨X, hX⟩ : ∃ X : ByteArray, (⟨(tailS p.code p.props p.kind).toArray⟩ : ByteArray) = X := ⟨_, rfl⟩
    have HXL : Hid (ls X = tailS p.code p.props p.kind) := Lib.hid (by rw [← hX, ls_mk])
    have HXT := Lib.hid hX
    have hXS : X.size = (tailS p.code p.props p.kind).length := by rw [← hX, mk_size]
    have HXS : Hid (X.size ≤ 131075007) := Lib.hid (by omega)
    rw [hX]
    rw [← hXS] at ht2
    have HT2 := Lib.hid ht2
    clear hX hB hts hXS ht2
    have HR : Hid (conR v p.kind X = (p, 0)) := Lib.hid (conR_front G (fun q hq => (OK.out.props q hq).1) HXL.out)
    have k4 := S4.out.cell 0 rfl 0
    rw [pkC_0] at k4
    clear G hE
    go_wp2_with fail
    refine (conRead_any v p.kind X _ (by have := HXS.out; omega)).mono ?_
    rintro e w5 hO
    rw [HR.out] at hO
    obtain ⟨k5, rfl, hi, hb⟩ := hO
    have S5 := Lib.hid ((S4.out.below hb).push hi)
    clear hi hb k4
    have hl0 := S5.out.ld 0 rfl
    have hl1 := S5.out.ld 1 rfl
    simp only at hl0 hl1 ⊢
    go_wp2_with fail
    refine (samePk_any p p k5 h _ (S5.out.into 1 rfl) (S5.out.into 0 rfl) OK.out.len OK.out.len).mono ?_
    rintro e w6 ⟨rfl, hb⟩
    have S6 := Lib.hid (S5.out.below hb); clear hb hl0 hl1
    rw [decide_eq_true rfl]
    have k6 := S6.out.cell 0 rfl 21
    have k7 := S6.out.cell 0 rfl 24
    rw [pkC_21] at k6
    rw [pkC_24] at k7
    have k9 := S6.out.cell 0 rfl 0
    rw [pkC_0] at k9
    have hem := empty_iff X
    by_cases hz : p.code = 0 ∧ p.props.length = 0
    · rw [decide_eq_true (HT2.out.2 hz)] at hem
      have z1 : ((p.props.length : Int) == 0) = true := beq_iff_eq.2 (by omega)
      have z2 : (p.code == 0) = true := beq_iff_eq.2 hz.1
      clear hz
      go_wp2_with fail
      refine (tailS_any p.code p.kind p.props _ rfl OK.out.props h.props.a h.props.c _ (S6.out.into 0 rfl).props OK.out.len.2.2.2).mono ?_
      rintro e w9 ⟨rfl, hb⟩
      have S7 := Lib.hid (S6.out.below hb); clear hb
      rw [HXT.out]
      go_wp2_with fail
      refine (conRead_any v k s _ HS.out).mono ?_
      rintro e w10 hO
      rcases conR_ways v k s with ⟨hr, hne⟩ | ⟨h0, hg, hk, hput⟩
      · rw [hr] at hO
        obtain ⟨kk, rfl, hi, hb⟩ := hO
        generalize (conR v k s).2 = E at *
        have e9 : (E != 0) = true := bne_iff_ne.2 hne
        have T7 := Lib.hid ((S7.out.below hb).push hi)
        have hl7 := T7.out.ld 2 rfl
        clear hr hne hi hb
        simp only at T7 hl7 ⊢
        go_wp2_with fail
        refine (none_any pk0 kk _ (T7.out.into 2 rfl) pk0_len).mono ?_
        rintro e w11 ⟨rfl, hb⟩
        have T8 := Lib.hid (T7.out.below hb); clear hb
        rw [decide_eq_true rfl]
        go_wp2
        go_ret
        exact ⟨rfl, T8.out.kept⟩
      · obtain ⟨kk, rfl, hi, hb⟩ := hO
        have hq := conR_ok (v := v) (k := k) HS.out
        generalize conR v k s = R at *
        obtain ⟨q, E⟩ := R
        simp only at h0 hg hk hput hi hq ⊢
        subst h0
        have HQ := Lib.hid hq
        have HB2 : Hid (conB v q = (ls s, 0)) := Lib.hid (by unfold conB; rw [if_pos hg.ok, hput])
        have T7 := Lib.hid ((S7.out.below hb).push hi)
        have hl7 := T7.out.ld 2 rfl
        have HKK := Lib.hid hk
        clear hg hk hput hi hb hq
        go_wp2_with fail
        refine (conBody_any v q kk _ (T7.out.into 2 rfl) HQ.out).mono ?_
        rintro e w11 ⟨rfl, hb⟩
        have T8 := Lib.hid (T7.out.below hb); clear hb hl7
        rw [HB2.out]
        simp only [mk_ls]
        have k8 := (T8.out.cell 2 rfl 0)
        rw [pkC_0, HKK.out] at k8
        go_wp2
        go_ret
        exact ⟨rfl, T8.out.kept⟩
    · rw [decide_eq_false (fun x => hz (HT2.out.1 x))] at hem
      by_cases hc : p.code = 0
      · have z1 : ((p.props.length : Int) == 0) = false := beq_eq_false_iff_ne.2 (fun x => hz ⟨hc, by omega⟩)
        have z2 : (p.code == 0) = true := beq_iff_eq.2 hc
        clear hz hc
        go_wp2_with fail
        refine (tailS_any p.code p.kind p.props _ rfl OK.out.props h.props.a h.props.c _ (S6.out.into 0 rfl).props OK.out.len.2.2.2).mono ?_
        rintro e w9 ⟨rfl, hb⟩
        have S7 := Lib.hid (S6.out.below hb); clear hb
        rw [HXT.out]
        go_wp2_with fail
        refine (conRead_any v k s _ HS.out).mono ?_
        rintro e w10 hO
        rcases conR_ways v k s with ⟨hr, hne⟩ | ⟨h0, hg, hk, hput⟩
        · rw [hr] at hO
          obtain ⟨kk, rfl, hi, hb⟩ := hO
          generalize (conR v k s).2 = E at *
          have e9 : (E != 0) = true := bne_iff_ne.2 hne
          have T7 := Lib.hid ((S7.out.below hb).push hi)
          have hl7 := T7.out.ld 2 rfl
          clear hr hne hi hb
          simp only at T7 hl7 ⊢
          go_wp2_with fail
          refine (none_any pk0 kk _ (T7.out.into 2 rfl) pk0_len).mono ?_
          rintro e w11 ⟨rfl, hb⟩
          have T8 := Lib.hid (T7.out.below hb); clear hb
          rw [decide_eq_true rfl]
          go_wp2
          go_ret
          exact ⟨rfl, T8.out.kept⟩
        · obtain ⟨kk, rfl, hi, hb⟩ := hO
          have hq := conR_ok (v := v) (k := k) HS.out
          generalize conR v k s = R at *
          obtain ⟨q, E⟩ := R
          simp only at h0 hg hk hput hi hq ⊢
          subst h0
          have HQ := Lib.hid hq
          have HB2 : Hid (conB v q = (ls s, 0)) := Lib.hid (by unfold conB; rw [if_pos hg.ok, hput])
          have T7 := Lib.hid ((S7.out.below hb).push hi)
          have hl7 := T7.out.ld 2 rfl
          have HKK := Lib.hid hk
          clear hg hk hput hi hb hq
          go_wp2_with fail
          refine (conBody_any v q kk _ (T7.out.into 2 rfl) HQ.out).mono ?_
          rintro e w11 ⟨rfl, hb⟩
          have T8 := Lib.hid (T7.out.below hb); clear hb hl7
          rw [HB2.out]
          simp only [mk_ls]
          have k8 := (T8.out.cell 2 rfl 0)
          rw [pkC_0, HKK.out] at k8
          go_wp2
          go_ret
          exact ⟨rfl, T8.out.kept⟩
      · have z2 : (p.code == 0) = false := beq_eq_false_iff_ne.2 hc
        clear hz hc
        go_wp2_with fail
        refine (tailS_any p.code p.kind p.props _ rfl OK.out.props h.props.a h.props.c _ (S6.out.into 0 rfl).props OK.out.len.2.2.2).mono ?_
        rintro e w9 ⟨rfl, hb⟩
        have S7 := Lib.hid (S6.out.below hb); clear hb
        rw [HXT.out]
        go_wp2_with fail
        refine (conRead_any v k s _ HS.out).mono ?_
        rintro e w10 hO
        rcases conR_ways v k s with ⟨hr, hne⟩ | ⟨h0, hg, hk, hput⟩
        · rw [hr] at hO
          obtain ⟨kk, rfl, hi, hb⟩ := hO
          generalize (conR v k s).2 = E at *
          have e9 : (E != 0) = true := bne_iff_ne.2 hne
          have T7 := Lib.hid ((S7.out.below hb).push hi)
          have hl7 := T7.out.ld 2 rfl
          clear hr hne hi hb
          simp only at T7 hl7 ⊢
          go_wp2_with fail
          refine (none_any pk0 kk _ (T7.out.into 2 rfl) pk0_len).mono ?_
          rintro e w11 ⟨rfl, hb⟩
          have T8 := Lib.hid (T7.out.below hb); clear hb
          rw [decide_eq_true rfl]
          go_wp2
          go_ret
          exact ⟨rfl, T8.out.kept⟩
        · obtain ⟨kk, rfl, hi, hb⟩ := hO
          have hq := conR_ok (v := v) (k := k) HS.out
          generalize conR v k s = R at *
          obtain ⟨q, E⟩ := R
          simp only at h0 hg hk hput hi hq ⊢
          subst h0
          have HQ := Lib.hid hq
          have HB2 : Hid (conB v q = (ls s, 0)) := Lib.hid (by unfold conB; rw [if_pos hg.ok, hput])
          have T7 := Lib.hid ((S7.out.below hb).push hi)
          have hl7 := T7.out.ld 2 rfl
          have HKK := Lib.hid hk
          clear hg hk hput hi hb hq
          go_wp2_with fail
          refine (conBody_any v q kk _ (T7.out.into 2 rfl) HQ.out).mono ?_
          rintro e w11 ⟨rfl, hb⟩
          have T8 := Lib.hid (T7.out.below hb); clear hb hl7
          rw [HB2.out]
          simp only [mk_ls]
          have k8 := (T8.out.cell 2 rfl 0)
          rw [pkC_0, HKK.out] at k8
          go_wp2
          go_ret
          exact ⟨rfl, T8.out.kept⟩
  · have hB : conB v p = ([], conE v p) := by unfold conB; rw [if_neg hE]
    rw [hB]
    generalize conE v p = E at *
    have e0 : (E == 0) = false := beq_eq_false_iff_ne.2 hE
    clear hB hE
    simp only
    go_wp2_with fail
    refine (conRead_any v k s _ HS.out).mono ?_
    rintro e w7 hO
    rcases conR_ways v k s with ⟨hr, hne⟩ | ⟨h0, hg, hk, hput⟩
    · rw [hr] at hO
      obtain ⟨kk, rfl, hi, hb⟩ := hO
      generalize (conR v k s).2 = E at *
      have e9 : (E != 0) = true := bne_iff_ne.2 hne
      have T7 := Lib.hid ((S4.out.below hb).push hi)
      have hl7 := T7.out.ld 1 rfl
      clear hr hne hi hb
      simp only at T7 hl7 ⊢
      go_wp2_with fail
      refine (none_any pk0 kk _ (T7.out.into 1 rfl) pk0_len).mono ?_
      rintro e w8 ⟨rfl, hb⟩
      have T8 := Lib.hid (T7.out.below hb); clear hb
      rw [decide_eq_true rfl]
      go_wp2
      go_ret
      exact ⟨rfl, T8.out.kept⟩
    · obtain ⟨kk, rfl, hi, hb⟩ := hO
      have hq := conR_ok (v := v) (k := k) HS.out
      generalize conR v k s = R at *
      obtain ⟨q, E⟩ := R
      simp only at h0 hg hk hput hi hq ⊢
      subst h0
      have HQ := Lib.hid hq
      have HB2 : Hid (conB v q = (ls s, 0)) := Lib.hid (by unfold conB; rw [if_pos hg.ok, hput])
      have T7 := Lib.hid ((S4.out.below hb).push hi)
      have hl7 := T7.out.ld 1 rfl
      have HKK := Lib.hid hk
      clear hg hk hput hi hb hq
      go_wp2_with fail
      refine (conBody_any v q kk _ (T7.out.into 1 rfl) HQ.out).mono ?_
      rintro e w8 ⟨rfl, hb⟩
      have T8 := Lib.hid (T7.out.below hb); clear hb hl7
      rw [HB2.out]
      simp only [mk_ls]
      have k8 := (T8.out.cell 1 rfl 0)
      rw [pkC_0, HKK.out] at k8
      go_wp2
      go_ret
      exact ⟨rfl, T8.out.kept⟩
end Go.Proofs.Ytdpeljnoaiaplaa
