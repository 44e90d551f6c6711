/- The law ConnectBack: the walk. -/
import Derived.Test.YtceniaklabiadaaGreatCntR
import Derived.Test.YtceniaklabiadaaGreatCntH
namespace Go.Proofs.YtceniaklabiadaaGreat
open Go.RowKit
attribute [local go_sem ↓] to_ldPk to_bxPk to_bdPk to_alPk to_stPk
attribute [local go_sem] run_bxPk run_bxPk_agg ld_fresh run_alPk run_bd0 run_bdK run_bdKI run_bdKIC run_bdKC run_bdKICP run_stPk_fresh pkC_0 pkC_1 pkC_2 pkC_3 pkC_4 pkC_5 pkC_6 pkC_7 pkC_8 pkC_9 pkC_10 pkC_11 pkC_12 pkC_13 pkC_14 pkC_15 pkC_16 pkC_17 pkC_18 pkC_19 pkC_20 pkC_21 pkC_22 pkC_23 pkC_24

/-! ### Sizes of bodies -/
theorem ackS8_size (v : Int) (p : Pk) : (ackS8 v p).size ≤ 131075010 ∧ 2 ≤ (ackS8 v p).size := by
  unfold ackS8
  rw [catL_size]
  simp only [List.map, List.sum_cons, List.sum_nil]
  have h1 := tail8_size v p.kind p.props
  have h2 : (⟨(putL p.code.toNat 1).toArray⟩ : ByteArray).size = 1 := by rw [mk_size, putL_len]
  have h3 : (⟨#[if p.session = true then (1 : UInt8) else 0]⟩ : ByteArray).size = 1 := rfl
  omega
theorem cntS_size (v : Int) (p : Pk) : (cntS v p).size ≤ 600000000 ∧ 6 ≤ (cntS v p).size := by
  have h1 : (cntS1 v p).size ≤ 131140700 ∧ 6 ≤ (cntS1 v p).size := by
    unfold cntS1
    rw [catL_size]
    simp only [List.map, List.sum_cons, List.sum_nil]
    have h1 := tail8_size v p.kind p.props
    have h2 : (⟨(putL v.toNat 1).toArray⟩ : ByteArray).size = 1 := by rw [mk_size, putL_len]
    have h3 : (⟨(putL (flN p).toNat 1).toArray⟩ : ByteArray).size = 1 := by rw [mk_size, putL_len]
    have h4 : (⟨(putL p.alive.toNat 2).toArray⟩ : ByteArray).size = 2 := by rw [mk_size, putL_len]
    have h5 := dataB_size p.client
    have h6 : cntName.size = 6 := rfl
    omega
  have h2 : (cntS2 v p).size ≤ 262346900 ∧ 6 ≤ (cntS2 v p).size := by
    unfold cntS2
    split
    · rw [catL_size]
      simp only [List.map, List.sum_cons, List.sum_nil]
      have h3 := tail8_size v 16 p.will.props
      have h5 := dataB_size p.will.topic
      have h6 := dataB_size p.will.payload
      omega
    · omega
  have h3 : (cntS3 v p).size ≤ 262446900 ∧ 6 ≤ (cntS3 v p).size := by
    unfold cntS3
    split
    · rw [catL_size]
      simp only [List.map, List.sum_cons, List.sum_nil]
      have h5 := dataB_size p.user
      omega
    · omega
  unfold cntS
  split
  · rw [catL_size]
    simp only [List.map, List.sum_cons, List.sum_nil]
    have h5 := dataB_size p.pass
    omega
  · omega
theorem cntB_size {v : Int} {p : Pk} (x : cntE v p = 0) : (cntB v p).1.size ≤ 600000000 ∧ 2 ≤ (cntB v p).1.size := by
  rw [cntB_zero x]
  have h1 := ackS8_size v p
  have h2 := cntS_size v p
  simp only
  split <;> omega
theorem cntB_bad {v : Int} {p : Pk} (x : cntE v p ≠ 0) : cntB v p = (⟨#[]⟩, cntE v p) := by
  unfold cntB cntB2
  rw [if_neg x, if_neg x]
  split <;> rfl
theorem pickN_lt (n : Int) {m : Int} (h : 1 ≤ m) : 0 ≤ pickN n m ∧ pickN n m < m := by
  unfold pickN
  rw [if_neg (by omega)]
  exact ⟨Int.emod_nonneg _ (by omega), Int.emod_lt_of_pos _ (by omega)⟩
theorem SR.of {gp : Nat} {v : Value} {W y : World} (hk : W.cell? ⟨gp, 0, none⟩ = some v) (hb : Below W.heap.size W y) : SR gp v W y := ⟨(hb.cell (p := ⟨gp, 0, none⟩) (World.block_lt_of_cell? _ _ hk)).trans hk, hb⟩
theorem example_cnt' : cntB2 4 { pk0 with kind := 2, code := 5 } = (⟨#[0, 5]⟩, 0) := by decide +kernel
set_option maxHeartbeats 1000000 in
set_option maxRecDepth 10000 in
theorem lives08_any (w : World) :
    Calls Tryz.prog 40 #[] w fun e w' => e = .returned (.bool true) ∧ Below w.heap.size w w' := by
  go_enter Tryz.func40, Tryz.ntmps40
  go_wp2_with fail
  refine (cntBody2_any 4 { pk0 with kind := 2, code := 5 } hs0 _ (PkIn.zero _ _ 2 0 5) (PkOk.zero 2 0 5) rfl).mono ?_
  rintro e w1 ⟨rfl, hb⟩
  have HB := Lib.hid hb; clear hb
  rw [example_cnt']
  go_wp2
  go_ret
  exact ⟨rfl, HB.out⟩
set_option maxHeartbeats 1000000 in
set_option maxRecDepth 10000 in
theorem connectBack_any (v : Int) (p : Pk) (h : Hs) (k : Int) (s : ByteArray) (cut : Int) (w : World) (ip : PkIn w w.heap.size p h) (ok : PkOk p) (hs : s.size ≤ 140737488351232) :
    Calls Tryz.prog 8 #[.int .i64 v, pkV p h, .int .i64 k, .string s, .int .i64 cut] w fun e w' => e = .returned (.bool true) ∧ Below w.heap.size w w' := by
  have OK := Lib.hid ok
  have HS := Lib.hid hs
  have S0 := Lib.hid ((St.start w).push ip)
  clear ip ok hs
  go_enter Tryz.func8, Tryz.ntmps8
  go_wp2_with fail
  refine (lives08_any _).mono ?_
  rintro e w1 ⟨rfl, hb⟩
  have S1 := Lib.hid (S0.out.below hb); clear hb
  have hl := S1.out.ld 0 rfl
  go_wp2_with fail
  refine (lightK_any p h _ (S1.out.into 0 rfl) OK.out).mono ?_
  rintro e w2 ⟨rfl, hb⟩
  have S2 := Lib.hid (S1.out.below hb); clear hb hl
  cases hL : lightK p
  · go_wp2
    go_ret
    exact ⟨rfl, S2.out.kept⟩
  clear hL
  by_cases hs1 : 2000 < s.size
  · have d2 : (2000 : Int) < (s.size : Int) := by omega
    clear hs1
    go_wp2
    go_ret
    exact ⟨rfl, S2.out.kept⟩
  have d2 : (s.size : Int) ≤ 2000 := by omega
  clear hs1
  have hl := S2.out.ld 0 rfl
  go_wp2_with fail
  refine (cntBody_any v p h _ (S2.out.into 0 rfl) OK.out).mono ?_
  rintro e w3 ⟨rfl, hb⟩
  have S3 := Lib.hid (S2.out.below hb); clear hb hl
  have hl := S3.out.ld 0 rfl
  go_wp2_with fail
  refine (cntValid_any v p h _ (S3.out.into 0 rfl) OK.out).mono ?_
  rintro e w4 ⟨rfl, hb⟩
  have S4 := Lib.hid (S3.out.below hb); clear hb hl
  by_cases hE : cntE v p = 0
  · have HE := Lib.hid hE
    have HXS := Lib.hid (cntB_size hE)
    have HR : Hid (cntR v p.kind (cntB v p).1 = (p, 0)) := Lib.hid (cntR_front hE (fun q hq => (OK.out.props q hq).1) (fun q hq => (OK.out.wp q hq).1))
    have HCU : Hid (∀ (t : ByteArray) (R : List UInt8), ls (cntB v p).1 = ls t ++ R → R ≠ [] → t.size ≤ 140737488351232 → (cntR v p.kind t).2 ≠ 0) := Lib.hid (fun t R h1 h2 h3 => cntR_cut hE (fun q hq => (OK.out.props q hq).1) (fun q hq => (OK.out.wp q hq).1) h1 h2 h3)
    have hB : (cntB v p).2 = 0 := by rw [cntB_zero hE]
    rw [hB, hE]
    obtain ⟨X, hX⟩ : ∃ X, (cntB v p).1 = X := ⟨_, rfl⟩
    rw [hX] at HR HXS HCU ⊢
    clear hX hB hE HE
    have k4 := S4.out.cell 0 rfl 0
    rw [pkC_0] at k4
    go_wp2_with fail
    refine (cntRead_any v p.kind X _ (by have := HXS.out; omega)).mono ?_
    rintro e w5 hO
    rw [HR.out] at hO
    obtain ⟨k5, rfl, hi, hb⟩ := hO
    have S5 := Lib.hid ((S4.out.below hb).push hi)
    clear hi hb k4
    have hl0 := S5.out.ld 0 rfl
    have hl1 := S5.out.ld 1 rfl
    simp only at hl0 hl1 ⊢
    go_wp2_with fail
    refine (samePk_any p p k5 h _ (S5.out.into 1 rfl) (S5.out.into 0 rfl) OK.out.len OK.out.len).mono ?_
    rintro e w6 ⟨rfl, hb⟩
    have S6 := Lib.hid (S5.out.below hb); clear hb hl0 hl1
    rw [decide_eq_true rfl]
    have k4 := S6.out.cell 0 rfl 0
    rw [pkC_0] at k4
    obtain ⟨j, hj, hpk⟩ : ∃ j : Nat, j < X.size ∧ pickN cut (X.size : Int) = (j : Int) := by
      have := pickN_lt cut (m := (X.size : Int)) (by have := HXS.out; omega)
      exact ⟨(pickN cut (X.size : Int)).toNat, by omega, by omega⟩
    have HJ := Lib.hid hj
    have j1 : (0 : Int) ≤ (j : Int) := by omega
    have j2 : (j : Int) ≤ (X.size : Int) := by omega
    have j3 : j ≤ X.size := by omega
    clear hj
    have HP := Lib.hid (fun x : World => pick_any cut (X.size : Int) x (by have := HXS.out; omega))
    rw [hpk] at HP
    clear hpk
    have HSZ : Hid ((X.extract 0 j).size ≤ 140737488351232) := Lib.hid (by rw [ByteArray.size_extract]; have := HXS.out; omega)
    have HNE : Hid ((cntR v p.kind (X.extract 0 j)).2 ≠ 0) := Lib.hid (by
      refine HCU.out (X.extract 0 j) ((ls X).drop j) ?_ ?_ HSZ.out
      · have := take_ls (t := X) (a := 0) (k := j) (by omega)
        rw [Nat.zero_add] at this
        exact this
      · intro hd
        have := congrArg List.length hd
        rw [List.length_drop, ls_len, List.length_nil] at this
        have := HJ.out
        omega)
    have HRD := Lib.hid (fun x : World => cntRead_any v p.kind (X.extract 0 j) x HSZ.out)
    have HRZ : Hid (cntR v p.kind (X.extract 0 j) = (pk0, (cntR v p.kind (X.extract 0 j)).2)) := Lib.hid (Prod.ext (cntR_none HNE.out) rfl)
    obtain ⟨E, hE⟩ : ∃ E, (cntR v p.kind (X.extract 0 j)).2 = E := ⟨_, rfl⟩
    rw [hE] at HNE HRZ
    rw [HRZ.out] at HRD
    clear hE HRZ HCU HSZ
    have e9 : (E == 0) = false := beq_eq_false_iff_ne.2 HNE.out
    go_wp2_with fail
    go_cut [16] (fun a wx => a = .int .i64 E ∧ Below w6.heap.size w6 wx)
    case first =>
      have kA : (w6.alloc (.cells (pkC pk0 hs0) PkT)).cell? ⟨w.heap.size, 0, none⟩ = some (.int .i64 p.kind) := (SR.of k4 ((Below.refl _ _).alloc (Nat.le_refl _) _)).1
      go_region_law ((first | (go_simp; go_at_call 50; refine (HP.out _).mono ?_; rintro e x1 ⟨rfl, rfl⟩) | (go_simp; go_at_call 43; refine (HRD.out w6.drew).mono ?_; rintro e x2 ⟨kr, rfl, hi, hbR⟩; have hB2 : Below w6.heap.size w6 x2 := (below_drawn (Below.refl w6.heap.size w6) 1).trans (hbR.mono (Nat.le_refl _))) | (go_simp; go_at_call 43; refine (HRD.out ((w6.alloc (.cells (pkC pk0 hs0) PkT)).drew)).mono ?_; rintro e x2 ⟨kr, rfl, hi, hbR⟩; have hA := (below_drawn ((Below.refl w6.heap.size w6).alloc (Nat.le_refl _) (.cells (pkC pk0 hs0) PkT)) 1); have hB2 : Below w6.heap.size w6 x2 := hA.trans (hbR.mono hA.size); have hst := run_stPk (((Bk.fresh w6 PkT (pkC pk0 hs0)).drewN 1).below hbR (by simp)))))
      all_goals
        go_wp2
        go_meet
        case rel =>
          refine ⟨rfl, ?_⟩
          first | with_reducible exact hB2 | with_reducible exact hB2.alloc hB2.size _ | with_reducible exact below_put hB2 hB2.size (Nat.le_refl _) _ _ | (trace_state; fail)
    case rest =>
      obtain ⟨rfl, hbx⟩ := hcut
      have S7 := Lib.hid (S6.out.below hbx); clear hbx k4
      go_wp2_with fail
      refine (cntRead_any v k s _ HS.out).mono ?_
      rintro e w7 hO
      have hq := cntR_ok (v := v) (k := k) HS.out
      by_cases hne : (cntR v k s).2 = 0
      rotate_left
      · have hr : cntR v k s = (pk0, (cntR v k s).2) := Prod.ext (cntR_none hne) rfl
        rw [hr] at hO
        obtain ⟨kk, rfl, hi, hb⟩ := hO
        generalize (cntR v k s).2 = E at *
        have e9 : (E != 0) = true := bne_iff_ne.2 hne
        have T7 := Lib.hid ((S7.out.below hb).push hi)
        have hl7 := T7.out.ld 2 rfl
        clear hr hne hi hb hq
        simp only at T7 hl7 ⊢
        go_wp2_with fail
        refine (none_any pk0 kk _ (T7.out.into 2 rfl) pk0_len).mono ?_
        rintro e w8 ⟨rfl, hb⟩
        have T8 := Lib.hid (T7.out.below hb); clear hb
        rw [decide_eq_true rfl]
        go_wp2
        go_ret
        exact ⟨rfl, T8.out.kept⟩
      · have hr : cntR v k s = ((cntR v k s).1, 0) := Prod.ext rfl hne
        obtain ⟨-, hB2, hk⟩ := cntR_back hr
        rw [hr] at hO
        generalize (cntR v k s).1 = q at *
        obtain ⟨kk, rfl, hi, hb⟩ := hO
        simp only at hi ⊢
        have HQ := Lib.hid hq
        have HB2 := Lib.hid hB2
        have T7 := Lib.hid ((S7.out.below hb).push hi)
        have hl7 := T7.out.ld 2 rfl
        have HKK := Lib.hid hk
        clear hr hne hk hi hb hq hB2
        go_wp2_with fail
        refine (cntBody_any v q kk _ (T7.out.into 2 rfl) HQ.out).mono ?_
        rintro e w8 ⟨rfl, hb⟩
        have T8 := Lib.hid (T7.out.below hb); clear hb hl7
        rw [HB2.out]
        simp only
        have k8 := (T8.out.cell 2 rfl 0)
        rw [pkC_0, HKK.out] at k8
        go_wp2
        go_ret
        exact ⟨rfl, T8.out.kept⟩
  · rw [cntB_bad hE]
    generalize cntE v p = E at *
    have e0 : (E == 0) = false := beq_eq_false_iff_ne.2 hE
    clear hE
    simp only
    go_wp2_with fail
    refine (cntRead_any v k s _ HS.out).mono ?_
    rintro e w7 hO
    have hq := cntR_ok (v := v) (k := k) HS.out
    by_cases hne : (cntR v k s).2 = 0
    rotate_left
    · have hr : cntR v k s = (pk0, (cntR v k s).2) := Prod.ext (cntR_none hne) rfl
      rw [hr] at hO
      obtain ⟨kk, rfl, hi, hb⟩ := hO
      generalize (cntR v k s).2 = E at *
      have e9 : (E != 0) = true := bne_iff_ne.2 hne
      have T7 := Lib.hid ((S4.out.below hb).push hi)
      have hl7 := T7.out.ld 1 rfl
      clear hr hne hi hb hq
      simp only at T7 hl7 ⊢
      go_wp2_with fail
      refine (none_any pk0 kk _ (T7.out.into 1 rfl) pk0_len).mono ?_
      rintro e w8 ⟨rfl, hb⟩
      have T8 := Lib.hid (T7.out.below hb); clear hb
      rw [decide_eq_true rfl]
      go_wp2
      go_ret
      exact ⟨rfl, T8.out.kept⟩
    · have hr : cntR v k s = ((cntR v k s).1, 0) := Prod.ext rfl hne
      obtain ⟨-, hB2, hk⟩ := cntR_back hr
      rw [hr] at hO
      generalize (cntR v k s).1 = q at *
      obtain ⟨kk, rfl, hi, hb⟩ := hO
      simp only at hi ⊢
      have HQ := Lib.hid hq
      have HB2 := Lib.hid hB2
      have T7 := Lib.hid ((S4.out.below hb).push hi)
      have hl7 := T7.out.ld 1 rfl
      have HKK := Lib.hid hk
      clear hr hne hk hi hb hq hB2
      go_wp2_with fail
      refine (cntBody_any v q kk _ (T7.out.into 1 rfl) HQ.out).mono ?_
      rintro e w8 ⟨rfl, hb⟩
      have T8 := Lib.hid (T7.out.below hb); clear hb hl7
      rw [HB2.out]
      simp only
      have k8 := (T8.out.cell 1 rfl 0)
      rw [pkC_0, HKK.out] at k8
      go_wp2
      go_ret
      exact ⟨rfl, T8.out.kept⟩
end Go.Proofs.YtceniaklabiadaaGreat
