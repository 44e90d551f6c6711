/- A part of what the laws stand on: MqI. -/
import Derived.Test.YtmkkjiogokfnmaaGreatDoorMbOpenK
namespace Go.Proofs.YtmkkjiogokfnmaaGreatDoor
open Go.RowKit
attribute [local go_sem ↓] to_ldPk to_bxPk to_bdPk to_alPk to_stPk
attribute [local go_sem] run_bxPk run_bxPk_agg ld_fresh run_alPk run_bd0 run_bdK run_bdKI run_bdKIC run_bdKC run_bdKICP run_stPk_fresh pkC_0 pkC_1 pkC_2 pkC_3 pkC_4 pkC_5 pkC_6 pkC_7 pkC_8 pkC_9 pkC_10 pkC_11 pkC_12 pkC_13 pkC_14 pkC_15 pkC_16 pkC_17 pkC_18 pkC_19 pkC_20 pkC_21 pkC_22 pkC_23 pkC_24
theorem toList_ne {a b : ByteArray} (h : a ≠ b) : (a.toList == b.toList) = false := by
  rw [beq_eq_false_iff_ne]
  intro e
  exact h ((toList_inj a b).1 e)
set_option maxHeartbeats 4000000 in
set_option maxRecDepth 10000 in
theorem mqttFronts_any (v : Int) (p q : Pk) (h k : Hs) (c : Int) (w : World) (ip : PkIn w w.heap.size p h) (iq : PkIn w w.heap.size q k) (ok : PkOk p) (oq : PkOk q) :
    Calls Tryz.prog 5 #[.int .i64 v, pkV p h, pkV q k, .int .i64 c] w fun e w' => e = .returned (.bool true) ∧ Below w.heap.size w w' := by
  have OK := Lib.hid ok; have OQ := Lib.hid oq
  have S0 := Lib.hid (((St.start w).push ip).push (iq.next ((Below.refl _ _).alloc (Nat.le_refl _) (.cells (pkC p h) PkT))))
  have hsz1 : (w.alloc (.cells (pkC p h) PkT)).heap.size = w.heap.size + 1 := by simp
  rw [hsz1] at S0
  clear ip iq ok oq hsz1
  go_enter Tryz.func5, Tryz.ntmps5
  go_wp2_with fail
  refine (lives13_any _).mono ?_
  rintro e w1 ⟨rfl, hb⟩
  have S1 := Lib.hid (S0.out.below hb); clear hb
  have hl := S1.out.ld 0 rfl
  go_wp2_with fail
  refine (lightK_any p h _ (S1.out.into 0 rfl) OK.out).mono ?_
  rintro e w2 ⟨rfl, hb⟩
  have S2 := Lib.hid (S1.out.below hb); clear hb hl
  cases hL : lightK p
  · go_wp2
    go_ret
    exact ⟨rfl, S2.out.kept⟩
  have HZ := Lib.hid (fit_of_light v hL)
  clear hL
  have hl := S2.out.ld 1 rfl
  go_wp2_with fail
  refine (lightK_any q k _ (S2.out.into 1 rfl) OQ.out).mono ?_
  rintro e w3 ⟨rfl, hb⟩
  have S3 := Lib.hid (S2.out.below hb); clear hb hl
  cases hL : lightK q
  · go_wp2
    go_ret
    exact ⟨rfl, S3.out.kept⟩
  have HZ2 := Lib.hid (fit_of_light v hL)
  clear hL
  have hl := S3.out.ld 0 rfl
  go_wp2_with fail
  refine (mqBytes_any v p h _ (S3.out.into 0 rfl) OK.out HZ.out).mono ?_
  rintro e w4 ⟨rfl, hb⟩
  have S4 := Lib.hid (S3.out.below hb); clear hb hl
  have hl := S4.out.ld 1 rfl
  go_wp2_with fail
  refine (mqBytes_any v q k _ (S4.out.into 1 rfl) OQ.out HZ2.out).mono ?_
  rintro e w5 ⟨rfl, hb⟩
  have S5 := Lib.hid (S4.out.below hb); clear hb hl
  rw [mqB_e, mqB_e]
  by_cases hE : mqE v p = 0
  rotate_left
  · generalize mqE v p = E at *
    generalize mqE v q = F at *
    have e0 : (E != 0) = true := bne_iff_ne.2 hE
    clear hE
    go_wp2
    go_ret
    exact ⟨rfl, S5.out.kept⟩
  by_cases hF : mqE v q = 0
  rotate_left
  · rw [hE]
    generalize mqE v q = F at *
    have e0 : (F != 0) = true := bne_iff_ne.2 hF
    clear hE hF
    go_wp2
    go_ret
    exact ⟨rfl, S5.out.kept⟩
  have hA : (mqB v p).1 = mqS v p := by unfold mqB; rw [if_pos hE]
  have hB : (mqB v q).1 = mqS v q := by unfold mqB; rw [if_pos hF]
  rw [hE, hF, hA, hB]
  have HCUT := Lib.hid (fun (s : ByteArray) (c : Nat) (hs : ls s = (ls (mqS v p)).take c) (hc : c < (mqS v p).size) => mqR_cut hE hs hc)
  have HFP := Lib.hid (fun (s : ByteArray) (R : List UInt8) (hs : ls s = ls (mqS v p) ++ R) => mqR_front hE (fun q hq => (OK.out.props q hq).1) (fun q hq => (OK.out.wp q hq).1) hs)
  have HFQ := Lib.hid (fun (s : ByteArray) (R : List UInt8) (hs : ls s = ls (mqS v q) ++ R) => mqR_front hF (fun r hq => (OQ.out.props r hq).1) (fun r hq => (OQ.out.wp r hq).1) hs)
  have HA2 := Lib.hid (mqS_two v p)
  have HAL := Lib.hid (mqS_le hE); have HBL := Lib.hid (mqS_le hF)
  clear hA hB hE hF
  generalize mqS v p = X at *
  generalize mqS v q = Y at *
  have HPK := Lib.hid (pick_any c X.size w5 (by have := HAL.out; omega))
  have hpk := pickN_lt c (m := (X.size : Int)) (by have := HA2.out; omega)
  obtain ⟨j, hj⟩ : ∃ j : Nat, pickN c X.size = j := ⟨(pickN c X.size).toNat, by omega⟩
  rw [hj] at HPK hpk
  have HJ : Hid (j < X.size) := Lib.hid (by omega)
  have HR3 : Hid (mqR v (X.extract 0 j) = (pk0, 0, 3)) := Lib.hid (HCUT.out _ j (by
    have := extract_ls X 0 j
    rwa [Nat.zero_add, List.drop_zero] at this) HJ.out)
  have HRD := Lib.hid (fun W => mqRead_any v (X.extract 0 j) W (by rw [ByteArray.size_extract]; have := HAL.out; omega))
  rw [HR3.out] at HRD
  have v1 : (0 : Int) ≤ (j : Int) := by omega
  have v2 : (j : Int) ≤ (X.size : Int) := by have := HJ.out; omega
  clear hj hpk HCUT HR3
  go_wp2_with fail
  refine HPK.out.mono ?_
  rintro e w6 ⟨rfl, hw6⟩
  subst hw6
  go_wp2_with fail
  refine (HRD.out _).mono ?_
  rintro e w7 hO
  obtain ⟨kk, rfl, hi, hb, -⟩ := hO
  have S6 := Lib.hid ((S5.out.below hb).push hi)
  clear hi hb HPK HRD v1 v2
  simp only at S6 ⊢
  by_cases hXY : Y.size < X.size
  · have d1 : (Y.size : Int) < (X.size : Int) := by omega
    clear hXY
    go_wp2
    go_ret
    exact ⟨rfl, S6.out.kept⟩
  have d1 : (X.size : Int) ≤ (Y.size : Int) := by omega
  have v1 : (0 : Int) ≤ (X.size : Int) := by omega
  have HSM : Hid (X = Y.extract 0 X.size → p = q) := Lib.hid (fun he => by
    have h1 : ls Y = ls X ++ (ls Y).drop X.size := by
      have h2 := extract_ls Y 0 X.size
      rw [Nat.zero_add, List.drop_zero, ← he] at h2
      rw [h2, List.take_append_drop]
    have h3 := HFP.out Y _ h1
    have h4 := HFQ.out Y [] (by rw [List.append_nil])
    rw [h3] at h4
    exact congrArg Prod.fst h4)
  clear hXY HFP HFQ
  obtain ⟨Z, hZ⟩ : ∃ Z, Y.extract 0 X.size = Z := ⟨_, rfl⟩
  rw [hZ] at HSM
  by_cases he : X = Z
  · have HPQ := Lib.hid (HSM.out he)
    have e1 : (X.toList == Z.toList) = true := by rw [he]; simp
    have hl0 := S6.out.ld 0 rfl
    have hl1 := S6.out.ld 1 rfl
    clear he HSM
    go_wp2_with fail
    refine (samePk_any p q h k _ (S6.out.into 0 rfl) (S6.out.into 1 rfl) OK.out.len OQ.out.len).mono ?_
    rintro e w8 ⟨rfl, hb⟩
    have S7 := Lib.hid (S6.out.below hb); clear hb hl0 hl1
    rw [decide_eq_true HPQ.out]
    go_wp2
    go_ret
    exact ⟨rfl, S7.out.kept⟩
  · have e1 := toList_ne he
    clear he HSM
    go_wp2
    go_ret
    exact ⟨rfl, S6.out.kept⟩
end Go.Proofs.YtmkkjiogokfnmaaGreatDoor

