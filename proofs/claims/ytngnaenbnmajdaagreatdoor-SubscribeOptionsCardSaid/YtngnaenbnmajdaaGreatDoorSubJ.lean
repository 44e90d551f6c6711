/- The law SubscribeBack: its walk. -/
import Derived.Test.YtngnaenbnmajdaaGreatDoorMSubG
import Derived.Test.YtngnaenbnmajdaaGreatDoorOwnK
namespace Go.Proofs.YtngnaenbnmajdaaGreatDoor
open Go.RowKit
attribute [local go_sem ↓] to_ldPk to_bxPk to_bdPk to_alPk to_stPk
attribute [local go_sem] run_bxPk run_bxPk_agg ld_fresh run_alPk run_bd0 run_bdK run_bdKI run_bdKIC run_bdKC run_bdKICP run_stPk_fresh pkC_0 pkC_1 pkC_2 pkC_3 pkC_4 pkC_5 pkC_6 pkC_7 pkC_8 pkC_9 pkC_10 pkC_11 pkC_12 pkC_13 pkC_14 pkC_15 pkC_16 pkC_17 pkC_18 pkC_19 pkC_20 pkC_21 pkC_22 pkC_23 pkC_24
theorem fi_size (k : Int) : ∀ l : List Fi, (l.flatMap (fiL k)).length ≤ ft l + 3 * l.length
  | [] => Nat.le_refl _
  | f :: l => by
    have h := fi_size k l
    have h1 : (fiL k f).length ≤ f.topic.size + 3 := by
      unfold fiL
      rw [List.length_append, ls_len, framedS_size]
      split
      · simp
      · simp
    have h2 : ft (f :: l) = f.topic.size + ft l := by unfold ft; simp
    rw [List.flatMap_cons, List.length_append, List.length_cons, h2]
    omega
theorem tail8L_size (v k : Int) (l : List Pr) : (tailL8 v k l).length ≤ 131075004 := by
  unfold tailL8
  split
  · simp
  · by_cases h : (bytesS k l).2 = 0
    · exact (bytesS_size k l h).2
    · rw [bytesS_bad k l h]; simp
theorem light_size (v : Int) {p : Pk} (h : lightK p = true) : (sbS v p).length ≤ 132000000 := by
  have hl := light_lens h
  unfold lightK at h
  simp only [Bool.and_eq_true, decide_eq_true_eq] at h
  have h1 := fi_size p.kind p.filters
  have h2 := tail8L_size v p.kind p.props
  unfold sbS sbHead cdL
  simp only [List.length_append, List.length_map, putL_len]
  omega
theorem sbR_ways (v k : Int) (s : ByteArray) : (sbR v k s = (pk0, (sbR v k s).2) ∧ (sbR v k s).2 ≠ 0) ∨
    ((sbR v k s).2 = 0 ∧ sbE v (sbR v k s).1 = 0 ∧ (sbR v k s).1.kind = k ∧ sbS v (sbR v k s).1 = ls s) := by
  by_cases h : (sbR v k s).2 = 0
  · obtain ⟨h1, h2, h3⟩ := sbR_back (v := v) (k := k) (s := s) (q := (sbR v k s).1) (Prod.ext rfl h)
    exact .inr ⟨h, h1, h3, h2⟩
  · exact .inl ⟨Prod.ext (sbR_none h) rfl, h⟩
theorem sbR_ok {v k : Int} {s : ByteArray} (hs : s.size ≤ 140737488351000) : PkOk (sbR v k s).1 := by
  have h0 : PkOk pk0 := pkOk_R1 (k := 0) (i := 0) (c := 0) (l := []) (by simp) (by simp)
  unfold sbR
  split
  · exact h0
  · split
    · exact h0
    · split
      · exact h0
      · exact sbFull_ok hs
set_option maxHeartbeats 8000000 in
set_option maxRecDepth 10000 in
theorem subscribeBack_any (v : Int) (p : Pk) (h : Hs) (k : Int) (s : ByteArray) (w : World) (ip : PkIn w w.heap.size p h) (ok : PkOk p) :
    Calls Tryz.prog 3 #[.int .i64 v, pkV p h, .int .i64 k, .string s] w fun e w' => e = .returned (.bool true) ∧ Below w.heap.size w w' := by
  have OK := Lib.hid ok
  have S0 := Lib.hid ((St.start w).push ip)
  clear ip ok
  go_enter Tryz.func3, Tryz.ntmps3
  go_wp2_with fail
  refine (lives11_any _).mono ?_
  rintro e w1 ⟨rfl, hb⟩
  have S1 := Lib.hid (S0.out.below hb); clear hb
  have hl := S1.out.ld 0 rfl
  go_wp2_with fail
  refine (lightK_any p h _ (S1.out.into 0 rfl) OK.out).mono ?_
  rintro e w2 ⟨rfl, hb⟩
  have S2 := Lib.hid (S1.out.below hb); clear hb hl
  cases hL : lightK p
  · go_wp2
    go_ret
    exact ⟨rfl, S2.out.kept⟩
  have HZ := Lib.hid (light_size v hL)
  clear hL
  by_cases hs1 : 2000 < s.size
  · have d2 : (2000 : Int) < (s.size : Int) := by omega
    clear hs1
    go_wp2
    go_ret
    exact ⟨rfl, S2.out.kept⟩
  have d2 : (s.size : Int) ≤ 2000 := by omega
  have HS : Hid (s.size ≤ 140737488351000) := Lib.hid (by omega)
  have HS3 : Hid (s.size ≤ 1000000000000) := Lib.hid (by omega)
  clear hs1
  have hl := S2.out.ld 0 rfl
  go_wp2_with fail
  refine (sbBody_any v p h _ (S2.out.into 0 rfl) OK.out (Nat.le_trans HZ.out (by decide))).mono ?_
  rintro e w3 ⟨rfl, hb⟩
  have S3 := Lib.hid (S2.out.below hb); clear hb hl
  have hl := S3.out.ld 0 rfl
  go_wp2_with fail
  refine (sbValid_any v p h _ (S3.out.into 0 rfl) OK.out).mono ?_
  rintro e w4 ⟨rfl, hb⟩
  have S4 := Lib.hid (S3.out.below hb); clear hb hl
  by_cases hE : sbE v p = 0
  · have HE := Lib.hid hE
    have hB : sbB v p = (⟨(sbS v p).toArray⟩, 0) := by unfold sbB; rw [if_pos hE]
    rw [hB, hE]
    simp only
    obtain ⟨X, hX⟩ : ∃ X : ByteArray, (⟨(sbS v p).toArray⟩ : ByteArray) = X := ⟨_, rfl⟩
    have HXL : Hid (ls X = sbS v p) := Lib.hid (by rw [← hX, ls_mk])
    have HXS : Hid (X.size ≤ 1000000000000) := Lib.hid (by rw [← hX, mk_size]; exact Nat.le_trans HZ.out (by decide))
    rw [hX]
    clear hX hB hE
    have HR : Hid (sbR v p.kind X = (p, 0)) := Lib.hid (sbR_front HE.out (fun q hq => (OK.out.props q hq).1) HXL.out)
    have k4 := S4.out.cell 0 rfl 0
    rw [pkC_0] at k4
    go_wp2_with fail
    refine (sbRead_any v p.kind X _ HXS.out).mono ?_
    rintro e w5 hO
    rw [HR.out] at hO
    obtain ⟨k5, rfl, hi, hb⟩ := hO
    have S5 := Lib.hid ((S4.out.below hb).push hi)
    clear hi hb k4
    have hl0 := S5.out.ld 0 rfl
    have hl1 := S5.out.ld 1 rfl
    simp only at hl0 hl1 ⊢
    go_wp2_with fail
    refine (samePk_any p p k5 h _ (S5.out.into 1 rfl) (S5.out.into 0 rfl) OK.out.len OK.out.len).mono ?_
    rintro e w6 ⟨rfl, hb⟩
    have S6 := Lib.hid (S5.out.below hb); clear hb hl0 hl1
    rw [decide_eq_true rfl]
    go_wp2_with fail
    refine (sbRead_any v k s _ HS3.out).mono ?_
    rintro e w7 hO
    rcases sbR_ways v k s with ⟨hr, hne⟩ | ⟨h0, hg, hk, hput⟩
    · rw [hr] at hO
      obtain ⟨kk, rfl, hi, hb⟩ := hO
      generalize (sbR v k s).2 = E at *
      have e9 : (E != 0) = true := bne_iff_ne.2 hne
      have T7 := Lib.hid ((S6.out.below hb).push hi)
      have hl7 := T7.out.ld 2 rfl
      clear hr hne hi hb
      simp only at T7 hl7 ⊢
      go_wp2_with fail
      refine (none_any pk0 kk _ (T7.out.into 2 rfl) pk0_len).mono ?_
      rintro e w8 ⟨rfl, hb⟩
      have T8 := Lib.hid (T7.out.below hb); clear hb
      rw [decide_eq_true rfl]
      go_wp2
      go_ret
      exact ⟨rfl, T8.out.kept⟩
    · obtain ⟨kk, rfl, hi, hb⟩ := hO
      have hq := sbR_ok (v := v) (k := k) HS.out
      generalize sbR v k s = R at *
      obtain ⟨q, E⟩ := R
      simp only at h0 hg hk hput hi hq ⊢
      subst h0
      have HQ := Lib.hid hq
      have HB2 : Hid (sbB v q = (s, 0)) := Lib.hid (by unfold sbB; rw [if_pos hg, hput, mk_ls])
      have HZ2 : Hid ((sbS v q).length ≤ 140737488351232) := Lib.hid (by rw [hput, ls_len]; exact Nat.le_trans HS3.out (by decide))
      have T7 := Lib.hid ((S6.out.below hb).push hi)
      have hl7 := T7.out.ld 2 rfl
      have HKK := Lib.hid hk
      clear hg hk hput hi hb hq
      go_wp2_with fail
      refine (sbBody_any v q kk _ (T7.out.into 2 rfl) HQ.out HZ2.out).mono ?_
      rintro e w8 ⟨rfl, hb⟩
      have T8 := Lib.hid (T7.out.below hb); clear hb hl7
      rw [HB2.out]
      have k8 := (T8.out.cell 2 rfl 0)
      rw [pkC_0, HKK.out] at k8
      go_wp2
      go_ret
      exact ⟨rfl, T8.out.kept⟩
  · have hB : sbB v p = (⟨#[]⟩, sbE v p) := by unfold sbB; rw [if_neg hE]
    rw [hB]
    generalize sbE v p = E at *
    have e0 : (E == 0) = false := beq_eq_false_iff_ne.2 hE
    clear hB hE
    simp only
    go_wp2_with fail
    refine (sbRead_any v k s _ HS3.out).mono ?_
    rintro e w7 hO
    rcases sbR_ways v k s with ⟨hr, hne⟩ | ⟨h0, hg, hk, hput⟩
    · rw [hr] at hO
      obtain ⟨kk, rfl, hi, hb⟩ := hO
      generalize (sbR v k s).2 = E at *
      have e9 : (E != 0) = true := bne_iff_ne.2 hne
      have T7 := Lib.hid ((S4.out.below hb).push hi)
      have hl7 := T7.out.ld 1 rfl
      clear hr hne hi hb
      simp only at T7 hl7 ⊢
      go_wp2_with fail
      refine (none_any pk0 kk _ (T7.out.into 1 rfl) pk0_len).mono ?_
      rintro e w8 ⟨rfl, hb⟩
      have T8 := Lib.hid (T7.out.below hb); clear hb
      rw [decide_eq_true rfl]
      go_wp2
      go_ret
      exact ⟨rfl, T8.out.kept⟩
    · obtain ⟨kk, rfl, hi, hb⟩ := hO
      have hq := sbR_ok (v := v) (k := k) HS.out
      generalize sbR v k s = R at *
      obtain ⟨q, E⟩ := R
      simp only at h0 hg hk hput hi hq ⊢
      subst h0
      have HQ := Lib.hid hq
      have HB2 : Hid (sbB v q = (s, 0)) := Lib.hid (by unfold sbB; rw [if_pos hg, hput, mk_ls])
      have HZ2 : Hid ((sbS v q).length ≤ 140737488351232) := Lib.hid (by rw [hput, ls_len]; exact Nat.le_trans HS3.out (by decide))
      have T7 := Lib.hid ((S4.out.below hb).push hi)
      have hl7 := T7.out.ld 1 rfl
      have HKK := Lib.hid hk
      clear hg hk hput hi hb hq
      go_wp2_with fail
      refine (sbBody_any v q kk _ (T7.out.into 1 rfl) HQ.out HZ2.out).mono ?_
      rintro e w8 ⟨rfl, hb⟩
      have T8 := Lib.hid (T7.out.below hb); clear hb hl7
      rw [HB2.out]
      have k8 := (T8.out.cell 1 rfl 0)
      rw [pkC_0, HKK.out] at k8
      go_wp2
      go_ret
      exact ⟨rfl, T8.out.kept⟩
end Go.Proofs.YtngnaenbnmajdaaGreatDoor
