/- The law SubscribeCalls: the walk. -/
import Derived.Test.YtmkkjiogokfnmaaGreatDoorScMSubX
import Derived.Test.YtmkkjiogokfnmaaGreatDoorScOwnK
import Derived.Test.YtmkkjiogokfnmaaGreatDoorScLex
namespace Go.Proofs.YtmkkjiogokfnmaaGreatDoor
open Go.RowKit
attribute [local go_sem ↓] to_ldPk to_bxPk to_bdPk to_alPk to_stPk
attribute [local go_sem] run_bxPk run_bxPk_agg ld_fresh run_alPk run_bd0 run_bdK run_bdKI run_bdKIC run_bdKC run_bdKICP run_stPk_fresh pkC_0 pkC_1 pkC_2 pkC_3 pkC_4 pkC_5 pkC_6 pkC_7 pkC_8 pkC_9 pkC_10 pkC_11 pkC_12 pkC_13 pkC_14 pkC_15 pkC_16 pkC_17 pkC_18 pkC_19 pkC_20 pkC_21 pkC_22 pkC_23 pkC_24
set_option maxHeartbeats 4000000 in
set_option maxRecDepth 100000 in
theorem subscribeCalls_any (v : Int) (p q : Pk) (h hq : Hs) (k : Int) (s : ByteArray) (w : World) (ip : PkIn w w.heap.size p h) (iq : PkIn w w.heap.size q hq) (ok : PkOk p) (okq : PkOk q) :
    Calls Tryz.prog 4 #[.int .i64 v, pkV p h, pkV q hq, .int .i64 k, .string s] w fun e w' => e = .returned (.bool true) ∧ Below w.heap.size w w' := by
  have OK := Lib.hid ok
  have OKQ := Lib.hid okq
  have S00 := Lib.hid ((St.start w).push ip)
  have IQ : PkIn (w.alloc (.cells (pkC p h) PkT)) (w.alloc (.cells (pkC p h) PkT)).heap.size q hq := (iq.below ((Below.refl _ _).alloc (Nat.le_refl _) _)).wider (by simp)
  have S0 := Lib.hid (S00.out.pushB (g := w.heap.size + 1) (by simp) IQ)
  clear ip ok iq okq IQ S00
  go_enter Tryz.func4, Tryz.ntmps4
  go_wp2_with fail
  refine (lives11_any _).mono ?_
  rintro e w1 ⟨rfl, hb⟩
  have S1 := Lib.hid (S0.out.below hb); clear hb
  have hl := S1.out.ld 0 rfl
  go_wp2_with fail
  refine (lightK_any p h _ (S1.out.into 0 rfl) OK.out).mono ?_
  rintro e w2 ⟨rfl, hb⟩
  have S2 := Lib.hid (S1.out.below hb); clear hb hl
  cases hL : lightK p
  · go_wp2
    go_ret
    exact ⟨rfl, S2.out.kept⟩
  have HLL := Lib.hid (light_lens hL)
  have HZ := Lib.hid (light_size v hL)
  clear hL
  have hl := S2.out.ld 1 rfl
  go_wp2_with fail
  refine (lightK_any q hq _ (S2.out.into 1 rfl) OKQ.out).mono ?_
  rintro e w3 ⟨rfl, hb⟩
  have S3 := Lib.hid (S2.out.below hb); clear hb hl
  cases hL : lightK q
  · go_wp2
    go_ret
    exact ⟨rfl, S3.out.kept⟩
  clear hL
  by_cases hs1 : 2000 < s.size
  · have d2 : (2000 : Int) < (s.size : Int) := by omega
    clear hs1
    go_wp2
    go_ret
    exact ⟨rfl, S3.out.kept⟩
  have d2 : (s.size : Int) ≤ 2000 := by omega
  have HS : Hid (s.size ≤ 140737488351000) := Lib.hid (by omega)
  have HS3 : Hid (s.size ≤ 1000000000000) := Lib.hid (by omega)
  clear hs1
  obtain ⟨n, hn⟩ : ∃ n, p.filters.length = n := ⟨_, rfl⟩
  have HN := Lib.hid hn
  have hn2 : n ≤ 60 := by have := HLL.out.2.1; omega
  clear hn
  go_wp2
  go_loopw [11] (fun i wr => ∃ j : Nat, j ≤ n ∧ i = .int .i64 j ∧ St w [(w.heap.size, p, h), (w.heap.size + 1, q, hq)] wr) (fun i _ => n - (intOf i).toNat)
  case atStart => exact ⟨0, by omega, rfl, S3.out⟩
  case round =>
    obtain ⟨j, hj, rfl, hst⟩ := hrel
    have S4 := Lib.hid hst
    clear hst
    have k23 := S4.out.cell 0 rfl 23
    rw [pkC_23, HN.out] at k23
    by_cases hlt : j < n
    · have hp : j < p.filters.length := by rw [HN.out]; exact hlt
      obtain ⟨b, o, hA, hb, c0, c1, c2, c3, c4⟩ := ((S4.out.into 0 rfl).filters).atF hp
      generalize p.filters[j] = f at *
      have b1 : (0 : Int) ≤ (j : Int) := by omega
      have b2 : (j : Int) < (n : Int) := by omega
      clear hp hb
      rw [hA] at k23
      go_upto_region 8 with fail
      have q0 := regrown (W := wr) (fun x _ => optN_any f x)
      have q1 := regrown (W := wr) (fun x _ => rOpts_any f x)
      have r0 := cell_regrown c0; have r1 := cell_regrown c1; have r2 := cell_regrown c2; have r3 := cell_regrown c3; have r4 := cell_regrown c4
      have r23 := cell_regrown k23
      have HBW : Hid (∀ d os, Below wr.heap.size wr (Sort.grow (redrawn wr d) os)) := Lib.hid (fun d os => below_regrown wr d os)
      clear c0 c1 c2 c3 c4 k23
      refine wp_region_quiet_below (by kernel_rfl) (by kernel_rfl) ?_
      repeat (go_big_quiet_step (first | with_reducible exact q0 _ _ | with_reducible exact q1 _ _))
      refine wpQuiet_nil ?_
      intro _ hw'
      obtain ⟨⟨dq, osq⟩, hw''⟩ := hw'
      subst hw''
      have S5 := Lib.hid (S4.out.below (HBW.out dq osq))
      clear q0 q1 r0 r1 r2 r3 r4 r23 HBW
      generalize Sort.grow (redrawn _ dq) osq = w5 at *
      go_wp2
      go_roundw
      case rel => exact ⟨j + 1, by omega, by go_num, S5.out⟩
      case measure => simp [intOf]; omega
    · obtain rfl : j = n := by omega
      clear hlt
      have hl := S4.out.ld 0 rfl
      go_wp2_with fail
      refine (ownK_any p h _ (S4.out.into 0 rfl) HLL.out.1 HLL.out.2.1 HLL.out.2.2.1 HLL.out.2.2.2).mono ?_
      rintro e w5 ⟨k3, rfl, hi, hb⟩
      have I3 := Lib.hid hi
      have S5 := Lib.hid (S4.out.below hb); clear hb hl hi
      go_wp2_with fail
      refine (sbBody_any v p k3 _ I3.out OK.out (Nat.le_trans HZ.out (by decide))).mono ?_
      rintro e w6 ⟨rfl, hb⟩
      have S6 := Lib.hid (S5.out.below hb); clear hb I3
      obtain ⟨B, hB⟩ : ∃ B, sbB v p = B := ⟨_, rfl⟩
      rw [hB]
      have HB := Lib.hid hB; clear hB
      obtain ⟨b1, b2⟩ := B
      simp only
      have hl := S6.out.ld 0 rfl
      go_wp2_with fail
      refine (rBody_any v p h _ (S6.out.into 0 rfl) OK.out (Nat.le_trans HZ.out (by decide))).mono ?_
      rintro e w7 ⟨rfl, hb⟩
      have S7 := Lib.hid (S6.out.below hb); clear hb hl
      rw [HB.out]
      simp only
      go_wp2_with fail
      refine (sbRead_any v k s _ HS3.out).mono ?_
      rintro e w8 hO
      have HOKR := Lib.hid (sbR_ok (v := v) (k := k) HS.out)
      obtain ⟨R, hR⟩ : ∃ R, sbR v k s = R := ⟨_, rfl⟩
      rw [hR] at hO HOKR
      have HR := Lib.hid hR; clear hR
      obtain ⟨c, g⟩ := R
      obtain ⟨k6, rfl, hi, hb⟩ := hO
      have S8 := Lib.hid ((S7.out.below hb).push hi)
      clear hi hb
      simp only at S8 HOKR ⊢
      go_wp2_with fail
      refine (rRead_any v k s _ HS3.out).mono ?_
      rintro e w9 hO
      rw [HR.out] at hO
      obtain ⟨k7, rfl, hi, hb⟩ := hO
      have S9 := Lib.hid ((S8.out.below hb).push hi)
      clear hi hb
      simp only at S9 ⊢
      go_wp2_with fail
      generalize hW9 : w9.alloc (.cells (pkC c k7) PkT) = W9 at *
      have q0 := regrown (W := W9) (fun x hx => samePk_any c c k6 k7 x ((S9.out.below hx).into 2 rfl) ((S9.out.below hx).into 3 rfl) HOKR.out.len HOKR.out.len)
      rw [decide_eq_true rfl] at q0
      have q1 := regrown (W := W9) (fun x hx => sbAns_any v p q h hq x ((S9.out.below hx).into 0 rfl) ((S9.out.below hx).into 1 rfl) OK.out OKQ.out)
      have q4 := regrown (W := W9) (fun x hx => rAns_any v p q h hq x ((S9.out.below hx).into 0 rfl) ((S9.out.below hx).into 1 rfl) OK.out OKQ.out)
      generalize sbAns v p q = FQ at *
      have q2 := regrown (W := W9) (fun x hx => sbValid_any v p h x ((S9.out.below hx).into 0 rfl) OK.out)
      have q3 := regrown (W := W9) (fun x hx => rValid_any v p h x ((S9.out.below hx).into 0 rfl) OK.out)
      generalize sbE v p = E at *
      have l0 := ld_regrown (S9.out.bk 0 rfl)
      have l1 := ld_regrown (S9.out.bk 1 rfl)
      have l2 := ld_regrown (S9.out.bk 2 rfl)
      have l3 := ld_regrown (S9.out.bk 3 rfl)
      have HBQ := Lib.hid (fun d os => S9.out.kept.trans ((below_regrown W9 d os).mono S9.out.kept.size))
      clear hW9 k23
      refine wp_region_quiet_below (by as_aux_lemma => kernel_rfl) (lexB_fast (by as_aux_lemma => kernel_rfl)) ?_
      repeat (go_big_quiet_step (first | with_reducible exact q0 _ _ | with_reducible exact q1 _ _ | with_reducible exact q2 _ _ | with_reducible exact q3 _ _ | with_reducible exact q4 _ _))
      refine wpQuiet_nil ?_
      intro _ hw'
      obtain ⟨⟨dq, osq⟩, hw''⟩ := hw'
      subst hw''
      have KF := Lib.hid (HBQ.out dq osq)
      clear q0 q1 q2 q3 q4 l0 l1 l2 l3 HBQ
      generalize Sort.grow (redrawn _ dq) osq = wq at *
      go_wp2
      go_ret
      exact ⟨rfl, KF.out⟩
end Go.Proofs.YtmkkjiogokfnmaaGreatDoor

