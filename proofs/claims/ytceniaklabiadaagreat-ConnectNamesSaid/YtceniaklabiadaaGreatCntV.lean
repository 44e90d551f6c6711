/- The law ConnectNames: the walk. -/
import Derived.Test.YtceniaklabiadaaGreatCntS
import Derived.Test.YtceniaklabiadaaGreatLex
import Derived.Deep.RegionHeld3
namespace Go.Proofs.YtceniaklabiadaaGreat
open Go.RowKit
attribute [local go_sem ↓] to_ldPk to_bxPk to_bdPk to_alPk to_stPk
attribute [local go_sem] run_bxPk run_bxPk_agg ld_fresh run_alPk run_bd0 run_bdK run_bdKI run_bdKIC run_bdKC run_bdKICP run_stPk_fresh pkC_0 pkC_1 pkC_2 pkC_3 pkC_4 pkC_5 pkC_6 pkC_7 pkC_8 pkC_9 pkC_10 pkC_11 pkC_12 pkC_13 pkC_14 pkC_15 pkC_16 pkC_17 pkC_18 pkC_19 pkC_20 pkC_21 pkC_22 pkC_23 pkC_24

def plainP : Pk := { pk0 with kind := 1, clean := true, alive := 10, client := ⟨#[99]⟩ }
def fullP : Pk := { plainP with hasWill := true, will := ⟨⟨#[119]⟩, ⟨#[112]⟩, 1, true, []⟩, hasUser := true, user := ⟨#[117]⟩, hasPass := true, pass := ⟨#[115]⟩ }
def oddP : Pk := { fullP with will := ⟨⟨#[35]⟩, ⟨#[112]⟩, 1, true, []⟩ }
def lostP : Pk := { plainP with user := ⟨#[117]⟩ }
def oldP : Pk := { plainP with hasPass := true }
theorem run_bdPlain (w : World) : (bdPk #[(0, .int .i64 1), (7, .bool true), (8, .int .i64 10), (9, .string ⟨#[99]⟩)]).run Tryz.prog w = .ok (pkV plainP hs0) w := by kernel_rfl
theorem plainP_ok : PkOk plainP := by
  refine ⟨?_, ?_, ?_, ?_, ?_⟩
  · intro q hq; cases hq
  · intro q hq; cases hq
  · intro q hq; cases hq
  · decide +kernel
  · decide +kernel
theorem plainP_in (w : World) (B : Nat) : PkIn w B plainP hs0 := ⟨Rd.nil _ _ _ _, Rd.nil _ _ _ _, Rd.nil _ _ _ _, Rd.nil _ _ _ _, Nat.zero_le _, Nat.zero_le _, Nat.zero_le _, Nat.zero_le _⟩
theorem fullP_ok : PkOk fullP := by
  refine ⟨?_, ?_, ?_, ?_, ?_⟩
  · intro q hq; cases hq
  · intro q hq; cases hq
  · intro q hq; cases hq
  · decide +kernel
  · decide +kernel
theorem fullP_in (w : World) (B : Nat) : PkIn w B fullP hs0 := ⟨Rd.nil _ _ _ _, Rd.nil _ _ _ _, Rd.nil _ _ _ _, Rd.nil _ _ _ _, Nat.zero_le _, Nat.zero_le _, Nat.zero_le _, Nat.zero_le _⟩
theorem oddP_ok : PkOk oddP := by
  refine ⟨?_, ?_, ?_, ?_, ?_⟩
  · intro q hq; cases hq
  · intro q hq; cases hq
  · intro q hq; cases hq
  · decide +kernel
  · decide +kernel
theorem oddP_in (w : World) (B : Nat) : PkIn w B oddP hs0 := ⟨Rd.nil _ _ _ _, Rd.nil _ _ _ _, Rd.nil _ _ _ _, Rd.nil _ _ _ _, Nat.zero_le _, Nat.zero_le _, Nat.zero_le _, Nat.zero_le _⟩
theorem lostP_ok : PkOk lostP := by
  refine ⟨?_, ?_, ?_, ?_, ?_⟩
  · intro q hq; cases hq
  · intro q hq; cases hq
  · intro q hq; cases hq
  · decide +kernel
  · decide +kernel
theorem lostP_in (w : World) (B : Nat) : PkIn w B lostP hs0 := ⟨Rd.nil _ _ _ _, Rd.nil _ _ _ _, Rd.nil _ _ _ _, Rd.nil _ _ _ _, Nat.zero_le _, Nat.zero_le _, Nat.zero_le _, Nat.zero_le _⟩
theorem oldP_ok : PkOk oldP := by
  refine ⟨?_, ?_, ?_, ?_, ?_⟩
  · intro q hq; cases hq
  · intro q hq; cases hq
  · intro q hq; cases hq
  · decide +kernel
  · decide +kernel
theorem oldP_in (w : World) (B : Nat) : PkIn w B oldP hs0 := ⟨Rd.nil _ _ _ _, Rd.nil _ _ _ _, Rd.nil _ _ _ _, Rd.nil _ _ _ _, Nat.zero_le _, Nat.zero_le _, Nat.zero_le _, Nat.zero_le _⟩
theorem ext_r0 : cntR 4 1 ⟨#[0, 4, 77, 81, 84, 84, 4, 2, 0, 10, 0, 1, 99]⟩ = (plainP, 0) := by decide +kernel
theorem ext_r1 : cntR 5 1 ⟨#[0, 4, 77, 81, 84, 84, 4, 2, 0, 10, 0, 1, 99]⟩ = (pk0, 5) := by decide +kernel
theorem ext_r2 : cntR 4 1 ⟨#[0, 4, 77, 81, 84, 84, 4, 2, 0, 10, 0, 1, 99, 122]⟩ = (pk0, 5) := by decide +kernel
theorem ext_r3 : cntR 4 1 ⟨#[0, 4, 77, 81, 84, 84, 4, 2, 0, 10, 0, 1]⟩ = (pk0, 3) := by decide +kernel
theorem ext_r4 : cntR 4 1 ⟨#[0, 4, 77, 81, 84, 84, 4, 3, 0, 10, 0, 1, 99]⟩ = (pk0, 7) := by decide +kernel
theorem ext_r5 : cntR 4 1 ⟨#[0, 4, 77, 81, 84, 84, 4, 66, 0, 10, 0, 1, 99, 0, 0]⟩ = (pk0, 7) := by decide +kernel
theorem ext_r6 : cntR 4 1 ⟨#[0, 4, 77, 81, 84, 84, 4, 0, 0, 10, 0, 0]⟩ = (pk0, 2) := by decide +kernel
theorem ext_r7 : cntR 4 1 ⟨#[0, 4, 77, 81, 84, 88, 4]⟩ = (pk0, 5) := by decide +kernel
theorem ext_r8 : cntR 4 2 ⟨#[2, 0]⟩ = (pk0, 7) := by decide +kernel
theorem ext_r9 : cntR 4 2 ⟨#[1, 1]⟩ = (pk0, 2) := by decide +kernel
theorem ext_r10 : cntR 4 3 ⟨#[]⟩ = (pk0, 2) := by decide +kernel
theorem ext_v0 : cntE 4 oddP = 10 := by decide +kernel
theorem ext_v1 : cntE 5 lostP = 2 := by decide +kernel
theorem ext_v2 : cntE 4 oldP = 2 := by decide +kernel
theorem ext_v3 : cntE 5 oldP = 0 := by decide +kernel
theorem ext_b0 : cntB 4 plainP = (⟨#[0, 4, 77, 81, 84, 84, 4, 2, 0, 10, 0, 1, 99]⟩, 0) := by decide +kernel
theorem ext_b1 : cntB 5 plainP = (⟨#[0, 4, 77, 81, 84, 84, 5, 2, 0, 10, 0, 0, 1, 99]⟩, 0) := by decide +kernel
theorem ext_b2 : cntB 4 fullP = (⟨#[0, 4, 77, 81, 84, 84, 4, 238, 0, 10, 0, 1, 99, 0, 1, 119, 0, 1, 112, 0, 1, 117, 0, 1, 115]⟩, 0) := by decide +kernel
theorem ext_f0 : flQ fullP = 238 := by decide +kernel
theorem ext_f1 : flQ pk0 = 0 := by decide +kernel
/-- A reading whose answer is known. -/
theorem cntRead_ex (v k : Int) (s t : ByteArray) {r : Pk × Int} (hr : cntR v k t = r) (hst : s = t) (hs : t.size ≤ 1000) (w : World) :
    Calls Tryz.prog 43 #[.int .i64 v, .int .i64 k, .string s] w (PkOut r w) := by
  subst hst hr
  exact cntRead_any v k s w (by omega)
theorem cntValid_ex (v : Int) (p : Pk) (h : Hs) (w : World) (ip : PkIn w w.heap.size p h) (hk : PkOk p) {x : Int} (hx : cntE v p = x) :
    Calls Tryz.prog 45 #[.int .i64 v, pkV p h] w fun e w' => e = .returned (.int .i64 x) ∧ Below w.heap.size w w' := by
  subst hx
  exact cntValid_any v p h w ip hk
theorem cntFlags_ex (p : Pk) (h : Hs) (w : World) {x : Int} (hx : flQ p = x) :
    Calls Tryz.prog 44 #[pkV p h] w fun e w' => e = .returned (.int .i64 x) ∧ Below w.heap.size w w' := by
  subst hx
  exact cntFlags_any p h w
theorem St.pushN {w x : World} {l : List (Nat × Pk × Hs)} {g : Nat} {p : Pk} {h : Hs} (s : St w l x) (hg : g = x.heap.size) (ip : PkIn x x.heap.size p h) : St w (l ++ [(g, p, h)]) (x.alloc (.cells (pkC p h) PkT)) := by
  subst hg
  exact s.push ip
set_option maxHeartbeats 1000000 in
set_option maxRecDepth 10000 in
theorem plain8_any (w : World) : Calls Tryz.prog 42 #[] w fun e w' => e = .returned (pkV plainP hs0) ∧ Below w.heap.size w w' := by
  have hb := run_bdPlain
  have HL := Lib.hid ((Below.refl w.heap.size w).alloc (Nat.le_refl _) (.cells (pkC plainP hs0) PkT))
  go_enter Tryz.func42, Tryz.ntmps42
  go_wp2
  exact bodyPost_ret (results_c1 rfl _ rfl (Bk.fresh w PkT (pkC plainP hs0))) rfl ⟨rfl, HL.out⟩
set_option maxHeartbeats 8000000 in
set_option maxRecDepth 100000 in
theorem connectNames_any (w : World) : Calls Tryz.prog 6 #[] w fun e w' => e = .returned (.bool true) ∧ Below w.heap.size w w' := by
  go_enter Tryz.func6, Tryz.ntmps6
  go_wp2_with fail
  refine (lives08_any _).mono ?_
  rintro e w1 ⟨rfl, hb⟩
  have S1 := Lib.hid ((St.start w).below hb); clear hb
  go_wp2_with fail
  refine (plain8_any _).mono ?_
  rintro e w2 ⟨rfl, hb⟩
  have S2 := Lib.hid (S1.out.below hb); clear hb S1
  go_wp2_with fail
  refine (cntBody_any 4 plainP hs0 _ (plainP_in _ _) plainP_ok).mono ?_
  rintro e w3 ⟨rfl, hb⟩
  have S3 := Lib.hid (S2.out.below hb); clear hb S2
  rw [ext_b0]
  simp only
  go_wp2_with fail
  refine (plain8_any _).mono ?_
  rintro e w4 ⟨rfl, hb⟩
  have S4 := Lib.hid (S3.out.below hb); clear hb S3
  go_wp2_with fail
  refine (cntBody_any 5 plainP hs0 _ (plainP_in _ _) plainP_ok).mono ?_
  rintro e w5 ⟨rfl, hb⟩
  have S5 := Lib.hid (S4.out.below hb); clear hb S4
  rw [ext_b1]
  simp only
  go_wp2_with fail
  refine (cntRead_ex 4 1 _ _ ext_r0 (by first | rfl | decide +kernel) (by decide) _).mono ?_
  rintro e x0 ⟨k0, rfl, hi, hb⟩
  have S6 := Lib.hid ((S5.out.below hb).push hi)
  clear hi hb S5
  simp only
  go_wp2_with fail
  refine (cntRead_ex 5 1 _ _ ext_r1 (by first | rfl | decide +kernel) (by decide) _).mono ?_
  rintro e x1 ⟨k1, rfl, hi, hb⟩
  have S7 := Lib.hid ((S6.out.below hb).alloc (.cells (pkC pk0 k1) PkT))
  clear hi hb S6
  simp only
  go_wp2_with fail
  refine (cntRead_ex 4 1 _ _ ext_r2 (by first | rfl | decide +kernel) (by decide) _).mono ?_
  rintro e x2 ⟨k2, rfl, hi, hb⟩
  have S8 := Lib.hid ((S7.out.below hb).alloc (.cells (pkC pk0 k2) PkT))
  clear hi hb S7
  simp only
  go_wp2_with fail
  refine (cntRead_ex 4 1 _ _ ext_r3 (by first | rfl | decide +kernel) (by decide) _).mono ?_
  rintro e x3 ⟨k3, rfl, hi, hb⟩
  have S9 := Lib.hid ((S8.out.below hb).alloc (.cells (pkC pk0 k3) PkT))
  clear hi hb S8
  simp only
  go_wp2_with fail
  refine (cntRead_ex 4 1 _ _ ext_r4 (by first | rfl | decide +kernel) (by decide) _).mono ?_
  rintro e x4 ⟨k4, rfl, hi, hb⟩
  have S10 := Lib.hid ((S9.out.below hb).alloc (.cells (pkC pk0 k4) PkT))
  clear hi hb S9
  simp only
  go_wp2_with fail
  refine (cntRead_ex 4 1 _ _ ext_r5 (by first | rfl | decide +kernel) (by decide) _).mono ?_
  rintro e x5 ⟨k5, rfl, hi, hb⟩
  have S11 := Lib.hid ((S10.out.below hb).alloc (.cells (pkC pk0 k5) PkT))
  clear hi hb S10
  simp only
  go_wp2_with fail
  refine (cntRead_ex 4 1 _ _ ext_r6 (by first | rfl | decide +kernel) (by decide) _).mono ?_
  rintro e x6 ⟨k6, rfl, hi, hb⟩
  have S12 := Lib.hid ((S11.out.below hb).alloc (.cells (pkC pk0 k6) PkT))
  clear hi hb S11
  simp only
  go_wp2_with fail
  refine (cntRead_ex 4 1 _ _ ext_r7 (by first | rfl | decide +kernel) (by decide) _).mono ?_
  rintro e x7 ⟨k7, rfl, hi, hb⟩
  have S13 := Lib.hid ((S12.out.below hb).alloc (.cells (pkC pk0 k7) PkT))
  clear hi hb S12
  simp only
  as_aux_lemma =>
    go_wp2_with fail
    refine (plain8_any _).mono ?_
    rintro e y1 ⟨rfl, hb⟩
    have T1 := Lib.hid (S13.out.below hb); clear hb S13
    have T2 : Hid (St w _ (y1.alloc (.cells (((((((((((pkC plainP hs0).setIfInBounds 14 (.bool true)).setIfInBounds 15 (.string ⟨#[119]⟩)).setIfInBounds 16 (.string ⟨#[112]⟩)).setIfInBounds 17 (.int .i64 1)).setIfInBounds 18 (.bool true)).setIfInBounds 19 (.slice none 0 0)).setIfInBounds 10 (.bool true)).setIfInBounds 11 (.string ⟨#[117]⟩)).setIfInBounds 12 (.bool true)).setIfInBounds 13 (.string ⟨#[115]⟩)) PkT))) := Lib.hid (T1.out.pushN (g := y1.heap.size) (p := fullP) (h := hs0) rfl (fullP_in _ _))
    have hl := T2.out.ld 1 rfl
    clear T1
    go_wp2_with fail
    refine (cntBody_any 4 fullP hs0 _ (fullP_in _ _) fullP_ok).mono ?_
    rintro e y2 ⟨rfl, hb⟩
    have T3 := Lib.hid (T2.out.below hb); clear hb T2 hl
    rw [ext_b2]
    simp only
    have hl := T3.out.ld 1 rfl
    have T4 : Hid (St w _ (y2.alloc (.cells ((pkC fullP hs0).setIfInBounds 15 (.string ⟨#[35]⟩)) PkT))) := Lib.hid (T3.out.pushN (g := y2.heap.size) (p := oddP) (h := hs0) rfl (oddP_in _ _))
    clear T3
    go_wp2_with fail
    refine (plain8_any _).mono ?_
    rintro e y3 ⟨rfl, hb⟩
    have T5 := Lib.hid (T4.out.below hb); clear hb T4 hl
    have T6 : Hid (St w _ (y3.alloc (.cells ((pkC plainP hs0).setIfInBounds 11 (.string ⟨#[117]⟩)) PkT))) := Lib.hid (T5.out.pushN (g := y3.heap.size) (p := lostP) (h := hs0) rfl (lostP_in _ _))
    clear T5
    as_aux_lemma =>
      go_wp2_with fail
      refine (plain8_any _).mono ?_
      rintro e y4 ⟨rfl, hb⟩
      have T7 := Lib.hid (T6.out.below hb); clear hb T6
      have S14 : Hid (St w [(x0.heap.size, plainP, k0), (y1.heap.size, fullP, hs0), (y2.heap.size, oddP, hs0), (y3.heap.size, lostP, hs0), (y4.heap.size, oldP, hs0)] (y4.alloc (.cells ((pkC plainP hs0).setIfInBounds 12 (.bool true)) PkT))) := Lib.hid (T7.out.pushN (g := y4.heap.size) (p := oldP) (h := hs0) rfl (oldP_in _ _))
      clear T7
      go_wp2_with fail
      refine (cntRead_ex 4 2 _ _ ext_r8 (by first | rfl | decide +kernel) (by decide) _).mono ?_
      rintro e x8 ⟨k8, rfl, hi, hb⟩
      have S15 := Lib.hid ((S14.out.below hb).alloc (.cells (pkC pk0 k8) PkT))
      clear hi hb S14
      simp only
      go_wp2_with fail
      refine (cntRead_ex 4 2 _ _ ext_r9 (by first | rfl | decide +kernel) (by decide) _).mono ?_
      rintro e x9 ⟨k9, rfl, hi, hb⟩
      have S16 := Lib.hid ((S15.out.below hb).alloc (.cells (pkC pk0 k9) PkT))
      clear hi hb S15
      simp only
      go_wp2_with fail
      refine (cntRead_ex 4 3 _ _ ext_r10 (by first | rfl | decide +kernel) (by decide) _).mono ?_
      rintro e x10 ⟨k10, rfl, hi, hb⟩
      have S17 := Lib.hid ((S16.out.below hb).alloc (.cells (pkC pk0 k10) PkT))
      clear hi hb S16
      simp only
      as_aux_lemma =>
        go_wp2_with fail
        generalize hW : x10.alloc (.cells (pkC pk0 k10) PkT) = W at *
        clear hW
        have HK := Lib.hid S17.out.kept
        have q0 := regrown (W := W) (fun x _ => plain8_any x)
        have q1 := regrown (W := W) (fun x hx => samePk_any plainP plainP k0 hs0 x ((S17.out.below hx).into 0 rfl) (plainP_in _ _) plainP_ok.len plainP_ok.len)
        rw [decide_eq_true rfl] at q1
        have q2 := regrown (W := W) (fun x _ => cntFlags_ex fullP hs0 x ext_f0)
        have q3 := regrown (W := W) (fun x _ => cntFlags_ex pk0 hs0 x ext_f1)
        have q4 := regrown (W := W) (fun x _ => cntValid_ex 4 oddP hs0 x (oddP_in _ _) oddP_ok ext_v0)
        have q5 := regrown (W := W) (fun x _ => cntValid_ex 5 lostP hs0 x (lostP_in _ _) lostP_ok ext_v1)
        have q6 := regrown (W := W) (fun x _ => cntValid_ex 4 oldP hs0 x (oldP_in _ _) oldP_ok ext_v2)
        have q7 := regrown (W := W) (fun x _ => cntValid_ex 5 oldP hs0 x (oldP_in _ _) oldP_ok ext_v3)
        have d0 := ld_regrown (S17.out.bk 0 rfl)
        have d1 := ld_regrown (S17.out.bk 1 rfl)
        have d2 := ld_regrown (S17.out.bk 2 rfl)
        have d3 := ld_regrown (S17.out.bk 3 rfl)
        have d4 := ld_regrown (S17.out.bk 4 rfl)
        have HBQ := Lib.hid (fun d os => below_regrown W d os)
        clear S17
        as_aux_lemma =>
          simp only [List.append]
          refine wp_region_quiet_below (by as_aux_lemma => kernel_rfl) (lexB_fast (by as_aux_lemma => kernel_rfl)) ?_
          repeat (go_big_quiet_step (first | with_reducible exact q0 _ _ | with_reducible exact q1 _ _ | with_reducible exact q2 _ _ | with_reducible exact q3 _ _ | with_reducible exact q4 _ _ | with_reducible exact q5 _ _ | with_reducible exact q6 _ _ | with_reducible exact q7 _ _))
          refine wpQuiet_nil ?_
          intro _ hw'
          obtain ⟨⟨dq, osq⟩, hw''⟩ := hw'
          subst hw''
          have KF := Lib.hid (HBQ.out dq osq)
          clear q0 q1 q2 q3 q4 q5 q6 q7 d0 d1 d2 d3 d4 HBQ
          generalize Sort.grow (redrawn _ dq) osq = wq at *
          go_wp2
          go_ret
          exact ⟨rfl, HK.out.trans (KF.out.mono HK.out.size)⟩
end Go.Proofs.YtceniaklabiadaaGreat
