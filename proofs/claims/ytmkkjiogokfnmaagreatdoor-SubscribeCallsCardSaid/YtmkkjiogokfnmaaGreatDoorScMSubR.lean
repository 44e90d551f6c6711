/-
  reference 11: asks, kinds, code, four, Options, options, used.
  reference 11: Valid.
  reference 11: Answers.
  reference 11: Body.
  reference 11: filter.
-/
import Derived.Test.YtmkkjiogokfnmaaGreatDoorScSubJ
import Derived.Test.YtmkkjiogokfnmaaGreatDoorScMFilE
import Derived.Test.YtmkkjiogokfnmaaGreatDoorScMCns
namespace Go.Proofs.YtmkkjiogokfnmaaGreatDoor
open Go.RowKit
attribute [local go_sem ↓] to_ldPk to_bxPk to_bdPk to_alPk to_stPk
attribute [local go_sem] run_bxPk run_bxPk_agg ld_fresh run_alPk run_bd0 run_bdK run_bdKI run_bdKIC run_bdKC run_bdKICP run_stPk_fresh pkC_0 pkC_1 pkC_2 pkC_3 pkC_4 pkC_5 pkC_6 pkC_7 pkC_8 pkC_9 pkC_10 pkC_11 pkC_12 pkC_13 pkC_14 pkC_15 pkC_16 pkC_17 pkC_18 pkC_19 pkC_20 pkC_21 pkC_22 pkC_23 pkC_24
attribute [local go_sem ↓ high] to_stPk to_stWl to_ldWl
attribute [local go_sem ↓] to_stF
attribute [local go_sem] ld_pw pw_at pw_stwl pw_dstwl pw_stwl0 pw_stwp pw_st0 pw_dst0 pw_st1 pw_dst1 pw_st2 pw_dst2 pw_st3 pw_dst3 pw_st4 pw_dst4 pw_st5 pw_dst5 pw_st6 pw_dst6 pw_st7 pw_dst7 pw_st8 pw_dst8 pw_st9 pw_dst9 pw_st10 pw_dst10 pw_st11 pw_dst11 pw_st12 pw_dst12 pw_st13 pw_dst13 pw_st14 pw_dst14 pw_st15 pw_dst15 pw_st16 pw_dst16 pw_st17 pw_dst17 pw_st18 pw_dst18 pw_st20 pw_dst20 pw_st21 pw_dst21 pw_st22 pw_nil22 pw_st23 pw_nil23 pw_st24 pw_nil24
set_option maxHeartbeats 400000 in
set_option maxRecDepth 10000 in
theorem rAsks_any (k : Int) (w : World) : Calls Tryz.prog 79 #[.int .i64 k] w fun e w' => e = .returned (.bool (sbAsk k)) ∧ w = w' := by
  go_enter Tryz.func79, Tryz.ntmps79
  go_wp2
  all_goals
    go_ret
    refine ⟨ret_bool ?_, rfl⟩
    unfold sbAsk
    by_cases h4 : k = 8 <;> by_cases h5 : k = 10 <;> simp_all
def rKinds (k : Int) : Bool := decide (8 ≤ k) && decide (k ≤ 11)
set_option maxHeartbeats 400000 in
set_option maxRecDepth 10000 in
theorem rKinds_any (k : Int) (w : World) : Calls Tryz.prog 74 #[.int .i64 k] w fun e w' => e = .returned (.bool (rKinds k)) ∧ w = w' := by
  go_enter Tryz.func74, Tryz.ntmps74
  go_wp2
  all_goals
    go_ret
    refine ⟨ret_bool ?_, rfl⟩
    unfold rKinds
    by_cases h4 : 8 ≤ k <;> by_cases h5 : k ≤ 11 <;> simp_all <;> omega
set_option maxHeartbeats 400000 in
set_option maxRecDepth 10000 in
theorem rCode_any (v k c : Int) (w : World) : Calls Tryz.prog 87 #[.int .i64 v, .int .i64 k, .int .i64 c] w fun e w' => e = .returned (.bool (ansB v k c)) ∧ Below w.heap.size w w' := by
  by_cases h4 : v = 4
  · have e4 : (v == 4) = true := beq_iff_eq.2 h4
    have HX : Hid (ansB v k c = grantB c) := Lib.hid (if_pos h4)
    clear h4
    go_enter Tryz.func87, Tryz.ntmps87
    go_wp2_with fail
    refine (refGrant_any c _).mono ?_
    rintro e w1 ⟨rfl, hw1⟩
    subst hw1
    go_wp2
    go_ret
    exact ⟨by rw [HX.out]; rfl, Below.refl _ _⟩
  · have e4 : (v == 4) = false := beq_eq_false_iff_ne.2 h4
    have HX : Hid (ansB v k c = may k c) := Lib.hid (if_neg h4)
    clear h4
    go_enter Tryz.func87, Tryz.ntmps87
    go_wp2_with fail
    refine (refMay_any k c _).mono ?_
    rintro e w1 ⟨rfl, hb⟩
    have HB := Lib.hid hb; clear hb
    go_wp2
    go_ret
    exact ⟨by rw [HX.out]; rfl, HB.out⟩
theorem four_plain (n : Int) : (n.tmod 4 + 4) % 4 = n % 4 := by
  have h := @Int.tmod_eq_emod n 4
  split at h
  · rw [h]; omega
  · rw [h]
    have : (((4 : Int).natAbs : Nat) : Int) = 4 := rfl
    omega
set_option maxHeartbeats 400000 in
set_option maxRecDepth 10000 in
theorem rFour_any (n : Int) (w : World) : Calls Tryz.prog 67 #[.int .i64 n] w fun e w' => e = .returned (.int .i64 (n % 4)) ∧ w = w' := by
  have HP := Lib.hid (four_plain n)
  have h1 := Int.lt_tmod_of_pos n (show (0 : Int) < 4 by decide)
  have h2 := Int.tmod_lt_of_pos n (show (0 : Int) < 4 by decide)
  go_enter Tryz.func67, Tryz.ntmps67
  go_wp2
  go_ret
  exact ⟨by rw [← HP.out]; rfl, rfl⟩
theorem fi_ext {f : Fi} {q h : Int} {a b : Bool} : f = ⟨f.topic, q, a, b, h⟩ ↔ f.qos = q ∧ f.noLocal = a ∧ f.asPub = b ∧ f.handling = h := by
  obtain ⟨t, q', a', b', h'⟩ := f
  simp
theorem opt_ref (v k : Int) (f : Fi) : optB v k f = if k = 10 then decide (f = ⟨f.topic, 0, false, false, 0⟩) else if (sbLow f.qos && sbLow f.handling) = false then false
    else if v = 4 then (!f.noLocal && (!f.asPub && decide (f.handling = 0))) else (!f.noLocal || !sharedB f.topic) := by
  unfold optB fiPlain
  by_cases hk : k = 10
  · rw [if_pos hk, if_pos hk, ← Bool.decide_and]
    refine decide_eq_decide.2 ?_
    rw [fi_ext, fi_ext]
    exact ⟨fun x => ⟨x.2, x.1.2⟩, fun x => ⟨⟨rfl, x.2⟩, x.1⟩⟩
  rw [if_neg hk, if_neg hk]
  by_cases hv : v = 4
  · rw [if_pos hv, if_pos hv]
    have hp : decide (f = ⟨f.topic, f.qos, false, false, 0⟩) = (!f.noLocal && (!f.asPub && decide (f.handling = 0))) := by
      have : (!f.noLocal && (!f.asPub && decide (f.handling = 0))) = decide (f.noLocal = false ∧ f.asPub = false ∧ f.handling = 0) := by
        cases f.noLocal <;> cases f.asPub <;> simp
      rw [this]
      refine decide_eq_decide.2 ?_
      rw [fi_ext]
      exact ⟨fun x => x.2, fun x => ⟨rfl, x⟩⟩
    rw [hp]
    by_cases h0 : f.handling = 0
    · have hl : sbLow f.handling = true := by rw [h0]; rfl
      rw [hl, Bool.and_true]
      cases sbLow f.qos
      · rw [Bool.and_false, if_pos rfl]
      · rw [Bool.and_true, if_neg (by decide)]
    · rw [decide_eq_false h0]
      simp
  · rw [if_neg hv, if_neg hv]
    cases sbLow f.qos <;> cases sbLow f.handling <;> cases sharedB f.topic <;> cases f.noLocal <;> rfl
set_option maxHeartbeats 4000000 in
set_option maxRecDepth 10000 in
theorem rOptions_any (v k : Int) (f : Fi) (w : World) (hs : f.topic.size ≤ 4611686018427387904) :
    Calls Tryz.prog 86 #[.int .i64 v, .int .i64 k, .agg #[.string f.topic, .int .i64 f.qos, .bool f.noLocal, .bool f.asPub, .int .i64 f.handling]] w fun e w' => e = .returned (.bool (optB v k f)) ∧ Below w.heap.size w w' := by
  have HS := Lib.hid hs
  have HB0 := Lib.hid ((Below.refl w.heap.size w).alloc (Nat.le_refl _) (.cells #[.string f.topic, .int .i64 f.qos, .bool f.noLocal, .bool f.asPub, .int .i64 f.handling] 32))
  have HK0 := Lib.hid (Bk.fresh w 32 #[.string f.topic, .int .i64 f.qos, .bool f.noLocal, .bool f.asPub, .int .i64 f.handling])
  have HE := Lib.hid (opt_ref v k f)
  have hgt := guard_filter
  have hne := fun W => eql_filter f ⟨f.topic, 0, false, false, 0⟩ W
  obtain ⟨pl, hpl⟩ : ∃ pl, decide (f = ⟨f.topic, 0, false, false, 0⟩) = pl := ⟨_, rfl⟩
  rw [hpl] at hne
  have HP := Lib.hid hpl
  clear hpl hs
  go_enter Tryz.func86, Tryz.ntmps86
  by_cases hk : k = 10
  · have ek : (k == 10) = true := beq_iff_eq.2 hk
    have HX : Hid (optB v k f = pl) := Lib.hid (by rw [HE.out, if_pos hk, HP.out])
    clear hk
    go_wp2
    go_ret
    exact ⟨by rw [HX.out]; rfl, HB0.out⟩
  have ek : (k == 10) = false := beq_eq_false_iff_ne.2 hk
  have HE1 : Hid (optB v k f = if (sbLow f.qos && sbLow f.handling) = false then false
    else if v = 4 then (!f.noLocal && (!f.asPub && decide (f.handling = 0))) else (!f.noLocal || !sharedB f.topic)) := Lib.hid (by rw [HE.out, if_neg hk])
  clear hk HE
  by_cases a1 : f.qos < 0
  · have HX : Hid (optB v k f = false) := Lib.hid (by rw [HE1.out, if_pos (by unfold sbLow; rw [decide_eq_false (show ¬ 0 ≤ f.qos by omega)]; rfl)])
    go_wp2
    go_ret
    exact ⟨by rw [HX.out]; rfl, HB0.out⟩
  by_cases a2 : 2 < f.qos
  · have HX : Hid (optB v k f = false) := Lib.hid (by rw [HE1.out, if_pos (by unfold sbLow; rw [decide_eq_false (show ¬ f.qos < 3 by omega), Bool.and_false]; rfl)])
    go_wp2
    go_ret
    exact ⟨by rw [HX.out]; rfl, HB0.out⟩
  have hq : sbLow f.qos = true := by unfold sbLow; rw [decide_eq_true (show 0 ≤ f.qos by omega), decide_eq_true (show f.qos < 3 by omega)]; rfl
  by_cases b1 : f.handling < 0
  · have HX : Hid (optB v k f = false) := Lib.hid (by rw [HE1.out, if_pos (by rw [hq]; unfold sbLow; rw [decide_eq_false (show ¬ 0 ≤ f.handling by omega)]; rfl)])
    clear hq
    go_wp2
    go_ret
    exact ⟨by rw [HX.out]; rfl, HB0.out⟩
  by_cases b2 : 2 < f.handling
  · have HX : Hid (optB v k f = false) := Lib.hid (by rw [HE1.out, if_pos (by rw [hq]; unfold sbLow; rw [decide_eq_false (show ¬ f.handling < 3 by omega), Bool.and_false]; rfl)])
    clear hq
    go_wp2
    go_ret
    exact ⟨by rw [HX.out]; rfl, HB0.out⟩
  have HE2 : Hid (optB v k f = if v = 4 then (!f.noLocal && (!f.asPub && decide (f.handling = 0))) else (!f.noLocal || !sharedB f.topic)) := Lib.hid (by
    rw [HE1.out, if_neg (by rw [hq, show sbLow f.handling = true by unfold sbLow; rw [decide_eq_true (show 0 ≤ f.handling by omega), decide_eq_true (show f.handling < 3 by omega)]; rfl]; decide)])
  clear hq HE1
  by_cases h4 : v = 4
  · have e4 : (v == 4) = true := beq_iff_eq.2 h4
    have HE3 : Hid (optB v k f = (!f.noLocal && (!f.asPub && decide (f.handling = 0)))) := Lib.hid (by rw [HE2.out, if_pos h4])
    clear h4
    obtain ⟨nl, hnl⟩ : ∃ nl, f.noLocal = nl := ⟨_, rfl⟩
    obtain ⟨ap, hap⟩ : ∃ ap, f.asPub = ap := ⟨_, rfl⟩
    rw [hnl, hap] at HE3 HK0 hne HB0 ⊢
    clear hnl hap
    cases nl
    · cases ap
      · go_wp2
        go_ret
        exact ⟨by rw [HE3.out]; rfl, HB0.out⟩
      · go_wp2
        go_ret
        exact ⟨by rw [HE3.out]; rfl, HB0.out⟩
    · go_wp2
      go_ret
      exact ⟨by rw [HE3.out]; rfl, HB0.out⟩
  have e4 : (v == 4) = false := beq_eq_false_iff_ne.2 h4
  have HE3 : Hid (optB v k f = (!f.noLocal || !sharedB f.topic)) := Lib.hid (by rw [HE2.out, if_neg h4])
  clear h4 HE2
  go_wp2_with fail
  refine (refShared_any f.topic _ HS.out).mono ?_
  rintro e w1 ⟨⟨a, b, rfl⟩, hb⟩
  have HB1 := Lib.hid (HB0.out.trans (hb.mono HB0.out.size))
  have HK1 := Lib.hid (HK0.out.below hb HK0.out.lt)
  clear hb
  have c2 := HK1.out.cell 2
  simp only [List.getElem?_toArray, List.getElem?_cons_succ, List.getElem?_cons_zero] at c2
  obtain ⟨nl, hnl⟩ : ∃ nl, f.noLocal = nl := ⟨_, rfl⟩
  rw [hnl] at HE3 c2 ⊢
  clear hnl
  generalize sharedB f.topic = sh at *
  cases nl
  · go_wp2
    go_ret
    exact ⟨by rw [HE3.out]; rfl, HB1.out⟩
  · go_wp2
    go_ret
    exact ⟨by rw [HE3.out]; rfl, HB1.out⟩
set_option maxHeartbeats 4000000 in
set_option maxRecDepth 10000 in
theorem rOpts_any (f : Fi) (w : World) :
    Calls Tryz.prog 20 #[.agg #[.string f.topic, .int .i64 f.qos, .bool f.noLocal, .bool f.asPub, .int .i64 f.handling]] w fun e w' => e = .returned (.int .i64 (optN f)) ∧ Below w.heap.size w w' := by
  have HB0 := Lib.hid ((Below.refl w.heap.size w).alloc (Nat.le_refl _) (.cells #[.string f.topic, .int .i64 f.qos, .bool f.noLocal, .bool f.asPub, .int .i64 f.handling] 32))
  have HK0 := Lib.hid (Bk.fresh w 32 #[.string f.topic, .int .i64 f.qos, .bool f.noLocal, .bool f.asPub, .int .i64 f.handling])
  obtain ⟨A, hA⟩ : ∃ A, f.qos % 4 = A := ⟨_, rfl⟩
  obtain ⟨B, hB⟩ : ∃ B, f.handling % 4 = B := ⟨_, rfl⟩
  obtain ⟨nl, hnl⟩ : ∃ nl, f.noLocal = nl := ⟨_, rfl⟩
  obtain ⟨ap, hap⟩ : ∃ ap, f.asPub = ap := ⟨_, rfl⟩
  have HO : Hid (optN f = A + 16 * B + bitN nl 4 + bitN ap 8) := Lib.hid (by unfold optN; rw [hA, hB, hnl, hap]; omega)
  have hA0 : 0 ≤ A := by omega
  have hA1 : A ≤ 3 := by omega
  have hB0 : 0 ≤ B := by omega
  have hB1 : B ≤ 3 := by omega
  have HA := Lib.hid hA; have HBB := Lib.hid hB
  clear hA hB
  rw [hnl, hap] at HK0 HB0 ⊢
  clear hnl hap
  go_enter Tryz.func20, Tryz.ntmps20
  go_wp2_with fail
  obtain ⟨W, hW⟩ : ∃ W, w.alloc (.cells #[.string f.topic, .int .i64 f.qos, .bool nl, .bool ap, .int .i64 f.handling] 32) = W := ⟨_, rfl⟩
  rw [hW] at HK0 HB0 ⊢
  clear hW
  have q0 := regrown (W := W) (fun x _ => (rFour_any f.qos x).mono (fun e w' h => ⟨h.1, h.2 ▸ Below.refl _ _⟩))
  have q1 := regrown (W := W) (fun x _ => (rFour_any f.handling x).mono (fun e w' h => ⟨h.1, h.2 ▸ Below.refl _ _⟩))
  rw [HA.out] at q0
  rw [HBB.out] at q1
  have m1 := cell_regrown (show W.cell? ⟨w.heap.size, 1, none⟩ = some (.int .i64 f.qos) from HK0.out.cell 1)
  have m4 := cell_regrown (show W.cell? ⟨w.heap.size, 4, none⟩ = some (.int .i64 f.handling) from HK0.out.cell 4)
  have HBQ := Lib.hid (fun d os => HB0.out.trans ((below_regrown W d os).mono HB0.out.size))
  have HKQ := Lib.hid (fun d os => HK0.out.below (below_regrown W d os) HK0.out.lt)
  refine wp_region_quiet_below (by as_aux_lemma => kernel_rfl) (by as_aux_lemma => kernel_rfl) ?_
  repeat (go_big_quiet_step (first | with_reducible exact q0 _ _ | with_reducible exact q1 _ _))
  refine wpQuiet_nil ?_
  intro _ hw'
  obtain ⟨⟨dq, osq⟩, hw''⟩ := hw'
  subst hw''
  have KF := Lib.hid (HBQ.out dq osq)
  have KC := Lib.hid (HKQ.out dq osq)
  clear q0 q1 m1 m4 HBQ HKQ
  generalize Sort.grow (redrawn _ dq) osq = wq at *
  have c2 := KC.out.cell 2
  have c3 := KC.out.cell 3
  simp only [List.getElem?_toArray, List.getElem?_cons_succ, List.getElem?_cons_zero] at c2 c3
  cases nl
  · cases ap
    · go_wp2
      go_ret
      exact ⟨by rw [HO.out]; simp [bitN], KF.out⟩
    · go_wp2
      go_ret
      exact ⟨by rw [HO.out]; simp [bitN], KF.out⟩
  · cases ap
    · go_wp2
      go_ret
      exact ⟨by rw [HO.out]; simp [bitN], KF.out⟩
    · go_wp2
      go_ret
      exact ⟨by rw [HO.out]; simp [bitN], KF.out⟩
/-- A packet with just what its kind may have, as the reference says it. -/
def rsQ (v : Int) (p : Pk) : Pk :=
  if sbAsk p.kind = true then { pk0 with kind := p.kind, id := p.id, props := p.props, filters := p.filters }
  else if p.kind = 9 ∨ v = 5 then { pk0 with kind := p.kind, id := p.id, props := p.props, codes := p.codes }
  else { pk0 with kind := p.kind, id := p.id, props := p.props }
def rsH (v : Int) (p : Pk) (h : Hs) : Hs :=
  if sbAsk p.kind = true then { hs0 with props := h.props, filters := h.filters }
  else if p.kind = 9 ∨ v = 5 then { hs0 with props := h.props, codes := h.codes }
  else { hs0 with props := h.props }
theorem rs_sb {v : Int} {p : Pk} (hv : v = 4 ∨ v = 5) (hk : rKinds p.kind = true) (h : Hs) : rsQ v p = sbQ v p ∧ rsH v p h = sbH v p h := by
  unfold rKinds at hk
  simp only [Bool.and_eq_true, decide_eq_true_eq] at hk
  unfold rsQ sbQ rsH sbH
  by_cases ha : sbAsk p.kind = true
  · rw [if_pos ha, if_pos ha, if_pos ha, if_pos ha]; exact ⟨rfl, rfl⟩
  · rw [if_neg ha, if_neg ha, if_neg ha, if_neg ha]
    have hn : ¬ (p.kind = 8 ∨ p.kind = 10) := fun x => ha (decide_eq_true x)
    by_cases h9 : p.kind = 9 ∨ v = 5
    · have hs : sbSil v p.kind = false := decide_eq_false (fun x => by omega)
      rw [if_pos h9, if_pos h9, hs, if_neg (by decide), if_neg (by decide)]; exact ⟨rfl, rfl⟩
    · have hs : sbSil v p.kind = true := decide_eq_true ⟨by omega, by omega⟩
      rw [if_neg h9, if_neg h9, if_pos hs, if_pos hs]; exact ⟨rfl, rfl⟩
theorem stQ_fresh (W : World) {n : Nat} (hz : W.heap.size = n) : ∀ q k, (stPk (.pointer (some ⟨n, 0, none⟩)) (pkV q k)).run Tryz.prog (W.alloc (.cells (pkC pk0 hs0) PkT)) = .ok () (pw (W.alloc (.cells (pkC pk0 hs0) PkT)) n (pkC q k)) := fun q k => by
  have h1 := run_stPk_fresh W pk0 q hs0 k
  have h2 : pw (W.alloc (.cells (pkC pk0 hs0) PkT)) n (pkC q k) = W.alloc (.cells (pkC q k) PkT) := by
    have hx : (pw (W.alloc (.cells (pkC pk0 hs0) PkT)) W.heap.size (pkC q k)) = W.alloc (.cells (pkC q k) PkT) := by
      have hh : (W.heap.push (.cells (pkC pk0 hs0) PkT (0, 0))).setIfInBounds W.heap.size (.cells (pkC q k) PkT (0, 0)) = W.heap.push (.cells (pkC q k) PkT (0, 0)) := by
        apply Array.ext_getElem?
        intro i
        rw [Array.getElem?_push]
        by_cases hi : W.heap.size = i
        · subst hi
          simp
        · rw [Array.getElem?_setIfInBounds_ne hi, Array.getElem?_push, if_neg (fun e => hi e.symm), if_neg (fun e => hi e.symm)]
      exact congrArg (fun x => { W with heap := x }) hh
    rw [hz] at hx
    exact hx
  rw [hz] at h1
  rw [h2]
  exact h1
set_option maxHeartbeats 4000000 in
set_option maxRecDepth 10000 in
theorem rUsed_any (v : Int) (p : Pk) (h : Hs) (w : World) :
    Calls Tryz.prog 83 #[.int .i64 v, pkV p h] w fun e w' => e = .returned (pkV (rsQ v p) (rsH v p h)) ∧ Below w.heap.size w w' := by
  have hb2 := below_two w (.cells (pkC p h) PkT) (.cells (pkC pk0 hs0) PkT)
  have B1 : Bk ((w.alloc (.cells (pkC p h) PkT)).alloc (.cells (pkC pk0 hs0) PkT)) w.heap.size PkT (pkC p h) := (Bk.fresh w PkT (pkC p h)).alloc _
  have B2 : Bk ((w.alloc (.cells (pkC p h) PkT)).alloc (.cells (pkC pk0 hs0) PkT)) (w.heap.size + 1) PkT (pkC pk0 hs0) := by
    have := Bk.fresh (w.alloc (.cells (pkC p h) PkT)) PkT (pkC pk0 hs0)
    rwa [show (w.alloc (.cells (pkC p h) PkT)).heap.size = w.heap.size + 1 by simp] at this
  have hz : ((w.alloc (.cells (pkC p h) PkT)).alloc (.cells (pkC pk0 hs0) PkT)).heap.size = w.heap.size + 2 := by simp
  generalize hW : (w.alloc (.cells (pkC p h) PkT)).alloc (.cells (pkC pk0 hs0) PkT) = W at hb2 B1 B2 hz
  have HB := Lib.hid hb2; have H1 := Lib.hid B1; have H2 := Lib.hid B2; have HZ := Lib.hid hz
  clear hb2 B1 B2
  have k1 := fun i => H1.out.cell i
  have ub := run_bdKIPr p.kind p.id p.props h.props.a h.props.c
  have B3 := Bk.fresh W PkT (pkC pk0 hs0)
  rw [hz] at B3
  have hlt : w.heap.size + 2 < (W.alloc (.cells (pkC pk0 hs0) PkT)).heap.size := B3.lt
  have b1' : Bk (W.alloc (.cells (pkC pk0 hs0) PkT)) w.heap.size PkT (pkC p h) := H1.out.alloc _
  have b2' : Bk (W.alloc (.cells (pkC pk0 hs0) PkT)) (w.heap.size + 1) PkT (pkC pk0 hs0) := H2.out.alloc _
  have bb : Below w.heap.size w (W.alloc (.cells (pkC pk0 hs0) PkT)) := HB.out.alloc HB.out.size _
  have hs0' := stQ_fresh W hz
  generalize hV : W.alloc (.cells (pkC pk0 hs0) PkT) = V at hlt b1' b2' bb hs0'
  have N1 := Lib.hid b1'; have N2 := Lib.hid b2'; have NB := Lib.hid bb; have NL := Lib.hid hlt
  clear b1' b2' bb B3
  have f1 : ∀ cs, Bk (pw V (w.heap.size + 2) cs) w.heap.size PkT (pkC p h) := fun cs => (pw_other V (w.heap.size + 2) cs (by omega)).trans N1.out
  have j1 := fun cs => (f1 cs).cell
  clear f1
  have jb : Hid (∀ cs, Bk (pw V (w.heap.size + 2) cs) (w.heap.size + 1) PkT (pkC pk0 hs0)) := Lib.hid (fun cs => (pw_other V (w.heap.size + 2) cs (by omega)).trans N2.out)
  have js := fun cs q k => run_stPk (jb.out cs) q k
  have JB : Hid (∀ cs, Below w.heap.size w (pw V (w.heap.size + 2) cs)) := Lib.hid (fun cs => pw_below V (w.heap.size + 2) cs NB.out (by omega))
  go_enter Tryz.func83, Tryz.ntmps83
  go_wp2_with fail
  refine (rAsks_any p.kind _).mono ?_
  rintro e w1 ⟨rfl, hw1⟩
  subst hw1
  cases ha : sbAsk p.kind
  · by_cases h9 : p.kind = 9
    · have e9 : (p.kind == 9) = true := beq_iff_eq.2 h9
      have E1 : Hid (rsQ v p = { pk0 with kind := p.kind, id := p.id, props := p.props, codes := p.codes }) := Lib.hid (by unfold rsQ; rw [if_neg (by rw [ha]; decide), if_pos (.inl h9)])
      have E2 : Hid (rsH v p h = { hs0 with props := h.props, codes := h.codes }) := Lib.hid (by unfold rsH; rw [if_neg (by rw [ha]; decide), if_pos (.inl h9)])
      clear ha h9
      go_wp2
      refine bodyPost_ret (results_c1 rfl _ rfl (put_bk (jb.out _) _ _)) rfl ?_
      rw [E1.out, E2.out]
      exact ⟨rfl, below_put (JB.out _) (JB.out _).size (Nat.le_succ _) _ _⟩
    · have e9 : (p.kind == 9) = false := beq_eq_false_iff_ne.2 h9
      by_cases h5 : v = 5
      · have e5 : (v == 5) = true := beq_iff_eq.2 h5
        have E1 : Hid (rsQ v p = { pk0 with kind := p.kind, id := p.id, props := p.props, codes := p.codes }) := Lib.hid (by unfold rsQ; rw [if_neg (by rw [ha]; decide), if_pos (.inr h5)])
        have E2 : Hid (rsH v p h = { hs0 with props := h.props, codes := h.codes }) := Lib.hid (by unfold rsH; rw [if_neg (by rw [ha]; decide), if_pos (.inr h5)])
        clear ha h9 h5
        go_wp2
        refine bodyPost_ret (results_c1 rfl _ rfl (put_bk (jb.out _) _ _)) rfl ?_
        rw [E1.out, E2.out]
        exact ⟨rfl, below_put (JB.out _) (JB.out _).size (Nat.le_succ _) _ _⟩
      · have e5 : (v == 5) = false := beq_eq_false_iff_ne.2 h5
        have E1 : Hid (rsQ v p = { pk0 with kind := p.kind, id := p.id, props := p.props }) := Lib.hid (by unfold rsQ; rw [if_neg (by rw [ha]; decide), if_neg (fun y => y.elim h9 h5)])
        have E2 : Hid (rsH v p h = { hs0 with props := h.props }) := Lib.hid (by unfold rsH; rw [if_neg (by rw [ha]; decide), if_neg (fun y => y.elim h9 h5)])
        clear ha h9 h5
        go_wp2
        refine bodyPost_ret (results_c1 rfl _ rfl (put_bk (jb.out _) _ _)) rfl ?_
        rw [E1.out, E2.out]
        exact ⟨rfl, below_put (JB.out _) (JB.out _).size (Nat.le_succ _) _ _⟩
  · have E1 : Hid (rsQ v p = { pk0 with kind := p.kind, id := p.id, props := p.props, filters := p.filters }) := Lib.hid (by unfold rsQ; rw [if_pos ha])
    have E2 : Hid (rsH v p h = { hs0 with props := h.props, filters := h.filters }) := Lib.hid (by unfold rsH; rw [if_pos ha])
    clear ha
    go_wp2
    refine bodyPost_ret (results_c1 rfl _ rfl (put_bk (jb.out _) _ _)) rfl ?_
    rw [E1.out, E2.out]
    exact ⟨rfl, below_put (JB.out _) (JB.out _).size (Nat.le_succ _) _ _⟩
end Go.Proofs.YtmkkjiogokfnmaaGreatDoor

namespace Go.Proofs.YtmkkjiogokfnmaaGreatDoor
open Go.RowKit
attribute [local go_sem ↓] to_ldPk to_bxPk to_bdPk to_alPk to_stPk
attribute [local go_sem] run_bxPk run_bxPk_agg ld_fresh run_alPk run_bd0 run_bdK run_bdKI run_bdKIC run_bdKC run_bdKICP run_stPk_fresh pkC_0 pkC_1 pkC_2 pkC_3 pkC_4 pkC_5 pkC_6 pkC_7 pkC_8 pkC_9 pkC_10 pkC_11 pkC_12 pkC_13 pkC_14 pkC_15 pkC_16 pkC_17 pkC_18 pkC_19 pkC_20 pkC_21 pkC_22 pkC_23 pkC_24
/-- What the reference asks of a packet first. -/
def gB (v : Int) (p : Pk) : Bool := hdKnown v && (rKinds p.kind && (decide (p = rsQ v p) && (!decide (p.id < 1) && (!decide (65535 < p.id) && !(decide (v = 4) && decide (0 < p.props.length))))))
theorem gB_arg (v : Int) (p : Pk) : sbArg v p = (gB v p && sbHave v p) := by
  unfold sbArg sbFields gB
  have hk : sbKnown v p.kind = (hdKnown v && rKinds p.kind) := by
    unfold sbKnown hdKnown rKinds
    rw [← Bool.decide_and, ← Bool.decide_and]
  rw [hk]
  cases h1 : hdKnown v
  · rfl
  cases h2 : rKinds p.kind
  · rfl
  rw [(rs_sb (of_decide_eq_true h1) h2 hs0).1]
  cases decide (p.id < 1) <;> cases decide (65535 < p.id) <;> cases decide (v = 4) <;> cases decide (0 < p.props.length) <;> cases sbHave v p <;> cases decide (p = sbQ v p) <;> rfl
theorem gB_have {v : Int} {p : Pk} (g : gB v p = true) : sbHave v p = !(decide (p.filters.length + p.codes.length = 0) && !(decide (p.kind = 11) && decide (v = 4))) := by
  unfold gB at g
  simp only [Bool.and_eq_true] at g
  obtain ⟨h1, h2, h3, -⟩ := g
  have h3 := of_decide_eq_true h3
  rw [(rs_sb (of_decide_eq_true h1) h2 hs0).1] at h3
  unfold rKinds at h2
  simp only [Bool.and_eq_true, decide_eq_true_eq] at h2
  unfold sbHave
  cases ha : sbAsk p.kind
  · have hf := sb_filters_none h3 ha
    rw [if_neg (by decide), hf]
    have hn : ¬ (p.kind = 8 ∨ p.kind = 10) := of_decide_eq_false ha
    cases hsil : sbSil v p.kind
    · rw [if_neg (by decide)]
      have hs : ¬ (p.kind = 11 ∧ v = 4) := of_decide_eq_false hsil
      have : (decide (p.kind = 11) && decide (v = 4)) = false := by rw [← Bool.decide_and]; exact decide_eq_false hs
      rw [this, Bool.not_false, Bool.and_true, ← decide_not]
      exact decide_eq_decide.2 (by simp only [List.length_nil]; omega)
    · rw [if_pos rfl]
      have hs : p.kind = 11 ∧ v = 4 := of_decide_eq_true hsil
      rw [decide_eq_true hs.1, decide_eq_true hs.2]
      simp
  · have hc := sb_codes_none h3 ha
    rw [if_pos rfl, hc]
    have hn : p.kind = 8 ∨ p.kind = 10 := of_decide_eq_true ha
    rw [decide_eq_false (show ¬ p.kind = 11 by omega), Bool.false_and, Bool.not_false, Bool.and_true, ← decide_not]
    exact decide_eq_decide.2 (by simp only [List.length_nil]; omega)
theorem rsQ_len (v : Int) {p : Pk} (x : PkLen p) : PkLen (rsQ v p) := by
  unfold rsQ
  split
  · exact ⟨Nat.zero_le _, Nat.zero_le _, x.2.2.1, x.2.2.2⟩
  · split
    · exact ⟨Nat.zero_le _, x.2.1, Nat.zero_le _, x.2.2.2⟩
    · exact ⟨Nat.zero_le _, Nat.zero_le _, Nat.zero_le _, x.2.2.2⟩
theorem rsQ_in (v : Int) {w : World} {B : Nat} {p : Pk} {h : Hs} (x : PkIn w B p h) : PkIn w B (rsQ v p) (rsH v p h) := by
  unfold rsQ rsH
  split
  · exact ⟨Rd.nil _ _ _ _, Rd.nil _ _ _ _, x.filters, x.props, Nat.zero_le _, Nat.zero_le _, x.caps.2.2.1, x.caps.2.2.2⟩
  · split
    · exact ⟨Rd.nil _ _ _ _, x.codes, Rd.nil _ _ _ _, x.props, Nat.zero_le _, x.caps.2.1, Nat.zero_le _, x.caps.2.2.2⟩
    · exact ⟨Rd.nil _ _ _ _, Rd.nil _ _ _ _, Rd.nil _ _ _ _, x.props, Nat.zero_le _, Nat.zero_le _, Nat.zero_le _, x.caps.2.2.2⟩
set_option maxHeartbeats 8000000 in
set_option maxRecDepth 10000 in
theorem rValid_any (v : Int) (p : Pk) (h : Hs) (w : World) (ip : PkIn w w.heap.size p h) (ok : PkOk p) :
    Calls Tryz.prog 24 #[.int .i64 v, pkV p h] w fun e w' => e = .returned (.int .i64 (sbE v p)) ∧ Below w.heap.size w w' := by
  have OK := Lib.hid ok
  have S0 := Lib.hid ((St.start w).push ip)
  have HE : Hid (sbE v p = if sbArg v p = false then 2 else if (bytesS p.kind p.props).2 ≠ 0 then (bytesS p.kind p.props).2
    else if fiE v p.kind p.filters ≠ 0 then fiE v p.kind p.filters else cdE v p.kind p.codes) := Lib.hid rfl
  have HG : Hid (gB v p = (hdKnown v && (rKinds p.kind && (decide (p = rsQ v p) && (!decide (p.id < 1) && (!decide (65535 < p.id) && !(decide (v = 4) && decide (0 < p.props.length)))))))) := Lib.hid rfl
  obtain ⟨W, hW⟩ : ∃ W, w.alloc (.cells (pkC p h) PkT) = W := ⟨_, rfl⟩
  rw [hW] at S0
  clear ip ok
  go_enter Tryz.func24, Tryz.ntmps24
  go_upto_region 1 with fail
  clear hW
  go_cut [44] (fun a wx => a = .bool (!gB v p) ∧ St w [(w.heap.size, p, h)] wx)
  case first =>
    have q0 := regrown (W := W) (fun x _ => (refVersion_any v x).mono (by rintro e w' ⟨rfl, rfl⟩; exact ⟨rfl, Below.refl _ _⟩))
    have q1 := regrown (W := W) (fun x _ => (rKinds_any p.kind x).mono (by rintro e w' ⟨rfl, rfl⟩; exact ⟨rfl, Below.refl _ _⟩))
    have q2 := regrown (W := W) (fun x _ => rUsed_any v p h x)
    have q3 := regrown (W := W) (fun x hx => refSamePk_any p (rsQ v p) h (rsH v p h) x ((S0.out.below hx).into 0 rfl) (rsQ_in v ((S0.out.below hx).into 0 rfl)) OK.out.len (rsQ_len v OK.out.len))
    have k0 := cell_regrown (show W.cell? ⟨w.heap.size, 0, none⟩ = some (.int .i64 p.kind) from S0.out.cell 0 rfl 0)
    have k4 := cell_regrown (show W.cell? ⟨w.heap.size, 4, none⟩ = some (.int .i64 p.id) from S0.out.cell 0 rfl 4)
    have k24 := cell_regrown (show W.cell? ⟨w.heap.size, 24, none⟩ = some (.slice h.props.a p.props.length h.props.c) from S0.out.cell 0 rfl 24)
    have l0 := ld_regrown (S0.out.bk 0 rfl)
    have HBW : Hid (∀ d os, Below W.heap.size W (Sort.grow (redrawn W d) os)) := Lib.hid (fun d os => below_regrown W d os)
    generalize rsQ v p = Q at *
    generalize rsH v p h = QH at *
    cases hk : hdKnown v
    · rw [hk] at q0
      have HX : Hid (gB v p = false) := Lib.hid (by rw [HG.out, hk]; rfl)
      clear hk
      go_wp2_with fail
      refine wp_region_quiet_below (by kernel_rfl) (by kernel_rfl) ?_
      repeat (go_big_quiet_step (first | with_reducible exact q0 _ _ | with_reducible exact q1 _ _ | with_reducible exact q2 _ _ | with_reducible exact q3 _ _))
      refine wpQuiet_nil ?_
      intro _ hw'
      obtain ⟨⟨dq, osq⟩, hw''⟩ := hw'
      subst hw''
      have S2 := Lib.hid (S0.out.below (HBW.out dq osq))
      clear q0 q1 q2 q3 l0 k0 k4 k24 HBW
      generalize Sort.grow (redrawn _ dq) osq = wq at *
      go_wp2
      go_meet
      case rel => exact ⟨by rw [HX.out]; rfl, S2.out⟩
    rw [hk] at q0
    cases hr : rKinds p.kind
    · rw [hr] at q1
      have HX : Hid (gB v p = false) := Lib.hid (by rw [HG.out, hk, hr]; rfl)
      clear hk hr
      go_wp2_with fail
      refine wp_region_quiet_below (by kernel_rfl) (by kernel_rfl) ?_
      repeat (go_big_quiet_step (first | with_reducible exact q0 _ _ | with_reducible exact q1 _ _ | with_reducible exact q2 _ _ | with_reducible exact q3 _ _))
      refine wpQuiet_nil ?_
      intro _ hw'
      obtain ⟨⟨dq, osq⟩, hw''⟩ := hw'
      subst hw''
      have S2 := Lib.hid (S0.out.below (HBW.out dq osq))
      clear q0 q1 q2 q3 l0 k0 k4 k24 HBW
      generalize Sort.grow (redrawn _ dq) osq = wq at *
      go_wp2
      go_meet
      case rel => exact ⟨by rw [HX.out]; rfl, S2.out⟩
    rw [hr] at q1
    cases hq : decide (p = Q)
    · rw [hq] at q3
      have HX : Hid (gB v p = false) := Lib.hid (by rw [HG.out, hk, hr, hq]; rfl)
      clear hk hr hq
      go_wp2_with fail
      refine wp_region_quiet_below (by kernel_rfl) (by kernel_rfl) ?_
      repeat (go_big_quiet_step (first | with_reducible exact q0 _ _ | with_reducible exact q1 _ _ | with_reducible exact q2 _ _ | with_reducible exact q3 _ _))
      refine wpQuiet_nil ?_
      intro _ hw'
      obtain ⟨⟨dq, osq⟩, hw''⟩ := hw'
      subst hw''
      have S2 := Lib.hid (S0.out.below (HBW.out dq osq))
      clear q0 q1 q2 q3 l0 k0 k4 k24 HBW
      generalize Sort.grow (redrawn _ dq) osq = wq at *
      go_wp2
      go_meet
      case rel => exact ⟨by rw [HX.out]; rfl, S2.out⟩
    rw [hq] at q3
    have HG1 : Hid (gB v p = (!decide (p.id < 1) && (!decide (65535 < p.id) && !(decide (v = 4) && decide (0 < p.props.length))))) := Lib.hid (by rw [HG.out, hk, hr, hq]; rfl)
    clear hk hr hq HG
    by_cases a1 : p.id < 1
    · have x1 : decide (p.id < (1 : Int)) = true := decide_eq_true a1
      have HX : Hid (gB v p = false) := Lib.hid (by rw [HG1.out, decide_eq_true a1]; rfl)
      go_wp2_with fail
      refine wp_region_quiet_below (by kernel_rfl) (by kernel_rfl) ?_
      repeat (go_big_quiet_step (first | with_reducible exact q0 _ _ | with_reducible exact q1 _ _ | with_reducible exact q2 _ _ | with_reducible exact q3 _ _))
      refine wpQuiet_nil ?_
      intro _ hw'
      obtain ⟨⟨dq, osq⟩, hw''⟩ := hw'
      subst hw''
      have S2 := Lib.hid (S0.out.below (HBW.out dq osq))
      clear q0 q1 q2 q3 l0 k0 k4 k24 HBW
      generalize Sort.grow (redrawn _ dq) osq = wq at *
      go_wp2
      go_meet
      case rel => exact ⟨by rw [HX.out]; rfl, S2.out⟩
    have x1 : decide (p.id < (1 : Int)) = false := decide_eq_false a1
    by_cases a2 : 65535 < p.id
    · have x2 : decide ((65535 : Int) < p.id) = true := decide_eq_true a2
      have HX : Hid (gB v p = false) := Lib.hid (by rw [HG1.out, decide_eq_true a2, Bool.not_true, Bool.false_and, Bool.and_false])
      go_wp2_with fail
      refine wp_region_quiet_below (by kernel_rfl) (by kernel_rfl) ?_
      repeat (go_big_quiet_step (first | with_reducible exact q0 _ _ | with_reducible exact q1 _ _ | with_reducible exact q2 _ _ | with_reducible exact q3 _ _))
      refine wpQuiet_nil ?_
      intro _ hw'
      obtain ⟨⟨dq, osq⟩, hw''⟩ := hw'
      subst hw''
      have S2 := Lib.hid (S0.out.below (HBW.out dq osq))
      clear q0 q1 q2 q3 l0 k0 k4 k24 HBW
      generalize Sort.grow (redrawn _ dq) osq = wq at *
      go_wp2
      go_meet
      case rel => exact ⟨by rw [HX.out]; rfl, S2.out⟩
    have x2 : decide ((65535 : Int) < p.id) = false := decide_eq_false a2
    have HG2 : Hid (gB v p = !(decide (v = 4) && decide (0 < p.props.length))) := Lib.hid (by rw [HG1.out, decide_eq_false a1, decide_eq_false a2]; rfl)
    by_cases a4 : v = 4
    · have e4 : (v == 4) = true := beq_iff_eq.2 a4
      by_cases ap : 0 < p.props.length
      · have d4 : decide ((0 : Int) < (p.props.length : Int)) = true := decide_eq_true (by omega)
        have HX : Hid (gB v p = false) := Lib.hid (by rw [HG2.out, decide_eq_true a4, decide_eq_true ap]; rfl)
        clear a4
        go_wp2_with fail
        refine wp_region_quiet_below (by kernel_rfl) (by kernel_rfl) ?_
        repeat (go_big_quiet_step (first | with_reducible exact q0 _ _ | with_reducible exact q1 _ _ | with_reducible exact q2 _ _ | with_reducible exact q3 _ _))
        refine wpQuiet_nil ?_
        intro _ hw'
        obtain ⟨⟨dq, osq⟩, hw''⟩ := hw'
        subst hw''
        have S2 := Lib.hid (S0.out.below (HBW.out dq osq))
        clear q0 q1 q2 q3 l0 k0 k4 k24 HBW
        generalize Sort.grow (redrawn _ dq) osq = wq at *
        go_wp2
        go_meet
        case rel => exact ⟨by rw [HX.out]; first | rfl | (rw [decide_eq_true ap]; rfl), S2.out⟩
      · have d4 : decide ((0 : Int) < (p.props.length : Int)) = false := decide_eq_false (by omega)
        have HX : Hid (gB v p = true) := Lib.hid (by rw [HG2.out, decide_eq_false ap, Bool.and_false]; rfl)
        clear a4
        go_wp2_with fail
        refine wp_region_quiet_below (by kernel_rfl) (by kernel_rfl) ?_
        repeat (go_big_quiet_step (first | with_reducible exact q0 _ _ | with_reducible exact q1 _ _ | with_reducible exact q2 _ _ | with_reducible exact q3 _ _))
        refine wpQuiet_nil ?_
        intro _ hw'
        obtain ⟨⟨dq, osq⟩, hw''⟩ := hw'
        subst hw''
        have S2 := Lib.hid (S0.out.below (HBW.out dq osq))
        clear q0 q1 q2 q3 l0 k0 k4 k24 HBW
        generalize Sort.grow (redrawn _ dq) osq = wq at *
        go_wp2
        go_meet
        case rel => exact ⟨by rw [HX.out]; first | rfl | (rw [decide_eq_false ap]; rfl), S2.out⟩
    · have e4 : (v == 4) = false := beq_eq_false_iff_ne.2 a4
      have HX : Hid (gB v p = true) := Lib.hid (by rw [HG2.out, decide_eq_false a4, Bool.false_and]; rfl)
      clear a4
      go_wp2_with fail
      refine wp_region_quiet_below (by kernel_rfl) (by kernel_rfl) ?_
      repeat (go_big_quiet_step (first | with_reducible exact q0 _ _ | with_reducible exact q1 _ _ | with_reducible exact q2 _ _ | with_reducible exact q3 _ _))
      refine wpQuiet_nil ?_
      intro _ hw'
      obtain ⟨⟨dq, osq⟩, hw''⟩ := hw'
      subst hw''
      have S2 := Lib.hid (S0.out.below (HBW.out dq osq))
      clear q0 q1 q2 q3 l0 k0 k4 k24 HBW
      generalize Sort.grow (redrawn _ dq) osq = wq at *
      go_wp2
      go_meet
      case rel => exact ⟨by rw [HX.out]; rfl, S2.out⟩
  obtain ⟨rfl, hst⟩ := hcut
  have S1 := Lib.hid hst
  have HAG : Hid (sbArg v p = (gB v p && sbHave v p)) := Lib.hid (gB_arg v p)
  clear hst S0
  cases hg : gB v p
  · have HX : Hid (sbE v p = 2) := Lib.hid (by rw [HE.out, if_pos (by rw [HAG.out, hg]; rfl)])
    clear hg
    go_wp2
    go_ret
    exact ⟨by rw [HX.out]; rfl, S1.out.kept⟩
  have HH : Hid (sbHave v p = !(decide (p.filters.length + p.codes.length = 0) && !(decide (p.kind = 11) && decide (v = 4)))) := Lib.hid (gB_have hg)
  have HP : Hid (v = 4 → p.props.length = 0) := Lib.hid (fun h4 => by
    unfold gB at hg
    simp only [Bool.and_eq_true] at hg
    have h5 := hg.2.2.2.2.2
    rw [decide_eq_true h4] at h5
    by_cases h0 : 0 < p.props.length
    · rw [decide_eq_true h0] at h5; cases h5
    · omega)
  have HAH : Hid (sbArg v p = sbHave v p) := Lib.hid (by rw [HAG.out, hg, Bool.true_and])
  obtain ⟨n, hn⟩ : ∃ n, p.filters.length = n := ⟨_, rfl⟩
  obtain ⟨m, hm⟩ : ∃ m, p.codes.length = m := ⟨_, rfl⟩
  have k0 := S1.out.cell 0 rfl
  have k23 := k0 23; have k22 := k0 22
  rw [pkC_23, hn] at k23
  rw [pkC_22, hm] at k22
  have kk := (k0 0).trans (pkC_0 _ _)
  rw [hn, hm] at HH
  have HN := Lib.hid hn; have HM := Lib.hid hm
  have hn2 : n ≤ 140737488351232 := by have := OK.out.lens.2.2.1; omega
  have hm2 : m ≤ 140737488351232 := by have := OK.out.lens.2.1; omega
  clear hn hm k0 hg HAG
  go_upto_region 3 with fail
  go_cut [62] (fun a wx => a = .bool (!sbHave v p) ∧ St w [(w.heap.size, p, h)] wx)
  case first =>
    by_cases z : n + m = 0
    rotate_left
    · have e0 : ((n : Int) + (m : Int) == 0) = false := beq_eq_false_iff_ne.2 (by omega)
      have HX : Hid (sbHave v p = true) := Lib.hid (by rw [HH.out, decide_eq_false z]; rfl)
      clear z
      go_wp2
      go_meet
      case rel => exact ⟨by rw [HX.out]; rfl, S1.out⟩
    have e0 : ((n : Int) + (m : Int) == 0) = true := beq_iff_eq.2 (by omega)
    by_cases z1 : p.kind = 11
    rotate_left
    · have e1 : (p.kind == 11) = false := beq_eq_false_iff_ne.2 z1
      have HX : Hid (sbHave v p = false) := Lib.hid (by rw [HH.out, decide_eq_true z, decide_eq_false z1]; rfl)
      clear z z1
      go_wp2
      go_meet
      case rel => exact ⟨by rw [HX.out]; rfl, S1.out⟩
    have e1 : (p.kind == 11) = true := beq_iff_eq.2 z1
    by_cases z2 : v = 4
    · have e2 : (v == 4) = true := beq_iff_eq.2 z2
      have HX : Hid (sbHave v p = true) := Lib.hid (by rw [HH.out, decide_eq_true z, decide_eq_true z1, decide_eq_true z2]; rfl)
      clear z z1 z2
      go_wp2
      go_meet
      case rel => exact ⟨by rw [HX.out]; rfl, S1.out⟩
    · have e2 : (v == 4) = false := beq_eq_false_iff_ne.2 z2
      have HX : Hid (sbHave v p = false) := Lib.hid (by rw [HH.out, decide_eq_true z, decide_eq_true z1, decide_eq_false z2]; rfl)
      clear z z1 z2
      go_wp2
      go_meet
      case rel => exact ⟨by rw [HX.out]; rfl, S1.out⟩
  obtain ⟨rfl, hst⟩ := hcut
  clear k22 k23 kk S1
  have S1 := Lib.hid hst
  clear hst HH
  cases hh : sbHave v p
  · have HX : Hid (sbE v p = 2) := Lib.hid (by rw [HE.out, if_pos (by rw [HAH.out, hh])])
    clear hh
    go_wp2
    go_ret
    exact ⟨by rw [HX.out]; rfl, S1.out.kept⟩
  have HE1 : Hid (sbE v p = if (bytesS p.kind p.props).2 ≠ 0 then (bytesS p.kind p.props).2 else if fiE v p.kind p.filters ≠ 0 then fiE v p.kind p.filters else cdE v p.kind p.codes) := Lib.hid (by rw [HE.out, if_neg (by rw [HAH.out, hh]; decide)])
  clear hh HE HAH
  have kk := (S1.out.cell 0 rfl 0).trans (pkC_0 _ _)
  have k24 := (S1.out.cell 0 rfl 24).trans (pkC_24 _ _)
  go_wp2_with fail
  refine (refRight_any v p.kind p.props _ rfl OK.out.props h.props.a h.props.c _ (S1.out.into 0 rfl).props OK.out.len.2.2.2 (S1.out.into 0 rfl).caps.2.2.2).mono ?_
  rintro e w2 ⟨rfl, hb⟩
  rw [right_none HP.out]
  have S2 := Lib.hid (S1.out.below hb); clear hb kk k24
  obtain ⟨x, hx⟩ : ∃ x, (bytesS p.kind p.props).2 = x := ⟨_, rfl⟩
  rw [hx] at HE1 ⊢
  clear hx
  by_cases hx : x = 0
  rotate_left
  · have HX : Hid (sbE v p = x) := Lib.hid (by rw [HE1.out, if_pos hx])
    have e0 : (x != 0) = true := bne_iff_ne.2 hx
    clear hx
    go_wp2
    go_ret
    exact ⟨by rw [HX.out]; rfl, S2.out.kept⟩
  have HE2 : Hid (sbE v p = if fiE v p.kind p.filters ≠ 0 then fiE v p.kind p.filters else cdE v p.kind p.codes) := Lib.hid (by rw [HE1.out, if_neg (fun y => y hx)])
  have e0 : (x != 0) = false := by rw [hx]; rfl
  clear hx HE1
  have k23 := S2.out.cell 0 rfl 23
  have k22 := S2.out.cell 0 rfl 22
  rw [pkC_23, HN.out] at k23
  rw [pkC_22, HM.out] at k22
  have kk := (S2.out.cell 0 rfl 0).trans (pkC_0 _ _)
  go_wp2
  go_loopw [6] (fun i wr => ∃ k : Nat, k ≤ n ∧ i = .int .i64 k ∧ fiE v p.kind p.filters = fiE v p.kind (p.filters.drop k) ∧ Below w2.heap.size w2 wr) (fun i _ => n - (intOf i).toNat)
  case atStart => exact ⟨0, by omega, rfl, by rw [List.drop_zero], Below.refl _ _⟩
  case round =>
    obtain ⟨k, hk, rfl, hfi, hbel⟩ := hrel
    have S3 := Lib.hid (S2.out.below hbel)
    have HF := Lib.hid hfi; have HBL := Lib.hid hbel
    clear hfi kk k22 k23
    have kk := (S3.out.cell 0 rfl 0).trans (pkC_0 _ _)
    have k22 := S3.out.cell 0 rfl 22
    rw [pkC_22, HM.out] at k22
    have k23 := S3.out.cell 0 rfl 23
    rw [pkC_23, HN.out] at k23
    by_cases hlt : k < n
    · have hp : k < p.filters.length := by rw [HN.out]; exact hlt
      obtain ⟨b, o, hA, hb, c0, c1, c2, c3, c4⟩ := ((S3.out.into 0 rfl).filters).atF hp
      have hts := OK.out.topics p.filters[k] (List.getElem_mem hp)
      have HAT := Lib.hid (HF.out.trans (fiE_at (v := v) (k := p.kind) hp))
      generalize p.filters[k] = f at *
      have HTS := Lib.hid hts
      have b1 : (0 : Int) ≤ (k : Int) := by omega
      have b2 : (k : Int) < (n : Int) := by omega
      clear hp hts
      have S4 := S3
      have HB4 := HBL
      have hbl := hb
      go_wp2_with fail
      refine (refFilter_any f.topic _ (by have := HTS.out; omega)).mono ?_
      rintro e w4 ⟨rfl, hb4⟩
      have S5 := Lib.hid (S4.out.below hb4)
      have HB5 := Lib.hid (HB4.out.trans (hb4.mono HB4.out.size))
      have c0 := (hb4.cell (p := ⟨b, o + k * 5, none⟩) hbl).trans c0
      have c1 := (hb4.cell (p := ⟨b, o + k * 5 + 1, none⟩) hbl).trans c1
      have c2 := (hb4.cell (p := ⟨b, o + k * 5 + 2, none⟩) hbl).trans c2
      have c3 := (hb4.cell (p := ⟨b, o + k * 5 + 3, none⟩) hbl).trans c3
      have c4 := (hb4.cell (p := ⟨b, o + k * 5 + 4, none⟩) hbl).trans c4
      clear hb4 kk k22 k23
      have k23 := S5.out.cell 0 rfl 23
      rw [pkC_23, HN.out, hA] at k23
      have kk := (S5.out.cell 0 rfl 0).trans (pkC_0 _ _)
      cases hfl : filterB f.topic
      · have HX : Hid (sbE v p = 10) := Lib.hid (by
          have e : fiE v p.kind p.filters = 10 := by rw [HAT.out, if_pos hfl]
          rw [HE2.out, e, if_pos (by decide)])
        clear hfl
        go_wp2
        go_ret
        exact ⟨by rw [HX.out]; rfl, S5.out.kept⟩
      have HAT2 : Hid (fiE v p.kind p.filters = if optB v p.kind f = false then 2 else fiE v p.kind (p.filters.drop (k + 1))) := Lib.hid (by rw [HAT.out, if_neg (by rw [hfl]; decide)])
      clear hfl
      go_wp2_with fail
      have q0 := regrown (W := w4) (fun x _ => rOptions_any v p.kind f x (by have := HTS.out; omega))
      have r0 := cell_regrown c0; have r1 := cell_regrown c1; have r2 := cell_regrown c2; have r3 := cell_regrown c3; have r4 := cell_regrown c4
      have rk := cell_regrown kk; have r23 := cell_regrown k23
      have HBW : Hid (∀ d os, Below w4.heap.size w4 (Sort.grow (redrawn w4 d) os)) := Lib.hid (fun d os => below_regrown w4 d os)
      clear c0 c1 c2 c3 c4 kk k23
      refine wp_region_quiet_below (by kernel_rfl) (by kernel_rfl) ?_
      repeat (go_big_quiet_step (first | with_reducible exact q0 _ _))
      refine wpQuiet_nil ?_
      intro _ hw'
      obtain ⟨⟨dq, osq⟩, hw''⟩ := hw'
      subst hw''
      have S6 := Lib.hid (S5.out.below (HBW.out dq osq))
      have HB6 := Lib.hid (HB5.out.trans ((HBW.out dq osq).mono HB5.out.size))
      clear q0 r0 r1 r2 r3 r4 rk r23 HBW
      generalize Sort.grow (redrawn _ dq) osq = w5 at *
      cases hop : optB v p.kind f
      · have HX : Hid (sbE v p = 2) := Lib.hid (by
          have e : fiE v p.kind p.filters = 2 := by rw [HAT2.out, if_pos hop]
          rw [HE2.out, e, if_pos (by decide)])
        clear hop
        go_wp2
        go_ret
        exact ⟨by rw [HX.out]; rfl, S6.out.kept⟩
      have HX : Hid (fiE v p.kind p.filters = fiE v p.kind (p.filters.drop (k + 1))) := Lib.hid (by rw [HAT2.out, if_neg (by rw [hop]; decide)])
      clear hop
      go_wp2
      go_roundw
      case rel => exact ⟨k + 1, by omega, by go_num, HX.out, HB6.out⟩
      case measure => simp [intOf]; omega
    · obtain rfl : k = n := by omega
      have HX : Hid (sbE v p = cdE v p.kind p.codes) := Lib.hid (by
        have e : fiE v p.kind p.filters = 0 := by rw [HF.out, ← HN.out, List.drop_length]; rfl
        rw [HE2.out, e, if_neg (fun y => y rfl)])
      clear HE2 HF
      go_wp2
      go_loopw [7] (fun i wq => ∃ k : Nat, k ≤ m ∧ i = .int .i64 k ∧ cdE v p.kind p.codes = cdE v p.kind (p.codes.drop k) ∧ Below wr.heap.size wr wq) (fun i _ => m - (intOf i).toNat)
      case atStart => exact ⟨0, by omega, rfl, by rw [List.drop_zero], Below.refl _ _⟩
      case round =>
        obtain ⟨j, hj, rfl, hcd, hbq⟩ := hrel
        have S4 := Lib.hid (S3.out.below hbq)
        have HC := Lib.hid hcd; have HBQ := Lib.hid hbq
        clear hcd kk k22 k23
        have kk := (S4.out.cell 0 rfl 0).trans (pkC_0 _ _)
        have k22 := S4.out.cell 0 rfl 22
        rw [pkC_22, HM.out] at k22
        by_cases hlt2 : j < m
        · have hp : j < p.codes.length := by rw [HM.out]; exact hlt2
          obtain ⟨b, o, z, hA, hb, hz, hc⟩ := ((S4.out.into 0 rfl).codes).atI hp
          have HZ : Hid (cdE v p.kind p.codes = if ansB v p.kind z = false then 2 else cdE v p.kind (p.codes.drop (j + 1))) := Lib.hid (by
            rw [HC.out, cdE_at hp]
            rw [List.getElem?_eq_getElem hp] at hz
            rw [Option.some.inj hz])
          have b1 : (0 : Int) ≤ (j : Int) := by omega
          have b2 : (j : Int) < (m : Int) := by omega
          clear hp hz
          go_wp2_with fail
          have q0 := regrown (W := wr) (fun x _ => rCode_any v p.kind z x)
          have r0 := cell_regrown hc
          have rk := cell_regrown kk; have r22 := cell_regrown k22
          have HBW : Hid (∀ d os, Below wr.heap.size wr (Sort.grow (redrawn wr d) os)) := Lib.hid (fun d os => below_regrown wr d os)
          clear hc kk k22
          refine wp_region_quiet_below (by kernel_rfl) (by kernel_rfl) ?_
          repeat (go_big_quiet_step (first | with_reducible exact q0 _ _))
          refine wpQuiet_nil ?_
          intro _ hw'
          obtain ⟨⟨dq, osq⟩, hw''⟩ := hw'
          subst hw''
          have S5 := Lib.hid (S4.out.below (HBW.out dq osq))
          have HB5 := Lib.hid (HBQ.out.trans ((HBW.out dq osq).mono HBQ.out.size))
          clear q0 r0 rk r22 HBW
          generalize Sort.grow (redrawn _ dq) osq = w5 at *
          cases hop : ansB v p.kind z
          · have HX2 : Hid (sbE v p = 2) := Lib.hid (by rw [HX.out, HZ.out, if_pos hop])
            clear hop
            go_wp2
            go_ret
            exact ⟨by rw [HX2.out]; rfl, S5.out.kept⟩
          have HX2 : Hid (cdE v p.kind p.codes = cdE v p.kind (p.codes.drop (j + 1))) := Lib.hid (by rw [HZ.out, if_neg (by rw [hop]; decide)])
          clear hop
          go_wp2
          go_roundw
          case rel => exact ⟨j + 1, by omega, by go_num, HX2.out, HB5.out⟩
          case measure => simp [intOf]; omega
        · obtain rfl : j = m := by omega
          have HX2 : Hid (sbE v p = 0) := Lib.hid (by rw [HX.out, HC.out, ← HM.out, List.drop_length]; rfl)
          go_wp2
          go_ret
          exact ⟨by rw [HX2.out]; rfl, S4.out.kept⟩
end Go.Proofs.YtmkkjiogokfnmaaGreatDoor

namespace Go.Proofs.YtmkkjiogokfnmaaGreatDoor
open Go.RowKit
attribute [local go_sem ↓] to_ldPk to_bxPk to_bdPk to_alPk to_stPk
attribute [local go_sem] run_bxPk run_bxPk_agg ld_fresh run_alPk run_bd0 run_bdK run_bdKI run_bdKIC run_bdKC run_bdKICP run_stPk_fresh pkC_0 pkC_1 pkC_2 pkC_3 pkC_4 pkC_5 pkC_6 pkC_7 pkC_8 pkC_9 pkC_10 pkC_11 pkC_12 pkC_13 pkC_14 pkC_15 pkC_16 pkC_17 pkC_18 pkC_19 pkC_20 pkC_21 pkC_22 pkC_23 pkC_24
set_option maxHeartbeats 4000000 in
set_option maxRecDepth 10000 in
theorem rAns_any (v : Int) (p q : Pk) (h k : Hs) (w : World) (ip : PkIn w w.heap.size p h) (iq : PkIn w w.heap.size q k) (ok : PkOk p) (okq : PkOk q) :
    Calls Tryz.prog 25 #[.int .i64 v, pkV p h, pkV q k] w fun e w' => e = .returned (.bool (sbAns v p q)) ∧ Below w.heap.size w w' := by
  have OK := Lib.hid ok
  have OKQ := Lib.hid okq
  have S00 := Lib.hid ((St.start w).push ip)
  have IQ : PkIn (w.alloc (.cells (pkC p h) PkT)) (w.alloc (.cells (pkC p h) PkT)).heap.size q k := (iq.below ((Below.refl _ _).alloc (Nat.le_refl _) _)).wider (by simp)
  have S0 := Lib.hid (S00.out.pushB (g := w.heap.size + 1) (by simp) IQ)
  have HE : Hid (sbAns v p q = (sbAsk p.kind && (decide (q.kind = p.kind + 1) && (decide (q.id = p.id) && (decide (sbE v p = 0) && (decide (sbE v q = 0) && (sbSil v q.kind || decide (q.codes.length = p.filters.length)))))))) := Lib.hid rfl
  have k0 := (S0.out.cell 0 rfl 0).trans (pkC_0 _ _)
  clear ip ok iq okq IQ S00
  go_enter Tryz.func25, Tryz.ntmps25
  go_wp2_with fail
  refine (rAsks_any p.kind _).mono ?_
  rintro e w1 ⟨rfl, hw1⟩
  subst hw1
  cases hk : sbAsk p.kind
  · have HX : Hid (sbAns v p q = false) := Lib.hid (by rw [HE.out, hk]; rfl)
    clear hk
    go_wp2
    go_ret
    exact ⟨by rw [HX.out]; rfl, S0.out.kept⟩
  have hk8 : p.kind = 8 ∨ p.kind = 10 := of_decide_eq_true hk
  have HE1 : Hid (sbAns v p q = (decide (q.kind = p.kind + 1) && (decide (q.id = p.id) && (decide (sbE v p = 0) && (decide (sbE v q = 0) && (sbSil v q.kind || decide (q.codes.length = p.filters.length))))))) := Lib.hid (by rw [HE.out, hk, Bool.true_and])
  clear hk HE
  have j0 := (S0.out.cell 1 rfl 0).trans (pkC_0 _ _)
  by_cases hq : q.kind = p.kind + 1
  rotate_left
  · have HX : Hid (sbAns v p q = false) := Lib.hid (by rw [HE1.out, decide_eq_false hq]; rfl)
    have e1 : (q.kind != p.kind + 1) = true := bne_iff_ne.2 hq
    clear hq
    have hP0 : 8 ≤ p.kind := by omega
    have hP1 : p.kind ≤ 10 := by omega
    clear hk8
    go_wp2
    go_ret
    exact ⟨by rw [HX.out]; rfl, S0.out.kept⟩
  have HE2 : Hid (sbAns v p q = (decide (q.id = p.id) && (decide (sbE v p = 0) && (decide (sbE v q = 0) && (sbSil v q.kind || decide (q.codes.length = p.filters.length)))))) := Lib.hid (by rw [HE1.out, decide_eq_true hq, Bool.true_and])
  have e1 : (q.kind != p.kind + 1) = false := by rw [hq]; exact bne_self_eq_false _
  have hP0 : 8 ≤ p.kind := by omega
  have hP1 : p.kind ≤ 10 := by omega
  clear hq hk8 HE1
  have HE3 : Hid (sbAns v p q = (decide (sbE v p = 0) && (decide (sbE v q = 0) && (decide (q.id = p.id) && (sbSil v q.kind || decide (q.codes.length = p.filters.length)))))) := Lib.hid (by
    rw [HE2.out]
    cases decide (q.id = p.id) <;> cases decide (sbE v p = 0) <;> cases decide (sbE v q = 0) <;> rfl)
  clear HE2
  have l0 := S0.out.ld 0 rfl
  go_wp2_with fail
  refine (rValid_any v p h _ (S0.out.into 0 rfl) OK.out).mono ?_
  rintro e w1 ⟨rfl, hb⟩
  have S1 := Lib.hid (S0.out.below hb); clear hb l0 k0 j0
  obtain ⟨x, hx⟩ : ∃ x, sbE v p = x := ⟨_, rfl⟩
  rw [hx] at HE3 ⊢
  clear hx
  by_cases hx : x = 0
  rotate_left
  · have HX : Hid (sbAns v p q = false) := Lib.hid (by rw [HE3.out, decide_eq_false hx]; rfl)
    have e0 : (x != 0) = true := bne_iff_ne.2 hx
    clear hx
    go_wp2
    go_ret
    exact ⟨by rw [HX.out]; rfl, S1.out.kept⟩
  have HE4 : Hid (sbAns v p q = (decide (sbE v q = 0) && (decide (q.id = p.id) && (sbSil v q.kind || decide (q.codes.length = p.filters.length))))) := Lib.hid (by rw [HE3.out, decide_eq_true hx, Bool.true_and])
  have e0 : (x != 0) = false := by rw [hx]; rfl
  clear hx HE3
  have l1 := S1.out.ld 1 rfl
  go_wp2_with fail
  refine (rValid_any v q k _ (S1.out.into 1 rfl) OKQ.out).mono ?_
  rintro e w2 ⟨rfl, hb⟩
  have S2 := Lib.hid (S1.out.below hb); clear hb l1
  have j0 := (S2.out.cell 1 rfl 0).trans (pkC_0 _ _)
  obtain ⟨y, hy⟩ : ∃ y, sbE v q = y := ⟨_, rfl⟩
  rw [hy] at HE4 ⊢
  clear hy
  by_cases hy : y = 0
  rotate_left
  · have HX : Hid (sbAns v p q = false) := Lib.hid (by rw [HE4.out, decide_eq_false hy]; rfl)
    have e3 : (y != 0) = true := bne_iff_ne.2 hy
    clear hy
    go_wp2
    go_ret
    exact ⟨by rw [HX.out]; rfl, S2.out.kept⟩
  have HE50 : Hid (sbAns v p q = (decide (q.id = p.id) && (sbSil v q.kind || decide (q.codes.length = p.filters.length)))) := Lib.hid (by rw [HE4.out, decide_eq_true hy, Bool.true_and])
  have e3 : (y != 0) = false := by rw [hy]; rfl
  clear hy HE4
  have k4 := (S2.out.cell 0 rfl 4).trans (pkC_4 _ _)
  have j4 := (S2.out.cell 1 rfl 4).trans (pkC_4 _ _)
  by_cases hi : q.id = p.id
  rotate_left
  · have HX : Hid (sbAns v p q = false) := Lib.hid (by rw [HE50.out, decide_eq_false hi]; rfl)
    have e2 : (p.id != q.id) = true := bne_iff_ne.2 (fun z => hi z.symm)
    clear hi
    go_wp2
    go_ret
    exact ⟨by rw [HX.out]; rfl, S2.out.kept⟩
  have HE1 : Hid (sbAns v p q = (sbSil v q.kind || decide (q.codes.length = p.filters.length))) := Lib.hid (by rw [HE50.out, decide_eq_true hi, Bool.true_and])
  have e2 : (p.id != q.id) = false := by rw [hi]; exact bne_self_eq_false _
  clear hi HE50
  obtain ⟨n, hn⟩ : ∃ n, q.codes.length = n := ⟨_, rfl⟩
  obtain ⟨m, hm⟩ : ∃ m, p.filters.length = m := ⟨_, rfl⟩
  have k22 := S2.out.cell 1 rfl 22
  have k23 := S2.out.cell 0 rfl 23
  rw [pkC_22, hn] at k22
  rw [pkC_23, hm] at k23
  rw [hn, hm] at HE1
  clear hn hm
  by_cases hs : q.kind = 11 ∧ v = 4
  · have e1 : (q.kind == 11) = true := beq_iff_eq.2 hs.1
    have e5 : (v == 4) = true := beq_iff_eq.2 hs.2
    have HX : Hid (sbAns v p q = true) := Lib.hid (by rw [HE1.out, show sbSil v q.kind = true from decide_eq_true hs]; rfl)
    clear hs
    go_wp2
    go_ret
    exact ⟨by rw [HX.out]; rfl, S2.out.kept⟩
  have HX : Hid (sbAns v p q = ((n : Int) == (m : Int))) := Lib.hid (by
    rw [HE1.out, show sbSil v q.kind = false from decide_eq_false hs, Bool.false_or]
    by_cases e : n = m
    · rw [decide_eq_true e, e]; simp
    · rw [decide_eq_false e]; exact (beq_eq_false_iff_ne.2 (by omega)).symm)
  by_cases h11 : q.kind = 11
  · have e1 : (q.kind == 11) = true := beq_iff_eq.2 h11
    have e5 : (v == 4) = false := beq_eq_false_iff_ne.2 (fun y => hs ⟨h11, y⟩)
    clear hs h11
    go_wp2
    go_ret
    exact ⟨by rw [HX.out]; rfl, S2.out.kept⟩
  · have e1 : (q.kind == 11) = false := beq_eq_false_iff_ne.2 h11
    clear hs h11
    go_wp2
    go_ret
    exact ⟨by rw [HX.out]; rfl, S2.out.kept⟩
end Go.Proofs.YtmkkjiogokfnmaaGreatDoor

namespace Go.Proofs.YtmkkjiogokfnmaaGreatDoor
open Go.RowKit
attribute [local go_sem ↓] to_ldPk to_bxPk to_bdPk to_alPk to_stPk
attribute [local go_sem] run_bxPk run_bxPk_agg ld_fresh run_alPk run_bd0 run_bdK run_bdKI run_bdKIC run_bdKC run_bdKICP run_stPk_fresh pkC_0 pkC_1 pkC_2 pkC_3 pkC_4 pkC_5 pkC_6 pkC_7 pkC_8 pkC_9 pkC_10 pkC_11 pkC_12 pkC_13 pkC_14 pkC_15 pkC_16 pkC_17 pkC_18 pkC_19 pkC_20 pkC_21 pkC_22 pkC_23 pkC_24
theorem one_size (y : UInt8) : (⟨#[y]⟩ : ByteArray).size = 1 := rfl
theorem conv_one (y : UInt8) (W : World) : (convert 64 9 (.slice (some ⟨W.heap.size, 0, none⟩) 1 1)).run Tryz.prog (W.alloc (.cells #[.int .u8 (y.toNat : Int)] 5)) = .ok (.string ⟨#[y]⟩) (W.alloc (.cells #[.int .u8 (y.toNat : Int)] 5)) :=
  conv_rd 64 9 5 Tryz.underlying64 Tryz.underlying5 Tryz.underlying9 1 (Rd.lit W #[.int .u8 (y.toNat : Int)] 5 (xs := bys [y]) rfl (Nat.lt_succ_self _) rfl)
theorem tailB_ls (v k : Int) (l : List Pr) : ls (tailB v k l) = tailL8 v k l := tail8_ls v k l
set_option maxHeartbeats 8000000 in
set_option maxRecDepth 10000 in
theorem rBody_any (v : Int) (p : Pk) (h : Hs) (w : World) (ip : PkIn w w.heap.size p h) (ok : PkOk p) (hz : (sbS v p).length ≤ 140737488351232) :
    Calls Tryz.prog 22 #[.int .i64 v, pkV p h] w fun e w' => e = .returned (.tuple #[.string (sbB v p).1, .int .i64 (sbB v p).2]) ∧ Below w.heap.size w w' := by
  have OK := Lib.hid ok
  have HZ := Lib.hid hz
  have S0 := Lib.hid ((St.start w).push ip)
  have HE : Hid (sbB v p = if sbE v p = 0 then (⟨(sbS v p).toArray⟩, 0) else (⟨#[]⟩, sbE v p)) := Lib.hid rfl
  clear ip ok hz
  go_enter Tryz.func22, Tryz.ntmps22
  have hl := S0.out.ld 0 rfl
  go_wp2_with fail
  refine (rValid_any v p h _ (S0.out.into 0 rfl) OK.out).mono ?_
  rintro e w1 ⟨rfl, hb⟩
  have S1 := Lib.hid (S0.out.below hb); clear hb hl
  by_cases he : sbE v p = 0
  rotate_left
  · have e0 : (sbE v p != 0) = true := bne_iff_ne.2 he
    have HX : Hid (sbB v p = (⟨#[]⟩, sbE v p)) := Lib.hid (by rw [HE.out, if_neg he])
    clear he
    go_wp2
    go_ret2
    exact ⟨by rw [HX.out]; rfl, S1.out.kept⟩
  have HX : Hid (sbB v p = (⟨(sbS v p).toArray⟩, 0)) := Lib.hid (by rw [HE.out, if_pos he])
  have G := Lib.hid (sbE_ok he)
  rw [he]
  clear he
  obtain ⟨m, hm, hw1⟩ : ∃ m : Nat, Hid (p.id.toNat = m) ∧ IntKind.u64.wrap p.id = (m : Int) := ⟨_, Lib.hid rfl, by rw [IntKind.wrap_u64]; have := G.out.id1; have := G.out.id2; omega⟩
  have HM : Hid (m < 65536) := Lib.hid (by have := hm.out; have := G.out.id2; omega)
  obtain ⟨X, hX⟩ : ∃ X : ByteArray, (⟨(putL m 2).toArray⟩ : ByteArray) = X := ⟨_, rfl⟩
  have hXS : X.size = 2 := by rw [← hX, mk_size, putL_len]
  obtain ⟨Z, hZ⟩ : ∃ Z : ByteArray, tailB v p.kind p.props = Z := ⟨_, rfl⟩
  have hZS : Z.size ≤ 131075004 := by rw [← hZ, ← ls_len, tailB_ls]; exact tail8L_size v p.kind p.props
  have HXZ : Hid (ls (X ++ Z) = sbHead v p) := Lib.hid (by rw [ls_app, ← hX, ls_mk, ← hZ, tailB_ls]; unfold sbHead; rw [hm.out])
  have q0 := regrown (W := w1) (fun x hx => refPut_any m 2 x (by have := HM.out; omega) (by omega) (by omega))
  rw [show ((2 : Nat) : Int) = 2 from rfl] at q0
  rw [hX] at q0
  have q1 := regrown (W := w1) (fun x hx => refTail_any v p.kind p.props _ rfl OK.out.props h.props.a h.props.c x ((S1.out.below hx).into 0 rfl).props OK.out.len.2.2.2 (S1.out.into 0 rfl).caps.2.2.2)
  rw [hZ] at q1
  have k0 := cell_regrown (show w1.cell? ⟨w.heap.size, 0, none⟩ = some (.int .i64 p.kind) from S1.out.cell 0 rfl 0)
  have k4 := cell_regrown (show w1.cell? ⟨w.heap.size, 4, none⟩ = some (.int .i64 p.id) from S1.out.cell 0 rfl 4)
  have k24 := cell_regrown (show w1.cell? ⟨w.heap.size, 24, none⟩ = some (.slice h.props.a p.props.length h.props.c) from S1.out.cell 0 rfl 24)
  have hs1 : ¬ (9223372036854775807 < X.size + Z.size) := by omega
  have HBQ := Lib.hid (fun d os => S1.out.below (below_regrown w1 d os))
  clear hX hZ hXS hZS
  go_wp2_with fail
  refine wp_region_quiet_below (by kernel_rfl) (by kernel_rfl) ?_
  repeat (go_big_quiet_step (first | with_reducible exact q0 _ _ | with_reducible exact q1 _ _))
  refine wpQuiet_nil ?_
  intro _ hw'
  obtain ⟨⟨dq, osq⟩, hw''⟩ := hw'
  subst hw''
  have S2 := Lib.hid (HBQ.out dq osq)
  clear q0 q1 k0 k4 k24 HBQ hs1
  generalize Sort.grow (redrawn _ dq) osq = w2 at *
  obtain ⟨O1, hO1⟩ : ∃ O1, X ++ Z = O1 := ⟨_, rfl⟩
  rw [hO1] at HXZ ⊢
  clear hO1 hw1
  obtain ⟨N, hn⟩ : ∃ n, p.filters.length = n := ⟨_, rfl⟩
  obtain ⟨M, hm2⟩ : ∃ m, p.codes.length = m := ⟨_, rfl⟩
  have HN := Lib.hid hn; have HMM := Lib.hid hm2
  have hn2 : N ≤ 140737488351232 := by rw [← hn]; exact OK.out.lens.2.2.1
  have hm3 : M ≤ 140737488351232 := by rw [← hm2]; exact OK.out.lens.2.1
  clear hn hm2 hm
  go_wp2
  go_loopw [7, 8] (fun o i wr => ∃ (k : Nat) (O : ByteArray), k ≤ N ∧ i = .int .i64 k ∧ o = .string O ∧ ls O = sbHead v p ++ (p.filters.take k).flatMap (fiL p.kind) ∧ Below w2.heap.size w2 wr) (fun _ i _ => N - (intOf i).toNat)
  case atStart => exact ⟨0, O1, by omega, rfl, rfl, by rw [List.take_zero, HXZ.out]; exact (List.append_nil _).symm, Below.refl _ _⟩
  case round =>
    obtain ⟨k, O, hk, rfl, rfl, hO, hbel⟩ := hrel
    have S3 := Lib.hid (S2.out.below hbel)
    have HO := Lib.hid hO; have B3 := Lib.hid hbel
    clear hO hbel
    have kk := (S3.out.cell 0 rfl 0).trans (pkC_0 _ _)
    have k23 := S3.out.cell 0 rfl 23
    rw [pkC_23, HN.out] at k23
    by_cases hlt : k < N
    · have hp : k < p.filters.length := by rw [HN.out]; exact hlt
      obtain ⟨b, o, hA, hb, c0, c1, c2, c3, c4⟩ := ((S3.out.into 0 rfl).filters).atF hp
      have hts := OK.out.topics p.filters[k] (List.getElem_mem hp)
      have hok := G.out.filters p.filters[k] (List.getElem_mem hp)
      have HNX := Lib.hid (fi_next (k := p.kind) (List.getElem?_eq_getElem hp))
      have HPT := Lib.hid (sbS_part (v := v) (p := p) (k + 1))
      generalize p.filters[k] = f at *
      have HTS := Lib.hid hts
      have HV := Lib.hid (filter_valid hok.1)
      have HTX : Hid (textUS f.topic = (framedS f.topic, 0)) := Lib.hid (by unfold textUS; rw [if_pos HV.out])
      rw [HNX.out, ← List.append_assoc, ← HO.out] at HPT
      have HL5 : Hid (O.size + (fiL p.kind f).length ≤ 140737488351232) := Lib.hid (by
        have := HPT.out; have := HZ.out; rw [List.length_append, ls_len] at *; omega)
      have b1 : (0 : Int) ≤ (k : Int) := by omega
      have b2 : (k : Int) < (N : Int) := by omega
      clear hp hts hok HPT
      go_wp2_with fail
      refine (refTextU_any f.topic _ (by have := HTS.out; omega)).mono ?_
      rintro e w4 ⟨rfl, hb4⟩
      have S4 := Lib.hid (S3.out.below hb4)
      have B4 := Lib.hid (B3.out.trans (hb4.mono B3.out.size))
      have c0 := (hb4.cell (p := ⟨b, o + k * 5, none⟩) hb).trans c0
      have c1 := (hb4.cell (p := ⟨b, o + k * 5 + 1, none⟩) hb).trans c1
      have c2 := (hb4.cell (p := ⟨b, o + k * 5 + 2, none⟩) hb).trans c2
      have c3 := (hb4.cell (p := ⟨b, o + k * 5 + 3, none⟩) hb).trans c3
      have c4 := (hb4.cell (p := ⟨b, o + k * 5 + 4, none⟩) hb).trans c4
      clear hb4 kk k23
      have kk := (S4.out.cell 0 rfl 0).trans (pkC_0 _ _)
      have k23 := S4.out.cell 0 rfl 23
      rw [pkC_23, HN.out, hA] at k23
      rw [HTX.out]
      simp only
      have HFZ : Hid (O.size + (framedS f.topic).size ≤ 140737488351232) := Lib.hid (by
        have := HL5.out; unfold fiL at this; rw [List.length_append, ls_len] at this; omega)
      obtain ⟨T, hT⟩ : ∃ T, framedS f.topic = T := ⟨_, rfl⟩
      have HT := Lib.hid hT
      rw [hT] at HFZ ⊢
      clear hT HTX
      have hs1 : ¬ (9223372036854775807 < O.size + T.size) := by have := HFZ.out; omega
      by_cases h8 : p.kind = 8
      · have e8 : (p.kind == 8) = true := beq_iff_eq.2 h8
        obtain ⟨y, hy, hyn⟩ := byte_of (c := optN f) (by have := optN_lt f; omega)
        have HFI : Hid (fiL p.kind f = ls T ++ [y]) := Lib.hid (by unfold fiL; rw [if_pos h8, hy, HT.out])
        have hwb : IntKind.u8.wrap (y.toNat : Int) = (y.toNat : Int) := by have := y.toNat_lt; rw [IntKind.wrap_u8]; omega
        have HYN := Lib.hid hyn
        clear h8 hy hyn
        go_wp2_with fail
        refine (rOpts_any f _).mono ?_
        rintro e w5 ⟨rfl, hb5⟩
        have S5 := Lib.hid (S4.out.below hb5)
        have B5 := Lib.hid (B4.out.trans (hb5.mono B4.out.size))
        clear hb5 kk k23 c0 c1 c2 c3 c4
        rw [HYN.out]
        have hs2 : ¬ (9223372036854775807 < O.size + T.size + (⟨#[y]⟩ : ByteArray).size) := by have := HFZ.out; rw [one_size]; omega
        have hcv := conv_one y w5
        have HNW : Hid (ls (O ++ T ++ ⟨#[y]⟩) = sbHead v p ++ (p.filters.take (k + 1)).flatMap (fiL p.kind)) := Lib.hid (by
          rw [HNX.out, ← List.append_assoc, HFI.out, ls_app, ls_app, HO.out, List.append_assoc, List.append_assoc]
          show _ = _
          rw [List.append_assoc]; rfl)
        have B6 := Lib.hid (B5.out.alloc B5.out.size (.cells #[.int .u8 (y.toNat : Int)] 5))
        go_wp2
        go_roundw
        case rel => exact ⟨k + 1, _, by omega, by go_num, rfl, HNW.out, B6.out⟩
        case measure => simp [intOf]; omega
      · have e8 : (p.kind == 8) = false := beq_eq_false_iff_ne.2 h8
        have HNW : Hid (ls (O ++ T) = sbHead v p ++ (p.filters.take (k + 1)).flatMap (fiL p.kind)) := Lib.hid (by
          rw [HNX.out, ← List.append_assoc, ls_app, HO.out]
          unfold fiL
          rw [if_neg h8, List.append_nil, HT.out])
        clear h8 c0 c1 c2 c3 c4
        go_wp2
        go_roundw
        case rel => exact ⟨k + 1, _, by omega, by go_num, rfl, HNW.out, B4.out⟩
        case measure => simp [intOf]; omega
    · obtain rfl : k = N := by omega
      have HO2 : Hid (ls O = sbHead v p ++ p.filters.flatMap (fiL p.kind)) := Lib.hid (by rw [HO.out, ← HN.out, List.take_length])
      clear hlt
      go_wp2
      go_loopw [7, 11] (fun o i wq => ∃ (j : Nat) (U : ByteArray), j ≤ M ∧ i = .int .i64 j ∧ o = .string U ∧ ls U = sbHead v p ++ p.filters.flatMap (fiL p.kind) ++ cdL (p.codes.take j) ∧ Below w2.heap.size w2 wq) (fun _ i _ => M - (intOf i).toNat)
      case atStart => exact ⟨0, O, by omega, rfl, rfl, by rw [List.take_zero, HO2.out]; exact (List.append_nil _).symm, B3.out⟩
      case round =>
        obtain ⟨j, U, hj, rfl, rfl, hU, hbq⟩ := hrel
        have S4 := Lib.hid (S2.out.below hbq)
        have HU := Lib.hid hU; have B4 := Lib.hid hbq
        clear hU hbq kk k23
        have k22 := S4.out.cell 0 rfl 22
        rw [pkC_22, HMM.out] at k22
        by_cases hlt2 : j < M
        · have hp : j < p.codes.length := by rw [HMM.out]; exact hlt2
          obtain ⟨b, o, z, hA, hb, hzz, hc⟩ := ((S4.out.into 0 rfl).codes).atI hp
          have hans := ans_range (G.out.codes z (List.mem_of_getElem? hzz))
          have HNX := Lib.hid (cd_next hzz)
          have HPT := Lib.hid (sbS_part2 (v := v) (p := p) (j + 1))
          obtain ⟨y, hy, hyn⟩ := byte_of hans
          rw [hy] at HNX
          have HYN := Lib.hid hyn
          rw [HNX.out, ← List.append_assoc, ← HU.out] at HPT
          have HL5 : Hid (U.size + 1 ≤ 140737488351232) := Lib.hid (by
            have := HPT.out; have := HZ.out; rw [List.length_append, ls_len] at *; simp at *; omega)
          have hwb : IntKind.u8.wrap (y.toNat : Int) = (y.toNat : Int) := by have := y.toNat_lt; rw [IntKind.wrap_u8]; omega
          rw [hyn] at hc
          have b1 : (0 : Int) ≤ (j : Int) := by omega
          have b2 : (j : Int) < (M : Int) := by omega
          have hs2 : ¬ (9223372036854775807 < U.size + (⟨#[y]⟩ : ByteArray).size) := by have := HL5.out; rw [one_size]; omega
          have hcv := conv_one y wr
          have HNW : Hid (ls (U ++ ⟨#[y]⟩) = sbHead v p ++ p.filters.flatMap (fiL p.kind) ++ cdL (p.codes.take (j + 1))) := Lib.hid (by
            rw [HNX.out, ls_app, HU.out, List.append_assoc, List.append_assoc, List.append_assoc]; rfl)
          have B5 := Lib.hid (B4.out.alloc B4.out.size (.cells #[.int .u8 (y.toNat : Int)] 5))
          clear hp hzz hans hy hyn HPT
          go_wp2
          go_roundw
          case rel => exact ⟨j + 1, _, by omega, by go_num, rfl, HNW.out, B5.out⟩
          case measure => simp [intOf]; omega
        · obtain rfl : j = M := by omega
          have HUE : Hid (U = ⟨(sbS v p).toArray⟩) := Lib.hid (ls_ext (by
            rw [HU.out, ← HMM.out, List.take_length, ls_mk]; rfl))
          clear hlt2
          go_wp2
          go_ret2
          refine ⟨?_, S4.out.kept⟩
          have hx1 := congrArg Prod.fst HX.out
          have hx2 := congrArg Prod.snd HX.out
          simp only at hx1 hx2
          rw [hx1, hx2, HUE.out]
          rfl
end Go.Proofs.YtmkkjiogokfnmaaGreatDoor

namespace Go.Proofs.YtmkkjiogokfnmaaGreatDoor
open Go.RowKit
def fiV (f : Fi) : Value := .agg #[.string f.topic, .int .i64 f.qos, .bool f.noLocal, .bool f.asPub, .int .i64 f.handling]
theorem eq_nat {x : Int} {y : Nat} (h : x = 1 ↔ y = 1) : (x == 1) = decide (y = 1) := by
  by_cases e : y = 1
  · rw [decide_eq_true e]; exact beq_iff_eq.2 (h.2 e)
  · rw [decide_eq_false e]; exact beq_eq_false_iff_ne.2 (fun z => e (h.1 z))
def put5 (W : World) (b : Nat) (f : Fi) : World :=
  ((((W.setCell ⟨b, 0, none⟩ (.string f.topic)).setCell ⟨b, 1, none⟩ (.int .i64 f.qos)).setCell ⟨b, 2, none⟩ (.bool f.noLocal)).setCell ⟨b, 3, none⟩ (.bool f.asPub)).setCell ⟨b, 4, none⟩ (.int .i64 f.handling)
theorem put5_bk {W : World} {b : Nat} {f0 : Fi} (h : Bk W b 32 (fiCells f0)) (f : Fi) : Bk (put5 W b f) b 32 (fiCells f) :=
  ((((h.upd 0 (.string f.topic) (cs' := fiCells ⟨f.topic, f0.qos, f0.noLocal, f0.asPub, f0.handling⟩) rfl).upd 1 (.int .i64 f.qos) (cs' := fiCells ⟨f.topic, f.qos, f0.noLocal, f0.asPub, f0.handling⟩) rfl).upd 2 (.bool f.noLocal) (cs' := fiCells ⟨f.topic, f.qos, f.noLocal, f0.asPub, f0.handling⟩) rfl).upd 3 (.bool f.asPub) (cs' := fiCells ⟨f.topic, f.qos, f.noLocal, f.asPub, f0.handling⟩) rfl).upd 4 (.int .i64 f.handling) (cs' := fiCells f) rfl
theorem put5_cur {W : World} {g a b : Nat} {t : ByteArray} {e : Int} (h : RCur W g t a e) (hne : b ≠ g) (f : Fi) : RCur (put5 W b f) g t a e :=
  ⟨((((h.1.other (fun e => hne e.symm) _).other (fun e => hne e.symm) _).other (fun e => hne e.symm) _).other (fun e => hne e.symm) _).other (fun e => hne e.symm) _, h.2⟩
theorem put5_mods {S : Nat → Prop} {w W : World} {b : Nat} (h : Mods S w W) (hb : w.heap.size ≤ b) (f : Fi) : Mods S w (put5 W b f) :=
  ((((h.set b 0 (.inr hb) _).set b 1 (.inr hb) _).set b 2 (.inr hb) _).set b 3 (.inr hb) _).set b 4 (.inr hb) _
def put4 (W : World) (b n : Nat) : World :=
  (((W.setCell ⟨b, 1, none⟩ (.int .i64 ((n : Int) % 4))).setCell ⟨b, 2, none⟩ (.bool (decide (n / 4 % 2 = 1)))).setCell ⟨b, 3, none⟩ (.bool (decide (n / 8 % 2 = 1)))).setCell ⟨b, 4, none⟩ (.int .i64 ((n : Int) / 16 % 4))
theorem put4_bk {W : World} {b : Nat} {T : ByteArray} (h : Bk W b 32 (fiCells ⟨T, 0, false, false, 0⟩)) (n : Nat) : Bk (put4 W b n) b 32 (fiCells (fiOf T n)) :=
  (((h.upd 1 (.int .i64 ((n : Int) % 4)) (cs' := fiCells ⟨T, ((n % 4 : Nat) : Int), false, false, 0⟩) rfl).upd 2 (.bool (decide (n / 4 % 2 = 1))) (cs' := fiCells ⟨T, ((n % 4 : Nat) : Int), decide (n / 4 % 2 = 1), false, 0⟩) rfl).upd 3 (.bool (decide (n / 8 % 2 = 1))) (cs' := fiCells ⟨T, ((n % 4 : Nat) : Int), decide (n / 4 % 2 = 1), decide (n / 8 % 2 = 1), 0⟩) rfl).upd 4 (.int .i64 ((n : Int) / 16 % 4)) (cs' := fiCells (fiOf T n)) rfl
theorem put4_other {W : World} {b b' : Nat} {t : TypeId} {cs : Array Value} (h : Bk W b' t cs) (hne : b' ≠ b) (n : Nat) : Bk (put4 W b n) b' t cs := (((h.other hne _).other hne _).other hne _).other hne _
theorem put4_mods {S : Nat → Prop} {w W : World} {b : Nat} (h : Mods S w W) (hb : w.heap.size ≤ b) (n : Nat) : Mods S w (put4 W b n) :=
  (((h.set b 1 (.inr hb) _).set b 2 (.inr hb) _).set b 3 (.inr hb) _).set b 4 (.inr hb) _
theorem results_fi {fn : Func} {p : Tmp} (hr : fn.results = #[.cell p 32]) (tmps : Array Value) {w : World} {g : Nat} {f : Fi} (hp : tmps.getD p undef = .pointer (some ⟨g, 0, none⟩)) (hb : Bk w g 32 (fiCells f)) :
    (results fn tmps).run Tryz.prog w = .ok (fiV f) w :=
  results_cell_row hr tmps w g 32 (fiCells f) (0, 0) _ hp hb Tryz.underlying32 rfl (by kernel_rfl)
set_option maxHeartbeats 8000000 in
set_option maxRecDepth 10000 in
theorem rFilter_any (v k : Int) (g a : Nat) (t : ByteArray) (w : World) (h : RCur w g t a 0) (hk : k = 8 ∨ k = 10) :
    Calls Tryz.prog 80 #[.int .i64 v, .int .i64 k, .pointer (some ⟨g, 0, none⟩)] w fun e' w' =>
      e' = .returned (fiV (fiR v k t a).1) ∧ RCur w' g t (fiR v k t a).2.1 (fiR v k t a).2.2 ∧ Mods (fun z => z = g) w w' := by
  have HG := Lib.hid h.lt
  have C0 : Hid (RCur (w.alloc (.cells (fiCells ⟨⟨#[]⟩, 0, false, false, 0⟩) 32)) g t a 0) := Lib.hid (h.below ((Below.refl _ _).alloc (Nat.le_refl _) _))
  have M0 : Hid (Mods (fun z => z = g) w (w.alloc (.cells (fiCells ⟨⟨#[]⟩, 0, false, false, 0⟩) 32))) := Lib.hid ((Mods.refl w).alloc _)
  have K0 := Lib.hid (Bk.fresh w 32 (fiCells ⟨⟨#[]⟩, 0, false, false, 0⟩))
  clear h
  go_enter Tryz.func80, Tryz.ntmps80
  go_wp2_with fail
  refine (Text_ref g a t 0 _ C0.out).mono ?_
  rintro e1 w1 ⟨rfl, hc, hm⟩
  have C1 := Lib.hid hc
  have M1 := Lib.hid (M0.out.trans (Mods.of_grown (S := fun z => z = g) hm rfl))
  have K1 := Lib.hid (K0.out.mods (S := fun z => z = g) (Mods.of_grown hm rfl) (by have := HG.out; omega))
  clear hc hm
  obtain ⟨U, hU⟩ : ∃ U, rtC t a 0 = U := ⟨_, rfl⟩
  have HU := Lib.hid hU
  rw [hU] at C1 ⊢
  clear hU
  obtain ⟨T, a1, x1⟩ := U
  simp only at C1 ⊢
  have C2 : Hid (RCur (w1.alloc (.cells (fiCells ⟨T, 0, false, false, 0⟩) 32)) g t a1 x1) := Lib.hid (C1.out.below ((Below.refl _ _).alloc (Nat.le_refl _) _))
  have M2 := Lib.hid (M1.out.alloc (.cells (fiCells ⟨T, 0, false, false, 0⟩) 32))
  have K2 := Lib.hid (K1.out.alloc (.cells (fiCells ⟨T, 0, false, false, 0⟩) 32))
  have L2 := Lib.hid (Bk.fresh w1 32 (fiCells ⟨T, 0, false, false, 0⟩))
  have HW1 := Lib.hid M1.out.size
  have HW2 := Lib.hid K1.out.lt
  rcases hk with h8 | h10
  · subst h8
    have HF : Hid (fiR v 8 t a = (fiOf T (opR v t a1 x1).1, (opR v t a1 x1).2.1, (opR v t a1 x1).2.2)) := Lib.hid (by unfold fiR; rw [if_pos rfl, HU.out])
    go_wp2_with fail
    refine (refNumber_any g a1 t x1 1 _ C2.out (by decide)).mono ?_
    rintro e2 w3 ⟨rfl, hc, hm⟩
    have C3 := Lib.hid hc
    have M3 := Lib.hid (M2.out.trans (Mods.of_grown (S := fun z => z = g) hm rfl))
    have K3 := Lib.hid (K2.out.mods (S := fun z => z = g) (Mods.of_grown hm rfl) (by have := HG.out; omega))
    have L3 := Lib.hid (L2.out.mods (S := fun z => z = g) (Mods.of_grown hm rfl) (by have := HG.out; have := HW1.out; omega))
    have HOP : Hid (opR v t a1 x1 = (numS t a1 x1 1, (takeS t a1 x1 1).2.1, if optBad v (numS t a1 x1 1) = true then failE (takeS t a1 x1 1).2.2 7 else (takeS t a1 x1 1).2.2)) := Lib.hid rfl
    have hn : numS t a1 x1 1 < 256 := num_one_lt t a1 x1
    clear hc hm
    generalize numS t a1 x1 1 = n at *
    generalize (takeS t a1 x1 1).2.1 = a2 at *
    generalize (takeS t a1 x1 1).2.2 = x2 at *
    rw [HOP.out] at HF
    simp only at HF
    clear HOP
    have hw : IntKind.i64.wrap (n : Int) = (n : Int) := by rw [IntKind.wrap_i64]; omega
    have q2 : ((n : Int) / 4 % 2 == 1) = decide (n / 4 % 2 = 1) := eq_nat (by omega)
    have q3 : ((n : Int) / 8 % 2 == 1) = decide (n / 8 % 2 = 1) := eq_nat (by omega)
    simp only
    have hbc : (63 < n ∨ (¬ 63 < n ∧ v = 4 ∧ 3 < n)) ∨ (¬ 63 < n ∧ (v ≠ 4 ∨ (v = 4 ∧ ¬ 3 < n))) := by omega
    rcases hbc with hbad | ⟨hb1, hb2⟩
    · have HB : Hid (optBad v n = true) := Lib.hid (by
        unfold optBad
        rcases hbad with h1 | ⟨-, h1, h2⟩
        · rw [decide_eq_true h1]; rfl
        · rw [decide_eq_true h1, decide_eq_true h2]; simp)
      have HF2 : Hid (fiR v 8 t a = (fiOf T n, a2, failE x2 7)) := Lib.hid (by rw [HF.out, if_pos HB.out])
      rcases hbad with h1 | ⟨h0, h1, h2⟩
      · have x0 : decide ((63 : Int) < (n : Int)) = true := decide_eq_true (by omega)
        clear h1
        go_wp2_with fail
        refine (refFail_any g a2 t x2 7 _ C3.out).mono ?_
        rintro e4 w4 ⟨rfl, hc, hm⟩
        have C4 := Lib.hid hc
        have M4 := Lib.hid (M3.out.trans (Mods.of_grown (S := fun z => z = g) hm rfl))
        have K4 := Lib.hid (K3.out.mods (S := fun z => z = g) (Mods.of_grown hm rfl) (by have := HG.out; omega))
        have L4 := Lib.hid (L3.out.mods (S := fun z => z = g) (Mods.of_grown hm rfl) (by have := HG.out; have := HW1.out; omega))
        clear hc hm
        have g1 := L4.out.free 1; have g2 := L4.out.free 2; have g3 := L4.out.free 3; have g4 := L4.out.free 4
        have d1 := L4.out.cell 1; have d2 := L4.out.cell 2; have d3 := L4.out.cell 3; have d4 := L4.out.cell 4
        simp only [fiCells, List.getElem?_toArray, List.getElem?_cons_succ, List.getElem?_cons_zero] at d1 d2 d3 d4 g1 g2 g3 g4
        go_upto_region 8 with fail
        show Code.wp _ _ _ _ (put4 w4 w1.heap.size n)
        obtain ⟨W8, hW8⟩ : ∃ W8, put4 w4 w1.heap.size n = W8 := ⟨_, rfl⟩
        have C8 : RCur (put4 w4 w1.heap.size n) g t a2 (failE x2 7) := ⟨put4_other C4.out.1 (by have := HG.out; have := HW1.out; omega) n, C4.out.2⟩
        have M8 := put4_mods M4.out HW1.out n
        have K8 := put4_other (b := w1.heap.size) K4.out (Nat.ne_of_lt HW2.out) n
        have L8 := put4_bk L4.out n
        rw [hW8] at C8 M8 K8 L8 ⊢
        have HC8 := Lib.hid C8; have HM8 := Lib.hid M8; have HK8 := Lib.hid K8
        have f0 := K8.free 0; have f1 := K8.free 1; have f2 := K8.free 2; have f3 := K8.free 3; have f4 := K8.free 4
        have c0 := K8.cell 0; have c1 := K8.cell 1; have c2 := K8.cell 2; have c3 := K8.cell 3; have c4 := K8.cell 4
        have e0 := L8.cell 0; have e1 := L8.cell 1; have e2 := L8.cell 2; have e3 := L8.cell 3; have e4 := L8.cell 4
        generalize fiOf T n = F at *
        simp only [fiCells, List.getElem?_toArray, List.getElem?_cons_succ, List.getElem?_cons_zero] at c0 c1 c2 c3 c4 f0 f1 f2 f3 f4 e0 e1 e2 e3 e4
        clear hW8 C8 M8 K8 L8 g1 g2 g3 g4 d1 d2 d3 d4 q2 q3 hw
        go_wp2
        refine bodyPost_ret (results_fi rfl _ rfl (put5_bk HK8.out F)) rfl ?_
        rw [HF2.out]
        exact ⟨rfl, put5_cur HC8.out (by have := HG.out; omega) F, put5_mods HM8.out (Nat.le_refl _) F⟩
      · have x0 : decide ((63 : Int) < (n : Int)) = false := decide_eq_false (by omega)
        have x1' : (v == 4) = true := beq_iff_eq.2 h1
        have x2' : decide ((3 : Int) < (n : Int)) = true := decide_eq_true (by omega)
        clear h0 h1 h2
        go_wp2_with fail
        refine (refFail_any g a2 t x2 7 _ C3.out).mono ?_
        rintro e4 w4 ⟨rfl, hc, hm⟩
        have C4 := Lib.hid hc
        have M4 := Lib.hid (M3.out.trans (Mods.of_grown (S := fun z => z = g) hm rfl))
        have K4 := Lib.hid (K3.out.mods (S := fun z => z = g) (Mods.of_grown hm rfl) (by have := HG.out; omega))
        have L4 := Lib.hid (L3.out.mods (S := fun z => z = g) (Mods.of_grown hm rfl) (by have := HG.out; have := HW1.out; omega))
        clear hc hm
        have g1 := L4.out.free 1; have g2 := L4.out.free 2; have g3 := L4.out.free 3; have g4 := L4.out.free 4
        have d1 := L4.out.cell 1; have d2 := L4.out.cell 2; have d3 := L4.out.cell 3; have d4 := L4.out.cell 4
        simp only [fiCells, List.getElem?_toArray, List.getElem?_cons_succ, List.getElem?_cons_zero] at d1 d2 d3 d4 g1 g2 g3 g4
        go_upto_region 8 with fail
        show Code.wp _ _ _ _ (put4 w4 w1.heap.size n)
        obtain ⟨W8, hW8⟩ : ∃ W8, put4 w4 w1.heap.size n = W8 := ⟨_, rfl⟩
        have C8 : RCur (put4 w4 w1.heap.size n) g t a2 (failE x2 7) := ⟨put4_other C4.out.1 (by have := HG.out; have := HW1.out; omega) n, C4.out.2⟩
        have M8 := put4_mods M4.out HW1.out n
        have K8 := put4_other (b := w1.heap.size) K4.out (Nat.ne_of_lt HW2.out) n
        have L8 := put4_bk L4.out n
        rw [hW8] at C8 M8 K8 L8 ⊢
        have HC8 := Lib.hid C8; have HM8 := Lib.hid M8; have HK8 := Lib.hid K8
        have f0 := K8.free 0; have f1 := K8.free 1; have f2 := K8.free 2; have f3 := K8.free 3; have f4 := K8.free 4
        have c0 := K8.cell 0; have c1 := K8.cell 1; have c2 := K8.cell 2; have c3 := K8.cell 3; have c4 := K8.cell 4
        have e0 := L8.cell 0; have e1 := L8.cell 1; have e2 := L8.cell 2; have e3 := L8.cell 3; have e4 := L8.cell 4
        generalize fiOf T n = F at *
        simp only [fiCells, List.getElem?_toArray, List.getElem?_cons_succ, List.getElem?_cons_zero] at c0 c1 c2 c3 c4 f0 f1 f2 f3 f4 e0 e1 e2 e3 e4
        clear hW8 C8 M8 K8 L8 g1 g2 g3 g4 d1 d2 d3 d4 q2 q3 hw
        go_wp2
        refine bodyPost_ret (results_fi rfl _ rfl (put5_bk HK8.out F)) rfl ?_
        rw [HF2.out]
        exact ⟨rfl, put5_cur HC8.out (by have := HG.out; omega) F, put5_mods HM8.out (Nat.le_refl _) F⟩
    · have HB : Hid (optBad v n = false) := Lib.hid (by
        unfold optBad
        rw [decide_eq_false hb1]
        rcases hb2 with h1 | ⟨-, h2⟩
        · rw [decide_eq_false h1]; rfl
        · rw [decide_eq_false h2]; simp)
      have HF2 : Hid (fiR v 8 t a = (fiOf T n, a2, x2)) := Lib.hid (by rw [HF.out, if_neg (by rw [HB.out]; decide)])
      have x0 : decide ((63 : Int) < (n : Int)) = false := decide_eq_false (by omega)
      rcases hb2 with h1 | ⟨h1, h2⟩
      · have x1' : (v == 4) = false := beq_eq_false_iff_ne.2 h1
        clear hb1 h1
        have g1 := L3.out.free 1; have g2 := L3.out.free 2; have g3 := L3.out.free 3; have g4 := L3.out.free 4
        have d1 := L3.out.cell 1; have d2 := L3.out.cell 2; have d3 := L3.out.cell 3; have d4 := L3.out.cell 4
        simp only [fiCells, List.getElem?_toArray, List.getElem?_cons_succ, List.getElem?_cons_zero] at d1 d2 d3 d4 g1 g2 g3 g4
        go_upto_region 8 with fail
        show Code.wp _ _ _ _ (put4 w3 w1.heap.size n)
        obtain ⟨W8, hW8⟩ : ∃ W8, put4 w3 w1.heap.size n = W8 := ⟨_, rfl⟩
        have C8 : RCur (put4 w3 w1.heap.size n) g t a2 (x2) := ⟨put4_other C3.out.1 (by have := HG.out; have := HW1.out; omega) n, C3.out.2⟩
        have M8 := put4_mods M3.out HW1.out n
        have K8 := put4_other (b := w1.heap.size) K3.out (Nat.ne_of_lt HW2.out) n
        have L8 := put4_bk L3.out n
        rw [hW8] at C8 M8 K8 L8 ⊢
        have HC8 := Lib.hid C8; have HM8 := Lib.hid M8; have HK8 := Lib.hid K8
        have f0 := K8.free 0; have f1 := K8.free 1; have f2 := K8.free 2; have f3 := K8.free 3; have f4 := K8.free 4
        have c0 := K8.cell 0; have c1 := K8.cell 1; have c2 := K8.cell 2; have c3 := K8.cell 3; have c4 := K8.cell 4
        have e0 := L8.cell 0; have e1 := L8.cell 1; have e2 := L8.cell 2; have e3 := L8.cell 3; have e4 := L8.cell 4
        generalize fiOf T n = F at *
        simp only [fiCells, List.getElem?_toArray, List.getElem?_cons_succ, List.getElem?_cons_zero] at c0 c1 c2 c3 c4 f0 f1 f2 f3 f4 e0 e1 e2 e3 e4
        clear hW8 C8 M8 K8 L8 g1 g2 g3 g4 d1 d2 d3 d4 q2 q3 hw
        go_wp2
        refine bodyPost_ret (results_fi rfl _ rfl (put5_bk HK8.out F)) rfl ?_
        rw [HF2.out]
        exact ⟨rfl, put5_cur HC8.out (by have := HG.out; omega) F, put5_mods HM8.out (Nat.le_refl _) F⟩
      · have x1' : (v == 4) = true := beq_iff_eq.2 h1
        have x2' : decide ((3 : Int) < (n : Int)) = false := decide_eq_false (by omega)
        clear hb1 h1 h2
        have g1 := L3.out.free 1; have g2 := L3.out.free 2; have g3 := L3.out.free 3; have g4 := L3.out.free 4
        have d1 := L3.out.cell 1; have d2 := L3.out.cell 2; have d3 := L3.out.cell 3; have d4 := L3.out.cell 4
        simp only [fiCells, List.getElem?_toArray, List.getElem?_cons_succ, List.getElem?_cons_zero] at d1 d2 d3 d4 g1 g2 g3 g4
        go_upto_region 8 with fail
        show Code.wp _ _ _ _ (put4 w3 w1.heap.size n)
        obtain ⟨W8, hW8⟩ : ∃ W8, put4 w3 w1.heap.size n = W8 := ⟨_, rfl⟩
        have C8 : RCur (put4 w3 w1.heap.size n) g t a2 (x2) := ⟨put4_other C3.out.1 (by have := HG.out; have := HW1.out; omega) n, C3.out.2⟩
        have M8 := put4_mods M3.out HW1.out n
        have K8 := put4_other (b := w1.heap.size) K3.out (Nat.ne_of_lt HW2.out) n
        have L8 := put4_bk L3.out n
        rw [hW8] at C8 M8 K8 L8 ⊢
        have HC8 := Lib.hid C8; have HM8 := Lib.hid M8; have HK8 := Lib.hid K8
        have f0 := K8.free 0; have f1 := K8.free 1; have f2 := K8.free 2; have f3 := K8.free 3; have f4 := K8.free 4
        have c0 := K8.cell 0; have c1 := K8.cell 1; have c2 := K8.cell 2; have c3 := K8.cell 3; have c4 := K8.cell 4
        have e0 := L8.cell 0; have e1 := L8.cell 1; have e2 := L8.cell 2; have e3 := L8.cell 3; have e4 := L8.cell 4
        generalize fiOf T n = F at *
        simp only [fiCells, List.getElem?_toArray, List.getElem?_cons_succ, List.getElem?_cons_zero] at c0 c1 c2 c3 c4 f0 f1 f2 f3 f4 e0 e1 e2 e3 e4
        clear hW8 C8 M8 K8 L8 g1 g2 g3 g4 d1 d2 d3 d4 q2 q3 hw
        go_wp2
        refine bodyPost_ret (results_fi rfl _ rfl (put5_bk HK8.out F)) rfl ?_
        rw [HF2.out]
        exact ⟨rfl, put5_cur HC8.out (by have := HG.out; omega) F, put5_mods HM8.out (Nat.le_refl _) F⟩
  · subst h10
    have HF : Hid (fiR v 10 t a = (⟨T, 0, false, false, 0⟩, a1, x1)) := Lib.hid (by unfold fiR; rw [if_neg (by decide), HU.out])
    have f0 := K2.out.free 0; have f1 := K2.out.free 1; have f2 := K2.out.free 2; have f3 := K2.out.free 3; have f4 := K2.out.free 4
    have c0 := K2.out.cell 0; have c1 := K2.out.cell 1; have c2 := K2.out.cell 2; have c3 := K2.out.cell 3; have c4 := K2.out.cell 4
    simp only [fiCells, List.getElem?_toArray, List.getElem?_cons_succ, List.getElem?_cons_zero] at c0 c1 c2 c3 c4 f0 f1 f2 f3 f4
    go_wp2
    refine bodyPost_ret (results_fi rfl _ rfl (put5_bk K2.out ⟨T, 0, false, false, 0⟩)) rfl ?_
    rw [HF.out]
    exact ⟨rfl, put5_cur C2.out (by have := HG.out; omega) ⟨T, 0, false, false, 0⟩, put5_mods M2.out (Nat.le_refl _) ⟨T, 0, false, false, 0⟩⟩
end Go.Proofs.YtmkkjiogokfnmaaGreatDoor

