/-
  subscribe: the walks of known, filters, silent, fields, below, options, answers.
  subscribe: the walk of Valid.
-/
import Derived.Test.YtmkkjiogokfnmaaDoorSubA
import Derived.Test.YtmkkjiogokfnmaaDoorFilC

namespace Go.Proofs.YtmkkjiogokfnmaaDoor
open Go.RowKit
attribute [local go_sem ↓] to_ldPk to_bxPk to_bdPk to_alPk to_stPk
attribute [local go_sem] run_bxPk run_bxPk_agg ld_fresh run_alPk run_bd0 run_bdK run_bdKI run_bdKIC run_bdKC run_bdKICP run_stPk_fresh pkC_0 pkC_1 pkC_2 pkC_3 pkC_4 pkC_5 pkC_6 pkC_7 pkC_8 pkC_9 pkC_10 pkC_11 pkC_12 pkC_13 pkC_14 pkC_15 pkC_16 pkC_17 pkC_18 pkC_19 pkC_20 pkC_21 pkC_22 pkC_23 pkC_24
attribute [local go_sem ↓ high] to_stPk to_stWl to_ldWl
attribute [local go_sem ↓] to_stF
attribute [local go_sem] ld_pw pw_at pw_stwl pw_dstwl pw_stwl0 pw_stwp pw_st0 pw_dst0 pw_st1 pw_dst1 pw_st2 pw_dst2 pw_st3 pw_dst3 pw_st4 pw_dst4 pw_st5 pw_dst5 pw_st6 pw_dst6 pw_st7 pw_dst7 pw_st8 pw_dst8 pw_st9 pw_dst9 pw_st10 pw_dst10 pw_st11 pw_dst11 pw_st12 pw_dst12 pw_st13 pw_dst13 pw_st14 pw_dst14 pw_st15 pw_dst15 pw_st16 pw_dst16 pw_st17 pw_dst17 pw_st18 pw_dst18 pw_st20 pw_dst20 pw_st21 pw_dst21 pw_st22 pw_nil22 pw_st23 pw_nil23 pw_st24 pw_nil24
set_option maxHeartbeats 400000 in
set_option maxRecDepth 10000 in
theorem sbKnown_any (v k : Int) (w : World) : Calls Tryd.prog 26 #[.int .i64 v, .int .i64 k] w fun e w' => e = .returned (.bool (sbKnown v k)) ∧ w = w' := by
  go_enter Tryd.func26, Tryd.ntmps26
  go_wp2
  all_goals
    go_ret
    refine ⟨ret_bool ?_, rfl⟩
    unfold sbKnown
    by_cases h4 : v = 4 <;> by_cases h5 : v = 5 <;> simp_all <;> omega
set_option maxHeartbeats 400000 in
set_option maxRecDepth 10000 in
theorem sbAsk_any (k : Int) (w : World) : Calls Tryd.prog 17 #[.int .i64 k] w fun e w' => e = .returned (.bool (sbAsk k)) ∧ w = w' := by
  go_enter Tryd.func17, Tryd.ntmps17
  go_wp2
  all_goals
    go_ret
    refine ⟨ret_bool ?_, rfl⟩
    unfold sbAsk
    by_cases h4 : k = 8 <;> by_cases h5 : k = 10 <;> simp_all
set_option maxHeartbeats 400000 in
set_option maxRecDepth 10000 in
theorem sbSil_any (v k : Int) (w : World) : Calls Tryd.prog 19 #[.int .i64 v, .int .i64 k] w fun e w' => e = .returned (.bool (sbSil v k)) ∧ w = w' := by
  go_enter Tryd.func19, Tryd.ntmps19
  go_wp2
  all_goals
    go_ret
    refine ⟨ret_bool ?_, rfl⟩
    unfold sbSil
    by_cases h4 : k = 11 <;> by_cases h5 : v = 4 <;> simp_all
set_option maxHeartbeats 400000 in
set_option maxRecDepth 10000 in
theorem sbLow_any (n : Int) (w : World) : Calls Tryd.prog 45 #[.int .i64 n] w fun e w' => e = .returned (.bool (sbLow n)) ∧ w = w' := by
  go_enter Tryd.func45, Tryd.ntmps45
  go_wp2
  all_goals
    go_ret
    refine ⟨ret_bool ?_, rfl⟩
    unfold sbLow
    by_cases h4 : 0 ≤ n <;> by_cases h5 : n < 3 <;> simp_all <;> omega
set_option maxHeartbeats 400000 in
set_option maxRecDepth 10000 in
theorem ansB_any (v k c : Int) (w : World) : Calls Tryd.prog 31 #[.int .i64 v, .int .i64 k, .int .i64 c] w fun e w' => e = .returned (.bool (ansB v k c)) ∧ Below w.heap.size w w' := by
  by_cases h4 : v = 4
  · have e4 : (v == 4) = true := beq_iff_eq.2 h4
    have HX : Hid (ansB v k c = grantB c) := Lib.hid (if_pos h4)
    clear h4
    go_enter Tryd.func31, Tryd.ntmps31
    go_wp2_with fail
    refine (grant_any c _).mono ?_
    rintro e w1 ⟨rfl, hb⟩
    have HB := Lib.hid hb; clear hb
    go_wp2
    go_ret
    exact ⟨by rw [HX.out]; rfl, by first | exact HB.out | exact HB.out ▸ Below.refl _ _⟩
  · have e4 : (v == 4) = false := beq_eq_false_iff_ne.2 h4
    have HX : Hid (ansB v k c = may k c) := Lib.hid (if_neg h4)
    clear h4
    go_enter Tryd.func31, Tryd.ntmps31
    go_wp2_with fail
    refine (may_any k c _).mono ?_
    rintro e w1 ⟨rfl, hb⟩
    have HB := Lib.hid hb; clear hb
    go_wp2
    go_ret
    exact ⟨by rw [HX.out]; rfl, by first | exact HB.out | exact HB.out ▸ Below.refl _ _⟩
/-! ### fields -/
def sbH (v : Int) (p : Pk) (h : Hs) : Hs :=
  if sbAsk p.kind = true then { hs0 with props := h.props, filters := h.filters } else if sbSil v p.kind = true then { hs0 with props := h.props } else { hs0 with props := h.props, codes := h.codes }
theorem sbQ_len (v : Int) {p : Pk} (x : PkLen p) : PkLen (sbQ v p) := by
  unfold sbQ
  split
  · exact ⟨Nat.zero_le _, Nat.zero_le _, x.2.2.1, x.2.2.2⟩
  · split
    · exact ⟨Nat.zero_le _, Nat.zero_le _, Nat.zero_le _, x.2.2.2⟩
    · exact ⟨Nat.zero_le _, x.2.1, Nat.zero_le _, x.2.2.2⟩
theorem sbQ_in (v : Int) {w : World} {B : Nat} {p : Pk} {h : Hs} (x : PkIn w B p h) : PkIn w B (sbQ v p) (sbH v p h) := by
  unfold sbQ sbH
  split
  · exact ⟨Rd.nil _ _ _ _, Rd.nil _ _ _ _, x.filters, x.props, Nat.zero_le _, Nat.zero_le _, x.caps.2.2.1, x.caps.2.2.2⟩
  · split
    · exact ⟨Rd.nil _ _ _ _, Rd.nil _ _ _ _, Rd.nil _ _ _ _, x.props, Nat.zero_le _, Nat.zero_le _, Nat.zero_le _, x.caps.2.2.2⟩
    · exact ⟨Rd.nil _ _ _ _, x.codes, Rd.nil _ _ _ _, x.props, Nat.zero_le _, x.caps.2.1, Nat.zero_le _, x.caps.2.2.2⟩
theorem run_bdKIPr (k i : Int) (l : List Pr) (A : Option Addr) (n : Nat) (w : World) : (bdPk #[(0, .int .i64 k), (4, .int .i64 i), (20, .slice A l.length n)]).run Tryd.prog w = .ok (pkV { pk0 with kind := k, id := i, props := l } { hs0 with props := ⟨A, n⟩ }) w := by kernel_rfl
theorem same_sb (v : Int) (p : Pk) (h : Hs) (Q : Pk) (H : Hs) (x : World) (hq : sbQ v p = Q) (hh : sbH v p h = H) (hi : PkIn x x.heap.size p h) (hn : PkLen p) :
    Calls Tryd.prog 41 #[pkV p h, pkV Q H] x fun e y => e = .returned (.bool (decide (p = sbQ v p))) ∧ Below x.heap.size x y := by
  subst hq hh
  exact same_any p (sbQ v p) h (sbH v p h) x hi (sbQ_in v hi) hn (sbQ_len v hn)
set_option maxHeartbeats 4000000 in
set_option maxRecDepth 10000 in
theorem sbFields_any (v : Int) (p : Pk) (h : Hs) (w : World) (ip : PkIn w w.heap.size p h) (ok : PkOk p) :
    Calls Tryd.prog 27 #[.int .i64 v, pkV p h] w fun e w' => e = .returned (.bool (sbFields v p)) ∧ Below w.heap.size w w' := by
  have OK := Lib.hid ok
  have IP := Lib.hid ip
  have HE : Hid (sbFields v p = (!(decide (p.id < 1) || (decide (65535 < p.id) || (decide (v = 4) && decide (0 < p.props.length)))) && (sbHave v p && decide (p = sbQ v p)))) := Lib.hid rfl
  have HH : Hid (sbHave v p = if sbAsk p.kind = true then decide (0 < p.filters.length) else if sbSil v p.kind = true then true else decide (0 < p.codes.length)) := Lib.hid rfl
  have HB0 := Lib.hid ((Below.refl w.heap.size w).alloc (Nat.le_refl _) (.cells (pkC p h) PkT))
  have B1 := Bk.fresh w PkT (pkC p h)
  have k0 := (B1.cell 0).trans (pkC_0 _ _); have k4 := (B1.cell 4).trans (pkC_4 _ _); have k18 := (B1.cell 22).trans (pkC_22 _ _); have k19 := (B1.cell 23).trans (pkC_23 _ _); have k20 := (B1.cell 24).trans (pkC_24 _ _)
  obtain ⟨W, hW, hst⟩ := pwIn_start w p { pk0 with kind := p.kind, id := p.id, props := p.props } h { hs0 with props := ⟨h.props.a, h.props.c⟩ }
  have HW := Lib.hid hW
  have hlt := hW.lt
  have j0 := fun cs => (hW.bk_pw cs).cell
  have hl0 : ∀ cs, (ldPk (.pointer (some ⟨w.heap.size, 0, none⟩))).run Tryd.prog (pw W (w.heap.size + 1) cs) = .ok (pkV p h) (pw W (w.heap.size + 1) cs) := fun cs => ld_bk (hW.bk_pw cs)
  have hbd := run_bdKIPr p.kind p.id p.props h.props.a h.props.c
  have HQI : Hid (∀ x, Below w.heap.size w x → PkIn x x.heap.size p h) := Lib.hid fun x hx => (IP.out.below hx).wider hx.size
  clear ip ok hW B1
  go_enter Tryd.func27, Tryd.ntmps27
  by_cases h1 : p.id < 1
  · have HX : Hid (sbFields v p = false) := Lib.hid (by rw [HE.out, decide_eq_true h1]; rfl)
    go_wp2
    go_ret
    exact ⟨by rw [HX.out]; rfl, HB0.out⟩
  by_cases h2 : 65535 < p.id
  · have HX : Hid (sbFields v p = false) := Lib.hid (by rw [HE.out, decide_eq_true h2, Bool.true_or, Bool.or_true]; rfl)
    go_wp2
    go_ret
    exact ⟨by rw [HX.out]; rfl, HB0.out⟩
  have HE1 := HE.out
  rw [decide_eq_false h1, decide_eq_false h2, Bool.false_or, Bool.false_or] at HE1
  replace HE1 := Lib.hid HE1
  have key : ∀ (_ : decide (v = 4) = false ∨ decide (0 < p.props.length) = false), sbFields v p = (sbHave v p && decide (p = sbQ v p)) := by
    intro hh
    rw [HE1.out]
    rcases hh with hh | hh
    · rw [hh, Bool.false_and, Bool.not_false, Bool.true_and]
    · rw [hh, Bool.and_false, Bool.not_false, Bool.true_and]
  have KEY := Lib.hid key
  clear key HE
  by_cases h4 : v = 4 ∧ 0 < p.props.length
  · have HX : Hid (sbFields v p = false) := Lib.hid (by rw [HE1.out, decide_eq_true h4.1, decide_eq_true h4.2]; rfl)
    have e4 : (v == 4) = true := beq_iff_eq.2 h4.1
    have d4 : (0 : Int) < (p.props.length : Int) := by have := h4.2; omega
    clear h4
    go_wp2
    go_ret
    exact ⟨by rw [HX.out]; rfl, HB0.out⟩
  have HE2 : Hid (sbFields v p = (sbHave v p && decide (p = sbQ v p))) := Lib.hid (KEY.out (by
    by_cases a : v = 4
    · exact .inr (decide_eq_false fun b => h4 ⟨a, b⟩)
    · exact .inl (decide_eq_false a)))
  have tail : ∀ (b4 : Bool) (_ : (v == 4) = b4) (_ : b4 = true → (p.props.length : Int) ≤ 0), True := fun _ _ _ => trivial
  clear tail KEY HE1
  have main : (v == 4) = false ∨ ((v == 4) = true ∧ ¬ (0 : Int) < (p.props.length : Int)) := by
    by_cases a : v = 4
    · exact .inr ⟨beq_iff_eq.2 a, fun b => h4 ⟨a, by omega⟩⟩
    · exact .inl (beq_eq_false_iff_ne.2 a)
  clear h4
  have HAS := Lib.hid (sbAsk_any p.kind)
  rcases main with e4 | ⟨e4, d4⟩
  all_goals
    go_wp2_with fail
    refine (sbAsk_any p.kind _).mono ?_
    rintro e w1 ⟨rfl, hw1⟩
    subst hw1
    cases ha : sbAsk p.kind
    rotate_left
    · have HHX : Hid (sbHave v p = decide (0 < p.filters.length)) := Lib.hid (by rw [HH.out, if_pos ha])
      have HQ : Hid (sbQ v p = { pk0 with kind := p.kind, id := p.id, props := p.props, filters := p.filters }) := Lib.hid (by unfold sbQ; rw [if_pos ha])
      have HHS : Hid (sbH v p h = { hs0 with props := h.props, filters := h.filters }) := Lib.hid (by unfold sbH; rw [if_pos ha])
      clear ha
      by_cases hn : 0 < p.filters.length
      · have d5 : (0 : Int) < (p.filters.length : Int) := by omega
        have HX : Hid (sbFields v p = decide (p = sbQ v p)) := Lib.hid (by rw [HE2.out, HHX.out, decide_eq_true hn, Bool.true_and])
        clear hn
        go_wp2_with fail
        refine (same_sb v p h _ _ _ (HQ.out.trans rfl) (HHS.out.trans rfl) (HQI.out _ (HW.out.kept _)) OK.out.len).mono ?_
        rintro e w1 ⟨rfl, hb⟩
        have HB := Lib.hid ((HW.out.kept _).trans (hb.mono (HW.out.kept _).size)); clear hb
        go_wp2
        go_ret
        exact ⟨by rw [HX.out]; rfl, HB.out⟩
      · have d5 : ¬ (0 : Int) < (p.filters.length : Int) := by omega
        have HX : Hid (sbFields v p = false) := Lib.hid (by rw [HE2.out, HHX.out, decide_eq_false hn, Bool.false_and])
        clear hn
        go_wp2
        go_ret
        exact ⟨by rw [HX.out]; rfl, HW.out.kept _⟩
    · go_wp2_with fail
      refine (sbSil_any v p.kind _).mono ?_
      rintro e w1 ⟨rfl, hw1⟩
      subst hw1
      cases hsil : sbSil v p.kind
      rotate_left
      · have HHX : Hid (sbHave v p = true) := Lib.hid (by rw [HH.out, if_neg (by rw [ha]; decide), if_pos hsil])
        have HQ : Hid (sbQ v p = { pk0 with kind := p.kind, id := p.id, props := p.props }) := Lib.hid (by unfold sbQ; rw [if_neg (by rw [ha]; decide), if_pos hsil])
        have HHS : Hid (sbH v p h = { hs0 with props := h.props }) := Lib.hid (by unfold sbH; rw [if_neg (by rw [ha]; decide), if_pos hsil])
        have HX : Hid (sbFields v p = decide (p = sbQ v p)) := Lib.hid (by rw [HE2.out, HHX.out, Bool.true_and])
        clear ha hsil
        go_wp2_with fail
        refine (same_sb v p h _ _ _ (HQ.out.trans rfl) (HHS.out.trans rfl) (HQI.out _ (HW.out.kept _)) OK.out.len).mono ?_
        rintro e w1 ⟨rfl, hb⟩
        have HB := Lib.hid ((HW.out.kept _).trans (hb.mono (HW.out.kept _).size)); clear hb
        go_wp2
        go_ret
        exact ⟨by rw [HX.out]; rfl, HB.out⟩
      · have HHX : Hid (sbHave v p = decide (0 < p.codes.length)) := Lib.hid (by rw [HH.out, if_neg (by rw [ha]; decide), if_neg (by rw [hsil]; decide)])
        have HQ : Hid (sbQ v p = { pk0 with kind := p.kind, id := p.id, props := p.props, codes := p.codes }) := Lib.hid (by unfold sbQ; rw [if_neg (by rw [ha]; decide), if_neg (by rw [hsil]; decide)])
        have HHS : Hid (sbH v p h = { hs0 with props := h.props, codes := h.codes }) := Lib.hid (by unfold sbH; rw [if_neg (by rw [ha]; decide), if_neg (by rw [hsil]; decide)])
        clear ha hsil
        by_cases hn : 0 < p.codes.length
        · have d5 : (0 : Int) < (p.codes.length : Int) := by omega
          have HX : Hid (sbFields v p = decide (p = sbQ v p)) := Lib.hid (by rw [HE2.out, HHX.out, decide_eq_true hn, Bool.true_and])
          clear hn
          go_wp2_with fail
          refine (same_sb v p h _ _ _ (HQ.out.trans rfl) (HHS.out.trans rfl) (HQI.out _ (HW.out.kept _)) OK.out.len).mono ?_
          rintro e w1 ⟨rfl, hb⟩
          have HB := Lib.hid ((HW.out.kept _).trans (hb.mono (HW.out.kept _).size)); clear hb
          go_wp2
          go_ret
          exact ⟨by rw [HX.out]; rfl, HB.out⟩
        · have d5 : ¬ (0 : Int) < (p.codes.length : Int) := by omega
          have HX : Hid (sbFields v p = false) := Lib.hid (by rw [HE2.out, HHX.out, decide_eq_false hn, Bool.false_and])
          clear hn
          go_wp2
          go_ret
          exact ⟨by rw [HX.out]; rfl, HW.out.kept _⟩
/-! ### options -/
theorem run_fi (t : ByteArray) (q : Int) (w : World) : (Instr.build 35 #[(0, .string t), (1, .int .i64 q)]).run Tryd.prog w = .ok (.agg #[.string t, .int .i64 q, .bool false, .bool false, .int .i64 0]) w := by kernel_rfl
set_option maxHeartbeats 2000000 in
set_option maxRecDepth 10000 in
theorem optB_any (v k : Int) (f : Fi) (w : World) (hs : f.topic.size ≤ 4611686018427387904) :
    Calls Tryd.prog 30 #[.int .i64 v, .int .i64 k, .agg #[.string f.topic, .int .i64 f.qos, .bool f.noLocal, .bool f.asPub, .int .i64 f.handling]] w fun e w' => e = .returned (.bool (optB v k f)) ∧ Below w.heap.size w w' := by
  have HS := Lib.hid hs
  have HB0 := Lib.hid ((Below.refl w.heap.size w).alloc (Nat.le_refl _) (.cells #[.string f.topic, .int .i64 f.qos, .bool f.noLocal, .bool f.asPub, .int .i64 f.handling] 35))
  have HK0 := Lib.hid (Bk.fresh w 35 #[.string f.topic, .int .i64 f.qos, .bool f.noLocal, .bool f.asPub, .int .i64 f.handling])
  have HE : Hid (optB v k f = if k = 10 then fiPlain f && decide (f.qos = 0) else if v = 4 then fiPlain f && sbLow f.qos else sbLow f.qos && (sbLow f.handling && !(sharedB f.topic && f.noLocal))) := Lib.hid rfl
  have hgt := guard_filter
  have hne := fun W => eql_filter f ⟨f.topic, f.qos, false, false, 0⟩ W
  have HP : Hid (fiPlain f = decide (f = ⟨f.topic, f.qos, false, false, 0⟩)) := Lib.hid rfl
  rw [← HP.out] at hne
  clear HP hs
  generalize fiPlain f = pl at *
  go_enter Tryd.func30, Tryd.ntmps30
  by_cases hk : k = 10
  · have ek : (k == 10) = true := beq_iff_eq.2 hk
    have HE1 : Hid (optB v k f = (pl && (f.qos == 0))) := Lib.hid (by rw [HE.out, if_pos hk]; rfl)
    clear hk
    cases pl
    · go_wp2
      go_ret
      exact ⟨by rw [HE1.out]; rfl, HB0.out⟩
    · go_wp2
      go_ret
      exact ⟨by rw [HE1.out]; rfl, HB0.out⟩
  have ek : (k == 10) = false := beq_eq_false_iff_ne.2 hk
  by_cases h4 : v = 4
  · have e4 : (v == 4) = true := beq_iff_eq.2 h4
    have HE1 : Hid (optB v k f = (pl && sbLow f.qos)) := Lib.hid (by rw [HE.out, if_neg hk, if_pos h4])
    clear hk h4
    cases pl
    · go_wp2
      go_ret
      exact ⟨by rw [HE1.out]; rfl, HB0.out⟩
    · go_wp2_with fail
      refine (sbLow_any f.qos _).mono ?_
      rintro e w1 ⟨rfl, hw1⟩
      subst hw1
      go_wp2
      go_ret
      exact ⟨by rw [HE1.out]; rfl, HB0.out⟩
  have e4 : (v == 4) = false := beq_eq_false_iff_ne.2 h4
  have HE1 : Hid (optB v k f = (sbLow f.qos && (sbLow f.handling && !(sharedB f.topic && f.noLocal)))) := Lib.hid (by rw [HE.out, if_neg hk, if_neg h4])
  clear hk h4 HE
  go_wp2_with fail
  refine (shared_any f.topic _ HS.out).mono ?_
  rintro e w1 ⟨⟨a, b, rfl⟩, hb⟩
  have HB1 := Lib.hid (HB0.out.trans (hb.mono HB0.out.size))
  have HK1 := Lib.hid (HK0.out.below hb HK0.out.lt)
  clear hb
  have c1 := HK1.out.cell 1; have c2 := HK1.out.cell 2; have c4 := HK1.out.cell 4
  simp only [List.getElem?_toArray, List.getElem?_cons_succ, List.getElem?_cons_zero] at c1 c2 c4
  generalize sharedB f.topic = sh at *
  go_wp2_with fail
  refine (sbLow_any f.qos _).mono ?_
  rintro e w2 ⟨rfl, hw2⟩
  subst hw2
  cases hq : sbLow f.qos
  · have HX : Hid (optB v k f = false) := Lib.hid (by rw [HE1.out, hq]; rfl)
    clear hq
    go_wp2
    go_ret
    exact ⟨by rw [HX.out]; rfl, HB1.out⟩
  have HE2 : Hid (optB v k f = (sbLow f.handling && !(sh && f.noLocal))) := Lib.hid (by rw [HE1.out, hq, Bool.true_and])
  clear hq
  go_wp2_with fail
  refine (sbLow_any f.handling _).mono ?_
  rintro e w2 ⟨rfl, hw2⟩
  subst hw2
  cases hq : sbLow f.handling
  · have HX : Hid (optB v k f = false) := Lib.hid (by rw [HE2.out, hq]; rfl)
    clear hq
    go_wp2
    go_ret
    exact ⟨by rw [HX.out]; rfl, HB1.out⟩
  have HE3 : Hid (optB v k f = !(sh && f.noLocal)) := Lib.hid (by rw [HE2.out, hq, Bool.true_and])
  clear hq
  cases sh
  · go_wp2
    go_ret
    exact ⟨by rw [HE3.out]; rfl, HB1.out⟩
  · go_wp2
    go_ret
    exact ⟨by rw [HE3.out]; rfl, HB1.out⟩
end Go.Proofs.YtmkkjiogokfnmaaDoor

namespace Go.Proofs.YtmkkjiogokfnmaaDoor
open Go.RowKit
attribute [local go_sem ↓] to_ldPk to_bxPk to_bdPk to_alPk to_stPk
attribute [local go_sem] run_bxPk run_bxPk_agg ld_fresh run_alPk run_bd0 run_bdK run_bdKI run_bdKIC run_bdKC run_bdKICP run_stPk_fresh pkC_0 pkC_1 pkC_2 pkC_3 pkC_4 pkC_5 pkC_6 pkC_7 pkC_8 pkC_9 pkC_10 pkC_11 pkC_12 pkC_13 pkC_14 pkC_15 pkC_16 pkC_17 pkC_18 pkC_19 pkC_20 pkC_21 pkC_22 pkC_23 pkC_24
theorem fiE_at {v k : Int} {l : List Fi} {i : Nat} (hi : i < l.length) : fiE v k (l.drop i) = if filterB l[i].topic = false then 10 else if optB v k l[i] = false then 2 else fiE v k (l.drop (i + 1)) := by
  rw [List.drop_eq_getElem_cons hi]; rfl
theorem cdE_at {v k : Int} {l : List Int} {i : Nat} (hi : i < l.length) : cdE v k (l.drop i) = if ansB v k l[i] = false then 2 else cdE v k (l.drop (i + 1)) := by
  rw [List.drop_eq_getElem_cons hi]; rfl
set_option maxHeartbeats 4000000 in
set_option maxRecDepth 10000 in
theorem sbValid_any (v : Int) (p : Pk) (h : Hs) (w : World) (ip : PkIn w w.heap.size p h) (ok : PkOk p) :
    Calls Tryd.prog 18 #[.int .i64 v, pkV p h] w fun e w' => e = .returned (.int .i64 (sbE v p)) ∧ Below w.heap.size w w' := by
  have OK := Lib.hid ok
  have S0 := Lib.hid ((St.start w).push ip)
  have HE : Hid (sbE v p = if sbArg v p = false then 2 else if (bytesS p.kind p.props).2 ≠ 0 then (bytesS p.kind p.props).2
    else if fiE v p.kind p.filters ≠ 0 then fiE v p.kind p.filters else cdE v p.kind p.codes) := Lib.hid rfl
  have HA : Hid (sbArg v p = (sbKnown v p.kind && sbFields v p)) := Lib.hid rfl
  have k0 := S0.out.cell 0 rfl
  have l0 := S0.out.ld 0 rfl
  clear ip ok
  go_enter Tryd.func18, Tryd.ntmps18
  go_wp2_with fail
  refine (sbKnown_any v p.kind _).mono ?_
  rintro e w1 ⟨rfl, hw1⟩
  subst hw1
  cases hk : sbKnown v p.kind
  · have HX : Hid (sbE v p = 2) := Lib.hid (by rw [HE.out, if_pos (by rw [HA.out, hk]; rfl)])
    clear hk
    go_wp2
    go_ret
    exact ⟨by rw [HX.out]; rfl, S0.out.kept⟩
  have HA1 : Hid (sbArg v p = sbFields v p) := Lib.hid (by rw [HA.out, hk, Bool.true_and])
  clear hk HA
  go_wp2_with fail
  refine (sbFields_any v p h _ (S0.out.into 0 rfl) OK.out).mono ?_
  rintro e w1 ⟨rfl, hb⟩
  have S1 := Lib.hid (S0.out.below hb); clear hb k0 l0
  have k0 := S1.out.cell 0 rfl
  cases hf : sbFields v p
  · have HX : Hid (sbE v p = 2) := Lib.hid (by rw [HE.out, if_pos (by rw [HA1.out, hf])])
    clear hf
    go_wp2
    go_ret
    exact ⟨by rw [HX.out]; rfl, S1.out.kept⟩
  have HE1 : Hid (sbE v p = if (bytesS p.kind p.props).2 ≠ 0 then (bytesS p.kind p.props).2 else if fiE v p.kind p.filters ≠ 0 then fiE v p.kind p.filters else cdE v p.kind p.codes) := Lib.hid (by
    rw [HE.out, if_neg (by rw [HA1.out, hf]; decide)])
  clear hf HE HA1
  go_wp2_with fail
  refine (validP_n p.kind p.props _ rfl OK.out.props h.props.a h.props.c _ (S1.out.into 0 rfl).props OK.out.len.2.2.2).mono ?_
  rintro e w2 ⟨rfl, hb⟩
  have S2 := Lib.hid (S1.out.below hb); clear hb k0
  have k0 := S2.out.cell 0 rfl
  obtain ⟨x, hx⟩ : ∃ x, (bytesS p.kind p.props).2 = x := ⟨_, rfl⟩
  rw [hx] at HE1 ⊢
  clear hx
  by_cases hx : x = 0
  rotate_left
  · have HX : Hid (sbE v p = x) := Lib.hid (by rw [HE1.out, if_pos hx])
    have e0 : (x != 0) = true := bne_iff_ne.2 hx
    clear hx
    go_wp2
    go_ret
    exact ⟨by rw [HX.out]; rfl, S2.out.kept⟩
  have HE2 : Hid (sbE v p = if fiE v p.kind p.filters ≠ 0 then fiE v p.kind p.filters else cdE v p.kind p.codes) := Lib.hid (by rw [HE1.out, if_neg (fun y => y hx)])
  have e0 : (x != 0) = false := by rw [hx]; rfl
  have HFL := Lib.hid OK.out.len.2.2.1
  have HCL := Lib.hid OK.out.len.2.1
  clear hx HE1
  obtain ⟨n, hn⟩ : ∃ n, p.filters.length = n := ⟨_, rfl⟩
  obtain ⟨m, hm⟩ : ∃ m, p.codes.length = m := ⟨_, rfl⟩
  have k23 := k0 23; have k22 := k0 22
  rw [pkC_23, hn] at k23
  rw [pkC_22, hm] at k22
  have kk := (k0 0).trans (pkC_0 _ _)
  have HN := Lib.hid hn; have HM := Lib.hid hm
  have hn2 : n ≤ 4611686018427387904 := by have := HFL.out; omega
  have hm2 : m ≤ 4611686018427387904 := by have := HCL.out; omega
  clear hn hm k0
  go_wp2
  go_loopw [32] (fun i wr => ∃ k : Nat, k ≤ n ∧ i = .int .i64 k ∧ fiE v p.kind p.filters = fiE v p.kind (p.filters.drop k) ∧ Below w2.heap.size w2 wr) (fun i _ => n - (intOf i).toNat)
  case atStart => exact ⟨0, by omega, rfl, by rw [List.drop_zero], Below.refl _ _⟩
  case round =>
    obtain ⟨k, hk, rfl, hfi, hbel⟩ := hrel
    have S3 := Lib.hid (S2.out.below hbel)
    have HF := Lib.hid hfi; have HBL := Lib.hid hbel
    clear hfi kk k22 k23
    have kk := (S3.out.cell 0 rfl 0).trans (pkC_0 _ _)
    have k22 := S3.out.cell 0 rfl 22
    rw [pkC_22, HM.out] at k22
    by_cases hlt : k < n
    · have hp : k < p.filters.length := by rw [HN.out]; exact hlt
      obtain ⟨b, o, hA, hb, c0, c1, c2, c3, c4⟩ := ((S3.out.into 0 rfl).filters).atF hp
      have hts := OK.out.topics p.filters[k] (List.getElem_mem hp)
      have HAT := Lib.hid (HF.out.trans (fiE_at (v := v) (k := p.kind) hp))
      generalize p.filters[k] = f at *
      have HTS := Lib.hid hts
      have b1 : (0 : Int) ≤ (k : Int) := by omega
      have b2 : (k : Int) < (n : Int) := by omega
      clear hp hts
      have S4 := Lib.hid (S3.out.alloc (.cells #[.string f.topic, .int .i64 f.qos, .bool f.noLocal, .bool f.asPub, .int .i64 f.handling] 35))
      have HB4 := Lib.hid (HBL.out.alloc HBL.out.size (.cells #[.string f.topic, .int .i64 f.qos, .bool f.noLocal, .bool f.asPub, .int .i64 f.handling] 35))
      have K4 := Lib.hid (Bk.fresh wr 35 #[.string f.topic, .int .i64 f.qos, .bool f.noLocal, .bool f.asPub, .int .i64 f.handling])
      go_wp2_with fail
      refine (filter_any f.topic _ (by have := HTS.out; omega)).mono ?_
      rintro e w4 ⟨rfl, hb4⟩
      have S5 := Lib.hid (S4.out.below hb4)
      have HB5 := Lib.hid (HB4.out.trans (hb4.mono HB4.out.size))
      have K5 := Lib.hid (K4.out.below hb4 K4.out.lt)
      clear hb4 kk c0 c1 c2 c3 c4
      have kk := (S5.out.cell 0 rfl 0).trans (pkC_0 _ _)
      cases hfl : filterB f.topic
      · have HX : Hid (sbE v p = 10) := Lib.hid (by
          have e : fiE v p.kind p.filters = 10 := by rw [HAT.out, if_pos hfl]
          rw [HE2.out, e, if_pos (by decide)])
        clear hfl
        go_wp2
        go_ret
        exact ⟨by rw [HX.out]; rfl, S5.out.kept⟩
      have HAT2 : Hid (fiE v p.kind p.filters = if optB v p.kind f = false then 2 else fiE v p.kind (p.filters.drop (k + 1))) := Lib.hid (by rw [HAT.out, if_neg (by rw [hfl]; decide)])
      clear hfl
      have c0 := K5.out.cell 0; have c1 := K5.out.cell 1; have c2 := K5.out.cell 2; have c3 := K5.out.cell 3; have c4 := K5.out.cell 4
      simp only [List.getElem?_toArray, List.getElem?_cons_succ, List.getElem?_cons_zero] at c0 c1 c2 c3 c4
      go_wp2_with fail
      refine (optB_any v p.kind f _ (by have := HTS.out; omega)).mono ?_
      rintro e w5 ⟨rfl, hb5⟩
      have S6 := Lib.hid (S5.out.below hb5)
      have HB6 := Lib.hid (HB5.out.trans (hb5.mono HB5.out.size))
      clear hb5 c0 c1 c2 c3 c4 kk
      cases hop : optB v p.kind f
      · have HX : Hid (sbE v p = 2) := Lib.hid (by
          have e : fiE v p.kind p.filters = 2 := by rw [HAT2.out, if_pos hop]
          rw [HE2.out, e, if_pos (by decide)])
        clear hop
        go_wp2
        go_ret
        exact ⟨by rw [HX.out]; rfl, S6.out.kept⟩
      have HX : Hid (fiE v p.kind p.filters = fiE v p.kind (p.filters.drop (k + 1))) := Lib.hid (by rw [HAT2.out, if_neg (by rw [hop]; decide)])
      clear hop
      go_wp2
      go_roundw
      case rel =>
        simp only [hA]
        (repeat apply Exists.intro)
        refine ⟨?_, rfl⟩
        exact ⟨k + 1, by omega, by go_num, HX.out, HB6.out⟩
      case measure => simp [intOf]; omega
    · obtain rfl : k = n := by omega
      have HX : Hid (sbE v p = cdE v p.kind p.codes) := Lib.hid (by
        have e : fiE v p.kind p.filters = 0 := by rw [HF.out, ← HN.out, List.drop_length]; rfl
        rw [HE2.out, e, if_neg (fun y => y rfl)])
      clear HE2 HF
      go_wp2
      go_loopw [50] (fun i wq => ∃ k : Nat, k ≤ m ∧ i = .int .i64 k ∧ cdE v p.kind p.codes = cdE v p.kind (p.codes.drop k) ∧ Below wr.heap.size wr wq) (fun i _ => m - (intOf i).toNat)
      case atStart => exact ⟨0, by omega, rfl, by rw [List.drop_zero], Below.refl _ _⟩
      case round =>
        obtain ⟨j, hj, rfl, hcd, hbq⟩ := hrel
        have S4 := Lib.hid (S3.out.below hbq)
        have HC := Lib.hid hcd; have HBQ := Lib.hid hbq
        clear hcd kk k22
        have kk := (S4.out.cell 0 rfl 0).trans (pkC_0 _ _)
        by_cases hlt2 : j < m
        · have hp : j < p.codes.length := by rw [HM.out]; exact hlt2
          obtain ⟨b, o, z, hA, hb, hz, hc⟩ := ((S4.out.into 0 rfl).codes).atI hp
          have HZ : Hid (cdE v p.kind p.codes = if ansB v p.kind z = false then 2 else cdE v p.kind (p.codes.drop (j + 1))) := Lib.hid (by
            rw [HC.out, cdE_at hp]
            rw [List.getElem?_eq_getElem hp] at hz
            rw [Option.some.inj hz])
          have b1 : (0 : Int) ≤ (j : Int) := by omega
          have b2 : (j : Int) < (m : Int) := by omega
          clear hp hz
          go_wp2_with fail
          refine (ansB_any v p.kind z _).mono ?_
          rintro e w5 ⟨rfl, hb5⟩
          have S5 := Lib.hid (S4.out.below hb5)
          have HB5 := Lib.hid (HBQ.out.trans (hb5.mono HBQ.out.size))
          clear hb5 hc kk
          cases hop : ansB v p.kind z
          · have HX2 : Hid (sbE v p = 2) := Lib.hid (by rw [HX.out, HZ.out, if_pos hop])
            clear hop
            go_wp2
            go_ret
            exact ⟨by rw [HX2.out]; rfl, S5.out.kept⟩
          have HX2 : Hid (cdE v p.kind p.codes = cdE v p.kind (p.codes.drop (j + 1))) := Lib.hid (by rw [HZ.out, if_neg (by rw [hop]; decide)])
          clear hop
          go_wp2
          go_roundw
          case rel =>
            simp only [hA]
            (repeat apply Exists.intro)
            refine ⟨?_, rfl⟩
            exact ⟨j + 1, by omega, by go_num, HX2.out, HB5.out⟩
          case measure => simp [intOf]; omega
        · obtain rfl : j = m := by omega
          have HX2 : Hid (sbE v p = 0) := Lib.hid (by rw [HX.out, HC.out, ← HM.out, List.drop_length]; rfl)
          go_wp2
          go_ret
          exact ⟨by rw [HX2.out]; rfl, S4.out.kept⟩
end Go.Proofs.YtmkkjiogokfnmaaDoor
