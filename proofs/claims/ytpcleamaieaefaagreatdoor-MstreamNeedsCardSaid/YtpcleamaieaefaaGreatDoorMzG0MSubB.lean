/- A part of what the laws stand on: MSubB, SubM, Rtc, MSubP, SubD, SubE, OwnK. -/
import Derived.Test.YtpcleamaieaefaaGreatDoorMzG0OrdD
import Derived.Lib.ConvBytes
import Derived.Laws.IdiomCopy
import Derived.Deep.RegionLaw
namespace Go.Proofs.YtpcleamaieaefaaGreatDoor
open Go.RowKit
attribute [local go_sem ↓] to_ldPk to_bxPk to_bdPk to_alPk to_stPk
attribute [local go_sem] run_bxPk run_bxPk_agg ld_fresh run_alPk run_bd0 run_bdK run_bdKI run_bdKIC run_bdKC run_bdKICP run_stPk_fresh pkC_0 pkC_1 pkC_2 pkC_3 pkC_4 pkC_5 pkC_6 pkC_7 pkC_8 pkC_9 pkC_10 pkC_11 pkC_12 pkC_13 pkC_14 pkC_15 pkC_16 pkC_17 pkC_18 pkC_19 pkC_20 pkC_21 pkC_22 pkC_23 pkC_24
attribute [local go_sem ↓ high] to_stPk to_stWl to_ldWl
attribute [local go_sem ↓] to_stF
attribute [local go_sem] ld_pw pw_at pw_stwl pw_dstwl pw_stwl0 pw_stwp pw_st0 pw_dst0 pw_st1 pw_dst1 pw_st2 pw_dst2 pw_st3 pw_dst3 pw_st4 pw_dst4 pw_st5 pw_dst5 pw_st6 pw_dst6 pw_st7 pw_dst7 pw_st8 pw_dst8 pw_st9 pw_dst9 pw_st10 pw_dst10 pw_st11 pw_dst11 pw_st12 pw_dst12 pw_st13 pw_dst13 pw_st14 pw_dst14 pw_st15 pw_dst15 pw_st16 pw_dst16 pw_st17 pw_dst17 pw_st18 pw_dst18 pw_st20 pw_dst20 pw_st21 pw_dst21 pw_st22 pw_nil22 pw_st23 pw_nil23 pw_st24 pw_nil24
set_option maxHeartbeats 400000 in
set_option maxRecDepth 10000 in
theorem sbKnown_any (v k : Int) (w : World) : Calls Tryz.prog 49 #[.int .i64 v, .int .i64 k] w fun e w' => e = .returned (.bool (sbKnown v k)) ∧ w = w' := by
  go_enter Tryz.func49, Tryz.ntmps49
  go_wp2
  all_goals
    go_ret
    refine ⟨ret_bool ?_, rfl⟩
    unfold sbKnown
    by_cases h4 : v = 4 <;> by_cases h5 : v = 5 <;> simp_all <;> omega
set_option maxHeartbeats 400000 in
set_option maxRecDepth 10000 in
theorem sbAsk_any (k : Int) (w : World) : Calls Tryz.prog 62 #[.int .i64 k] w fun e w' => e = .returned (.bool (sbAsk k)) ∧ w = w' := by
  go_enter Tryz.func62, Tryz.ntmps62
  go_wp2
  all_goals
    go_ret
    refine ⟨ret_bool ?_, rfl⟩
    unfold sbAsk
    by_cases h4 : k = 8 <;> by_cases h5 : k = 10 <;> simp_all
set_option maxHeartbeats 400000 in
set_option maxRecDepth 10000 in
theorem sbSil_any (v k : Int) (w : World) : Calls Tryz.prog 63 #[.int .i64 v, .int .i64 k] w fun e w' => e = .returned (.bool (sbSil v k)) ∧ w = w' := by
  go_enter Tryz.func63, Tryz.ntmps63
  go_wp2
  all_goals
    go_ret
    refine ⟨ret_bool ?_, rfl⟩
    unfold sbSil
    by_cases h4 : k = 11 <;> by_cases h5 : v = 4 <;> simp_all
set_option maxHeartbeats 400000 in
set_option maxRecDepth 10000 in
theorem sbLow_any (n : Int) (w : World) : Calls Tryz.prog 109 #[.int .i64 n] w fun e w' => e = .returned (.bool (sbLow n)) ∧ w = w' := by
  go_enter Tryz.func109, Tryz.ntmps109
  go_wp2
  all_goals
    go_ret
    refine ⟨ret_bool ?_, rfl⟩
    unfold sbLow
    by_cases h4 : 0 ≤ n <;> by_cases h5 : n < 3 <;> simp_all <;> omega
set_option maxHeartbeats 400000 in
set_option maxRecDepth 10000 in
theorem ansB_any (v k c : Int) (w : World) : Calls Tryz.prog 68 #[.int .i64 v, .int .i64 k, .int .i64 c] w fun e w' => e = .returned (.bool (ansB v k c)) ∧ Below w.heap.size w w' := by
  by_cases h4 : v = 4
  · have e4 : (v == 4) = true := beq_iff_eq.2 h4
    have HX : Hid (ansB v k c = grantB c) := Lib.hid (if_pos h4)
    clear h4
    go_enter Tryz.func68, Tryz.ntmps68
    go_wp2_with fail
    refine (grant_any c _).mono ?_
    rintro e w1 ⟨rfl, hb⟩
    have HB := Lib.hid hb; clear hb
    go_wp2
    go_ret
    exact ⟨by rw [HX.out]; rfl, by first | exact HB.out | exact HB.out ▸ Below.refl _ _⟩
  · have e4 : (v == 4) = false := beq_eq_false_iff_ne.2 h4
    have HX : Hid (ansB v k c = may k c) := Lib.hid (if_neg h4)
    clear h4
    go_enter Tryz.func68, Tryz.ntmps68
    go_wp2_with fail
    refine (may_any k c _).mono ?_
    rintro e w1 ⟨rfl, hb⟩
    have HB := Lib.hid hb; clear hb
    go_wp2
    go_ret
    exact ⟨by rw [HX.out]; rfl, by first | exact HB.out | exact HB.out ▸ Below.refl _ _⟩
def sbH (v : Int) (p : Pk) (h : Hs) : Hs :=
  if sbAsk p.kind = true then { hs0 with props := h.props, filters := h.filters } else if sbSil v p.kind = true then { hs0 with props := h.props } else { hs0 with props := h.props, codes := h.codes }
theorem sbQ_len (v : Int) {p : Pk} (x : PkLen p) : PkLen (sbQ v p) := by
  unfold sbQ
  split
  · exact ⟨Nat.zero_le _, Nat.zero_le _, x.2.2.1, x.2.2.2⟩
  · split
    · exact ⟨Nat.zero_le _, Nat.zero_le _, Nat.zero_le _, x.2.2.2⟩
    · exact ⟨Nat.zero_le _, x.2.1, Nat.zero_le _, x.2.2.2⟩
theorem sbQ_in (v : Int) {w : World} {B : Nat} {p : Pk} {h : Hs} (x : PkIn w B p h) : PkIn w B (sbQ v p) (sbH v p h) := by
  unfold sbQ sbH
  split
  · exact ⟨Rd.nil _ _ _ _, Rd.nil _ _ _ _, x.filters, x.props, Nat.zero_le _, Nat.zero_le _, x.caps.2.2.1, x.caps.2.2.2⟩
  · split
    · exact ⟨Rd.nil _ _ _ _, Rd.nil _ _ _ _, Rd.nil _ _ _ _, x.props, Nat.zero_le _, Nat.zero_le _, Nat.zero_le _, x.caps.2.2.2⟩
    · exact ⟨Rd.nil _ _ _ _, x.codes, Rd.nil _ _ _ _, x.props, Nat.zero_le _, x.caps.2.1, Nat.zero_le _, x.caps.2.2.2⟩
theorem run_bdKIPr (k i : Int) (l : List Pr) (A : Option Addr) (n : Nat) (w : World) : (bdPk #[(0, .int .i64 k), (4, .int .i64 i), (20, .slice A l.length n)]).run Tryz.prog w = .ok (pkV { pk0 with kind := k, id := i, props := l } { hs0 with props := ⟨A, n⟩ }) w := by kernel_rfl
theorem same_sb (v : Int) (p : Pk) (h : Hs) (Q : Pk) (H : Hs) (x : World) (hq : sbQ v p = Q) (hh : sbH v p h = H) (hi : PkIn x x.heap.size p h) (hn : PkLen p) :
    Calls Tryz.prog 105 #[pkV p h, pkV Q H] x fun e y => e = .returned (.bool (decide (p = sbQ v p))) ∧ Below x.heap.size x y := by
  subst hq hh
  exact same_any p (sbQ v p) h (sbH v p h) x hi (sbQ_in v hi) hn (sbQ_len v hn)
set_option maxHeartbeats 4000000 in
set_option maxRecDepth 10000 in
theorem sbFields_any (v : Int) (p : Pk) (h : Hs) (w : World) (ip : PkIn w w.heap.size p h) (ok : PkOk p) :
    Calls Tryz.prog 64 #[.int .i64 v, pkV p h] w fun e w' => e = .returned (.bool (sbFields v p)) ∧ Below w.heap.size w w' := by
  have OK := Lib.hid ok
  have IP := Lib.hid ip
  have HE : Hid (sbFields v p = (!(decide (p.id < 1) || (decide (65535 < p.id) || (decide (v = 4) && decide (0 < p.props.length)))) && (sbHave v p && decide (p = sbQ v p)))) := Lib.hid rfl
  have HH : Hid (sbHave v p = if sbAsk p.kind = true then decide (0 < p.filters.length) else if sbSil v p.kind = true then true else decide (0 < p.codes.length)) := Lib.hid rfl
  have HB0 := Lib.hid ((Below.refl w.heap.size w).alloc (Nat.le_refl _) (.cells (pkC p h) PkT))
  have B1 := Bk.fresh w PkT (pkC p h)
  have k0 := (B1.cell 0).trans (pkC_0 _ _); have k4 := (B1.cell 4).trans (pkC_4 _ _); have k18 := (B1.cell 22).trans (pkC_22 _ _); have k19 := (B1.cell 23).trans (pkC_23 _ _); have k20 := (B1.cell 24).trans (pkC_24 _ _)
  obtain ⟨W, hW, hst⟩ := pwIn_start w p { pk0 with kind := p.kind, id := p.id, props := p.props } h { hs0 with props := ⟨h.props.a, h.props.c⟩ }
  have HW := Lib.hid hW
  have hlt := hW.lt
  have j0 := fun cs => (hW.bk_pw cs).cell
  have hl0 : ∀ cs, (ldPk (.pointer (some ⟨w.heap.size, 0, none⟩))).run Tryz.prog (pw W (w.heap.size + 1) cs) = .ok (pkV p h) (pw W (w.heap.size + 1) cs) := fun cs => ld_bk (hW.bk_pw cs)
  have hbd := run_bdKIPr p.kind p.id p.props h.props.a h.props.c
  have HQI : Hid (∀ x, Below w.heap.size w x → PkIn x x.heap.size p h) := Lib.hid fun x hx => (IP.out.below hx).wider hx.size
  clear ip ok hW B1
  go_enter Tryz.func64, Tryz.ntmps64
  by_cases h1 : p.id < 1
  · have HX : Hid (sbFields v p = false) := Lib.hid (by rw [HE.out, decide_eq_true h1]; rfl)
    go_wp2
    go_ret
    exact ⟨by rw [HX.out]; rfl, HB0.out⟩
  by_cases h2 : 65535 < p.id
  · have HX : Hid (sbFields v p = false) := Lib.hid (by rw [HE.out, decide_eq_true h2, Bool.true_or, Bool.or_true]; rfl)
    go_wp2
    go_ret
    exact ⟨by rw [HX.out]; rfl, HB0.out⟩
  have HE1 := HE.out
  rw [decide_eq_false h1, decide_eq_false h2, Bool.false_or, Bool.false_or] at HE1
  replace HE1 := Lib.hid HE1
  have key : ∀ (_ : decide (v = 4) = false ∨ decide (0 < p.props.length) = false), sbFields v p = (sbHave v p && decide (p = sbQ v p)) := by
    intro hh
    rw [HE1.out]
    rcases hh with hh | hh
    · rw [hh, Bool.false_and, Bool.not_false, Bool.true_and]
    · rw [hh, Bool.and_false, Bool.not_false, Bool.true_and]
  have KEY := Lib.hid key
  clear key HE
  by_cases h4 : v = 4 ∧ 0 < p.props.length
  · have HX : Hid (sbFields v p = false) := Lib.hid (by rw [HE1.out, decide_eq_true h4.1, decide_eq_true h4.2]; rfl)
    have e4 : (v == 4) = true := beq_iff_eq.2 h4.1
    have d4 : (0 : Int) < (p.props.length : Int) := by have := h4.2; omega
    clear h4
    go_wp2
    go_ret
    exact ⟨by rw [HX.out]; rfl, HB0.out⟩
  have HE2 : Hid (sbFields v p = (sbHave v p && decide (p = sbQ v p))) := Lib.hid (KEY.out (by
    by_cases a : v = 4
    · exact .inr (decide_eq_false fun b => h4 ⟨a, b⟩)
    · exact .inl (decide_eq_false a)))
  have tail : ∀ (b4 : Bool) (_ : (v == 4) = b4) (_ : b4 = true → (p.props.length : Int) ≤ 0), True := fun _ _ _ => trivial
  clear tail KEY HE1
  have main : (v == 4) = false ∨ ((v == 4) = true ∧ ¬ (0 : Int) < (p.props.length : Int)) := by
    by_cases a : v = 4
    · exact .inr ⟨beq_iff_eq.2 a, fun b => h4 ⟨a, by omega⟩⟩
    · exact .inl (beq_eq_false_iff_ne.2 a)
  clear h4
  have HAS := Lib.hid (sbAsk_any p.kind)
  rcases main with e4 | ⟨e4, d4⟩
  all_goals
    go_wp2_with fail
    refine (sbAsk_any p.kind _).mono ?_
    rintro e w1 ⟨rfl, hw1⟩
    subst hw1
    cases ha : sbAsk p.kind
    rotate_left
    · have HHX : Hid (sbHave v p = decide (0 < p.filters.length)) := Lib.hid (by rw [HH.out, if_pos ha])
      have HQ : Hid (sbQ v p = { pk0 with kind := p.kind, id := p.id, props := p.props, filters := p.filters }) := Lib.hid (by unfold sbQ; rw [if_pos ha])
      have HHS : Hid (sbH v p h = { hs0 with props := h.props, filters := h.filters }) := Lib.hid (by unfold sbH; rw [if_pos ha])
      clear ha
      by_cases hn : 0 < p.filters.length
      · have d5 : (0 : Int) < (p.filters.length : Int) := by omega
        have HX : Hid (sbFields v p = decide (p = sbQ v p)) := Lib.hid (by rw [HE2.out, HHX.out, decide_eq_true hn, Bool.true_and])
        clear hn
        go_wp2_with fail
        refine (same_sb v p h _ _ _ (HQ.out.trans rfl) (HHS.out.trans rfl) (HQI.out _ (HW.out.kept _)) OK.out.len).mono ?_
        rintro e w1 ⟨rfl, hb⟩
        have HB := Lib.hid ((HW.out.kept _).trans (hb.mono (HW.out.kept _).size)); clear hb
        go_wp2
        go_ret
        exact ⟨by rw [HX.out]; rfl, HB.out⟩
      · have d5 : ¬ (0 : Int) < (p.filters.length : Int) := by omega
        have HX : Hid (sbFields v p = false) := Lib.hid (by rw [HE2.out, HHX.out, decide_eq_false hn, Bool.false_and])
        clear hn
        go_wp2
        go_ret
        exact ⟨by rw [HX.out]; rfl, HW.out.kept _⟩
    · go_wp2_with fail
      refine (sbSil_any v p.kind _).mono ?_
      rintro e w1 ⟨rfl, hw1⟩
      subst hw1
      cases hsil : sbSil v p.kind
      rotate_left
      · have HHX : Hid (sbHave v p = true) := Lib.hid (by rw [HH.out, if_neg (by rw [ha]; decide), if_pos hsil])
        have HQ : Hid (sbQ v p = { pk0 with kind := p.kind, id := p.id, props := p.props }) := Lib.hid (by unfold sbQ; rw [if_neg (by rw [ha]; decide), if_pos hsil])
        have HHS : Hid (sbH v p h = { hs0 with props := h.props }) := Lib.hid (by unfold sbH; rw [if_neg (by rw [ha]; decide), if_pos hsil])
        have HX : Hid (sbFields v p = decide (p = sbQ v p)) := Lib.hid (by rw [HE2.out, HHX.out, Bool.true_and])
        clear ha hsil
        go_wp2_with fail
        refine (same_sb v p h _ _ _ (HQ.out.trans rfl) (HHS.out.trans rfl) (HQI.out _ (HW.out.kept _)) OK.out.len).mono ?_
        rintro e w1 ⟨rfl, hb⟩
        have HB := Lib.hid ((HW.out.kept _).trans (hb.mono (HW.out.kept _).size)); clear hb
        go_wp2
        go_ret
        exact ⟨by rw [HX.out]; rfl, HB.out⟩
      · have HHX : Hid (sbHave v p = decide (0 < p.codes.length)) := Lib.hid (by rw [HH.out, if_neg (by rw [ha]; decide), if_neg (by rw [hsil]; decide)])
        have HQ : Hid (sbQ v p = { pk0 with kind := p.kind, id := p.id, props := p.props, codes := p.codes }) := Lib.hid (by unfold sbQ; rw [if_neg (by rw [ha]; decide), if_neg (by rw [hsil]; decide)])
        have HHS : Hid (sbH v p h = { hs0 with props := h.props, codes := h.codes }) := Lib.hid (by unfold sbH; rw [if_neg (by rw [ha]; decide), if_neg (by rw [hsil]; decide)])
        clear ha hsil
        by_cases hn : 0 < p.codes.length
        · have d5 : (0 : Int) < (p.codes.length : Int) := by omega
          have HX : Hid (sbFields v p = decide (p = sbQ v p)) := Lib.hid (by rw [HE2.out, HHX.out, decide_eq_true hn, Bool.true_and])
          clear hn
          go_wp2_with fail
          refine (same_sb v p h _ _ _ (HQ.out.trans rfl) (HHS.out.trans rfl) (HQI.out _ (HW.out.kept _)) OK.out.len).mono ?_
          rintro e w1 ⟨rfl, hb⟩
          have HB := Lib.hid ((HW.out.kept _).trans (hb.mono (HW.out.kept _).size)); clear hb
          go_wp2
          go_ret
          exact ⟨by rw [HX.out]; rfl, HB.out⟩
        · have d5 : ¬ (0 : Int) < (p.codes.length : Int) := by omega
          have HX : Hid (sbFields v p = false) := Lib.hid (by rw [HE2.out, HHX.out, decide_eq_false hn, Bool.false_and])
          clear hn
          go_wp2
          go_ret
          exact ⟨by rw [HX.out]; rfl, HW.out.kept _⟩
set_option maxHeartbeats 2000000 in
set_option maxRecDepth 10000 in
theorem optB_any (v k : Int) (f : Fi) (w : World) (hs : f.topic.size ≤ 4611686018427387904) :
    Calls Tryz.prog 67 #[.int .i64 v, .int .i64 k, .agg #[.string f.topic, .int .i64 f.qos, .bool f.noLocal, .bool f.asPub, .int .i64 f.handling]] w fun e w' => e = .returned (.bool (optB v k f)) ∧ Below w.heap.size w w' := by
  have HS := Lib.hid hs
  have HB0 := Lib.hid ((Below.refl w.heap.size w).alloc (Nat.le_refl _) (.cells #[.string f.topic, .int .i64 f.qos, .bool f.noLocal, .bool f.asPub, .int .i64 f.handling] 32))
  have HK0 := Lib.hid (Bk.fresh w 32 #[.string f.topic, .int .i64 f.qos, .bool f.noLocal, .bool f.asPub, .int .i64 f.handling])
  have HE : Hid (optB v k f = if k = 10 then fiPlain f && decide (f.qos = 0) else if v = 4 then fiPlain f && sbLow f.qos else sbLow f.qos && (sbLow f.handling && !(sharedB f.topic && f.noLocal))) := Lib.hid rfl
  have hgt := guard_filter
  have hne := fun W => eql_filter f ⟨f.topic, f.qos, false, false, 0⟩ W
  have HP : Hid (fiPlain f = decide (f = ⟨f.topic, f.qos, false, false, 0⟩)) := Lib.hid rfl
  rw [← HP.out] at hne
  clear HP hs
  generalize fiPlain f = pl at *
  go_enter Tryz.func67, Tryz.ntmps67
  by_cases hk : k = 10
  · have ek : (k == 10) = true := beq_iff_eq.2 hk
    have HE1 : Hid (optB v k f = (pl && (f.qos == 0))) := Lib.hid (by rw [HE.out, if_pos hk]; rfl)
    clear hk
    cases pl
    · go_wp2
      go_ret
      exact ⟨by rw [HE1.out]; rfl, HB0.out⟩
    · go_wp2
      go_ret
      exact ⟨by rw [HE1.out]; rfl, HB0.out⟩
  have ek : (k == 10) = false := beq_eq_false_iff_ne.2 hk
  by_cases h4 : v = 4
  · have e4 : (v == 4) = true := beq_iff_eq.2 h4
    have HE1 : Hid (optB v k f = (pl && sbLow f.qos)) := Lib.hid (by rw [HE.out, if_neg hk, if_pos h4])
    clear hk h4
    cases pl
    · go_wp2
      go_ret
      exact ⟨by rw [HE1.out]; rfl, HB0.out⟩
    · go_wp2_with fail
      refine (sbLow_any f.qos _).mono ?_
      rintro e w1 ⟨rfl, hw1⟩
      subst hw1
      go_wp2
      go_ret
      exact ⟨by rw [HE1.out]; rfl, HB0.out⟩
  have e4 : (v == 4) = false := beq_eq_false_iff_ne.2 h4
  have HE1 : Hid (optB v k f = (sbLow f.qos && (sbLow f.handling && !(sharedB f.topic && f.noLocal)))) := Lib.hid (by rw [HE.out, if_neg hk, if_neg h4])
  clear hk h4 HE
  go_wp2_with fail
  refine (shared_any f.topic _ HS.out).mono ?_
  rintro e w1 ⟨⟨a, b, rfl⟩, hb⟩
  have HB1 := Lib.hid (HB0.out.trans (hb.mono HB0.out.size))
  have HK1 := Lib.hid (HK0.out.below hb HK0.out.lt)
  clear hb
  have c1 := HK1.out.cell 1; have c2 := HK1.out.cell 2; have c4 := HK1.out.cell 4
  simp only [List.getElem?_toArray, List.getElem?_cons_succ, List.getElem?_cons_zero] at c1 c2 c4
  generalize sharedB f.topic = sh at *
  go_wp2_with fail
  refine (sbLow_any f.qos _).mono ?_
  rintro e w2 ⟨rfl, hw2⟩
  subst hw2
  cases hq : sbLow f.qos
  · have HX : Hid (optB v k f = false) := Lib.hid (by rw [HE1.out, hq]; rfl)
    clear hq
    go_wp2
    go_ret
    exact ⟨by rw [HX.out]; rfl, HB1.out⟩
  have HE2 : Hid (optB v k f = (sbLow f.handling && !(sh && f.noLocal))) := Lib.hid (by rw [HE1.out, hq, Bool.true_and])
  clear hq
  go_wp2_with fail
  refine (sbLow_any f.handling _).mono ?_
  rintro e w2 ⟨rfl, hw2⟩
  subst hw2
  cases hq : sbLow f.handling
  · have HX : Hid (optB v k f = false) := Lib.hid (by rw [HE2.out, hq]; rfl)
    clear hq
    go_wp2
    go_ret
    exact ⟨by rw [HX.out]; rfl, HB1.out⟩
  have HE3 : Hid (optB v k f = !(sh && f.noLocal)) := Lib.hid (by rw [HE2.out, hq, Bool.true_and])
  clear hq
  cases sh
  · go_wp2
    go_ret
    exact ⟨by rw [HE3.out]; rfl, HB1.out⟩
  · go_wp2
    go_ret
    exact ⟨by rw [HE3.out]; rfl, HB1.out⟩
end Go.Proofs.YtpcleamaieaefaaGreatDoor

namespace Go.Proofs.YtpcleamaieaefaaGreatDoor
open Go.RowKit
attribute [local go_sem ↓] to_ldPk to_bxPk to_bdPk to_alPk to_stPk
attribute [local go_sem] run_bxPk run_bxPk_agg ld_fresh run_alPk run_bd0 run_bdK run_bdKI run_bdKIC run_bdKC run_bdKICP run_stPk_fresh pkC_0 pkC_1 pkC_2 pkC_3 pkC_4 pkC_5 pkC_6 pkC_7 pkC_8 pkC_9 pkC_10 pkC_11 pkC_12 pkC_13 pkC_14 pkC_15 pkC_16 pkC_17 pkC_18 pkC_19 pkC_20 pkC_21 pkC_22 pkC_23 pkC_24
theorem fiE_at {v k : Int} {l : List Fi} {i : Nat} (hi : i < l.length) : fiE v k (l.drop i) = if filterB l[i].topic = false then 10 else if optB v k l[i] = false then 2 else fiE v k (l.drop (i + 1)) := by
  rw [List.drop_eq_getElem_cons hi]; rfl
theorem cdE_at {v k : Int} {l : List Int} {i : Nat} (hi : i < l.length) : cdE v k (l.drop i) = if ansB v k l[i] = false then 2 else cdE v k (l.drop (i + 1)) := by
  rw [List.drop_eq_getElem_cons hi]; rfl
set_option maxHeartbeats 4000000 in
set_option maxRecDepth 10000 in
theorem sbValid_any (v : Int) (p : Pk) (h : Hs) (w : World) (ip : PkIn w w.heap.size p h) (ok : PkOk p) :
    Calls Tryz.prog 17 #[.int .i64 v, pkV p h] w fun e w' => e = .returned (.int .i64 (sbE v p)) ∧ Below w.heap.size w w' := by
  have OK := Lib.hid ok
  have S0 := Lib.hid ((St.start w).push ip)
  have HE : Hid (sbE v p = if sbArg v p = false then 2 else if (bytesS p.kind p.props).2 ≠ 0 then (bytesS p.kind p.props).2
    else if fiE v p.kind p.filters ≠ 0 then fiE v p.kind p.filters else cdE v p.kind p.codes) := Lib.hid rfl
  have HA : Hid (sbArg v p = (sbKnown v p.kind && sbFields v p)) := Lib.hid rfl
  have k0 := S0.out.cell 0 rfl
  have l0 := S0.out.ld 0 rfl
  clear ip ok
  go_enter Tryz.func17, Tryz.ntmps17
  go_wp2_with fail
  refine (sbKnown_any v p.kind _).mono ?_
  rintro e w1 ⟨rfl, hw1⟩
  subst hw1
  cases hk : sbKnown v p.kind
  · have HX : Hid (sbE v p = 2) := Lib.hid (by rw [HE.out, if_pos (by rw [HA.out, hk]; rfl)])
    clear hk
    go_wp2
    go_ret
    exact ⟨by rw [HX.out]; rfl, S0.out.kept⟩
  have HA1 : Hid (sbArg v p = sbFields v p) := Lib.hid (by rw [HA.out, hk, Bool.true_and])
  clear hk HA
  go_wp2_with fail
  refine (sbFields_any v p h _ (S0.out.into 0 rfl) OK.out).mono ?_
  rintro e w1 ⟨rfl, hb⟩
  have S1 := Lib.hid (S0.out.below hb); clear hb k0 l0
  have k0 := S1.out.cell 0 rfl
  cases hf : sbFields v p
  · have HX : Hid (sbE v p = 2) := Lib.hid (by rw [HE.out, if_pos (by rw [HA1.out, hf])])
    clear hf
    go_wp2
    go_ret
    exact ⟨by rw [HX.out]; rfl, S1.out.kept⟩
  have HE1 : Hid (sbE v p = if (bytesS p.kind p.props).2 ≠ 0 then (bytesS p.kind p.props).2 else if fiE v p.kind p.filters ≠ 0 then fiE v p.kind p.filters else cdE v p.kind p.codes) := Lib.hid (by
    rw [HE.out, if_neg (by rw [HA1.out, hf]; decide)])
  clear hf HE HA1
  go_wp2_with fail
  refine (validP_n p.kind p.props _ rfl OK.out.props h.props.a h.props.c _ (S1.out.into 0 rfl).props OK.out.len.2.2.2).mono ?_
  rintro e w2 ⟨rfl, hb⟩
  have S2 := Lib.hid (S1.out.below hb); clear hb k0
  have k0 := S2.out.cell 0 rfl
  obtain ⟨x, hx⟩ : ∃ x, (bytesS p.kind p.props).2 = x := ⟨_, rfl⟩
  rw [hx] at HE1 ⊢
  clear hx
  by_cases hx : x = 0
  rotate_left
  · have HX : Hid (sbE v p = x) := Lib.hid (by rw [HE1.out, if_pos hx])
    have e0 : (x != 0) = true := bne_iff_ne.2 hx
    clear hx
    go_wp2
    go_ret
    exact ⟨by rw [HX.out]; rfl, S2.out.kept⟩
  have HE2 : Hid (sbE v p = if fiE v p.kind p.filters ≠ 0 then fiE v p.kind p.filters else cdE v p.kind p.codes) := Lib.hid (by rw [HE1.out, if_neg (fun y => y hx)])
  have e0 : (x != 0) = false := by rw [hx]; rfl
  have HFL := Lib.hid OK.out.len.2.2.1
  have HCL := Lib.hid OK.out.len.2.1
  clear hx HE1
  obtain ⟨n, hn⟩ : ∃ n, p.filters.length = n := ⟨_, rfl⟩
  obtain ⟨m, hm⟩ : ∃ m, p.codes.length = m := ⟨_, rfl⟩
  have k23 := k0 23; have k22 := k0 22
  rw [pkC_23, hn] at k23
  rw [pkC_22, hm] at k22
  have kk := (k0 0).trans (pkC_0 _ _)
  have HN := Lib.hid hn; have HM := Lib.hid hm
  have hn2 : n ≤ 4611686018427387904 := by have := HFL.out; omega
  have hm2 : m ≤ 4611686018427387904 := by have := HCL.out; omega
  clear hn hm k0
  go_wp2
  go_loopw [32] (fun i wr => ∃ k : Nat, k ≤ n ∧ i = .int .i64 k ∧ fiE v p.kind p.filters = fiE v p.kind (p.filters.drop k) ∧ Below w2.heap.size w2 wr) (fun i _ => n - (intOf i).toNat)
  case atStart => exact ⟨0, by omega, rfl, by rw [List.drop_zero], Below.refl _ _⟩
  case round =>
    obtain ⟨k, hk, rfl, hfi, hbel⟩ := hrel
    have S3 := Lib.hid (S2.out.below hbel)
    have HF := Lib.hid hfi; have HBL := Lib.hid hbel
    clear hfi kk k22 k23
    have kk := (S3.out.cell 0 rfl 0).trans (pkC_0 _ _)
    have k22 := S3.out.cell 0 rfl 22
    rw [pkC_22, HM.out] at k22
    by_cases hlt : k < n
    · have hp : k < p.filters.length := by rw [HN.out]; exact hlt
      obtain ⟨b, o, hA, hb, c0, c1, c2, c3, c4⟩ := ((S3.out.into 0 rfl).filters).atF hp
      have hts := OK.out.topics p.filters[k] (List.getElem_mem hp)
      have HAT := Lib.hid (HF.out.trans (fiE_at (v := v) (k := p.kind) hp))
      generalize p.filters[k] = f at *
      have HTS := Lib.hid hts
      have b1 : (0 : Int) ≤ (k : Int) := by omega
      have b2 : (k : Int) < (n : Int) := by omega
      clear hp hts
      have S4 := Lib.hid (S3.out.alloc (.cells #[.string f.topic, .int .i64 f.qos, .bool f.noLocal, .bool f.asPub, .int .i64 f.handling] 32))
      have HB4 := Lib.hid (HBL.out.alloc HBL.out.size (.cells #[.string f.topic, .int .i64 f.qos, .bool f.noLocal, .bool f.asPub, .int .i64 f.handling] 32))
      have K4 := Lib.hid (Bk.fresh wr 32 #[.string f.topic, .int .i64 f.qos, .bool f.noLocal, .bool f.asPub, .int .i64 f.handling])
      go_wp2_with fail
      refine (filter_any f.topic _ (by have := HTS.out; omega)).mono ?_
      rintro e w4 ⟨rfl, hb4⟩
      have S5 := Lib.hid (S4.out.below hb4)
      have HB5 := Lib.hid (HB4.out.trans (hb4.mono HB4.out.size))
      have K5 := Lib.hid (K4.out.below hb4 K4.out.lt)
      clear hb4 kk c0 c1 c2 c3 c4
      have kk := (S5.out.cell 0 rfl 0).trans (pkC_0 _ _)
      cases hfl : filterB f.topic
      · have HX : Hid (sbE v p = 10) := Lib.hid (by
          have e : fiE v p.kind p.filters = 10 := by rw [HAT.out, if_pos hfl]
          rw [HE2.out, e, if_pos (by decide)])
        clear hfl
        go_wp2
        go_ret
        exact ⟨by rw [HX.out]; rfl, S5.out.kept⟩
      have HAT2 : Hid (fiE v p.kind p.filters = if optB v p.kind f = false then 2 else fiE v p.kind (p.filters.drop (k + 1))) := Lib.hid (by rw [HAT.out, if_neg (by rw [hfl]; decide)])
      clear hfl
      have c0 := K5.out.cell 0; have c1 := K5.out.cell 1; have c2 := K5.out.cell 2; have c3 := K5.out.cell 3; have c4 := K5.out.cell 4
      simp only [List.getElem?_toArray, List.getElem?_cons_succ, List.getElem?_cons_zero] at c0 c1 c2 c3 c4
      go_wp2_with fail
      refine (optB_any v p.kind f _ (by have := HTS.out; omega)).mono ?_
      rintro e w5 ⟨rfl, hb5⟩
      have S6 := Lib.hid (S5.out.below hb5)
      have HB6 := Lib.hid (HB5.out.trans (hb5.mono HB5.out.size))
      clear hb5 c0 c1 c2 c3 c4 kk
      cases hop : optB v p.kind f
      · have HX : Hid (sbE v p = 2) := Lib.hid (by
          have e : fiE v p.kind p.filters = 2 := by rw [HAT2.out, if_pos hop]
          rw [HE2.out, e, if_pos (by decide)])
        clear hop
        go_wp2
        go_ret
        exact ⟨by rw [HX.out]; rfl, S6.out.kept⟩
      have HX : Hid (fiE v p.kind p.filters = fiE v p.kind (p.filters.drop (k + 1))) := Lib.hid (by rw [HAT2.out, if_neg (by rw [hop]; decide)])
      clear hop
      go_wp2
      go_roundw
      case rel =>
        simp only [hA]
        (repeat apply Exists.intro)
        refine ⟨?_, rfl⟩
        exact ⟨k + 1, by omega, by go_num, HX.out, HB6.out⟩
      case measure => simp [intOf]; omega
    · obtain rfl : k = n := by omega
      have HX : Hid (sbE v p = cdE v p.kind p.codes) := Lib.hid (by
        have e : fiE v p.kind p.filters = 0 := by rw [HF.out, ← HN.out, List.drop_length]; rfl
        rw [HE2.out, e, if_neg (fun y => y rfl)])
      clear HE2 HF
      go_wp2
      go_loopw [50] (fun i wq => ∃ k : Nat, k ≤ m ∧ i = .int .i64 k ∧ cdE v p.kind p.codes = cdE v p.kind (p.codes.drop k) ∧ Below wr.heap.size wr wq) (fun i _ => m - (intOf i).toNat)
      case atStart => exact ⟨0, by omega, rfl, by rw [List.drop_zero], Below.refl _ _⟩
      case round =>
        obtain ⟨j, hj, rfl, hcd, hbq⟩ := hrel
        have S4 := Lib.hid (S3.out.below hbq)
        have HC := Lib.hid hcd; have HBQ := Lib.hid hbq
        clear hcd kk k22
        have kk := (S4.out.cell 0 rfl 0).trans (pkC_0 _ _)
        by_cases hlt2 : j < m
        · have hp : j < p.codes.length := by rw [HM.out]; exact hlt2
          obtain ⟨b, o, z, hA, hb, hz, hc⟩ := ((S4.out.into 0 rfl).codes).atI hp
          have HZ : Hid (cdE v p.kind p.codes = if ansB v p.kind z = false then 2 else cdE v p.kind (p.codes.drop (j + 1))) := Lib.hid (by
            rw [HC.out, cdE_at hp]
            rw [List.getElem?_eq_getElem hp] at hz
            rw [Option.some.inj hz])
          have b1 : (0 : Int) ≤ (j : Int) := by omega
          have b2 : (j : Int) < (m : Int) := by omega
          clear hp hz
          go_wp2_with fail
          refine (ansB_any v p.kind z _).mono ?_
          rintro e w5 ⟨rfl, hb5⟩
          have S5 := Lib.hid (S4.out.below hb5)
          have HB5 := Lib.hid (HBQ.out.trans (hb5.mono HBQ.out.size))
          clear hb5 hc kk
          cases hop : ansB v p.kind z
          · have HX2 : Hid (sbE v p = 2) := Lib.hid (by rw [HX.out, HZ.out, if_pos hop])
            clear hop
            go_wp2
            go_ret
            exact ⟨by rw [HX2.out]; rfl, S5.out.kept⟩
          have HX2 : Hid (cdE v p.kind p.codes = cdE v p.kind (p.codes.drop (j + 1))) := Lib.hid (by rw [HZ.out, if_neg (by rw [hop]; decide)])
          clear hop
          go_wp2
          go_roundw
          case rel =>
            simp only [hA]
            (repeat apply Exists.intro)
            refine ⟨?_, rfl⟩
            exact ⟨j + 1, by omega, by go_num, HX2.out, HB5.out⟩
          case measure => simp [intOf]; omega
        · obtain rfl : j = m := by omega
          have HX2 : Hid (sbE v p = 0) := Lib.hid (by rw [HX.out, HC.out, ← HM.out, List.drop_length]; rfl)
          go_wp2
          go_ret
          exact ⟨by rw [HX2.out]; rfl, S4.out.kept⟩
end Go.Proofs.YtpcleamaieaefaaGreatDoor

namespace Go.Proofs.YtpcleamaieaefaaGreatDoor
open Go.RowKit

/-- The slice value v is the call's own, of the bytes l. -/
def OB (w : World) (base : Nat) (v : Value) (l : List UInt8) : Prop :=
  ∃ g cap, v = .slice (some ⟨g, 0, none⟩) l.length cap ∧ base ≤ g ∧ g < w.heap.size ∧ l.length ≤ cap ∧ w.there g 0 cap ∧ w.rangeAt g 0 (bys l)
section
variable {w w' : World} {base : Nat} {v : Value} {l : List UInt8}
theorem bys_app (a b : List UInt8) : bys (a ++ b) = bys a ++ bys b := by simp [bys]
theorem OB.below (h : OB w base v l) (hb : Below w.heap.size w w') : OB w' base v l := by
  obtain ⟨g, cap, hv, h1, h2, h3, h4, h5⟩ := h
  refine ⟨g, cap, hv, h1, Nat.lt_of_lt_of_le h2 hb.size, h3, fun j hj => ?_, fun j u hu => ?_⟩
  · rw [hb.cell (p := ⟨g, 0 + j, none⟩) h2, hb.frozen (p := ⟨g, 0 + j, none⟩) h2]; exact h4 j hj
  · rw [hb.cell (p := ⟨g, 0 + j, none⟩) h2]; exact h5 j u hu
theorem OB.drewN (h : OB w base v l) (n : Nat) : OB (w.drewN n) base v l := h
theorem OB.rd (h : OB w base v l) : ∃ A c, v = .slice A l.length c ∧ Rd w w.heap.size 1 A l.length (bys l) := by
  obtain ⟨g, cap, hv, h1, h2, h3, h4, h5⟩ := h
  refine ⟨_, cap, hv, by rw [bys_len, Nat.mul_one], .inr ⟨g, 0, rfl, h2, fun j u hu => ?_⟩⟩
  exact h5 j u hu
theorem OB.block (h : OB w base v l) : ∀ g, v.ownBlock = some g → base ≤ g ∧ g < w.heap.size := by
  obtain ⟨g, cap, rfl, h1, h2, h3, h4, h5⟩ := h
  intro k hk
  simp [Value.ownBlock] at hk
  subst hk
  exact ⟨h1, h2⟩
end
section
variable {P : Program} (w : World) {base : Nat} {v : Value} {l : List UInt8}
theorem OB.alloc {w : World} {base : Nat} {v : Value} {l : List UInt8} (h : OB w base v l) (o : Obj) : OB (w.alloc o) base v l := h.below ((Below.refl _ _).alloc (Nat.le_refl _) o)
end
end Go.Proofs.YtpcleamaieaefaaGreatDoor

namespace Go.Proofs.YtpcleamaieaefaaGreatDoor
open Go.RowKit

theorem readB_le (s : ByteArray) : (readB s).2.1 ≤ s.size ∧ (readB s).1.size ≤ 65535 := by
  unfold readB
  split
  · exact ⟨Nat.zero_le _, Nat.zero_le _⟩
  · split
    · exact ⟨Nat.zero_le _, Nat.zero_le _⟩
    · refine ⟨by show 2 + numS s 0 0 2 ≤ s.size; omega, ?_⟩
      rw [ByteArray.size_extract]
      have := num_two_lt s 0 0 (Nat.zero_le _)
      omega
theorem readU_le (s : ByteArray) : (readU s).2.1 ≤ s.size ∧ (readU s).1.size ≤ 65535 := by
  unfold readU
  split
  · exact ⟨Nat.zero_le _, Nat.zero_le _⟩
  · exact readB_le s
/-- A cursor's next data, text, as the reference reads them. -/
def rbC (t : ByteArray) (a : Nat) (e : Int) : ByteArray × Nat × Int := if e ≠ 0 then (⟨#[]⟩, a, e) else ((readB (t.extract a t.size)).1, a + (readB (t.extract a t.size)).2.1, (readB (t.extract a t.size)).2.2)
def rtC (t : ByteArray) (a : Nat) (e : Int) : ByteArray × Nat × Int := if e ≠ 0 then (⟨#[]⟩, a, e) else ((readU (t.extract a t.size)).1, a + (readU (t.extract a t.size)).2.1, (readU (t.extract a t.size)).2.2)
theorem bin_bad {t : ByteArray} {a : Nat} {e : Int} (he : e ≠ 0) : binC t a e = (⟨#[]⟩, a, e) := by
  unfold binC
  rw [takeS_bad he]
  exact takeS_bad he
theorem txt_bad {t : ByteArray} {a : Nat} {e : Int} (he : e ≠ 0) : (txtC t a e).2.2 = e := by
  unfold txtC
  rw [bin_bad he]
  simp only
  split
  · rfl
  · exact if_neg he
theorem rb_bin {t : ByteArray} {a : Nat} (h : a ≤ t.size) (e : Int) : (rbC t a e).2.2 = (binC t a e).2.2 ∧ ((binC t a e).2.2 = 0 → rbC t a e = binC t a e) := by
  by_cases he : e = 0
  rotate_left
  · have h1 : rbC t a e = binC t a e := by rw [bin_bad he]; exact if_pos he
    exact ⟨by rw [h1], fun _ => h1⟩
  subst he
  have hz : (t.extract a t.size).size = t.size - a := by rw [ByteArray.size_extract]; omega
  by_cases h2 : t.size < a + 2
  · have h1 : rbC t a 0 = binC t a 0 := by
      unfold rbC binC
      rw [if_neg (fun x => x rfl), show (2 : Int) = ((2 : Nat) : Int) from rfl, take_no (by omega)]
      simp only
      rw [takeS_bad (by decide)]
      unfold readB
      rw [if_pos (by omega)]
      rfl
    exact ⟨by rw [h1], fun _ => h1⟩
  have hn : numS (t.extract a t.size) 0 0 2 = numS t a 0 2 := by
    unfold numS
    rw [show (2 : Int) = ((2 : Nat) : Int) from rfl, take_yes (t := t.extract a t.size) (by omega), take_yes (t := t) (by omega)]
    simp only
    rw [extract_ls, extract_ls, rest_ls, List.drop_zero]
  have hB : binC t a 0 = takeS t (a + 2) 0 (numS t a 0 2 : Nat) := by
    unfold binC
    rw [show takeS t a 0 2 = (t.extract a (a + 2), a + 2, 0) from take_yes (k := 2) (by omega)]
  have hR : rbC t a 0 = ((readB (t.extract a t.size)).1, a + (readB (t.extract a t.size)).2.1, (readB (t.extract a t.size)).2.2) := if_neg (fun x => x rfl)
  rw [hB, hR]
  unfold readB
  rw [if_neg (by omega), hn]
  generalize numS t a 0 2 = n
  by_cases h3 : t.size < a + 2 + n
  · rw [take_no (by omega), if_pos (by omega)]
    exact ⟨rfl, fun x => by cases x⟩
  · rw [take_yes (by omega), if_neg (by omega)]
    refine ⟨rfl, fun _ => ?_⟩
    have e1 : (t.extract a t.size).extract 2 (2 + n) = t.extract (a + 2) (a + 2 + n) := ls_ext (by
      rw [extract_ls, extract_ls, rest_ls, List.drop_drop])
    simp only
    rw [e1, Nat.add_assoc]
theorem rt_txt {t : ByteArray} {a : Nat} (h : a ≤ t.size) (e : Int) : (rtC t a e).2.2 = (txtC t a e).2.2 ∧ ((txtC t a e).2.2 = 0 → rtC t a e = txtC t a e) := by
  by_cases he : e = 0
  rotate_left
  · have h1 : (rtC t a e).2.2 = e := by rw [show rtC t a e = (⟨#[]⟩, a, e) from if_pos he]
    exact ⟨by rw [h1, txt_bad he], fun x => absurd ((txt_bad he).symm.trans x) he⟩
  subst he
  have hR : rtC t a 0 = ((readU (t.extract a t.size)).1, a + (readU (t.extract a t.size)).2.1, (readU (t.extract a t.size)).2.2) := if_neg (fun x => x rfl)
  have hb : rbC t a 0 = ((readB (t.extract a t.size)).1, a + (readB (t.extract a t.size)).2.1, (readB (t.extract a t.size)).2.2) := if_neg (fun x => x rfl)
  obtain ⟨g1, g2⟩ := rb_bin h 0
  rw [hR]
  by_cases hz : (binC t a 0).2.2 = 0
  · have g3 := g2 hz
    rw [hb] at g3
    have g4 : (readB (t.extract a t.size)).1 = (binC t a 0).1 := by rw [← g3]
    have g5 : (readB (t.extract a t.size)).2.2 = 0 := by rw [← hz, ← g3]
    by_cases hv : validB (binC t a 0).1 = true
    · have hU : readU (t.extract a t.size) = readB (t.extract a t.size) := by
        unfold readU
        rw [if_neg (fun y => by rw [g4, hv] at y; cases y.2)]
      have hT : txtC t a 0 = binC t a 0 := by unfold txtC; rw [if_pos hv]
      rw [hU, hT, ← g3]
      exact ⟨rfl, fun _ => rfl⟩
    · have hU : readU (t.extract a t.size) = (⟨#[]⟩, 0, 6) := by
        unfold readU
        rw [if_pos ⟨g5, by rw [g4]; simpa using hv⟩]
      have hT : (txtC t a 0).2.2 = 6 := by
        unfold txtC
        rw [if_neg hv]
        simp only
        rw [hz]
        rfl
      rw [hU, hT]
      exact ⟨rfl, fun x => by cases x⟩
  · have g5 : (readB (t.extract a t.size)).2.2 = (binC t a 0).2.2 := by rw [← g1, hb]
    have hU : readU (t.extract a t.size) = readB (t.extract a t.size) := by
      unfold readU
      rw [if_neg (fun y => hz (g5.symm.trans y.1))]
    have hT : (txtC t a 0).2.2 = (binC t a 0).2.2 := by
      unfold txtC
      simp only
      split
      · rfl
      · exact if_neg hz
    rw [hU, hT]
    exact ⟨g5, fun x => absurd x hz⟩
theorem readP_at (kind : Int) (s : ByteArray) : (readP kind s).2.1 ≤ s.size := by
  by_cases h : (readP kind s).2.2 = 0
  · exact (readP_back (kind := kind) (s := s) (l := (readP kind s).1) (n := (readP kind s).2.1) (by rw [← h])).2.2
  · rw [readP_bad h]; exact Nat.zero_le _
theorem prp_le8 (v k : Int) {t : ByteArray} {a : Nat} (e : Int) (h : a ≤ t.size) : (prpC v k t a e).2.1 ≤ t.size := by
  unfold prpC
  split
  · exact h
  · have := readP_at k (t.extract a t.size)
    rw [ByteArray.size_extract] at this
    simp only
    omega
set_option maxHeartbeats 1000000 in
set_option maxRecDepth 10000 in
theorem refVersion_any (v : Int) (w : World) : Calls Tryz.prog 45 #[.int .i64 v] w fun e w' => e = .returned (.bool (hdKnown v)) ∧ w = w' := by
  have HE : Hid (hdKnown v = decide (v = 4 ∨ v = 5)) := Lib.hid rfl
  by_cases h4 : v = 4
  · have HX : Hid (hdKnown v = true) := Lib.hid (by rw [HE.out]; exact decide_eq_true (.inl h4))
    have e4 : (v == 4) = true := beq_iff_eq.2 h4
    clear h4
    go_enter Tryz.func45, Tryz.ntmps45
    go_wp2
    go_ret
    exact ⟨by rw [HX.out]; rfl, rfl⟩
  have e4 : (v == 4) = false := beq_eq_false_iff_ne.2 h4
  by_cases h5 : v = 5
  · have HX : Hid (hdKnown v = true) := Lib.hid (by rw [HE.out]; exact decide_eq_true (.inr h5))
    have e5 : (v == 5) = true := beq_iff_eq.2 h5
    clear h4 h5
    go_enter Tryz.func45, Tryz.ntmps45
    go_wp2
    go_ret
    exact ⟨by rw [HX.out]; rfl, rfl⟩
  · have HX : Hid (hdKnown v = false) := Lib.hid (by rw [HE.out]; exact decide_eq_false (by omega))
    have e5 : (v == 5) = false := beq_eq_false_iff_ne.2 h5
    clear h4 h5
    go_enter Tryz.func45, Tryz.ntmps45
    go_wp2
    go_ret
    exact ⟨by rw [HX.out]; rfl, rfl⟩
end Go.Proofs.YtpcleamaieaefaaGreatDoor

namespace Go.Proofs.YtpcleamaieaefaaGreatDoor
open Go.RowKit

/-- The byte of a filter's options. -/
def optN (f : Fi) : Int := f.qos % 4 + f.handling % 4 * 16 + bitN f.noLocal 4 + bitN f.asPub 8
def fiL (k : Int) (f : Fi) : List UInt8 := ls (framedS f.topic) ++ (if k = 8 then [UInt8.ofNat (optN f).toNat] else [])
def cdL (l : List Int) : List UInt8 := l.map fun c => UInt8.ofNat c.toNat
def sbHead (v : Int) (p : Pk) : List UInt8 := putL p.id.toNat 2 ++ tailL8 v p.kind p.props
def sbS (v : Int) (p : Pk) : List UInt8 := sbHead v p ++ p.filters.flatMap (fiL p.kind) ++ cdL p.codes
def sbB (v : Int) (p : Pk) : ByteArray × Int := if sbE v p = 0 then (⟨(sbS v p).toArray⟩, 0) else (⟨#[]⟩, sbE v p)

/-- Bits that a filter's options can't have. -/
def optBad (v : Int) (n : Nat) : Bool := decide (63 < n) || (decide (v = 4) && decide (3 < n))
def fiOf (t : ByteArray) (n : Nat) : Fi := ⟨t, ((n % 4 : Nat) : Int), decide (n / 4 % 2 = 1), decide (n / 8 % 2 = 1), ((n / 16 % 4 : Nat) : Int)⟩
/-- A filter's options, read. -/
def opR (v : Int) (t : ByteArray) (a : Nat) (e : Int) : Nat × Nat × Int :=
  (numS t a e 1, (takeS t a e 1).2.1, if optBad v (numS t a e 1) = true then failE (takeS t a e 1).2.2 7 else (takeS t a e 1).2.2)
/-- A filter, read. -/
def fiR (v k : Int) (t : ByteArray) (a : Nat) : Fi × Nat × Int :=
  if k = 8 then (fiOf (rtC t a 0).1 (opR v t (rtC t a 0).2.1 (rtC t a 0).2.2).1, (opR v t (rtC t a 0).2.1 (rtC t a 0).2.2).2.1, (opR v t (rtC t a 0).2.1 (rtC t a 0).2.2).2.2)
  else (⟨(rtC t a 0).1, 0, false, false, 0⟩, (rtC t a 0).2.1, (rtC t a 0).2.2)
/-- Filters, or codes, as long as there are bytes. -/
def lsR (v k : Int) (t : ByteArray) : Nat → Nat → Int → List Fi → List Int → List Fi × List Int × Nat × Int
  | 0, a, e, fi, cd => (fi, cd, a, e)
  | n + 1, a, e, fi, cd =>
    if e ≠ 0 ∨ t.size ≤ a then (fi, cd, a, e)
    else if sbAsk k = true then lsR v k t n (fiR v k t a).2.1 (fiR v k t a).2.2 (fi ++ [(fiR v k t a).1]) cd
    else lsR v k t n (a + 1) 0 fi (cd ++ [((numS t a 0 1 : Nat) : Int)])
def sbPr (v k : Int) (s : ByteArray) : List Pr × Nat × Int := prpC v k s (takeS s 0 0 2).2.1 (takeS s 0 0 2).2.2
def sbLs (v k : Int) (s : ByteArray) : List Fi × List Int × Nat × Int := lsR v k s (s.size + 1) (sbPr v k s).2.1 (sbPr v k s).2.2 [] []
def sbPk (k : Int) (i : Nat) (l : List Pr) (fi : List Fi) (cd : List Int) : Pk := { pk0 with kind := k, id := (i : Int), props := l, filters := fi, codes := cd }
def sbFull (v k : Int) (s : ByteArray) : Pk := sbPk k (numS s 0 0 2) (sbPr v k s).1 (sbLs v k s).1 (sbLs v k s).2.1
def sbR (v k : Int) (s : ByteArray) : Pk × Int :=
  if sbKnown v k = false then (pk0, 2)
  else if (sbLs v k s).2.2.2 ≠ 0 then (pk0, (sbLs v k s).2.2.2)
  else if sbE v (sbFull v k s) ≠ 0 then (pk0, sbE v (sbFull v k s)) else (sbFull v k s, 0)
end Go.Proofs.YtpcleamaieaefaaGreatDoor

namespace Go.Proofs.YtpcleamaieaefaaGreatDoor
open Go.RowKit

theorem sbAsk_cases {v k : Int} (h : sbKnown v k = true) : (sbAsk k = true ∧ (k = 8 ∨ k = 10)) ∨ (sbAsk k = false ∧ (k = 9 ∨ k = 11)) := by
  have h' := of_decide_eq_true h
  by_cases hk : k = 8 ∨ k = 10
  · exact .inl ⟨decide_eq_true hk, hk⟩
  · exact .inr ⟨decide_eq_false hk, by omega⟩
theorem optN_of (t : ByteArray) (n : Nat) (h : n < 64) : optN (fiOf t n) = n := by
  have : ∀ m : Fin 64, optN (fiOf t m.1) = m.1 := by
    intro m
    have e : optN (fiOf t m.1) = optN (fiOf ⟨#[]⟩ m.1) := rfl
    rw [e]
    clear e
    revert m
    decide +kernel
  exact this ⟨n, h⟩
theorem one_lt {t : ByteArray} {a : Nat} {b : UInt8} {rest : List UInt8} (h : (ls t).drop a = b :: rest) : a < t.size := by
  have hl := congrArg List.length h
  rw [List.length_drop, List.length_cons, ls_len] at hl
  omega
theorem one_num {t : ByteArray} {a : Nat} {b : UInt8} {rest : List UInt8} (h : (ls t).drop a = b :: rest) : numS t a 0 1 = b.toNat := by
  have hlt := one_lt h
  rw [show ((1 : Int)) = ((1 : Nat) : Int) from rfl, num_front (k := 1) (x := [b]) (rest := rest) h rfl (by omega)]
  simp [getL]
theorem fiR_back {v k : Int} {t : ByteArray} {a : Nat} (hk : k = 8 ∨ k = 10) (ha : a ≤ t.size) (h : (fiR v k t a).2.2 = 0) :
    a < (fiR v k t a).2.1 ∧ (fiR v k t a).2.1 ≤ t.size ∧ (ls t).drop a = fiL k (fiR v k t a).1 ++ (ls t).drop (fiR v k t a).2.1 := by
  have hT : ∀ (e0 : (rtC t a 0).2.2 = 0), a + 2 ≤ (rtC t a 0).2.1 ∧ (rtC t a 0).2.1 ≤ t.size ∧ (ls t).drop a = ls (framedS (rtC t a 0).1) ++ (ls t).drop (rtC t a 0).2.1 := by
    intro e0
    obtain ⟨g1, g2⟩ := rt_txt ha 0
    rw [g1] at e0
    rw [g2 e0]
    obtain ⟨-, h2, -, -, h5⟩ := txt_ok e0
    rw [framed_ls, List.append_assoc]
    refine ⟨?_, h2, h5⟩
    have hl := congrArg List.length h5
    rw [List.length_drop, List.length_append, List.length_append, putL_len, List.length_drop, ls_len, ls_len] at hl
    omega
  unfold fiR at h ⊢
  rcases hk with rfl | rfl
  · rw [if_pos rfl] at h ⊢
    simp only at h ⊢
    have hb : optBad v (numS t (rtC t a 0).2.1 (rtC t a 0).2.2 1) = false := by
      cases hb : optBad v (numS t (rtC t a 0).2.1 (rtC t a 0).2.2 1)
      · rfl
      · unfold opR at h
        rw [hb, if_pos rfl] at h
        exact (failE_zero h (by decide)).elim
    unfold opR at h ⊢
    rw [hb, if_neg (by decide)] at h
    simp only at h ⊢
    obtain ⟨h1, h2, h3⟩ := take_ok (k := 1) h
    obtain ⟨t1, t2, t3⟩ := hT h1
    rw [h1] at hb ⊢
    have h3' : takeS t (rtC t a 0).2.1 0 1 = _ := h3
    rw [h3']
    simp only
    refine ⟨by omega, h2, ?_⟩
    obtain ⟨b, hb1⟩ : ∃ b, (ls t).drop (rtC t a 0).2.1 = b :: (ls t).drop ((rtC t a 0).2.1 + 1) := ⟨_, List.drop_eq_getElem_cons (by rw [ls_len]; omega)⟩
    have hn := one_num hb1
    have hlt : b.toNat < 64 := by
      rw [hn] at hb
      unfold optBad at hb
      simp only [Bool.or_eq_false_iff, decide_eq_false_iff_not] at hb
      omega
    rw [t3, hb1, hn]
    unfold fiL
    rw [if_pos rfl, optN_of _ _ hlt, Int.toNat_natCast, UInt8.ofNat_toNat, List.append_assoc]
    rfl
  · rw [if_neg (by decide)] at h ⊢
    simp only at h ⊢
    obtain ⟨t1, t2, t3⟩ := hT h
    refine ⟨by omega, t2, ?_⟩
    unfold fiL
    rw [if_neg (by decide), List.append_nil]
    exact t3
theorem lsR_back {v k : Int} {t : ByteArray} (hk : sbKnown v k = true) : ∀ (n a : Nat) (e : Int) (fi : List Fi) (cd : List Int), t.size - a < n → a ≤ t.size → (lsR v k t n a e fi cd).2.2.2 = 0 →
    e = 0 ∧ ∃ l m, (lsR v k t n a e fi cd).1 = fi ++ l ∧ (lsR v k t n a e fi cd).2.1 = cd ++ m ∧ (ls t).drop a = l.flatMap (fiL k) ++ cdL m ∧ (sbAsk k = true → m = []) ∧ (sbAsk k = false → l = [])
  | n + 1, a, e, fi, cd, hn, ha, h => by
    unfold lsR at h ⊢
    by_cases hc : e ≠ 0 ∨ t.size ≤ a
    · rw [if_pos hc] at h ⊢
      simp only at h ⊢
      refine ⟨h, [], [], by simp, by simp, ?_, fun _ => rfl, fun _ => rfl⟩
      have : t.size ≤ a := hc.resolve_left (fun x => x h)
      rw [List.drop_eq_nil_of_le (by rw [ls_len]; omega)]
      rfl
    · rw [if_neg hc] at h ⊢
      have he : e = 0 := Decidable.not_not.1 fun x => hc (.inl x)
      have hlt : a < t.size := Nat.lt_of_not_le fun x => hc (.inr x)
      refine ⟨he, ?_⟩
      rcases sbAsk_cases hk with ⟨hask, hkk⟩ | ⟨hask, hkk⟩
      · rw [if_pos hask] at h ⊢
        by_cases hz : (fiR v k t a).2.2 = 0
        · obtain ⟨f1, f2, f3⟩ := fiR_back hkk ha hz
          obtain ⟨-, l, m, g1, g2, g3, g4, g5⟩ := lsR_back hk n _ _ _ _ (by omega) f2 h
          refine ⟨(fiR v k t a).1 :: l, m, by rw [g1]; simp, g2, ?_, g4, fun x => by rw [hask] at x; cases x⟩
          rw [f3, g3, List.flatMap_cons, List.append_assoc]
        · exfalso
          cases n with
          | zero => omega
          | succ n =>
            unfold lsR at h
            rw [if_pos (.inl hz)] at h
            exact hz h
      · rw [if_neg (by rw [hask]; decide)] at h ⊢
        obtain ⟨-, l, m, g1, g2, g3, g4, g5⟩ := lsR_back hk n _ _ _ _ (by omega) (by omega) h
        obtain ⟨b, hb1⟩ : ∃ b, (ls t).drop a = b :: (ls t).drop (a + 1) := ⟨_, List.drop_eq_getElem_cons (by rw [ls_len]; omega)⟩
        have hl := g5 hask
        subst hl
        refine ⟨[], ((numS t a 0 1 : Nat) : Int) :: m, g1, by rw [g2]; simp, ?_, fun x => (by rw [hask] at x; cases x), fun _ => rfl⟩
        rw [hb1, g3, one_num hb1]
        simp [cdL]
theorem sbR_back {v k : Int} {s : ByteArray} {q : Pk} (h : sbR v k s = (q, 0)) : sbE v q = 0 ∧ sbS v q = ls s ∧ q.kind = k := by
  unfold sbR at h
  cases hk : sbKnown v k
  · rw [hk, if_pos rfl] at h; injection h with _ h; exact absurd h (by decide)
  rw [hk, if_neg (by decide)] at h
  by_cases hl : (sbLs v k s).2.2.2 = 0
  rotate_left
  · rw [if_pos hl] at h; injection h with _ h; exact absurd h hl
  rw [if_neg (fun x => x hl)] at h
  by_cases hv : sbE v (sbFull v k s) = 0
  rotate_left
  · rw [if_pos hv] at h; injection h with _ h; exact absurd h hv
  rw [if_neg (fun x => x hv)] at h
  injection h with h _
  subst h
  refine ⟨hv, ?_, rfl⟩
  have hle : (sbPr v k s).2.1 ≤ s.size := by
    have h0 := takeS_le (t := s) (a := 0) (Nat.zero_le _) 0 2
    unfold sbPr
    exact prp_le8 _ _ _ h0
  unfold sbLs at hl
  obtain ⟨e1, l, m, g1, g2, g3, g4, g5⟩ := lsR_back hk _ _ _ _ _ (by omega) hle hl
  have e1' := e1
  unfold sbPr at e1'
  obtain ⟨p1, p2, p3, p4, p5⟩ := pr_ok (takeS_le (t := s) (a := 0) (Nat.zero_le _) 0 2) e1'
  obtain ⟨t1, t2, t3⟩ := take_ok (k := 2) p1
  have t3' : takeS s 0 0 2 = (s.extract 0 2, 2, 0) := t3
  have hb := num_back2 (t := s) (a := 0) (by omega)
  rw [List.drop_zero] at hb
  unfold sbS sbHead sbFull sbPk
  simp only
  rw [List.append_assoc, List.append_assoc, Int.toNat_natCast, hb]
  congr 1
  have hpr : prpC v k s (takeS s 0 0 2).2.1 (takeS s 0 0 2).2.2 = sbPr v k s := rfl
  rw [hpr] at p5
  rw [show (takeS s 0 0 2).2.1 = 2 by rw [t3']] at p5
  rw [show (0 + 2 : Nat) = 2 from rfl, p5]
  congr 1
  unfold sbLs
  rw [g1, g2, List.nil_append, List.nil_append, g3]
end Go.Proofs.YtpcleamaieaefaaGreatDoor

namespace Go.Proofs.YtpcleamaieaefaaGreatDoor
open Go.RowKit
attribute [local go_sem ↓] to_ldPk to_bxPk to_bdPk to_alPk to_stPk
attribute [local go_sem] run_bxPk run_bxPk_agg ld_fresh run_alPk run_bd0 run_bdK run_bdKI run_bdKIC run_bdKC run_bdKICP run_stPk_fresh pkC_0 pkC_1 pkC_2 pkC_3 pkC_4 pkC_5 pkC_6 pkC_7 pkC_8 pkC_9 pkC_10 pkC_11 pkC_12 pkC_13 pkC_14 pkC_15 pkC_16 pkC_17 pkC_18 pkC_19 pkC_20 pkC_21 pkC_22 pkC_23 pkC_24
theorem OB_keeps {w w' : World} {r : Option Nat} {g : Nat} {t : TypeId} {cs : Array Value} (hg : w.grownBy w' r) (h : Bk w g t cs) (hne : r ≠ some g) : Bk w' g t cs :=
  (hg.block g h.lt (by first | exact hne | exact hne.symm)).trans h
end Go.Proofs.YtpcleamaieaefaaGreatDoor

namespace Go.Proofs.YtpcleamaieaefaaGreatDoor
open Go.RowKit
theorem op_ops : ∀ n : Fin 256, (bits BinOp.andNot IntKind.i64 (n.1 : Int) 63 != 0) = decide (63 < n.1) ∧ (bits BinOp.andNot IntKind.i64 (n.1 : Int) 3 != 0) = decide (3 < n.1) ∧
    bits BinOp.and IntKind.i64 (n.1 : Int) 3 = ((n.1 % 4 : Nat) : Int) ∧ bits BinOp.and IntKind.i64 ((n.1 : Int) / 16) 3 = ((n.1 / 16 % 4 : Nat) : Int) ∧
    (bits BinOp.and IntKind.i64 (n.1 : Int) 4 != 0) = decide (n.1 / 4 % 2 = 1) ∧ (bits BinOp.and IntKind.i64 (n.1 : Int) 8 != 0) = decide (n.1 / 8 % 2 = 1) := by decide +kernel
def fiCells (f : Fi) : Array Value := #[.string f.topic, .int .i64 f.qos, .bool f.noLocal, .bool f.asPub, .int .i64 f.handling]
theorem Cur.four {w : World} {g a gf : Nat} {t : ByteArray} {e : Int} (h : Cur w g t a e) (hne : gf ≠ g) (x1 x4 x2 x3 : Value) : Cur ((((w.setCell ⟨gf, 1, none⟩ x1).setCell ⟨gf, 4, none⟩ x4).setCell ⟨gf, 2, none⟩ x2).setCell ⟨gf, 3, none⟩ x3) g t a e :=
  ⟨(((h.1.other (fun e => hne e.symm) _).other (fun e => hne e.symm) _).other (fun e => hne e.symm) _).other (fun e => hne e.symm) _, h.2⟩
theorem mods_four (w : World) (g gf : Nat) (x1 x4 x2 x3 : Value) : Mods (two g gf) w ((((w.setCell ⟨gf, 1, none⟩ x1).setCell ⟨gf, 4, none⟩ x4).setCell ⟨gf, 2, none⟩ x2).setCell ⟨gf, 3, none⟩ x3) :=
  ((((Mods.refl w).set gf 1 (.inl (.inr rfl)) _).set gf 4 (.inl (.inr rfl)) _).set gf 2 (.inl (.inr rfl)) _).set gf 3 (.inl (.inr rfl)) _
theorem fi_stores {w : World} {gf : Nat} {tp : ByteArray} (h : Bk w gf 32 (fiCells ⟨tp, 0, false, false, 0⟩)) (q hd : Int) (nl ap : Bool) :
    Bk ((((w.setCell ⟨gf, 1, none⟩ (.int .i64 q)).setCell ⟨gf, 4, none⟩ (.int .i64 hd)).setCell ⟨gf, 2, none⟩ (.bool nl)).setCell ⟨gf, 3, none⟩ (.bool ap)) gf 32 (fiCells ⟨tp, q, nl, ap, hd⟩) :=
  (((h.upd 1 (.int .i64 q) (cs' := fiCells ⟨tp, q, false, false, 0⟩) rfl).upd 4 (.int .i64 hd) (cs' := fiCells ⟨tp, q, false, false, hd⟩) rfl).upd 2 (.bool nl) (cs' := fiCells ⟨tp, q, nl, false, hd⟩) rfl).upd 3 (.bool ap) (cs' := fiCells ⟨tp, q, nl, ap, hd⟩) rfl
set_option maxHeartbeats 4000000 in
set_option maxRecDepth 10000 in
theorem option_any (v : Int) (hv : v = 4 ∨ v = 5) (g a : Nat) (t : ByteArray) (e : Int) (gf : Nat) (tp : ByteArray) (w : World) (h : Cur w g t a e) (hf : Bk w gf 32 (fiCells ⟨tp, 0, false, false, 0⟩)) (hne : gf ≠ g) :
    Calls Tryz.prog 104 #[.int .i64 v, .pointer (some ⟨g, 0, none⟩), .pointer (some ⟨gf, 0, none⟩)] w fun e' w' =>
      e' = .returned (.tuple #[]) ∧ Cur w' g t (opR v t a e).2.1 (opR v t a e).2.2 ∧ Bk w' gf 32 (fiCells (fiOf tp (opR v t a e).1)) ∧ Mods (two g gf) w w' := by
  have C0 := Lib.hid h; have F0 := Lib.hid hf; have NE := Lib.hid hne
  have HO : Hid (opR v t a e = (numS t a e 1, (takeS t a e 1).2.1, if optBad v (numS t a e 1) = true then failE (takeS t a e 1).2.2 7 else (takeS t a e 1).2.2)) := Lib.hid rfl
  have hlt := num_one_lt t a e
  clear h hf hne
  go_enter Tryz.func104, Tryz.ntmps104
  go_wp2_with fail
  refine (number_any g a t e 1 _ C0.out (by decide)).mono ?_
  rintro e' w1 ⟨rfl, hc, hm⟩
  have C1 := Lib.hid hc
  have F1 := Lib.hid (F0.out.mods (Mods.of_grown (S := fun i => i = g) hm rfl) (fun e => NE.out e))
  have M1 : Hid (Mods (two g gf) w w1) := Lib.hid (Mods.of_grown hm (.inl rfl))
  clear hc hm
  generalize numS t a e 1 = n at *
  obtain ⟨R, hR⟩ : ∃ R, takeS t a e 1 = R := ⟨_, rfl⟩
  rw [hR] at HO C1
  clear hR
  obtain ⟨T, a1, e1⟩ := R
  simp only at HO C1 ⊢
  obtain ⟨o1, o2, o3, o4, o5, o6⟩ := op_ops ⟨n, hlt⟩
  simp only at o1 o2 o3 o4 o5 o6
  rcases hv with rfl | rfl
  · have hN : Hid (decide (3 < n) = optBad 4 n) := Lib.hid (by unfold optBad; rw [decide_eq_true rfl, Bool.true_and, Bool.eq_iff_iff, Bool.or_eq_true]; simp only [decide_eq_true_iff]; omega)
    by_cases hb : 3 < n
    · have HB : Hid (optBad 4 n = true) := Lib.hid (by rw [← hN.out, decide_eq_true hb])
      rw [decide_eq_true hb] at o2
      rw [HB.out, if_pos rfl] at HO
      clear hb
      go_wp2_with fail
      refine (fail_any g a1 t e1 7 _ C1.out).mono ?_
      rintro e' w2 ⟨rfl, hc, hm⟩
      have C2 : Hid (Cur w2 g t a1 (failE e1 7)) := Lib.hid hc
      have F2 := Lib.hid (F1.out.mods (Mods.of_grown (S := fun i => i = g) hm rfl) (fun e => NE.out e))
      have M2 : Hid (Mods (two g gf) w w2) := Lib.hid (M1.out.trans (Mods.of_grown hm (.inl rfl)))
      clear hc hm
      obtain ⟨⟨c0, c1, c2⟩, f0, f1, f2⟩ := C2.out.cells
      have q0 := F2.out.cell 0; have q1 := F2.out.cell 1; have q2 := F2.out.cell 2; have q3 := F2.out.cell 3; have q4 := F2.out.cell 4
      have r0 := F2.out.free 0; have r1 := F2.out.free 1; have r2 := F2.out.free 2; have r3 := F2.out.free 3; have r4 := F2.out.free 4
      simp only [fiCells, List.getElem?_toArray, List.getElem?_cons_succ, List.getElem?_cons_zero] at q0 q1 q2 q3 q4
      go_wp2
      go_end0
      rw [HO.out]
      refine ⟨rfl, ?_, ?_, ?_⟩
      · exact C2.out.four (fun e => NE.out e) _ _ _ _
      · exact fi_stores F2.out _ _ _ _
      · exact M2.out.trans (mods_four _ _ _ _ _ _ _)
    · have HB : Hid (optBad 4 n = false) := Lib.hid (by rw [← hN.out, decide_eq_false hb])
      rw [decide_eq_false hb] at o2
      rw [HB.out, if_neg (by decide)] at HO
      clear hb
      obtain ⟨⟨c0, c1, c2⟩, f0, f1, f2⟩ := C1.out.cells
      have q0 := F1.out.cell 0; have q1 := F1.out.cell 1; have q2 := F1.out.cell 2; have q3 := F1.out.cell 3; have q4 := F1.out.cell 4
      have r0 := F1.out.free 0; have r1 := F1.out.free 1; have r2 := F1.out.free 2; have r3 := F1.out.free 3; have r4 := F1.out.free 4
      simp only [fiCells, List.getElem?_toArray, List.getElem?_cons_succ, List.getElem?_cons_zero] at q0 q1 q2 q3 q4
      go_wp2
      go_end0
      rw [HO.out]
      refine ⟨rfl, ?_, ?_, ?_⟩
      · exact C1.out.four (fun e => NE.out e) _ _ _ _
      · exact fi_stores F1.out _ _ _ _
      · exact M1.out.trans (mods_four _ _ _ _ _ _ _)
  · have hN : Hid (decide (63 < n) = optBad 5 n) := Lib.hid (by unfold optBad; rw [show decide ((5:Int) = 4) = false from rfl, Bool.false_and, Bool.or_false])
    by_cases hb : 63 < n
    · have HB : Hid (optBad 5 n = true) := Lib.hid (by rw [← hN.out, decide_eq_true hb])
      rw [decide_eq_true hb] at o1
      rw [HB.out, if_pos rfl] at HO
      clear hb
      go_wp2_with fail
      refine (fail_any g a1 t e1 7 _ C1.out).mono ?_
      rintro e' w2 ⟨rfl, hc, hm⟩
      have C2 : Hid (Cur w2 g t a1 (failE e1 7)) := Lib.hid hc
      have F2 := Lib.hid (F1.out.mods (Mods.of_grown (S := fun i => i = g) hm rfl) (fun e => NE.out e))
      have M2 : Hid (Mods (two g gf) w w2) := Lib.hid (M1.out.trans (Mods.of_grown hm (.inl rfl)))
      clear hc hm
      obtain ⟨⟨c0, c1, c2⟩, f0, f1, f2⟩ := C2.out.cells
      have q0 := F2.out.cell 0; have q1 := F2.out.cell 1; have q2 := F2.out.cell 2; have q3 := F2.out.cell 3; have q4 := F2.out.cell 4
      have r0 := F2.out.free 0; have r1 := F2.out.free 1; have r2 := F2.out.free 2; have r3 := F2.out.free 3; have r4 := F2.out.free 4
      simp only [fiCells, List.getElem?_toArray, List.getElem?_cons_succ, List.getElem?_cons_zero] at q0 q1 q2 q3 q4
      go_wp2
      go_end0
      rw [HO.out]
      refine ⟨rfl, ?_, ?_, ?_⟩
      · exact C2.out.four (fun e => NE.out e) _ _ _ _
      · exact fi_stores F2.out _ _ _ _
      · exact M2.out.trans (mods_four _ _ _ _ _ _ _)
    · have HB : Hid (optBad 5 n = false) := Lib.hid (by rw [← hN.out, decide_eq_false hb])
      rw [decide_eq_false hb] at o1
      rw [HB.out, if_neg (by decide)] at HO
      clear hb
      obtain ⟨⟨c0, c1, c2⟩, f0, f1, f2⟩ := C1.out.cells
      have q0 := F1.out.cell 0; have q1 := F1.out.cell 1; have q2 := F1.out.cell 2; have q3 := F1.out.cell 3; have q4 := F1.out.cell 4
      have r0 := F1.out.free 0; have r1 := F1.out.free 1; have r2 := F1.out.free 2; have r3 := F1.out.free 3; have r4 := F1.out.free 4
      simp only [fiCells, List.getElem?_toArray, List.getElem?_cons_succ, List.getElem?_cons_zero] at q0 q1 q2 q3 q4
      go_wp2
      go_end0
      rw [HO.out]
      refine ⟨rfl, ?_, ?_, ?_⟩
      · exact C1.out.four (fun e => NE.out e) _ _ _ _
      · exact fi_stores F1.out _ _ _ _
      · exact M1.out.trans (mods_four _ _ _ _ _ _ _)
end Go.Proofs.YtpcleamaieaefaaGreatDoor

namespace Go.Proofs.YtpcleamaieaefaaGreatDoor
open Go.RowKit
attribute [local go_sem ↓] to_ldPk to_bxPk to_bdPk to_alPk to_stPk
attribute [local go_sem] run_bxPk run_bxPk_agg ld_fresh run_alPk run_bd0 run_bdK run_bdKI run_bdKIC run_bdKC run_bdKICP run_stPk_fresh pkC_0 pkC_1 pkC_2 pkC_3 pkC_4 pkC_5 pkC_6 pkC_7 pkC_8 pkC_9 pkC_10 pkC_11 pkC_12 pkC_13 pkC_14 pkC_15 pkC_16 pkC_17 pkC_18 pkC_19 pkC_20 pkC_21 pkC_22 pkC_23 pkC_24

theorem info_filter : (Tryz.prog.info? 32).map (fun i => (i.zero, i.size, i.bytes)) = some (some (.agg #[.string ⟨#[]⟩, .int .i64 0, .bool false, .bool false, .int .i64 0]), 5, 40) := by kernel_rfl
end Go.Proofs.YtpcleamaieaefaaGreatDoor

