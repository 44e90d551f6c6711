/- A part of what the laws stand on: MSubB, MTai, SubM, MPubB, MCnp. -/
import Derived.Test.YtbdgkkmbnahgiaaGreatDoorMnG0MPubA
import Derived.Lib.ConvBytes
import Derived.Laws.IdiomCopy
import Derived.Deep.DeepCutAuto
import Derived.Shelf.Strings.OnBuilder
namespace Go.Proofs.YtbdgkkmbnahgiaaGreatDoor
open Go.RowKit
attribute [local go_sem ↓] to_ldPk to_bxPk to_bdPk to_alPk to_stPk
attribute [local go_sem] run_bxPk run_bxPk_agg ld_fresh run_alPk run_bd0 run_bdK run_bdKI run_bdKIC run_bdKC run_bdKICP run_stPk_fresh pkC_0 pkC_1 pkC_2 pkC_3 pkC_4 pkC_5 pkC_6 pkC_7 pkC_8 pkC_9 pkC_10 pkC_11 pkC_12 pkC_13 pkC_14 pkC_15 pkC_16 pkC_17 pkC_18 pkC_19 pkC_20 pkC_21 pkC_22 pkC_23 pkC_24
attribute [local go_sem ↓ high] to_stPk to_stWl to_ldWl
attribute [local go_sem ↓] to_stF
attribute [local go_sem] ld_pw pw_at pw_stwl pw_dstwl pw_stwl0 pw_stwp pw_st0 pw_dst0 pw_st1 pw_dst1 pw_st2 pw_dst2 pw_st3 pw_dst3 pw_st4 pw_dst4 pw_st5 pw_dst5 pw_st6 pw_dst6 pw_st7 pw_dst7 pw_st8 pw_dst8 pw_st9 pw_dst9 pw_st10 pw_dst10 pw_st11 pw_dst11 pw_st12 pw_dst12 pw_st13 pw_dst13 pw_st14 pw_dst14 pw_st15 pw_dst15 pw_st16 pw_dst16 pw_st17 pw_dst17 pw_st18 pw_dst18 pw_st20 pw_dst20 pw_st21 pw_dst21 pw_st22 pw_nil22 pw_st23 pw_nil23 pw_st24 pw_nil24
set_option maxHeartbeats 400000 in
set_option maxRecDepth 10000 in
theorem sbKnown_any (v k : Int) (w : World) : Calls Tryz.prog 59 #[.int .i64 v, .int .i64 k] w fun e w' => e = .returned (.bool (sbKnown v k)) ∧ w = w' := by
  go_enter Tryz.func59, Tryz.ntmps59
  go_wp2
  all_goals
    go_ret
    refine ⟨ret_bool ?_, rfl⟩
    unfold sbKnown
    by_cases h4 : v = 4 <;> by_cases h5 : v = 5 <;> simp_all <;> omega
set_option maxHeartbeats 400000 in
set_option maxRecDepth 10000 in
theorem sbAsk_any (k : Int) (w : World) : Calls Tryz.prog 72 #[.int .i64 k] w fun e w' => e = .returned (.bool (sbAsk k)) ∧ w = w' := by
  go_enter Tryz.func72, Tryz.ntmps72
  go_wp2
  all_goals
    go_ret
    refine ⟨ret_bool ?_, rfl⟩
    unfold sbAsk
    by_cases h4 : k = 8 <;> by_cases h5 : k = 10 <;> simp_all
set_option maxHeartbeats 400000 in
set_option maxRecDepth 10000 in
theorem sbSil_any (v k : Int) (w : World) : Calls Tryz.prog 73 #[.int .i64 v, .int .i64 k] w fun e w' => e = .returned (.bool (sbSil v k)) ∧ w = w' := by
  go_enter Tryz.func73, Tryz.ntmps73
  go_wp2
  all_goals
    go_ret
    refine ⟨ret_bool ?_, rfl⟩
    unfold sbSil
    by_cases h4 : k = 11 <;> by_cases h5 : v = 4 <;> simp_all
set_option maxHeartbeats 400000 in
set_option maxRecDepth 10000 in
theorem sbLow_any (n : Int) (w : World) : Calls Tryz.prog 121 #[.int .i64 n] w fun e w' => e = .returned (.bool (sbLow n)) ∧ w = w' := by
  go_enter Tryz.func121, Tryz.ntmps121
  go_wp2
  all_goals
    go_ret
    refine ⟨ret_bool ?_, rfl⟩
    unfold sbLow
    by_cases h4 : 0 ≤ n <;> by_cases h5 : n < 3 <;> simp_all <;> omega
set_option maxHeartbeats 400000 in
set_option maxRecDepth 10000 in
theorem ansB_any (v k c : Int) (w : World) : Calls Tryz.prog 78 #[.int .i64 v, .int .i64 k, .int .i64 c] w fun e w' => e = .returned (.bool (ansB v k c)) ∧ Below w.heap.size w w' := by
  by_cases h4 : v = 4
  · have e4 : (v == 4) = true := beq_iff_eq.2 h4
    have HX : Hid (ansB v k c = grantB c) := Lib.hid (if_pos h4)
    clear h4
    go_enter Tryz.func78, Tryz.ntmps78
    go_wp2_with fail
    refine (grant_any c _).mono ?_
    rintro e w1 ⟨rfl, hb⟩
    have HB := Lib.hid hb; clear hb
    go_wp2
    go_ret
    exact ⟨by rw [HX.out]; rfl, by first | exact HB.out | exact HB.out ▸ Below.refl _ _⟩
  · have e4 : (v == 4) = false := beq_eq_false_iff_ne.2 h4
    have HX : Hid (ansB v k c = may k c) := Lib.hid (if_neg h4)
    clear h4
    go_enter Tryz.func78, Tryz.ntmps78
    go_wp2_with fail
    refine (may_any k c _).mono ?_
    rintro e w1 ⟨rfl, hb⟩
    have HB := Lib.hid hb; clear hb
    go_wp2
    go_ret
    exact ⟨by rw [HX.out]; rfl, by first | exact HB.out | exact HB.out ▸ Below.refl _ _⟩
def sbH (v : Int) (p : Pk) (h : Hs) : Hs :=
  if sbAsk p.kind = true then { hs0 with props := h.props, filters := h.filters } else if sbSil v p.kind = true then { hs0 with props := h.props } else { hs0 with props := h.props, codes := h.codes }
theorem sbQ_len (v : Int) {p : Pk} (x : PkLen p) : PkLen (sbQ v p) := by
  unfold sbQ
  split
  · exact ⟨Nat.zero_le _, Nat.zero_le _, x.2.2.1, x.2.2.2⟩
  · split
    · exact ⟨Nat.zero_le _, Nat.zero_le _, Nat.zero_le _, x.2.2.2⟩
    · exact ⟨Nat.zero_le _, x.2.1, Nat.zero_le _, x.2.2.2⟩
theorem sbQ_in (v : Int) {w : World} {B : Nat} {p : Pk} {h : Hs} (x : PkIn w B p h) : PkIn w B (sbQ v p) (sbH v p h) := by
  unfold sbQ sbH
  split
  · exact ⟨Rd.nil _ _ _ _, Rd.nil _ _ _ _, x.filters, x.props, Nat.zero_le _, Nat.zero_le _, x.caps.2.2.1, x.caps.2.2.2⟩
  · split
    · exact ⟨Rd.nil _ _ _ _, Rd.nil _ _ _ _, Rd.nil _ _ _ _, x.props, Nat.zero_le _, Nat.zero_le _, Nat.zero_le _, x.caps.2.2.2⟩
    · exact ⟨Rd.nil _ _ _ _, x.codes, Rd.nil _ _ _ _, x.props, Nat.zero_le _, x.caps.2.1, Nat.zero_le _, x.caps.2.2.2⟩
theorem run_bdKIPr (k i : Int) (l : List Pr) (A : Option Addr) (n : Nat) (w : World) : (bdPk #[(0, .int .i64 k), (4, .int .i64 i), (20, .slice A l.length n)]).run Tryz.prog w = .ok (pkV { pk0 with kind := k, id := i, props := l } { hs0 with props := ⟨A, n⟩ }) w := by kernel_rfl
theorem same_sb (v : Int) (p : Pk) (h : Hs) (Q : Pk) (H : Hs) (x : World) (hq : sbQ v p = Q) (hh : sbH v p h = H) (hi : PkIn x x.heap.size p h) (hn : PkLen p) :
    Calls Tryz.prog 117 #[pkV p h, pkV Q H] x fun e y => e = .returned (.bool (decide (p = sbQ v p))) ∧ Below x.heap.size x y := by
  subst hq hh
  exact same_any p (sbQ v p) h (sbH v p h) x hi (sbQ_in v hi) hn (sbQ_len v hn)
set_option maxHeartbeats 4000000 in
set_option maxRecDepth 10000 in
theorem sbFields_any (v : Int) (p : Pk) (h : Hs) (w : World) (ip : PkIn w w.heap.size p h) (ok : PkOk p) :
    Calls Tryz.prog 74 #[.int .i64 v, pkV p h] w fun e w' => e = .returned (.bool (sbFields v p)) ∧ Below w.heap.size w w' := by
  have OK := Lib.hid ok
  have IP := Lib.hid ip
  have HE : Hid (sbFields v p = (!(decide (p.id < 1) || (decide (65535 < p.id) || (decide (v = 4) && decide (0 < p.props.length)))) && (sbHave v p && decide (p = sbQ v p)))) := Lib.hid rfl
  have HH : Hid (sbHave v p = if sbAsk p.kind = true then decide (0 < p.filters.length) else if sbSil v p.kind = true then true else decide (0 < p.codes.length)) := Lib.hid rfl
  have HB0 := Lib.hid ((Below.refl w.heap.size w).alloc (Nat.le_refl _) (.cells (pkC p h) PkT))
  have B1 := Bk.fresh w PkT (pkC p h)
  have k0 := (B1.cell 0).trans (pkC_0 _ _); have k4 := (B1.cell 4).trans (pkC_4 _ _); have k18 := (B1.cell 22).trans (pkC_22 _ _); have k19 := (B1.cell 23).trans (pkC_23 _ _); have k20 := (B1.cell 24).trans (pkC_24 _ _)
  obtain ⟨W, hW, hst⟩ := pwIn_start w p { pk0 with kind := p.kind, id := p.id, props := p.props } h { hs0 with props := ⟨h.props.a, h.props.c⟩ }
  have HW := Lib.hid hW
  have hlt := hW.lt
  have j0 := fun cs => (hW.bk_pw cs).cell
  have hl0 : ∀ cs, (ldPk (.pointer (some ⟨w.heap.size, 0, none⟩))).run Tryz.prog (pw W (w.heap.size + 1) cs) = .ok (pkV p h) (pw W (w.heap.size + 1) cs) := fun cs => ld_bk (hW.bk_pw cs)
  have hbd := run_bdKIPr p.kind p.id p.props h.props.a h.props.c
  have HQI : Hid (∀ x, Below w.heap.size w x → PkIn x x.heap.size p h) := Lib.hid fun x hx => (IP.out.below hx).wider hx.size
  clear ip ok hW B1
  go_enter Tryz.func74, Tryz.ntmps74
  by_cases h1 : p.id < 1
  · have HX : Hid (sbFields v p = false) := Lib.hid (by rw [HE.out, decide_eq_true h1]; rfl)
    go_wp2
    go_ret
    exact ⟨by rw [HX.out]; rfl, HB0.out⟩
  by_cases h2 : 65535 < p.id
  · have HX : Hid (sbFields v p = false) := Lib.hid (by rw [HE.out, decide_eq_true h2, Bool.true_or, Bool.or_true]; rfl)
    go_wp2
    go_ret
    exact ⟨by rw [HX.out]; rfl, HB0.out⟩
  have HE1 := HE.out
  rw [decide_eq_false h1, decide_eq_false h2, Bool.false_or, Bool.false_or] at HE1
  replace HE1 := Lib.hid HE1
  have key : ∀ (_ : decide (v = 4) = false ∨ decide (0 < p.props.length) = false), sbFields v p = (sbHave v p && decide (p = sbQ v p)) := by
    intro hh
    rw [HE1.out]
    rcases hh with hh | hh
    · rw [hh, Bool.false_and, Bool.not_false, Bool.true_and]
    · rw [hh, Bool.and_false, Bool.not_false, Bool.true_and]
  have KEY := Lib.hid key
  clear key HE
  by_cases h4 : v = 4 ∧ 0 < p.props.length
  · have HX : Hid (sbFields v p = false) := Lib.hid (by rw [HE1.out, decide_eq_true h4.1, decide_eq_true h4.2]; rfl)
    have e4 : (v == 4) = true := beq_iff_eq.2 h4.1
    have d4 : (0 : Int) < (p.props.length : Int) := by have := h4.2; omega
    clear h4
    go_wp2
    go_ret
    exact ⟨by rw [HX.out]; rfl, HB0.out⟩
  have HE2 : Hid (sbFields v p = (sbHave v p && decide (p = sbQ v p))) := Lib.hid (KEY.out (by
    by_cases a : v = 4
    · exact .inr (decide_eq_false fun b => h4 ⟨a, b⟩)
    · exact .inl (decide_eq_false a)))
  have tail : ∀ (b4 : Bool) (_ : (v == 4) = b4) (_ : b4 = true → (p.props.length : Int) ≤ 0), True := fun _ _ _ => trivial
  clear tail KEY HE1
  have main : (v == 4) = false ∨ ((v == 4) = true ∧ ¬ (0 : Int) < (p.props.length : Int)) := by
    by_cases a : v = 4
    · exact .inr ⟨beq_iff_eq.2 a, fun b => h4 ⟨a, by omega⟩⟩
    · exact .inl (beq_eq_false_iff_ne.2 a)
  clear h4
  have HAS := Lib.hid (sbAsk_any p.kind)
  rcases main with e4 | ⟨e4, d4⟩
  all_goals
    go_wp2_with fail
    refine (sbAsk_any p.kind _).mono ?_
    rintro e w1 ⟨rfl, hw1⟩
    subst hw1
    cases ha : sbAsk p.kind
    rotate_left
    · have HHX : Hid (sbHave v p = decide (0 < p.filters.length)) := Lib.hid (by rw [HH.out, if_pos ha])
      have HQ : Hid (sbQ v p = { pk0 with kind := p.kind, id := p.id, props := p.props, filters := p.filters }) := Lib.hid (by unfold sbQ; rw [if_pos ha])
      have HHS : Hid (sbH v p h = { hs0 with props := h.props, filters := h.filters }) := Lib.hid (by unfold sbH; rw [if_pos ha])
      clear ha
      by_cases hn : 0 < p.filters.length
      · have d5 : (0 : Int) < (p.filters.length : Int) := by omega
        have HX : Hid (sbFields v p = decide (p = sbQ v p)) := Lib.hid (by rw [HE2.out, HHX.out, decide_eq_true hn, Bool.true_and])
        clear hn
        go_wp2_with fail
        refine (same_sb v p h _ _ _ (HQ.out.trans rfl) (HHS.out.trans rfl) (HQI.out _ (HW.out.kept _)) OK.out.len).mono ?_
        rintro e w1 ⟨rfl, hb⟩
        have HB := Lib.hid ((HW.out.kept _).trans (hb.mono (HW.out.kept _).size)); clear hb
        go_wp2
        go_ret
        exact ⟨by rw [HX.out]; rfl, HB.out⟩
      · have d5 : ¬ (0 : Int) < (p.filters.length : Int) := by omega
        have HX : Hid (sbFields v p = false) := Lib.hid (by rw [HE2.out, HHX.out, decide_eq_false hn, Bool.false_and])
        clear hn
        go_wp2
        go_ret
        exact ⟨by rw [HX.out]; rfl, HW.out.kept _⟩
    · go_wp2_with fail
      refine (sbSil_any v p.kind _).mono ?_
      rintro e w1 ⟨rfl, hw1⟩
      subst hw1
      cases hsil : sbSil v p.kind
      rotate_left
      · have HHX : Hid (sbHave v p = true) := Lib.hid (by rw [HH.out, if_neg (by rw [ha]; decide), if_pos hsil])
        have HQ : Hid (sbQ v p = { pk0 with kind := p.kind, id := p.id, props := p.props }) := Lib.hid (by unfold sbQ; rw [if_neg (by rw [ha]; decide), if_pos hsil])
        have HHS : Hid (sbH v p h = { hs0 with props := h.props }) := Lib.hid (by unfold sbH; rw [if_neg (by rw [ha]; decide), if_pos hsil])
        have HX : Hid (sbFields v p = decide (p = sbQ v p)) := Lib.hid (by rw [HE2.out, HHX.out, Bool.true_and])
        clear ha hsil
        go_wp2_with fail
        refine (same_sb v p h _ _ _ (HQ.out.trans rfl) (HHS.out.trans rfl) (HQI.out _ (HW.out.kept _)) OK.out.len).mono ?_
        rintro e w1 ⟨rfl, hb⟩
        have HB := Lib.hid ((HW.out.kept _).trans (hb.mono (HW.out.kept _).size)); clear hb
        go_wp2
        go_ret
        exact ⟨by rw [HX.out]; rfl, HB.out⟩
      · have HHX : Hid (sbHave v p = decide (0 < p.codes.length)) := Lib.hid (by rw [HH.out, if_neg (by rw [ha]; decide), if_neg (by rw [hsil]; decide)])
        have HQ : Hid (sbQ v p = { pk0 with kind := p.kind, id := p.id, props := p.props, codes := p.codes }) := Lib.hid (by unfold sbQ; rw [if_neg (by rw [ha]; decide), if_neg (by rw [hsil]; decide)])
        have HHS : Hid (sbH v p h = { hs0 with props := h.props, codes := h.codes }) := Lib.hid (by unfold sbH; rw [if_neg (by rw [ha]; decide), if_neg (by rw [hsil]; decide)])
        clear ha hsil
        by_cases hn : 0 < p.codes.length
        · have d5 : (0 : Int) < (p.codes.length : Int) := by omega
          have HX : Hid (sbFields v p = decide (p = sbQ v p)) := Lib.hid (by rw [HE2.out, HHX.out, decide_eq_true hn, Bool.true_and])
          clear hn
          go_wp2_with fail
          refine (same_sb v p h _ _ _ (HQ.out.trans rfl) (HHS.out.trans rfl) (HQI.out _ (HW.out.kept _)) OK.out.len).mono ?_
          rintro e w1 ⟨rfl, hb⟩
          have HB := Lib.hid ((HW.out.kept _).trans (hb.mono (HW.out.kept _).size)); clear hb
          go_wp2
          go_ret
          exact ⟨by rw [HX.out]; rfl, HB.out⟩
        · have d5 : ¬ (0 : Int) < (p.codes.length : Int) := by omega
          have HX : Hid (sbFields v p = false) := Lib.hid (by rw [HE2.out, HHX.out, decide_eq_false hn, Bool.false_and])
          clear hn
          go_wp2
          go_ret
          exact ⟨by rw [HX.out]; rfl, HW.out.kept _⟩
theorem run_fi (t : ByteArray) (q : Int) (w : World) : (Instr.build 32 #[(0, .string t), (1, .int .i64 q)]).run Tryz.prog w = .ok (.agg #[.string t, .int .i64 q, .bool false, .bool false, .int .i64 0]) w := by kernel_rfl
set_option maxHeartbeats 2000000 in
set_option maxRecDepth 10000 in
theorem optB_any (v k : Int) (f : Fi) (w : World) (hs : f.topic.size ≤ 4611686018427387904) :
    Calls Tryz.prog 77 #[.int .i64 v, .int .i64 k, .agg #[.string f.topic, .int .i64 f.qos, .bool f.noLocal, .bool f.asPub, .int .i64 f.handling]] w fun e w' => e = .returned (.bool (optB v k f)) ∧ Below w.heap.size w w' := by
  have HS := Lib.hid hs
  have HB0 := Lib.hid ((Below.refl w.heap.size w).alloc (Nat.le_refl _) (.cells #[.string f.topic, .int .i64 f.qos, .bool f.noLocal, .bool f.asPub, .int .i64 f.handling] 32))
  have HK0 := Lib.hid (Bk.fresh w 32 #[.string f.topic, .int .i64 f.qos, .bool f.noLocal, .bool f.asPub, .int .i64 f.handling])
  have HE : Hid (optB v k f = if k = 10 then fiPlain f && decide (f.qos = 0) else if v = 4 then fiPlain f && sbLow f.qos else sbLow f.qos && (sbLow f.handling && !(sharedB f.topic && f.noLocal))) := Lib.hid rfl
  have hgt := guard_filter
  have hne := fun W => eql_filter f ⟨f.topic, f.qos, false, false, 0⟩ W
  have HP : Hid (fiPlain f = decide (f = ⟨f.topic, f.qos, false, false, 0⟩)) := Lib.hid rfl
  rw [← HP.out] at hne
  clear HP hs
  generalize fiPlain f = pl at *
  go_enter Tryz.func77, Tryz.ntmps77
  by_cases hk : k = 10
  · have ek : (k == 10) = true := beq_iff_eq.2 hk
    have HE1 : Hid (optB v k f = (pl && (f.qos == 0))) := Lib.hid (by rw [HE.out, if_pos hk]; rfl)
    clear hk
    cases pl
    · go_wp2
      go_ret
      exact ⟨by rw [HE1.out]; rfl, HB0.out⟩
    · go_wp2
      go_ret
      exact ⟨by rw [HE1.out]; rfl, HB0.out⟩
  have ek : (k == 10) = false := beq_eq_false_iff_ne.2 hk
  by_cases h4 : v = 4
  · have e4 : (v == 4) = true := beq_iff_eq.2 h4
    have HE1 : Hid (optB v k f = (pl && sbLow f.qos)) := Lib.hid (by rw [HE.out, if_neg hk, if_pos h4])
    clear hk h4
    cases pl
    · go_wp2
      go_ret
      exact ⟨by rw [HE1.out]; rfl, HB0.out⟩
    · go_wp2_with fail
      refine (sbLow_any f.qos _).mono ?_
      rintro e w1 ⟨rfl, hw1⟩
      subst hw1
      go_wp2
      go_ret
      exact ⟨by rw [HE1.out]; rfl, HB0.out⟩
  have e4 : (v == 4) = false := beq_eq_false_iff_ne.2 h4
  have HE1 : Hid (optB v k f = (sbLow f.qos && (sbLow f.handling && !(sharedB f.topic && f.noLocal)))) := Lib.hid (by rw [HE.out, if_neg hk, if_neg h4])
  clear hk h4 HE
  go_wp2_with fail
  refine (shared_any f.topic _ HS.out).mono ?_
  rintro e w1 ⟨⟨a, b, rfl⟩, hb⟩
  have HB1 := Lib.hid (HB0.out.trans (hb.mono HB0.out.size))
  have HK1 := Lib.hid (HK0.out.below hb HK0.out.lt)
  clear hb
  have c1 := HK1.out.cell 1; have c2 := HK1.out.cell 2; have c4 := HK1.out.cell 4
  simp only [List.getElem?_toArray, List.getElem?_cons_succ, List.getElem?_cons_zero] at c1 c2 c4
  generalize sharedB f.topic = sh at *
  go_wp2_with fail
  refine (sbLow_any f.qos _).mono ?_
  rintro e w2 ⟨rfl, hw2⟩
  subst hw2
  cases hq : sbLow f.qos
  · have HX : Hid (optB v k f = false) := Lib.hid (by rw [HE1.out, hq]; rfl)
    clear hq
    go_wp2
    go_ret
    exact ⟨by rw [HX.out]; rfl, HB1.out⟩
  have HE2 : Hid (optB v k f = (sbLow f.handling && !(sh && f.noLocal))) := Lib.hid (by rw [HE1.out, hq, Bool.true_and])
  clear hq
  go_wp2_with fail
  refine (sbLow_any f.handling _).mono ?_
  rintro e w2 ⟨rfl, hw2⟩
  subst hw2
  cases hq : sbLow f.handling
  · have HX : Hid (optB v k f = false) := Lib.hid (by rw [HE2.out, hq]; rfl)
    clear hq
    go_wp2
    go_ret
    exact ⟨by rw [HX.out]; rfl, HB1.out⟩
  have HE3 : Hid (optB v k f = !(sh && f.noLocal)) := Lib.hid (by rw [HE2.out, hq, Bool.true_and])
  clear hq
  cases sh
  · go_wp2
    go_ret
    exact ⟨by rw [HE3.out]; rfl, HB1.out⟩
  · go_wp2
    go_ret
    exact ⟨by rw [HE3.out]; rfl, HB1.out⟩
end Go.Proofs.YtbdgkkmbnahgiaaGreatDoor

namespace Go.Proofs.YtbdgkkmbnahgiaaGreatDoor
open Go.RowKit
attribute [local go_sem ↓] to_ldPk to_bxPk to_bdPk to_alPk to_stPk
attribute [local go_sem] run_bxPk run_bxPk_agg ld_fresh run_alPk run_bd0 run_bdK run_bdKI run_bdKIC run_bdKC run_bdKICP run_stPk_fresh pkC_0 pkC_1 pkC_2 pkC_3 pkC_4 pkC_5 pkC_6 pkC_7 pkC_8 pkC_9 pkC_10 pkC_11 pkC_12 pkC_13 pkC_14 pkC_15 pkC_16 pkC_17 pkC_18 pkC_19 pkC_20 pkC_21 pkC_22 pkC_23 pkC_24
theorem fiE_at {v k : Int} {l : List Fi} {i : Nat} (hi : i < l.length) : fiE v k (l.drop i) = if filterB l[i].topic = false then 10 else if optB v k l[i] = false then 2 else fiE v k (l.drop (i + 1)) := by
  rw [List.drop_eq_getElem_cons hi]; rfl
theorem cdE_at {v k : Int} {l : List Int} {i : Nat} (hi : i < l.length) : cdE v k (l.drop i) = if ansB v k l[i] = false then 2 else cdE v k (l.drop (i + 1)) := by
  rw [List.drop_eq_getElem_cons hi]; rfl
set_option maxHeartbeats 4000000 in
set_option maxRecDepth 10000 in
theorem sbValid_any (v : Int) (p : Pk) (h : Hs) (w : World) (ip : PkIn w w.heap.size p h) (ok : PkOk p) :
    Calls Tryz.prog 17 #[.int .i64 v, pkV p h] w fun e w' => e = .returned (.int .i64 (sbE v p)) ∧ Below w.heap.size w w' := by
  have OK := Lib.hid ok
  have S0 := Lib.hid ((St.start w).push ip)
  have HE : Hid (sbE v p = if sbArg v p = false then 2 else if (bytesS p.kind p.props).2 ≠ 0 then (bytesS p.kind p.props).2
    else if fiE v p.kind p.filters ≠ 0 then fiE v p.kind p.filters else cdE v p.kind p.codes) := Lib.hid rfl
  have HA : Hid (sbArg v p = (sbKnown v p.kind && sbFields v p)) := Lib.hid rfl
  have k0 := S0.out.cell 0 rfl
  have l0 := S0.out.ld 0 rfl
  clear ip ok
  go_enter Tryz.func17, Tryz.ntmps17
  go_wp2_with fail
  refine (sbKnown_any v p.kind _).mono ?_
  rintro e w1 ⟨rfl, hw1⟩
  subst hw1
  cases hk : sbKnown v p.kind
  · have HX : Hid (sbE v p = 2) := Lib.hid (by rw [HE.out, if_pos (by rw [HA.out, hk]; rfl)])
    clear hk
    go_wp2
    go_ret
    exact ⟨by rw [HX.out]; rfl, S0.out.kept⟩
  have HA1 : Hid (sbArg v p = sbFields v p) := Lib.hid (by rw [HA.out, hk, Bool.true_and])
  clear hk HA
  go_wp2_with fail
  refine (sbFields_any v p h _ (S0.out.into 0 rfl) OK.out).mono ?_
  rintro e w1 ⟨rfl, hb⟩
  have S1 := Lib.hid (S0.out.below hb); clear hb k0 l0
  have k0 := S1.out.cell 0 rfl
  cases hf : sbFields v p
  · have HX : Hid (sbE v p = 2) := Lib.hid (by rw [HE.out, if_pos (by rw [HA1.out, hf])])
    clear hf
    go_wp2
    go_ret
    exact ⟨by rw [HX.out]; rfl, S1.out.kept⟩
  have HE1 : Hid (sbE v p = if (bytesS p.kind p.props).2 ≠ 0 then (bytesS p.kind p.props).2 else if fiE v p.kind p.filters ≠ 0 then fiE v p.kind p.filters else cdE v p.kind p.codes) := Lib.hid (by
    rw [HE.out, if_neg (by rw [HA1.out, hf]; decide)])
  clear hf HE HA1
  go_wp2_with fail
  refine (validP_n p.kind p.props _ rfl OK.out.props h.props.a h.props.c _ (S1.out.into 0 rfl).props OK.out.len.2.2.2).mono ?_
  rintro e w2 ⟨rfl, hb⟩
  have S2 := Lib.hid (S1.out.below hb); clear hb k0
  have k0 := S2.out.cell 0 rfl
  obtain ⟨x, hx⟩ : ∃ x, (bytesS p.kind p.props).2 = x := ⟨_, rfl⟩
  rw [hx] at HE1 ⊢
  clear hx
  by_cases hx : x = 0
  rotate_left
  · have HX : Hid (sbE v p = x) := Lib.hid (by rw [HE1.out, if_pos hx])
    have e0 : (x != 0) = true := bne_iff_ne.2 hx
    clear hx
    go_wp2
    go_ret
    exact ⟨by rw [HX.out]; rfl, S2.out.kept⟩
  have HE2 : Hid (sbE v p = if fiE v p.kind p.filters ≠ 0 then fiE v p.kind p.filters else cdE v p.kind p.codes) := Lib.hid (by rw [HE1.out, if_neg (fun y => y hx)])
  have e0 : (x != 0) = false := by rw [hx]; rfl
  have HFL := Lib.hid OK.out.len.2.2.1
  have HCL := Lib.hid OK.out.len.2.1
  clear hx HE1
  obtain ⟨n, hn⟩ : ∃ n, p.filters.length = n := ⟨_, rfl⟩
  obtain ⟨m, hm⟩ : ∃ m, p.codes.length = m := ⟨_, rfl⟩
  have k23 := k0 23; have k22 := k0 22
  rw [pkC_23, hn] at k23
  rw [pkC_22, hm] at k22
  have kk := (k0 0).trans (pkC_0 _ _)
  have HN := Lib.hid hn; have HM := Lib.hid hm
  have hn2 : n ≤ 4611686018427387904 := by have := HFL.out; omega
  have hm2 : m ≤ 4611686018427387904 := by have := HCL.out; omega
  clear hn hm k0
  go_wp2
  go_loopw [32] (fun i wr => ∃ k : Nat, k ≤ n ∧ i = .int .i64 k ∧ fiE v p.kind p.filters = fiE v p.kind (p.filters.drop k) ∧ Below w2.heap.size w2 wr) (fun i _ => n - (intOf i).toNat)
  case atStart => exact ⟨0, by omega, rfl, by rw [List.drop_zero], Below.refl _ _⟩
  case round =>
    obtain ⟨k, hk, rfl, hfi, hbel⟩ := hrel
    have S3 := Lib.hid (S2.out.below hbel)
    have HF := Lib.hid hfi; have HBL := Lib.hid hbel
    clear hfi kk k22 k23
    have kk := (S3.out.cell 0 rfl 0).trans (pkC_0 _ _)
    have k22 := S3.out.cell 0 rfl 22
    rw [pkC_22, HM.out] at k22
    by_cases hlt : k < n
    · have hp : k < p.filters.length := by rw [HN.out]; exact hlt
      obtain ⟨b, o, hA, hb, c0, c1, c2, c3, c4⟩ := ((S3.out.into 0 rfl).filters).atF hp
      have hts := OK.out.topics p.filters[k] (List.getElem_mem hp)
      have HAT := Lib.hid (HF.out.trans (fiE_at (v := v) (k := p.kind) hp))
      generalize p.filters[k] = f at *
      have HTS := Lib.hid hts
      have b1 : (0 : Int) ≤ (k : Int) := by omega
      have b2 : (k : Int) < (n : Int) := by omega
      clear hp hts
      have S4 := Lib.hid (S3.out.alloc (.cells #[.string f.topic, .int .i64 f.qos, .bool f.noLocal, .bool f.asPub, .int .i64 f.handling] 32))
      have HB4 := Lib.hid (HBL.out.alloc HBL.out.size (.cells #[.string f.topic, .int .i64 f.qos, .bool f.noLocal, .bool f.asPub, .int .i64 f.handling] 32))
      have K4 := Lib.hid (Bk.fresh wr 32 #[.string f.topic, .int .i64 f.qos, .bool f.noLocal, .bool f.asPub, .int .i64 f.handling])
      go_wp2_with fail
      refine (filter_any f.topic _ (by have := HTS.out; omega)).mono ?_
      rintro e w4 ⟨rfl, hb4⟩
      have S5 := Lib.hid (S4.out.below hb4)
      have HB5 := Lib.hid (HB4.out.trans (hb4.mono HB4.out.size))
      have K5 := Lib.hid (K4.out.below hb4 K4.out.lt)
      clear hb4 kk c0 c1 c2 c3 c4
      have kk := (S5.out.cell 0 rfl 0).trans (pkC_0 _ _)
      cases hfl : filterB f.topic
      · have HX : Hid (sbE v p = 10) := Lib.hid (by
          have e : fiE v p.kind p.filters = 10 := by rw [HAT.out, if_pos hfl]
          rw [HE2.out, e, if_pos (by decide)])
        clear hfl
        go_wp2
        go_ret
        exact ⟨by rw [HX.out]; rfl, S5.out.kept⟩
      have HAT2 : Hid (fiE v p.kind p.filters = if optB v p.kind f = false then 2 else fiE v p.kind (p.filters.drop (k + 1))) := Lib.hid (by rw [HAT.out, if_neg (by rw [hfl]; decide)])
      clear hfl
      have c0 := K5.out.cell 0; have c1 := K5.out.cell 1; have c2 := K5.out.cell 2; have c3 := K5.out.cell 3; have c4 := K5.out.cell 4
      simp only [List.getElem?_toArray, List.getElem?_cons_succ, List.getElem?_cons_zero] at c0 c1 c2 c3 c4
      go_wp2_with fail
      refine (optB_any v p.kind f _ (by have := HTS.out; omega)).mono ?_
      rintro e w5 ⟨rfl, hb5⟩
      have S6 := Lib.hid (S5.out.below hb5)
      have HB6 := Lib.hid (HB5.out.trans (hb5.mono HB5.out.size))
      clear hb5 c0 c1 c2 c3 c4 kk
      cases hop : optB v p.kind f
      · have HX : Hid (sbE v p = 2) := Lib.hid (by
          have e : fiE v p.kind p.filters = 2 := by rw [HAT2.out, if_pos hop]
          rw [HE2.out, e, if_pos (by decide)])
        clear hop
        go_wp2
        go_ret
        exact ⟨by rw [HX.out]; rfl, S6.out.kept⟩
      have HX : Hid (fiE v p.kind p.filters = fiE v p.kind (p.filters.drop (k + 1))) := Lib.hid (by rw [HAT2.out, if_neg (by rw [hop]; decide)])
      clear hop
      go_wp2
      go_roundw
      case rel =>
        simp only [hA]
        (repeat apply Exists.intro)
        refine ⟨?_, rfl⟩
        exact ⟨k + 1, by omega, by go_num, HX.out, HB6.out⟩
      case measure => simp [intOf]; omega
    · obtain rfl : k = n := by omega
      have HX : Hid (sbE v p = cdE v p.kind p.codes) := Lib.hid (by
        have e : fiE v p.kind p.filters = 0 := by rw [HF.out, ← HN.out, List.drop_length]; rfl
        rw [HE2.out, e, if_neg (fun y => y rfl)])
      clear HE2 HF
      go_wp2
      go_loopw [50] (fun i wq => ∃ k : Nat, k ≤ m ∧ i = .int .i64 k ∧ cdE v p.kind p.codes = cdE v p.kind (p.codes.drop k) ∧ Below wr.heap.size wr wq) (fun i _ => m - (intOf i).toNat)
      case atStart => exact ⟨0, by omega, rfl, by rw [List.drop_zero], Below.refl _ _⟩
      case round =>
        obtain ⟨j, hj, rfl, hcd, hbq⟩ := hrel
        have S4 := Lib.hid (S3.out.below hbq)
        have HC := Lib.hid hcd; have HBQ := Lib.hid hbq
        clear hcd kk k22
        have kk := (S4.out.cell 0 rfl 0).trans (pkC_0 _ _)
        by_cases hlt2 : j < m
        · have hp : j < p.codes.length := by rw [HM.out]; exact hlt2
          obtain ⟨b, o, z, hA, hb, hz, hc⟩ := ((S4.out.into 0 rfl).codes).atI hp
          have HZ : Hid (cdE v p.kind p.codes = if ansB v p.kind z = false then 2 else cdE v p.kind (p.codes.drop (j + 1))) := Lib.hid (by
            rw [HC.out, cdE_at hp]
            rw [List.getElem?_eq_getElem hp] at hz
            rw [Option.some.inj hz])
          have b1 : (0 : Int) ≤ (j : Int) := by omega
          have b2 : (j : Int) < (m : Int) := by omega
          clear hp hz
          go_wp2_with fail
          refine (ansB_any v p.kind z _).mono ?_
          rintro e w5 ⟨rfl, hb5⟩
          have S5 := Lib.hid (S4.out.below hb5)
          have HB5 := Lib.hid (HBQ.out.trans (hb5.mono HBQ.out.size))
          clear hb5 hc kk
          cases hop : ansB v p.kind z
          · have HX2 : Hid (sbE v p = 2) := Lib.hid (by rw [HX.out, HZ.out, if_pos hop])
            clear hop
            go_wp2
            go_ret
            exact ⟨by rw [HX2.out]; rfl, S5.out.kept⟩
          have HX2 : Hid (cdE v p.kind p.codes = cdE v p.kind (p.codes.drop (j + 1))) := Lib.hid (by rw [HZ.out, if_neg (by rw [hop]; decide)])
          clear hop
          go_wp2
          go_roundw
          case rel =>
            simp only [hA]
            (repeat apply Exists.intro)
            refine ⟨?_, rfl⟩
            exact ⟨j + 1, by omega, by go_num, HX2.out, HB5.out⟩
          case measure => simp [intOf]; omega
        · obtain rfl : j = m := by omega
          have HX2 : Hid (sbE v p = 0) := Lib.hid (by rw [HX.out, HC.out, ← HM.out, List.drop_length]; rfl)
          go_wp2
          go_ret
          exact ⟨by rw [HX2.out]; rfl, S4.out.kept⟩
end Go.Proofs.YtbdgkkmbnahgiaaGreatDoor

namespace Go.Proofs.YtbdgkkmbnahgiaaGreatDoor
open Go.RowKit

theorem take_yes {t : ByteArray} {a k : Nat} (h : a + k ≤ t.size) : takeS t a 0 k = (t.extract a (a + k), a + k, 0) := by
  have h1 := needS_take t a 0 k (.inr (by simp [hasC]; omega))
  rw [← h1, needS_yes h]
theorem take_no {t : ByteArray} {a k : Nat} (h : ¬ a + k ≤ t.size) : takeS t a 0 k = (⟨#[]⟩, a, 3) := by
  have hh : hasC t a k = false := by simp [hasC]; omega
  unfold takeS
  rw [if_pos rfl, if_neg (by rw [hh]; decide)]
theorem num_front {t : ByteArray} {a k : Nat} {x rest : List UInt8} (h : (ls t).drop a = x ++ rest) (hx : x.length = k) (ha : a ≤ t.size) : numS t a 0 k = getL x := by
  have hl := congrArg List.length h
  rw [List.length_drop, List.length_append, ls_len] at hl
  unfold numS
  rw [take_yes (by omega), extract_ls, h, ← hx, List.take_left']
  rfl
theorem num_one_lt (t : ByteArray) (a : Nat) (e : Int) : numS t a e 1 < 256 := by
  unfold numS
  have h1 := getL_lt (ls (takeS t a e 1).1)
  have h2 : (ls (takeS t a e 1).1).length ≤ 1 := by
    rw [ls_len]
    unfold takeS
    split
    · split
      · show (t.extract a (a + Int.toNat 1)).size ≤ 1
        rw [ByteArray.size_extract]; omega
      · exact Nat.zero_le _
    · exact Nat.zero_le _
  have h3 : 256 ^ (ls (takeS t a e 1).1).length ≤ 256 ^ 1 := Nat.pow_le_pow_right (by omega) h2
  omega
theorem num_back2 {t : ByteArray} {a : Nat} (h : a + 2 ≤ t.size) : (ls t).drop a = putL (numS t a 0 2) 2 ++ (ls t).drop (a + 2) := by
  unfold numS
  rw [show ((2 : Int)) = ((2 : Nat) : Int) from rfl, take_yes h, put_get2 _ (by rw [ls_len, ByteArray.size_extract]; omega), extract_ls, ← List.drop_drop, List.take_append_drop]
end Go.Proofs.YtbdgkkmbnahgiaaGreatDoor

namespace Go.Proofs.YtbdgkkmbnahgiaaGreatDoor
open Go.RowKit

/-- A packet of a kind, an id, a code, properties. -/
def ackR1 (k i c : Int) (l : List Pr) : Pk := { pk0 with kind := k, id := i, code := c, props := l }
end Go.Proofs.YtbdgkkmbnahgiaaGreatDoor

namespace Go.Proofs.YtbdgkkmbnahgiaaGreatDoor
open Go.RowKit
attribute [local go_sem ↓] Go.wp_at_zero Go.wp_at_succ

/-- A cell stands, and nothing that was there has turned. -/
abbrev SR (gp : Nat) (v : Value) (W x : World) : Prop := x.cell? ⟨gp, 0, none⟩ = some v ∧ Below W.heap.size W x
theorem SR.below {gp : Nat} {v : Value} {W x y : World} (h : SR gp v W x) (hb : Below x.heap.size x y) : SR gp v W y :=
  ⟨(hb.cell (p := ⟨gp, 0, none⟩) (World.block_lt_of_cell? x _ h.1)).trans h.1, h.2.trans (hb.mono h.2.size)⟩
theorem takeS_bad {t : ByteArray} {a : Nat} {e n : Int} (h : e ≠ 0) : takeS t a e n = (⟨#[]⟩, a, e) := by
  unfold takeS; rw [if_neg h]
/-- What rest leaves. -/
def RestOut (gp gc : Nat) (k i : Int) (t : ByteArray) (r : Int × List Pr × Nat × Int) (w : World) (e : Ending) (w' : World) : Prop :=
  e = .returned (.tuple #[]) ∧ ∃ A c, r.2.1.length ≤ c ∧ Rd w' w'.heap.size 4 A r.2.1.length (prs r.2.1) ∧ Bk w' gp PkT (pkC (ackR1 k i r.1 r.2.1) { hs0 with props := ⟨A, c⟩ }) ∧ Cur w' gc t r.2.2.1 r.2.2.2 ∧ Mods (two gp gc) w w'
/-- Properties lie in no block without a number of 32 bits. -/
theorem Rd.other {w w' : World} {B g : Nat} {A : Option Addr} {l : List Pr} {t : TypeId} {cs : Array Value} (h : Rd w B 4 A l.length (prs l)) (hbk : Bk w g t cs) (hcs : ∀ (i : Nat) (n : Int), cs[i]? ≠ some (Value.int IntKind.u32 n)) (hm : w.grownBy w' (some g)) (hB : B ≤ w.heap.size) : Rd w' B 4 A l.length (prs l) := by
  refine h.grown hm hB fun b o hA hx hbg => ?_
  subst hbg
  have hl : 0 < l.length := by
    cases l with
    | nil => exact absurd rfl hx
    | cons => simp
  obtain ⟨b', o', he, _, _, c1, _⟩ := h.atP hl
  rw [hA] at he
  cases he
  rw [hbk.cell] at c1
  exact hcs _ _ c1
theorem cur_no32 (t : ByteArray) (a : Nat) (e : Int) : ∀ (i : Nat) (n : Int), (curC t a e)[i]? ≠ some (Value.int IntKind.u32 n) := by
  intro i n
  rcases i with _ | _ | _ | i <;> simp [curC]
theorem pk_no32 (p : Pk) (h : Hs) : ∀ (i : Nat) (n : Int), (pkC p h)[i]? ≠ some (Value.int IntKind.u32 n) := by
  intro i n
  rcases i with _ | _ | _ | _ | _ | _ | _ | _ | _ | _ | _ | _ | _ | _ | _ | _ | _ | _ | _ | _ | _ | _ | _ | _ | _ | i <;> simp [pkC]
/-- What stands behind the reading of the properties. -/
structure RJ (gp gc : Nat) (k i q : Int) (l : List Pr) (A : Option Addr) (t : ByteArray) (a : Nat) (e : Int) (w x : World) : Prop where
  pk : Bk x gp PkT (pkC (ackR1 k i q []) hs0)
  cur : Cur x gc t a e
  rd : Rd x x.heap.size 4 A l.length (prs l)
  mods : Mods (two gp gc) w x
  ne : gp ≠ gc
theorem RJ.turn {gp gc : Nat} {k i q : Int} {l : List Pr} {A : Option Addr} {t : ByteArray} {a a' : Nat} {e e' : Int} {w x y : World} (h : RJ gp gc k i q l A t a e w x) (hc : Cur y gc t a' e') (hm : x.grownBy y (some gc)) : RJ gp gc k i q l A t a' e' w y :=
  ⟨h.pk.mods (S := fun z => z = gc) (Mods.of_grown hm rfl) h.ne, hc, (h.rd.other h.cur.1 (cur_no32 _ _ _) hm (Nat.le_refl _)).wider hm.size, h.mods.trans (Mods.of_grown hm (.inr rfl)), h.ne⟩
end Go.Proofs.YtbdgkkmbnahgiaaGreatDoor

namespace Go.Proofs.YtbdgkkmbnahgiaaGreatDoor
open Go.RowKit
attribute [local go_sem ↓] to_ldPk to_bxPk to_bdPk to_alPk to_stPk
attribute [local go_sem] run_bxPk run_bxPk_agg ld_fresh run_alPk run_bd0 run_bdK run_bdKI run_bdKIC run_bdKC run_bdKICP run_stPk_fresh pkC_0 pkC_1 pkC_2 pkC_3 pkC_4 pkC_5 pkC_6 pkC_7 pkC_8 pkC_9 pkC_10 pkC_11 pkC_12 pkC_13 pkC_14 pkC_15 pkC_16 pkC_17 pkC_18 pkC_19 pkC_20 pkC_21 pkC_22 pkC_23 pkC_24

theorem PkIn.R1 {w : World} {B : Nat} {A : Option Addr} {n : Nat} {l : List Pr} (h : Rd w B 4 A l.length (prs l)) (hn : l.length ≤ n) (k i c : Int) : PkIn w B (ackR1 k i c l) { hs0 with props := ⟨A, n⟩ } :=
  ⟨Rd.nil _ _ _ _, Rd.nil _ _ _ _, Rd.nil _ _ _ _, h, Nat.zero_le _, Nat.zero_le _, Nat.zero_le _, hn⟩

/-- What stands while a packet is read: the result's block, the packet's, the cursor's. -/
structure RI (w : World) (g gp gc : Nat) (k i c : Int) (l : List Pr) (A : Option Addr) (n : Nat) (t : ByteArray) (a : Nat) (e : Int) (x : World) : Prop where
  kept : Below w.heap.size w x
  res : Bk x g PkT (pkC pk0 hs0)
  pk : Bk x gp PkT (pkC (ackR1 k i c l) { hs0 with props := ⟨A, n⟩ })
  cur : Cur x gc t a e
  rd : Rd x x.heap.size 4 A l.length (prs l)
  cap : l.length ≤ n
  ne : g ≠ gp ∧ g ≠ gc ∧ gp ≠ gc
  base : w.heap.size ≤ g ∧ w.heap.size ≤ gp ∧ w.heap.size ≤ gc
section
variable {w x y : World} {g gp gc : Nat} {k i c : Int} {l : List Pr} {A : Option Addr} {n : Nat} {t : ByteArray} {a a' : Nat} {e e' : Int}
theorem RI.below (h : RI w g gp gc k i c l A n t a e x) (hb : Below x.heap.size x y) : RI w g gp gc k i c l A n t a e y :=
  ⟨h.kept.trans (hb.mono h.kept.size), h.res.below hb h.res.lt, h.pk.below hb h.pk.lt, h.cur.below hb, (h.rd.below hb).wider hb.size, h.cap, h.ne, h.base⟩
theorem RI.turn (h : RI w g gp gc k i c l A n t a e x) (hc : Cur y gc t a' e') (hm : x.grownBy y (some gc)) : RI w g gp gc k i c l A n t a' e' y :=
  ⟨below_mod h.kept hm h.kept.size h.base.2.2, h.res.mods (S := fun z => z = gc) (Mods.of_grown hm rfl) h.ne.2.1, h.pk.mods (S := fun z => z = gc) (Mods.of_grown hm rfl) h.ne.2.2, hc,
    (h.rd.other h.cur.1 (cur_no32 _ _ _) hm (Nat.le_refl _)).wider hm.size, h.cap, h.ne, h.base⟩
theorem RI.rest {r : Int × List Pr × Nat × Int} {ee : Ending} (h : RI w g gp gc k i 0 [] none 0 t a e x) (hr : RestOut gp gc k i t r x ee y) : ee = .returned (.tuple #[]) ∧ ∃ A n, RI w g gp gc k i r.1 r.2.1 A n t r.2.2.1 r.2.2.2 y := by
  obtain ⟨h1, A, n, h2, h3, h4, h5, h6⟩ := hr
  refine ⟨h1, A, n, ⟨Mods.below h.kept h6 h.kept.size (fun z hz => hz.elim (fun e => by rw [e]; exact h.base.2.1) (fun e => by rw [e]; exact h.base.2.2)), h.res.mods h6 (fun hz => hz.elim h.ne.1 h.ne.2.1), h4, h5, h3, h2, h.ne, h.base⟩⟩
theorem RI.into (h : RI w g gp gc k i c l A n t a e x) : PkIn x x.heap.size (ackR1 k i c l) { hs0 with props := ⟨A, n⟩ } := PkIn.R1 h.rd h.cap k i c
/-- The result stored. -/
theorem RI.none (h : RI w g gp gc k i c l A n t a e x) : Below w.heap.size w (putPk x g pk0 hs0) ∧ Bk (putPk x g pk0 hs0) g PkT (pkC pk0 hs0) := ⟨below_put h.kept h.kept.size h.base.1 _ _, put_bk h.res _ _⟩
theorem RI.some (h : RI w g gp gc k i c l A n t a e x) : Below w.heap.size w (putPk x g (ackR1 k i c l) { hs0 with props := ⟨A, n⟩ }) ∧ Bk (putPk x g (ackR1 k i c l) { hs0 with props := ⟨A, n⟩ }) g PkT (pkC (ackR1 k i c l) { hs0 with props := ⟨A, n⟩ }) ∧
    PkIn (putPk x g (ackR1 k i c l) { hs0 with props := ⟨A, n⟩ }) (putPk x g (ackR1 k i c l) { hs0 with props := ⟨A, n⟩ }).heap.size (ackR1 k i c l) { hs0 with props := ⟨A, n⟩ } :=
  ⟨below_put h.kept h.kept.size h.base.1 _ _, put_bk h.res _ _, PkIn.R1 ((h.rd.other h.res (pk_no32 _ _) (putPk_mods _ _ _ _) (Nat.le_refl _)).wider (putPk_mods _ _ _ _).size) h.cap k i c⟩
end
/-- What a reading of a packet leaves. -/
def PkOut (r : Pk × Int) (w : World) (e : Ending) (w' : World) : Prop := ∃ h, e = .returned (.tuple #[pkV r.1 h, .int .i64 r.2]) ∧ PkIn w' w'.heap.size r.1 h ∧ Below w.heap.size w w'
theorem num_two_lt (t : ByteArray) (a : Nat) (e : Int) (ha : a ≤ t.size) : numS t a e 2 < 65536 := by
  unfold numS
  have h1 := getL_lt (ls (takeS t a e 2).1)
  have h2 : (ls (takeS t a e 2).1).length ≤ 2 := by
    rw [ls_len]
    exact takeS_size ha e 2 2 (by decide)
  have h3 : 256 ^ (ls (takeS t a e 2).1).length ≤ 256 ^ 2 := Nat.pow_le_pow_right (by omega) h2
  omega

end Go.Proofs.YtbdgkkmbnahgiaaGreatDoor

namespace Go.Proofs.YtbdgkkmbnahgiaaGreatDoor
open Go.RowKit

/-- The slice value v is the call's own, of the bytes l. -/
def OB (w : World) (base : Nat) (v : Value) (l : List UInt8) : Prop :=
  ∃ g cap, v = .slice (some ⟨g, 0, none⟩) l.length cap ∧ base ≤ g ∧ g < w.heap.size ∧ l.length ≤ cap ∧ w.there g 0 cap ∧ w.rangeAt g 0 (bys l)
section
variable {w w' : World} {base : Nat} {v : Value} {l : List UInt8}
theorem range_app {w : World} {g o : Nat} {a b : List Value} (ha : w.rangeAt g o a) (hb : w.rangeAt g (o + a.length) b) : w.rangeAt g o (a ++ b) := by
  intro j u hu
  by_cases hj : j < a.length
  · rw [List.getElem?_append_left hj] at hu
    exact ha j u hu
  · rw [List.getElem?_append_right (by omega)] at hu
    have := hb _ u hu
    rwa [show o + a.length + (j - a.length) = o + j by omega] at this
theorem bys_app (a b : List UInt8) : bys (a ++ b) = bys a ++ bys b := by simp [bys]
theorem OB.below (h : OB w base v l) (hb : Below w.heap.size w w') : OB w' base v l := by
  obtain ⟨g, cap, hv, h1, h2, h3, h4, h5⟩ := h
  refine ⟨g, cap, hv, h1, Nat.lt_of_lt_of_le h2 hb.size, h3, fun j hj => ?_, fun j u hu => ?_⟩
  · rw [hb.cell (p := ⟨g, 0 + j, none⟩) h2, hb.frozen (p := ⟨g, 0 + j, none⟩) h2]; exact h4 j hj
  · rw [hb.cell (p := ⟨g, 0 + j, none⟩) h2]; exact h5 j u hu
theorem OB.drewN (h : OB w base v l) (n : Nat) : OB (w.drewN n) base v l := h
theorem OB.rd (h : OB w base v l) : ∃ A c, v = .slice A l.length c ∧ Rd w w.heap.size 1 A l.length (bys l) := by
  obtain ⟨g, cap, hv, h1, h2, h3, h4, h5⟩ := h
  refine ⟨_, cap, hv, by rw [bys_len, Nat.mul_one], .inr ⟨g, 0, rfl, h2, fun j u hu => ?_⟩⟩
  exact h5 j u hu
theorem OB.block (h : OB w base v l) : ∀ g, v.ownBlock = some g → base ≤ g ∧ g < w.heap.size := by
  obtain ⟨g, cap, rfl, h1, h2, h3, h4, h5⟩ := h
  intro k hk
  simp [Value.ownBlock] at hk
  subst hk
  exact ⟨h1, h2⟩
theorem grown_cells (g : Nat) : ∀ (vs : List Value) (o : Nat) (w : World), w.grownBy (w.setCells g o vs) (some g)
  | [], _, w => World.grownBy.refl w _
  | v :: r, o, w => by
    rw [World.setCells]
    exact (mod_set w g o v).trans (grown_cells g r (o + 1) _)
theorem there_alloc (w : World) (cs : Array Value) (t : TypeId) (n : Nat) (hn : n ≤ cs.size) : (w.alloc (.cells cs t)).there w.heap.size 0 n := by
  intro j hj
  have hb := Bk.fresh w t cs
  rw [Nat.zero_add, hb.cell, hb.free]
  exact ⟨by rw [Array.getElem?_eq_getElem (by omega)]; rfl, rfl⟩
theorem range_alloc (w : World) (cs : Array Value) (t : TypeId) (xs : List Value) (h : ∀ (j : Nat) (u : Value), xs[j]? = some u → cs[j]? = some u) : (w.alloc (.cells cs t)).rangeAt w.heap.size 0 xs := by
  intro j u hu
  have hb := Bk.fresh w t cs
  rw [Nat.zero_add, hb.cell]
  exact h j u hu
end
section
variable {P : Program} (w : World) {base : Nat} {v : Value} {l : List UInt8}
theorem strCells_bys (s : ByteArray) : Lib.strCells s = bys (ls s) := by
  simp [Lib.strCells, bys, ls]
/-- What an append that finds room leaves. -/
theorem ob_room {g cap : Nat} (h1 : base ≤ g) (h2 : g < w.heap.size) (h4 : w.there g 0 cap) (h5 : w.rangeAt g 0 (bys l)) (m : List UInt8) (hr : l.length + m.length ≤ cap) :
    OB (w.setCells g l.length (bys m)) base (.slice (some ⟨g, 0, none⟩) (l.length + m.length) cap) (l ++ m) := by
  refine ⟨g, cap, by rw [List.length_append], h1, Nat.lt_of_lt_of_le h2 (grown_cells g (bys m) l.length w).size, by rw [List.length_append]; exact hr, World.there_setCells h4 g _ _, ?_⟩
  rw [bys_app]
  refine range_app (World.rangeAt_setCells_apart h5 g _ _ (.inr (.inl (by rw [bys_len]; omega)))) ?_
  rw [bys_len, Nat.zero_add]
  refine World.rangeAt_setCells_same w g _ _ fun j hj => ?_
  have := h4 (l.length + j) (by rw [bys_len] at hj; omega)
  rwa [Nat.zero_add] at this
/-- What an append that makes a new row leaves. -/
theorem ob_grow (e : TypeId) (m : List UInt8) (c : Nat) (hb : base ≤ w.heap.size) (hc : l.length + m.length ≤ c) :
    OB (w.drew.alloc (.cells ((bys l).toArray ++ (bys m).toArray ++ Builtin.zeroCells (Value.int .u8 0).cells (c - (l.length + m.length))) e)) base (.slice (some ⟨w.heap.size, 0, none⟩) (l.length + m.length) c) (l ++ m) := by
  have hz : ((bys l).toArray ++ (bys m).toArray ++ Builtin.zeroCells (Value.int .u8 0).cells (c - (l.length + m.length))).size = c := by
    have hz1 : (Value.int IntKind.u8 0).cells.size = 1 := rfl
    simp only [Array.size_append, List.size_toArray, size_zeroCells, hz1, bys_len]
    omega
  refine ⟨w.heap.size, c, by rw [List.length_append], hb, by simp, by rw [List.length_append]; exact hc, ?_, ?_⟩
  · exact there_alloc w.drew _ _ _ (by rw [hz]; exact Nat.le_refl _)
  · refine range_alloc w.drew _ _ _ fun j u hu => ?_
    rw [bys_app] at hu
    have hj := (List.getElem?_eq_some_iff.1 hu).1
    have e1 : (bys l).toArray ++ (bys m).toArray = (bys l ++ bys m).toArray := by simp
    rw [e1, Array.getElem?_append_left (by rw [List.size_toArray]; exact hj), List.getElem?_toArray]
    exact hu
theorem run_obS (t u ty e : TypeId) (ht : P.underlying t = some (.slice e)) (hu : P.underlying u = some .string) (hinfo : (P.info? e).map (fun i => (i.zero, i.size, i.bytes)) = some (some (.int .u8 0), 1, 1))
    (hown : OB w base v l) (hbase : base ≤ w.heap.size) (s : ByteArray) (hbytes : l.length + s.size ≤ 140737488355328) :
    ∃ v' w', (Builtin.append_ #[t, u] ty #[v, .string s]).run P w = .ok v' w' ∧ OB w' base v' (l ++ ls s) ∧ w.grownBy w' v.ownBlock := by
  obtain ⟨i, hi, hz, hsize, hby⟩ := info_parts hinfo
  obtain ⟨g, cap, rfl, h1, h2, h3, h4, h5⟩ := hown
  by_cases hroom : l.length + s.size ≤ cap
  · have hf := Lib.run_firstCells_string (P := P) w 1 s
    have hst := run_storeCells_cells (P := P) g l.length (Lib.strCells s) 0 w (fun j hj => by
        rw [strCells_bys, bys_len, ls_len] at hj
        have := (h4 (l.length + j) (by omega)).1
        rwa [Nat.zero_add] at this) (fun j hj => by
        rw [strCells_bys, bys_len, ls_len] at hj
        have := (h4 (l.length + j) (by omega)).2
        rwa [Nat.zero_add] at this) (Lib.strCells_oneCell s)
    rw [Nat.add_zero] at hst
    refine ⟨.slice (some ⟨g, 0, none⟩) (l.length + s.size) cap, _, ?_, ?_, grown_cells g (bys (ls s)) l.length w⟩
    · rw [← strCells_bys]
      simp [Builtin.append_, run_underlying ht, run_underlying hu, sizeOf, typeInfo, hi, hsize, Builtin.lenOf, hroom, hf, Addr.add_lit, hst]
    · have := ob_room w h1 h2 h4 h5 (ls s) (by rw [ls_len]; exact hroom)
      rwa [ls_len] at this
  · have hr := Lib.run_append_grow_string (P := P) w t u ty e i (.int .u8 0) ht hu hi hz ⟨g, 0, none⟩ l.length cap (bys l) (by rw [hsize, bys_len, Nat.mul_one]) (fun j u hj => by rw [Addr.add_lit]; exact h5 j u hj) s (by omega) (by omega) (by rw [hby]; exact growslice_fits (by omega) (by omega))
    rw [strCells_bys] at hr
    refine ⟨_, _, hr, ?_, ⟨rfl, rfl, rfl, by simp, fun k hk _ => Below.heap_alloc w.drew _ k hk⟩⟩
    have := ob_grow (base := base) (l := l) w e (ls s) (grownCap w (l.length + s.size) cap e) hbase (by rw [ls_len]; exact grownCap_ge w (l.length + s.size) cap e)
    rw [ls_len] at this
    exact this
theorem run_obB (t ty e : TypeId) (ht : P.underlying t = some (.slice e)) (hinfo : (P.info? e).map (fun i => (i.zero, i.size, i.bytes)) = some (some (.int .u8 0), 1, 1))
    (hown : OB w base v l) (hbase : base ≤ w.heap.size) (a : Addr) (c : Nat) (m : List UInt8) (hnews : ∀ j u, (bys m)[j]? = some u → w.cell? (a.add j) = some u) (hbytes : l.length + m.length ≤ 140737488355328) :
    ∃ v' w', (Builtin.append_ #[t, t] ty #[v, .slice (some a) m.length c]).run P w = .ok v' w' ∧ OB w' base v' (l ++ m) ∧ w.grownBy w' v.ownBlock := by
  obtain ⟨i, hi, hz, hsize, hby⟩ := info_parts hinfo
  obtain ⟨g, cap, rfl, h1, h2, h3, h4, h5⟩ := hown
  by_cases hroom : l.length + m.length ≤ cap
  · have hf := run_firstCells_some (P := P) w i.size m.length a m.length c (bys m) (by rw [hsize, bys_len, Nat.mul_one]) hnews
    rw [hsize] at hf
    have hst := run_storeCells_cells (P := P) g l.length (bys m) 0 w (fun j hj => by
        rw [bys_len] at hj
        have := (h4 (l.length + j) (by omega)).1
        rwa [Nat.zero_add] at this) (fun j hj => by
        rw [bys_len] at hj
        have := (h4 (l.length + j) (by omega)).2
        rwa [Nat.zero_add] at this) (bys_one m)
    rw [Nat.add_zero] at hst
    refine ⟨.slice (some ⟨g, 0, none⟩) (l.length + m.length) cap, _, ?_, ob_room w h1 h2 h4 h5 m hroom, grown_cells g (bys m) l.length w⟩
    simp [Builtin.append_, run_underlying ht, sizeOf, typeInfo, hi, hsize, Builtin.lenOf, hroom, hf, Addr.add_lit, hst]
  · have hr := run_append_grow (P := P) w t ty e i (.int .u8 0) ht hi hz ⟨g, 0, none⟩ l.length cap (bys l) (by rw [hsize, bys_len, Nat.mul_one]) (fun j u hj => by rw [Addr.add_lit]; exact h5 j u hj) a m.length c (bys m) (by rw [hsize, bys_len, Nat.mul_one]) hnews (by omega) (by omega) (by rw [hby]; exact growslice_fits (by omega) (by omega))
    exact ⟨_, _, hr, ob_grow (base := base) (l := l) w e m (grownCap w (l.length + m.length) cap e) hbase (grownCap_ge w (l.length + m.length) cap e), ⟨rfl, rfl, rfl, by simp, fun k hk _ => Below.heap_alloc w.drew _ k hk⟩⟩
/-- The operations, for the walk. -/
theorem wpList_obS {ops : Array Oper} {rest : List Oper} {o : Oper} {a : Act} {Q : Exit → Act → World → Prop} (hgd : o.guard = none) (sl x : Operand) (t u : TypeId)
    (ho : o.op = .call { callee := .builtin .append, args := #[sl, x], argTypes := #[t, u] }) (base : Nat) (e : TypeId) (ht : P.underlying t = some (.slice e)) (hu : P.underlying u = some .string)
    (hinfo : (P.info? e).map (fun i => (i.zero, i.size, i.bytes)) = some (some (.int .u8 0), 1, 1))
    (v : Value) (l : List UInt8) (hs : a.eval sl = v) (hown : OB w base v l) (s : ByteArray) (hx : a.eval x = .string s) (hbytes : l.length + s.size ≤ 140737488355328) (hbase : base ≤ w.heap.size)
    (h : ∀ v' w', OB w' base v' (l ++ ls s) → w.grownBy w' v.ownBlock → wpList P ops Q rest (a.put o.dst v') w') : wpList P ops Q (o :: rest) a w := by
  refine wpList_plain hgd fun K hK => ?_
  obtain ⟨v', w', hr, h2, h3⟩ := run_obS (P := P) w t u o.type e ht hu hinfo hown hbase s hbytes
  unfold Oper.wp execOp
  simp only [ho, resolve, invoke, builtin, Sem.run_bind, Sem.run_pure, Result.andThen_ok, List.map_toArray, List.map_cons, List.map_nil, hs, hx, hr]
  exact hK _ _ (h v' w' h2 h3)
theorem wpList_obB {ops : Array Oper} {rest : List Oper} {o : Oper} {a : Act} {Q : Exit → Act → World → Prop} (hgd : o.guard = none) (sl x : Operand) (t : TypeId)
    (ho : o.op = .call { callee := .builtin .append, args := #[sl, x], argTypes := #[t, t] }) (base : Nat) (e : TypeId) (ht : P.underlying t = some (.slice e))
    (hinfo : (P.info? e).map (fun i => (i.zero, i.size, i.bytes)) = some (some (.int .u8 0), 1, 1))
    (v : Value) (l : List UInt8) (hs : a.eval sl = v) (hown : OB w base v l) (ad : Addr) (c : Nat) (m : List UInt8) (hx : a.eval x = .slice (some ad) m.length c) (hnews : ∀ j u, (bys m)[j]? = some u → w.cell? (ad.add j) = some u)
    (hbytes : l.length + m.length ≤ 140737488355328) (hbase : base ≤ w.heap.size)
    (h : ∀ v' w', OB w' base v' (l ++ m) → w.grownBy w' v.ownBlock → wpList P ops Q rest (a.put o.dst v') w') : wpList P ops Q (o :: rest) a w := by
  refine wpList_plain hgd fun K hK => ?_
  obtain ⟨v', w', hr, h2, h3⟩ := run_obB (P := P) w t o.type e ht hinfo hown hbase ad c m hnews hbytes
  unfold Oper.wp execOp
  simp only [ho, resolve, invoke, builtin, Sem.run_bind, Sem.run_pure, Result.andThen_ok, List.map_toArray, List.map_cons, List.map_nil, hs, hx, hr]
  exact hK _ _ (h v' w' h2 h3)
theorem rd_news {w : World} {B n : Nat} {ad : Addr} {xs : List Value} (hr : Rd w B 1 (some ad) n xs) : ∀ (j : Nat) (u : Value), xs[j]? = some u → w.cell? (ad.add j) = some u := by
  rcases hr.2 with h0 | ⟨b, o, h, _, hc⟩
  · subst h0
    intro j u hu
    simp at hu
  · cases h
    intro j u hu
    rw [Addr.add_lit]
    exact hc j u hu
theorem wpList_obR {ops : Array Oper} {rest : List Oper} {o : Oper} {a : Act} {Q : Exit → Act → World → Prop} (hgd : o.guard = none) (sl x : Operand) (t : TypeId)
    (ho : o.op = .call { callee := .builtin .append, args := #[sl, x], argTypes := #[t, t] }) (base : Nat) (e : TypeId) (ht : P.underlying t = some (.slice e))
    (hinfo : (P.info? e).map (fun i => (i.zero, i.size, i.bytes)) = some (some (.int .u8 0), 1, 1))
    (v : Value) (l : List UInt8) (hs : a.eval sl = v) (hown : OB w base v l) (B : Nat) (ad : Addr) (c : Nat) (m : List UInt8) (hx : a.eval x = .slice (some ad) m.length c) (hr : Rd w B 1 (some ad) m.length (bys m))
    (hbytes : l.length + m.length ≤ 140737488355328) (hbase : base ≤ w.heap.size)
    (h : ∀ v' w', OB w' base v' (l ++ m) → w.grownBy w' v.ownBlock → wpList P ops Q rest (a.put o.dst v') w') : wpList P ops Q (o :: rest) a w :=
  wpList_obB w hgd sl x t ho base e ht hinfo v l hs hown ad c m hx (rd_news hr) hbytes hbase h
theorem OB.alloc {w : World} {base : Nat} {v : Value} {l : List UInt8} (h : OB w base v l) (o : Obj) : OB (w.alloc o) base v l := h.below ((Below.refl _ _).alloc (Nat.le_refl _) o)
/-- []byte(s), as an operation. -/
theorem ob_conv (src dst e : TypeId) (s : ByteArray) {d : TypeDesc} (hs : P.underlying src = some d) (hd : P.underlying dst = some (.slice e)) (he : P.underlying e = some (.int .u8)) :
    ∃ v w', (convert src dst (.string s)).run P w = .ok v w' ∧ OB w' w.heap.size v (ls s) ∧ Below w.heap.size w w' := by
  refine ⟨_, _, Lib.run_convert_string_bytes w src dst e s hs hd he, ?_, ?_⟩
  · have hnew := Lib.bytesWorld_at_new w e s
    have hge := grownCap_ge w s.size 0 e
    have hsz : (Lib.bytesCells w e s).size = grownCap w s.size 0 e := by
      simp [Lib.bytesCells]
      have : s.data.size = s.size := rfl
      omega
    refine ⟨w.heap.size, grownCap w s.size 0 e, by rw [ls_len], Nat.le_refl _, by rw [Lib.bytesWorld_size]; omega, by rw [ls_len]; exact hge, fun j hj => ?_, fun j u hu => ?_⟩
    · rw [Nat.zero_add, cell_of_row _ _ _ _ _ _ hnew]
      refine ⟨by rw [Array.getElem?_eq_getElem (by omega)]; rfl, ?_⟩
      simp only [World.frozen?, hnew, Bool.and_eq_false_iff, decide_eq_false_iff_not]
      left
      omega
    · rw [Nat.zero_add, cell_of_row _ _ _ _ _ _ hnew]
      have hj := (List.getElem?_eq_some_iff.1 hu).1
      rw [bys_len, ls_len] at hj
      unfold Lib.bytesCells
      rw [Array.getElem?_append_left (by rw [Array.size_map]; exact hj), Array.getElem?_map]
      unfold bys at hu
      rw [List.getElem?_map] at hu
      rw [← hu, show (ls s)[j]? = s.data[j]? from Array.getElem?_toList]
  · exact ⟨rfl, rfl, rfl, by rw [Lib.bytesWorld_size]; omega, fun k hk => Lib.bytesWorld_at_old w e s k hk⟩
end
end Go.Proofs.YtbdgkkmbnahgiaaGreatDoor

namespace Go.Proofs.YtbdgkkmbnahgiaaGreatDoor
open Go.RowKit
set_option maxHeartbeats 400000 in
theorem at8_any (g a : Nat) (t : ByteArray) (e : Int) (w : World) (h : Cur w g t a e) :
    Calls Tryz.prog 226 #[.pointer (some ⟨g, 0, none⟩)] w fun e' w' => e' = .returned (.int .i64 a) ∧ w = w' := by
  obtain ⟨⟨c0, c1, c2⟩, f0, f1, f2⟩ := h.cells
  clear h
  go_enter Tryz.func226, Tryz.ntmps226
  go_wp2
  go_ret
  exact ⟨rfl, rfl⟩
/-- Data that bytes begin with. -/
def readB (s : ByteArray) : ByteArray × Nat × Int :=
  if s.size < 2 then (⟨#[]⟩, 0, 3) else if s.size < 2 + numS s 0 0 2 then (⟨#[]⟩, 0, 3) else (s.extract 2 (2 + numS s 0 0 2), 2 + numS s 0 0 2, 0)
def readU (s : ByteArray) : ByteArray × Nat × Int := if (readB s).2.2 = 0 ∧ validB (readB s).1 = false then (⟨#[]⟩, 0, 6) else readB s
set_option maxHeartbeats 2000000 in
set_option maxRecDepth 10000 in
theorem readB_any (s : ByteArray) (w : World) (hs : s.size ≤ 4611686018427387904) :
    Calls Tryz.prog 166 #[.string s] w fun e w' => e = .returned (.tuple #[.string (readB s).1, .int .i64 (readB s).2.1, .int .i64 (readB s).2.2]) ∧ Below w.heap.size w w' := by
  have HS := Lib.hid hs
  go_enter Tryz.func166, Tryz.ntmps166
  go_wp2_with fail
  refine (newCur_any s _ hs).mono ?_
  rintro e w1 ⟨rfl, hc, hb⟩
  have HB1 := Lib.hid hb; have HC1 := Lib.hid hc; clear hb hc
  go_wp2_with fail
  refine (number_any w.heap.size 0 s 0 2 _ HC1.out (by decide)).mono ?_
  rintro e w2 ⟨rfl, hc, hm⟩
  have HB2 := Lib.hid (below_mod HB1.out hm HB1.out.size (Nat.le_refl _)); have HC2 := Lib.hid hc; clear hc hm
  have hlt : numS s 0 0 2 < 65536 := by
    unfold numS
    have h1 := getL_lt (ls (takeS s 0 0 2).1)
    have h2 : (ls (takeS s 0 0 2).1).length ≤ 2 := by rw [ls_len]; exact takeS_size (by omega) 0 2 2 (by decide)
    have h3 : 256 ^ (ls (takeS s 0 0 2).1).length ≤ 256 ^ 2 := Nat.pow_le_pow_right (by omega) h2
    omega
  have HE : Hid (readB s = if s.size < 2 then (⟨#[]⟩, 0, 3) else if s.size < 2 + numS s 0 0 2 then (⟨#[]⟩, 0, 3) else (s.extract 2 (2 + numS s 0 0 2), 2 + numS s 0 0 2, 0)) := Lib.hid rfl
  have HT2 : Hid (¬ s.size < 2 → takeS s 0 0 2 = (s.extract 0 2, 2, 0)) := Lib.hid fun h => take_yes (k := 2) (by omega)
  have HT3 : Hid (s.size < 2 → takeS s 0 0 2 = (⟨#[]⟩, 0, 3)) := Lib.hid fun h => take_no (k := 2) (by omega)
  generalize numS s 0 0 2 = m at *
  have hw : IntKind.i64.wrap (m : Int) = (m : Int) := by rw [IntKind.wrap_i64]; omega
  by_cases h2 : s.size < 2
  · have HX : Hid (readB s = (⟨#[]⟩, 0, 3)) := Lib.hid (by rw [HE.out, if_pos h2])
    have hc3 := HC2.out
    rw [HT3.out h2] at hc3
    have HC3 := Lib.hid hc3
    clear hc3 h2
    go_wp2_with fail
    refine (take_any w.heap.size 0 s 3 m _ HC3.out).mono ?_
    rintro e w3 ⟨rfl, hc, hm⟩
    rw [takeS_bad (by decide)] at hc ⊢
    have HB3 := Lib.hid (below_mod HB2.out hm HB2.out.size (Nat.le_refl _)); have HC4 := Lib.hid hc; clear hc hm
    go_wp2_with fail
    refine (err_any w.heap.size 0 s 3 _ HC4.out).mono ?_
    rintro e w4 ⟨rfl, rfl⟩
    go_wp2
    go_ret3
    exact ⟨by rw [HX.out]; rfl, HB3.out⟩
  have hc3 := HC2.out
  rw [HT2.out h2] at hc3
  have HC3 := Lib.hid hc3
  clear hc3
  by_cases h3 : s.size < 2 + m
  · have HX : Hid (readB s = (⟨#[]⟩, 0, 3)) := Lib.hid (by rw [HE.out, if_neg h2, if_pos h3])
    have HT : Hid (takeS s 2 0 m = (⟨#[]⟩, 2, 3)) := Lib.hid (take_no (by omega))
    clear h2 h3
    go_wp2_with fail
    refine (take_any w.heap.size 2 s 0 m _ HC3.out).mono ?_
    rintro e w3 ⟨rfl, hc, hm⟩
    rw [HT.out] at hc ⊢
    have HB3 := Lib.hid (below_mod HB2.out hm HB2.out.size (Nat.le_refl _)); have HC4 := Lib.hid hc; clear hc hm
    go_wp2_with fail
    refine (err_any w.heap.size 2 s 3 _ HC4.out).mono ?_
    rintro e w4 ⟨rfl, rfl⟩
    go_wp2
    go_ret3
    exact ⟨by rw [HX.out]; rfl, HB3.out⟩
  · have HX : Hid (readB s = (s.extract 2 (2 + m), 2 + m, 0)) := Lib.hid (by rw [HE.out, if_neg h2, if_neg h3])
    have HT : Hid (takeS s 2 0 m = (s.extract 2 (2 + m), 2 + m, 0)) := Lib.hid (take_yes (by omega))
    clear h2 h3
    go_wp2_with fail
    refine (take_any w.heap.size 2 s 0 m _ HC3.out).mono ?_
    rintro e w3 ⟨rfl, hc, hm⟩
    rw [HT.out] at hc ⊢
    have HB3 := Lib.hid (below_mod HB2.out hm HB2.out.size (Nat.le_refl _)); have HC4 := Lib.hid hc; clear hc hm
    go_wp2_with fail
    refine (err_any w.heap.size (2 + m) s 0 _ HC4.out).mono ?_
    rintro e w4 ⟨rfl, rfl⟩
    go_wp2_with fail
    refine (at8_any w.heap.size (2 + m) s 0 _ HC4.out).mono ?_
    rintro e w4 ⟨rfl, rfl⟩
    go_wp2
    go_ret3
    exact ⟨by rw [HX.out]; rfl, HB3.out⟩
set_option maxHeartbeats 1000000 in
set_option maxRecDepth 10000 in
theorem readU_any (s : ByteArray) (w : World) (hs : s.size ≤ 4611686018427387904) :
    Calls Tryz.prog 115 #[.string s] w fun e w' => e = .returned (.tuple #[.string (readU s).1, .int .i64 (readU s).2.1, .int .i64 (readU s).2.2]) ∧ Below w.heap.size w w' := by
  have HE : Hid (readU s = if (readB s).2.2 = 0 ∧ validB (readB s).1 = false then (⟨#[]⟩, 0, 6) else readB s) := Lib.hid rfl
  have hz : (readB s).1.size ≤ 4611686018427387904 := by
    unfold readB
    split
    · exact Nat.zero_le _
    · split
      · exact Nat.zero_le _
      · show (s.extract _ _).size ≤ _
        rw [ByteArray.size_extract]; omega
  go_enter Tryz.func115, Tryz.ntmps115
  go_wp2_with fail
  refine (readB_any s _ hs).mono ?_
  rintro e w1 ⟨rfl, hb⟩
  have HB := Lib.hid hb; clear hb hs
  generalize readB s = R at *
  obtain ⟨x, n, e⟩ := R
  simp only at HE hz ⊢
  by_cases h0 : e = 0
  · subst h0
    go_wp2_with fail
    refine (valid_any x _ hz).mono ?_
    rintro e w2 ⟨rfl, hb⟩
    have HB2 := Lib.hid (HB.out.trans (hb.mono HB.out.size)); clear hb
    cases hv : validB x
    · have HX : Hid (readU s = (⟨#[]⟩, 0, 6)) := Lib.hid (by rw [HE.out]; simp [hv])
      clear hv
      go_wp2
      go_ret3
      exact ⟨by rw [HX.out]; rfl, HB2.out⟩
    · have HX : Hid (readU s = (x, n, 0)) := Lib.hid (by rw [HE.out]; simp [hv])
      clear hv
      go_wp2
      go_ret3
      exact ⟨by rw [HX.out]; rfl, HB2.out⟩
  · have e0 : (e == 0) = false := beq_eq_false_iff_ne.2 h0
    have HX : Hid (readU s = (x, n, e)) := Lib.hid (by rw [HE.out]; simp [h0])
    clear h0
    go_wp2
    go_ret3
    exact ⟨by rw [HX.out]; rfl, HB.out⟩
end Go.Proofs.YtbdgkkmbnahgiaaGreatDoor

namespace Go.Proofs.YtbdgkkmbnahgiaaGreatDoor
open Go.RowKit
attribute [local go_sem ↓] to_ldPk to_bxPk to_bdPk to_alPk to_stPk
attribute [local go_sem] run_bxPk run_bxPk_agg ld_fresh run_alPk run_bd0 run_bdK run_bdKI run_bdKIC run_bdKC run_bdKICP run_stPk_fresh pkC_0 pkC_1 pkC_2 pkC_3 pkC_4 pkC_5 pkC_6 pkC_7 pkC_8 pkC_9 pkC_10 pkC_11 pkC_12 pkC_13 pkC_14 pkC_15 pkC_16 pkC_17 pkC_18 pkC_19 pkC_20 pkC_21 pkC_22 pkC_23 pkC_24
def rdPub (f : Int) (t : ByteArray) (i : Int) (l : List Pr) (y : ByteArray) : Pk := { pk0 with kind := 3, dup := decide (8 ≤ f), retain := decide (f % 2 = 1), qos := f / 2 % 4, id := i, topic := t, payload := y, props := l }
def hsP (A : Option Addr) (n : Nat) : Hs := { hs0 with props := ⟨A, n⟩ }
theorem run_bdPub (f : Int) (t : ByteArray) (w : World) : (bdPk #[(0, .int .i64 3), (1, .bool (decide (8 ≤ f))), (3, .int .i64 (f / 2 % 4)), (2, .bool (decide (f % 2 = 1))), (5, .string t)]).run Tryz.prog w = .ok (pkV (rdPub f t 0 [] ⟨#[]⟩) (hsP none 0)) w := by kernel_rfl
theorem rdPub_qos (f : Int) (t : ByteArray) (i : Int) (l : List Pr) (y : ByteArray) : (rdPub f t i l y).qos = f / 2 % 4 := rfl
/-- What stands while a PUBLISH is read: the result's block, the empty packet's, the packet's. -/
structure PR (w : World) (g : Nat) (f : Int) (t : ByteArray) (i : Int) (l : List Pr) (y : ByteArray) (A : Option Addr) (n : Nat) (x : World) : Prop where
  kept : Below w.heap.size w x
  res : Bk x w.heap.size PkT (pkC pk0 hs0)
  zero : Bk x (w.heap.size + 1) PkT (pkC pk0 hs0)
  pk : Bk x g PkT (pkC (rdPub f t i l y) (hsP A n))
  rd : Rd x x.heap.size 4 A l.length (prs l)
  cap : l.length ≤ n
  base : w.heap.size + 1 < g
section
variable {w x y : World} {g : Nat} {f i : Int} {t u : ByteArray} {l : List Pr} {A : Option Addr} {n : Nat}
theorem PR.below (h : PR w g f t i l u A n x) (hb : Below x.heap.size x y) : PR w g f t i l u A n y :=
  ⟨h.kept.trans (hb.mono h.kept.size), h.res.below hb h.res.lt, h.zero.below hb h.zero.lt, h.pk.below hb h.pk.lt, (h.rd.below hb).wider hb.size, h.cap, h.base⟩
theorem PR.set (h : PR w g f t i l u A n x) (k : Nat) (v : Value) {i' : Int} {u' : ByteArray} (he : (pkC (rdPub f t i l u) (hsP A n)).setIfInBounds k v = pkC (rdPub f t i' l u') (hsP A n)) : PR w g f t i' l u' A n (x.setCell ⟨g, k, none⟩ v) :=
  ⟨below_mod h.kept (mod_set x g k v) h.kept.size (by have := h.base; omega), h.res.other (by have := h.base; simp; omega) _, h.zero.other (by have := h.base; simp; omega) _, h.pk.upd k v he, (h.rd.other h.pk (pk_no32 _ _) (mod_set x g k v) (Nat.le_refl _)).wider (mod_set x g k v).size, h.cap, h.base⟩
theorem PR.put (h : PR w g f t i l u A n x) {l' : List Pr} {A' : Option Addr} {n' : Nat} (hr : Rd x x.heap.size 4 A' l'.length (prs l')) (hn : l'.length ≤ n') : PR w g f t i l' u A' n' (x.setCell ⟨g, 24, none⟩ (.slice A' l'.length n')) :=
  ⟨below_mod h.kept (mod_set x g 24 _) h.kept.size (by have := h.base; omega), h.res.other (by have := h.base; simp; omega) _, h.zero.other (by have := h.base; simp; omega) _, h.pk.upd 24 _ rfl, (hr.other h.pk (pk_no32 _ _) (mod_set x g 24 _) (Nat.le_refl _)).wider (mod_set x g 24 _).size, hn, h.base⟩
theorem PR.into (h : PR w g f t i l u A n x) : PkIn x x.heap.size (rdPub f t i l u) (hsP A n) := ⟨Rd.nil _ _ _ _, Rd.nil _ _ _ _, Rd.nil _ _ _ _, h.rd, Nat.zero_le _, Nat.zero_le _, Nat.zero_le _, h.cap⟩
theorem PR.none (h : PR w g f t i l u A n x) : Below w.heap.size w (putPk x w.heap.size pk0 hs0) ∧ Bk (putPk x w.heap.size pk0 hs0) w.heap.size PkT (pkC pk0 hs0) := ⟨below_put h.kept h.kept.size (Nat.le_refl _) _ _, put_bk h.res _ _⟩
theorem PR.some (h : PR w g f t i l u A n x) : Below w.heap.size w (putPk x w.heap.size (rdPub f t i l u) (hsP A n)) ∧ Bk (putPk x w.heap.size (rdPub f t i l u) (hsP A n)) w.heap.size PkT (pkC (rdPub f t i l u) (hsP A n)) ∧
    PkIn (putPk x w.heap.size (rdPub f t i l u) (hsP A n)) (putPk x w.heap.size (rdPub f t i l u) (hsP A n)).heap.size (rdPub f t i l u) (hsP A n) :=
  ⟨below_put h.kept h.kept.size (Nat.le_refl _) _ _, put_bk h.res _ _, Rd.nil _ _ _ _, Rd.nil _ _ _ _, Rd.nil _ _ _ _, (h.rd.other h.res (pk_no32 _ _) (putPk_mods _ _ _ _) (Nat.le_refl _)).wider (putPk_mods _ _ _ _).size, Nat.zero_le _, Nat.zero_le _, Nat.zero_le _, h.cap⟩
end
attribute [local go_sem] run_bdPub rdPub_qos
end Go.Proofs.YtbdgkkmbnahgiaaGreatDoor

namespace Go.Proofs.YtbdgkkmbnahgiaaGreatDoor
open Go.RowKit
attribute [local go_sem ↓] to_ldPk to_bxPk to_bdPk to_alPk to_stPk
attribute [local go_sem] run_bxPk run_bxPk_agg ld_fresh run_alPk run_bd0 run_bdK run_bdKI run_bdKIC run_bdKC run_bdKICP run_stPk_fresh pkC_0 pkC_1 pkC_2 pkC_3 pkC_4 pkC_5 pkC_6 pkC_7 pkC_8 pkC_9 pkC_10 pkC_11 pkC_12 pkC_13 pkC_14 pkC_15 pkC_16 pkC_17 pkC_18 pkC_19 pkC_20 pkC_21 pkC_22 pkC_23 pkC_24

def bitN (b : Bool) (n : Int) : Int := if b = true then n else 0
/-- The flags of a CONNECT. -/
def flN (p : Pk) : Int := bitN p.hasUser 128 + bitN p.hasPass 64 + bitN p.will.retain 32 + p.will.qos % 4 * 8 + bitN p.hasWill 4 + bitN p.clean 2
end Go.Proofs.YtbdgkkmbnahgiaaGreatDoor

namespace Go.Proofs.YtbdgkkmbnahgiaaGreatDoor
open Go.RowKit

def cntName : ByteArray := ⟨#[0, 4, 77, 81, 84, 84]⟩
def failE (e n : Int) : Int := if e = 0 then n else e
theorem failE_zero {e n : Int} (h : failE e n = 0) (hn : n ≠ 0) : False := by
  unfold failE at h
  split at h
  · exact hn h
  · next x => exact x h
/-- A cursor's next data. -/
def binC (t : ByteArray) (a : Nat) (e : Int) : ByteArray × Nat × Int := takeS t (takeS t a e 2).2.1 (takeS t a e 2).2.2 (numS t a e 2 : Nat)
theorem binC_lt (t : ByteArray) (a : Nat) (e : Int) (ha : a ≤ t.size) : (binC t a e).1.size ≤ 65535 :=
  takeS_size (takeS_le ha e 2) _ _ 65535 (by have := num_two_lt t a e ha; omega)
/-- A cursor's next text. -/
def txtC (t : ByteArray) (a : Nat) (e : Int) : ByteArray × Nat × Int := ((binC t a e).1, (binC t a e).2.1, if validB (binC t a e).1 = true then (binC t a e).2.2 else failE (binC t a e).2.2 6)
/-- A cursor's next properties. -/
def prpC (v kind : Int) (t : ByteArray) (a : Nat) (e : Int) : List Pr × Nat × Int :=
  if v = 4 ∨ e ≠ 0 then ([], a, e) else ((readP kind (t.extract a t.size)).1, a + (readP kind (t.extract a t.size)).2.1, (readP kind (t.extract a t.size)).2.2)
theorem take_ok {t : ByteArray} {a : Nat} {e : Int} {k : Nat} (h : (takeS t a e k).2.2 = 0) : e = 0 ∧ a + k ≤ t.size ∧ takeS t a 0 k = (t.extract a (a + k), a + k, 0) := by
  by_cases he : e = 0
  · subst he
    by_cases hs : a + k ≤ t.size
    · exact ⟨rfl, hs, take_yes hs⟩
    · rw [take_no hs] at h; cases h
  · rw [takeS_bad he] at h; exact absurd h he
theorem take_ls {t : ByteArray} {a k : Nat} (_h : a + k ≤ t.size) : (ls t).drop a = ls (t.extract a (a + k)) ++ (ls t).drop (a + k) := by
  rw [extract_ls, ← List.drop_drop, List.take_append_drop]
theorem bin_ok {t : ByteArray} {a : Nat} {e : Int} (h : (binC t a e).2.2 = 0) : e = 0 ∧ (binC t a e).2.1 ≤ t.size ∧ (binC t a e).1.size ≤ 65535 ∧ (ls t).drop a = putL (binC t a e).1.size 2 ++ (ls (binC t a e).1 ++ (ls t).drop (binC t a e).2.1) := by
  obtain ⟨h1, h2, h3⟩ := take_ok h
  obtain ⟨he, h5, h6⟩ := take_ok (k := 2) h1
  subst he
  have h6' : takeS t a 0 2 = (t.extract a (a + 2), a + 2, 0) := h6
  have hle : a ≤ t.size := by omega
  have hlt := binC_lt t a 0 hle
  have hE : binC t a 0 = (t.extract (a + 2) (a + 2 + numS t a 0 2), a + 2 + numS t a 0 2, 0) := by
    rw [h6'] at h3 h2
    unfold binC
    rw [h6']
    exact h3
  rw [h6'] at h2
  simp only at h2
  rw [hE] at hlt ⊢
  simp only at hlt ⊢
  have hsz : (t.extract (a + 2) (a + 2 + numS t a 0 2)).size = numS t a 0 2 := by rw [ByteArray.size_extract]; omega
  refine ⟨trivial, h2, hlt, ?_⟩
  rw [hsz, ← take_ls h2]
  exact num_back2 h5
theorem txt_ok {t : ByteArray} {a : Nat} {e : Int} (h : (txtC t a e).2.2 = 0) : e = 0 ∧ (txtC t a e).2.1 ≤ t.size ∧ (txtC t a e).1.size ≤ 65535 ∧ validB (txtC t a e).1 = true ∧ (ls t).drop a = putL (txtC t a e).1.size 2 ++ (ls (txtC t a e).1 ++ (ls t).drop (txtC t a e).2.1) := by
  unfold txtC at h ⊢
  simp only at h ⊢
  by_cases hv : validB (binC t a e).1 = true
  · rw [if_pos hv] at h
    obtain ⟨h1, h2, h3, h4⟩ := bin_ok h
    exact ⟨h1, h2, h3, hv, h4⟩
  · rw [if_neg hv] at h
    exact (failE_zero h (by decide)).elim
/-- Properties as they lie in a body. -/
def tailL8 (v k : Int) (l : List Pr) : List UInt8 := if v = 4 then [] else (bytesS k l).1
def f1 (v : Int) (p : Pk) (r : List UInt8) : List UInt8 := ls cntName ++ (putL v.toNat 1 ++ (putL (flN p).toNat 1 ++ (putL p.alive.toNat 2 ++ (tailL8 v 1 p.props ++ (putL p.client.size 2 ++ (ls p.client ++ r))))))
end Go.Proofs.YtbdgkkmbnahgiaaGreatDoor

