/- Packets compared: the walk of head.Same. -/
import Derived.Test.YtdpeljnoaiaplaaPkD
import Derived.Test.YtdpeljnoaiaplaaPkL
namespace Go.Proofs.Ytdpeljnoaiaplaa
open Go.RowKit
attribute [local go_sem ↓] to_ldPk to_bxPk
attribute [local go_sem] run_bxPk run_bxPk_agg pkC_0 pkC_1 pkC_2 pkC_3 pkC_4 pkC_5 pkC_6 pkC_7 pkC_8 pkC_9 pkC_10 pkC_11 pkC_12 pkC_13 pkC_14 pkC_15 pkC_16 pkC_17 pkC_18 pkC_19 pkC_20 pkC_21 pkC_22 pkC_23 pkC_24

theorem eql_bare (a b : Pk) (w : World) : (binOp .eql 112 (.agg (bareC a)) (.agg (bareC b))).run Try.prog w = .ok (.bool (bareB a b)) w := by
  have u1 := Try.underlying3
  have u2 := Try.underlying4
  have u3 := Try.underlying9
  have hS : Try.prog.underlying 112 = some (.struct (Try.prog.fieldsOf 112)) := by kernel_rfl
  have hp : Try.prog.stoodInHeld 112 = false := by kernel_rfl
  rw [run_eql_struct, show (10000 : Nat) = 9999 + 1 from rfl, run_equalIn_agg w 9999 112 _ _ hS hp]
  simp only [Program.fieldsOf, Try.underlying112]
  unfold bareC bareB
  go_simp
  simp only [toList_inj]
  by_cases h0 : a.kind = b.kind
  · rw [if_pos h0, decide_eq_true h0, Bool.true_and]
    by_cases h1 : a.qos = b.qos
    · rw [if_pos h1, decide_eq_true h1, Bool.true_and]
      by_cases h2 : a.id = b.id
      · rw [if_pos h2, decide_eq_true h2, Bool.true_and]
        by_cases h3 : a.alive = b.alive
        · rw [if_pos h3, decide_eq_true h3, Bool.true_and]
          by_cases h4 : a.code = b.code
          · rw [if_pos h4, decide_eq_true h4, Bool.true_and]
            by_cases h5 : a.dup = b.dup
            · rw [if_pos h5, decide_eq_true h5, Bool.true_and]
              by_cases h6 : a.retain = b.retain
              · rw [if_pos h6, decide_eq_true h6, Bool.true_and]
                by_cases h7 : a.clean = b.clean
                · rw [if_pos h7, decide_eq_true h7, Bool.true_and]
                  by_cases h8 : a.hasUser = b.hasUser
                  · rw [if_pos h8, decide_eq_true h8, Bool.true_and]
                    by_cases h9 : a.hasPass = b.hasPass
                    · rw [if_pos h9, decide_eq_true h9, Bool.true_and]
                      by_cases h10 : a.hasWill = b.hasWill
                      · rw [if_pos h10, decide_eq_true h10, Bool.true_and]
                        by_cases h11 : a.session = b.session
                        · rw [if_pos h11, decide_eq_true h11, Bool.true_and]
                          by_cases h12 : a.topic = b.topic
                          · rw [if_pos h12, decide_eq_true h12, Bool.true_and]
                            by_cases h13 : a.payload = b.payload
                            · rw [if_pos h13, decide_eq_true h13, Bool.true_and]
                              by_cases h14 : a.client = b.client
                              · rw [if_pos h14, decide_eq_true h14, Bool.true_and]
                                by_cases h15 : a.user = b.user
                                · rw [if_pos h15, decide_eq_true h15, Bool.true_and]
                                  by_cases h16 : a.pass = b.pass
                                  · rw [if_pos h16, decide_eq_true h16]
                                  · rw [if_neg h16, decide_eq_false h16]
                                · rw [if_neg h15, decide_eq_false h15, Bool.false_and]
                              · rw [if_neg h14, decide_eq_false h14, Bool.false_and]
                            · rw [if_neg h13, decide_eq_false h13, Bool.false_and]
                          · rw [if_neg h12, decide_eq_false h12, Bool.false_and]
                        · rw [if_neg h11, decide_eq_false h11, Bool.false_and]
                      · rw [if_neg h10, decide_eq_false h10, Bool.false_and]
                    · rw [if_neg h9, decide_eq_false h9, Bool.false_and]
                  · rw [if_neg h8, decide_eq_false h8, Bool.false_and]
                · rw [if_neg h7, decide_eq_false h7, Bool.false_and]
              · rw [if_neg h6, decide_eq_false h6, Bool.false_and]
            · rw [if_neg h5, decide_eq_false h5, Bool.false_and]
          · rw [if_neg h4, decide_eq_false h4, Bool.false_and]
        · rw [if_neg h3, decide_eq_false h3, Bool.false_and]
      · rw [if_neg h2, decide_eq_false h2, Bool.false_and]
    · rw [if_neg h1, decide_eq_false h1, Bool.false_and]
  · rw [if_neg h0, decide_eq_false h0, Bool.false_and]

/-- A packet's lists' lengths. -/
def PkLen (p : Pk) : Prop := p.will.props.length ≤ 4611686018427387904 ∧ p.codes.length ≤ 4611686018427387904 ∧ p.filters.length ≤ 4611686018427387904 ∧ p.props.length ≤ 4611686018427387904
set_option maxHeartbeats 4000000 in
set_option maxRecDepth 100000 in
theorem same_any (p q : Pk) (h k : Hs) (w : World) (ip : PkIn w w.heap.size p h) (iq : PkIn w w.heap.size q k) (lp : PkLen p) (lq : PkLen q) :
    Calls Try.prog 43 #[pkV p h, pkV q k] w fun e w' => e = .returned (.bool (decide (p = q))) ∧ Below w.heap.size w w' := by
  have hb2 := below_two w (.cells (pkC p h) PkT) (.cells (pkC q k) PkT)
  have B1 : Bk ((w.alloc (.cells (pkC p h) PkT)).alloc (.cells (pkC q k) PkT)) w.heap.size PkT (pkC p h) := (Bk.fresh w PkT (pkC p h)).alloc _
  have B2 : Bk ((w.alloc (.cells (pkC p h) PkT)).alloc (.cells (pkC q k) PkT)) (w.heap.size + 1) PkT (pkC q k) := by
    simpa using Bk.fresh (w.alloc (.cells (pkC p h) PkT)) PkT (pkC q k)
  have ip2 := ip.next hb2
  have iq2 := iq.next hb2
  have c1 := regrown (W := (w.alloc (.cells (pkC p h) PkT)).alloc (.cells (pkC q k) PkT)) (fun x _ => strip_any p h x)
  have c2 := regrown (W := (w.alloc (.cells (pkC p h) PkT)).alloc (.cells (pkC q k) PkT)) (fun x _ => strip_any q k x)
  have c3 := regrown (W := (w.alloc (.cells (pkC p h) PkT)).alloc (.cells (pkC q k) PkT)) (fun x hx => sameWill_any p.will q.will h.wp k.wp x ((ip2.next hx).wp) ((iq2.next hx).wp) lp.1 lq.1)
  have c4 := regrown (W := (w.alloc (.cells (pkC p h) PkT)).alloc (.cells (pkC q k) PkT)) (fun x hx => listI_any h.codes.a k.codes.a p.codes.length q.codes.length h.codes.c k.codes.c p.codes q.codes x rfl rfl ((ip2.next hx).codes) ((iq2.next hx).codes) lp.2.1 lq.2.1)
  have c5 := regrown (W := (w.alloc (.cells (pkC p h) PkT)).alloc (.cells (pkC q k) PkT)) (fun x hx => listF_any h.filters.a k.filters.a p.filters.length q.filters.length h.filters.c k.filters.c p.filters q.filters x rfl rfl ((ip2.next hx).filters) ((iq2.next hx).filters) lp.2.2.1 lq.2.2.1)
  have c6 := regrown (W := (w.alloc (.cells (pkC p h) PkT)).alloc (.cells (pkC q k) PkT)) (fun x hx => listP_any h.props.a k.props.a p.props.length q.props.length h.props.c k.props.c p.props q.props x rfl rfl ((ip2.next hx).props) ((iq2.next hx).props) lp.2.2.2 lq.2.2.2)
  simp only [wlV, wlC] at c3
  have k1 := bk_regrown B1
  have k2 := bk_regrown B2
  have l1 := ld_regrown B1
  have l2 := ld_regrown B2
  have he := fun W => eql_bare p q W
  have hgt := guard_bare
  have HBQ := Lib.hid (fun d os => hb2.trans ((below_regrown ((w.alloc (.cells (pkC p h) PkT)).alloc (.cells (pkC q k) PkT)) d os).mono hb2.size))
  have HSI := Lib.hid (same_iff p q)
  have HAB := Lib.hid (And.intro c1 (And.intro c2 (And.intro c3 (And.intro c4 (And.intro c5 c6)))))
  clear B1 B2 ip iq ip2 iq2 hb2 lp lq c1 c2 c3 c4 c5 c6
  cases hb : bareB p q
  · have HF : Hid (decide (p = q) = false) := Lib.hid (decide_eq_false (fun x => by have := (HSI.out.1 x).1; rw [hb] at this; cases this))
    rw [hb] at he
    obtain ⟨c1, c2, -⟩ := HAB.out
    clear hb
    go_enter Try.func43, Try.ntmps43
    go_wp2_with fail
    refine wp_region_quiet_below (by as_aux_lemma => kernel_rfl) (by as_aux_lemma => kernel_rfl) ?_
    repeat (go_big_quiet_step (first | with_reducible exact c1 _ _ | with_reducible exact c2 _ _))
    refine wpQuiet_nil ?_
    intro _ hw'
    obtain ⟨⟨dq, osq⟩, hw''⟩ := hw'
    subst hw''
    have KF := Lib.hid (HBQ.out dq osq)
    clear k1 k2 l1 l2 he c1 c2 HBQ HAB
    generalize Sort.grow (redrawn _ dq) osq = wq at *
    go_wp2
    go_ret
    exact ⟨by rw [HF.out]; rfl, KF.out⟩
  · rw [hb] at he
    by_cases e0 : p.will = q.will
    rotate_left
    · have HF : Hid (decide (p = q) = false) := Lib.hid (decide_eq_false (fun x => e0 (by rw [x])))
      obtain ⟨c1, c2, c3, -⟩ := HAB.out
      rw [decide_eq_false e0] at c3
      clear hb e0
      go_enter Try.func43, Try.ntmps43
      go_wp2_with fail
      refine wp_region_quiet_below (by as_aux_lemma => kernel_rfl) (by as_aux_lemma => kernel_rfl) ?_
      repeat (go_big_quiet_step (first | with_reducible exact c1 _ _ | with_reducible exact c2 _ _ | with_reducible exact c3 _ _))
      refine wpQuiet_nil ?_
      intro _ hw'
      obtain ⟨⟨dq, osq⟩, hw''⟩ := hw'
      subst hw''
      have KF := Lib.hid (HBQ.out dq osq)
      clear k1 k2 l1 l2 he c1 c2 c3 HBQ HAB
      generalize Sort.grow (redrawn _ dq) osq = wq at *
      go_wp2
      go_ret
      exact ⟨by rw [HF.out]; rfl, KF.out⟩
    by_cases e1 : p.codes = q.codes
    rotate_left
    · have HF : Hid (decide (p = q) = false) := Lib.hid (decide_eq_false (fun x => e1 (by rw [x])))
      obtain ⟨c1, c2, c3, c4, -⟩ := HAB.out
      rw [decide_eq_true e0] at c3
      rw [decide_eq_false e1] at c4
      clear hb e0 e1
      go_enter Try.func43, Try.ntmps43
      go_wp2_with fail
      refine wp_region_quiet_below (by as_aux_lemma => kernel_rfl) (by as_aux_lemma => kernel_rfl) ?_
      repeat (go_big_quiet_step (first | with_reducible exact c1 _ _ | with_reducible exact c2 _ _ | with_reducible exact c3 _ _ | with_reducible exact c4 _ _))
      refine wpQuiet_nil ?_
      intro _ hw'
      obtain ⟨⟨dq, osq⟩, hw''⟩ := hw'
      subst hw''
      have KF := Lib.hid (HBQ.out dq osq)
      clear k1 k2 l1 l2 he c1 c2 c3 c4 HBQ HAB
      generalize Sort.grow (redrawn _ dq) osq = wq at *
      go_wp2
      go_ret
      exact ⟨by rw [HF.out]; rfl, KF.out⟩
    by_cases e2 : p.filters = q.filters
    rotate_left
    · have HF : Hid (decide (p = q) = false) := Lib.hid (decide_eq_false (fun x => e2 (by rw [x])))
      obtain ⟨c1, c2, c3, c4, c5, -⟩ := HAB.out
      rw [decide_eq_true e0] at c3
      rw [decide_eq_true e1] at c4
      rw [decide_eq_false e2] at c5
      clear hb e0 e1 e2
      go_enter Try.func43, Try.ntmps43
      go_wp2_with fail
      refine wp_region_quiet_below (by as_aux_lemma => kernel_rfl) (by as_aux_lemma => kernel_rfl) ?_
      repeat (go_big_quiet_step (first | with_reducible exact c1 _ _ | with_reducible exact c2 _ _ | with_reducible exact c3 _ _ | with_reducible exact c4 _ _ | with_reducible exact c5 _ _))
      refine wpQuiet_nil ?_
      intro _ hw'
      obtain ⟨⟨dq, osq⟩, hw''⟩ := hw'
      subst hw''
      have KF := Lib.hid (HBQ.out dq osq)
      clear k1 k2 l1 l2 he c1 c2 c3 c4 c5 HBQ HAB
      generalize Sort.grow (redrawn _ dq) osq = wq at *
      go_wp2
      go_ret
      exact ⟨by rw [HF.out]; rfl, KF.out⟩
    have HF : Hid (decide (p = q) = decide (p.props = q.props)) := Lib.hid (by rw [Bool.eq_iff_iff, decide_eq_true_iff, decide_eq_true_iff, HSI.out]; exact ⟨fun x => x.2.2.2.2, fun x => ⟨hb, e0, e1, e2, x⟩⟩)
    obtain ⟨c1, c2, c3, c4, c5, c6⟩ := HAB.out
    rw [decide_eq_true e0] at c3
    rw [decide_eq_true e1] at c4
    rw [decide_eq_true e2] at c5
    clear hb e0 e1 e2
    generalize decide (p.props = q.props) = b6 at *
    go_enter Try.func43, Try.ntmps43
    go_wp2_with fail
    refine wp_region_quiet_below (by as_aux_lemma => kernel_rfl) (by as_aux_lemma => kernel_rfl) ?_
    repeat (go_big_quiet_step (first | with_reducible exact c1 _ _ | with_reducible exact c2 _ _ | with_reducible exact c3 _ _ | with_reducible exact c4 _ _ | with_reducible exact c5 _ _ | with_reducible exact c6 _ _))
    refine wpQuiet_nil ?_
    intro _ hw'
    obtain ⟨⟨dq, osq⟩, hw''⟩ := hw'
    subst hw''
    have KF := Lib.hid (HBQ.out dq osq)
    clear k1 k2 l1 l2 he c1 c2 c3 c4 c5 c6 HBQ HAB
    generalize Sort.grow (redrawn _ dq) osq = wq at *
    go_wp2
    go_ret
    exact ⟨by rw [HF.out]; rfl, KF.out⟩
end Go.Proofs.Ytdpeljnoaiaplaa
