/- connect: the walks of known, ours, alone, ranges. -/
import Derived.Test.YtngnaenbnmajdaaGreatMPubA
import Derived.BigRegion
namespace Go.Proofs.YtngnaenbnmajdaaGreat
open Go.RowKit
attribute [local go_sem ↓] to_ldPk to_bxPk to_bdPk to_alPk to_stPk
attribute [local go_sem] run_bxPk run_bxPk_agg ld_fresh run_alPk run_bd0 run_bdK run_bdKI run_bdKIC run_bdKC run_bdKICP run_stPk_fresh pkC_0 pkC_1 pkC_2 pkC_3 pkC_4 pkC_5 pkC_6 pkC_7 pkC_8 pkC_9 pkC_10 pkC_11 pkC_12 pkC_13 pkC_14 pkC_15 pkC_16 pkC_17 pkC_18 pkC_19 pkC_20 pkC_21 pkC_22 pkC_23 pkC_24
attribute [local go_sem ↓ high] to_stPk to_stWl to_ldWl
attribute [local go_sem ↓] to_stF
attribute [local go_sem] ld_pw pw_at pw_stwl pw_dstwl pw_stwl0 pw_stwp pw_st0 pw_dst0 pw_st1 pw_dst1 pw_st2 pw_dst2 pw_st3 pw_dst3 pw_st4 pw_dst4 pw_st5 pw_dst5 pw_st6 pw_dst6 pw_st7 pw_dst7 pw_st8 pw_dst8 pw_st9 pw_dst9 pw_st10 pw_dst10 pw_st11 pw_dst11 pw_st12 pw_dst12 pw_st13 pw_dst13 pw_st14 pw_dst14 pw_st15 pw_dst15 pw_st16 pw_dst16 pw_st17 pw_dst17 pw_st18 pw_dst18 pw_st20 pw_dst20 pw_st21 pw_dst21 pw_st22 pw_nil22 pw_st23 pw_nil23 pw_st24 pw_nil24
def cntOurs (k : Int) : Bool := decide (k = 1 ∨ k = 2)
set_option maxHeartbeats 400000 in
set_option maxRecDepth 10000 in
theorem cntKnown_any (v : Int) (w : World) : Calls Tryz.prog 28 #[.int .i64 v] w fun e w' => e = .returned (.bool (hdKnown v)) ∧ w = w' := by
  go_enter Tryz.func28, Tryz.ntmps28
  go_wp2
  all_goals
    go_ret
    refine ⟨ret_bool ?_, rfl⟩
    unfold hdKnown
    by_cases h4 : v = 4 <;> by_cases h5 : v = 5 <;> simp_all
set_option maxHeartbeats 400000 in
set_option maxRecDepth 10000 in
theorem cntOurs_any (k : Int) (w : World) : Calls Tryz.prog 29 #[.int .i64 k] w fun e w' => e = .returned (.bool (cntOurs k)) ∧ w = w' := by
  go_enter Tryz.func29, Tryz.ntmps29
  go_wp2
  all_goals
    go_ret
    refine ⟨ret_bool ?_, rfl⟩
    unfold cntOurs
    by_cases h4 : k = 1 <;> by_cases h5 : k = 2 <;> simp_all

/-- A packet with nothing but what its kind may have. -/
def cntQ (p : Pk) : Pk :=
  if p.kind = 2 then { pk0 with kind := p.kind, props := p.props, session := p.session, code := p.code }
  else { pk0 with kind := p.kind, props := p.props, clean := p.clean, alive := p.alive, client := p.client, hasWill := p.hasWill, will := (if p.hasWill = true then p.will else wl0), hasUser := p.hasUser, user := (if p.hasUser = true then p.user else ⟨#[]⟩), hasPass := p.hasPass, pass := (if p.hasPass = true then p.pass else ⟨#[]⟩) }
def cntH (p : Pk) (h : Hs) : Hs := { hs0 with props := h.props, wp := (if p.kind ≠ 2 ∧ p.hasWill = true then h.wp else hd0) }
def cntP0 (p : Pk) : Pk := { pk0 with kind := p.kind, props := p.props }
theorem cntQ_two {p : Pk} (h : p.kind = 2) : cntQ p = { pk0 with kind := p.kind, props := p.props, session := p.session, code := p.code } := by unfold cntQ; rw [if_pos h]
theorem cntQ_one {p : Pk} (h : p.kind ≠ 2) {a b c : Bool} (ha : p.hasWill = a) (hb : p.hasUser = b) (hc : p.hasPass = c) : cntQ p = { pk0 with kind := p.kind, props := p.props, clean := p.clean, alive := p.alive, client := p.client, hasWill := a, will := (if a = true then p.will else wl0), hasUser := b, user := (if b = true then p.user else ⟨#[]⟩), hasPass := c, pass := (if c = true then p.pass else ⟨#[]⟩) } := by unfold cntQ; rw [if_neg h, ha, hb, hc]
theorem cntQ_len {p : Pk} (x : PkLen p) : PkLen (cntQ p) := by
  unfold cntQ
  split
  · exact ⟨Nat.zero_le _, Nat.zero_le _, Nat.zero_le _, x.2.2.2⟩
  · refine ⟨?_, Nat.zero_le _, Nat.zero_le _, x.2.2.2⟩
    show (if p.hasWill = true then p.will else wl0).props.length ≤ _
    split
    · exact x.1
    · exact Nat.zero_le _
theorem cntQ_in {w : World} {B : Nat} {p : Pk} {h : Hs} (x : PkIn w B p h) : PkIn w B (cntQ p) (cntH p h) := by
  by_cases h2 : p.kind = 2
  · have e1 : cntH p h = { hs0 with props := h.props } := by unfold cntH; rw [if_neg (fun y => y.1 h2)]; rfl
    rw [cntQ_two h2, e1]
    exact ⟨Rd.nil _ _ _ _, Rd.nil _ _ _ _, Rd.nil _ _ _ _, x.props, Nat.zero_le _, Nat.zero_le _, Nat.zero_le _, x.caps.2.2.2⟩
  · rw [cntQ_one h2 rfl rfl rfl]
    cases hw : p.hasWill
    · have e1 : cntH p h = { hs0 with props := h.props } := by unfold cntH; rw [if_neg (fun y => by rw [hw] at y; cases y.2)]; rfl
      rw [e1]
      exact ⟨Rd.nil _ _ _ _, Rd.nil _ _ _ _, Rd.nil _ _ _ _, x.props, Nat.zero_le _, Nat.zero_le _, Nat.zero_le _, x.caps.2.2.2⟩
    · have e1 : cntH p h = { hs0 with props := h.props, wp := h.wp } := by unfold cntH; rw [if_pos ⟨h2, hw⟩]
      rw [e1]
      exact ⟨x.wp, Rd.nil _ _ _ _, Rd.nil _ _ _ _, x.props, x.caps.1, Nat.zero_le _, Nat.zero_le _, x.caps.2.2.2⟩
theorem run_bdKPr (k : Int) (l : List Pr) (A : Option Addr) (n : Nat) (w : World) : (bdPk #[(0, .int .i64 k), (20, .slice A l.length n)]).run Tryz.prog w = .ok (pkV { pk0 with kind := k, props := l } { hs0 with props := ⟨A, n⟩ }) w := by kernel_rfl
theorem same_cnt (p : Pk) (h : Hs) (Q : Pk) (H : Hs) (x : World) (hq : cntQ p = Q) (hh : cntH p h = H) (hi : PkIn x x.heap.size p h) (hn : PkLen p) :
    Calls Tryz.prog 78 #[pkV p h, pkV Q H] x fun e y => e = .returned (.bool (decide (p = cntQ p))) ∧ Below x.heap.size x y := by
  subst hq hh
  exact same_any p (cntQ p) h (cntH p h) x hi (cntQ_in hi) hn (cntQ_len hn)
set_option maxHeartbeats 8000000 in
set_option maxRecDepth 10000 in
theorem alone_any (p : Pk) (h : Hs) (w : World) (ip : PkIn w w.heap.size p h) (ok : PkOk p) :
    Calls Tryz.prog 47 #[pkV p h] w fun e w' => e = .returned (.bool (decide (p = cntQ p))) ∧ Below w.heap.size w w' := by
  have OK := Lib.hid ok
  have IP := Lib.hid ip
  obtain ⟨W, hW, hst⟩ := pwIn_start w p { pk0 with kind := p.kind, props := p.props } h { hs0 with props := ⟨h.props.a, h.props.c⟩ }
  have HW := Lib.hid hW
  have hlt := hW.lt
  have j0 := fun cs => (hW.bk_pw cs).cell
  have i0 := (Bk.fresh w PkT (pkC p h)).cell
  have hl0 : ∀ cs, (ldPk (.pointer (some ⟨w.heap.size, 0, none⟩))).run Tryz.prog (pw W (w.heap.size + 1) cs).drew = .ok (pkV p h) (pw W (w.heap.size + 1) cs).drew := fun cs => ld_bk ((hW.bk_pw cs).drewN 1)
  have hl1 : ∀ q k, (ldPk (.pointer (some ⟨w.heap.size + 1, 0, none⟩))).run Tryz.prog (pw W (w.heap.size + 1) (pkC q k)).drew = .ok (pkV q k) (pw W (w.heap.size + 1) (pkC q k)).drew := fun q k => ld_bk ((pw_bk W (w.heap.size + 1) (pkC q k) hlt).drewN 1)
  have hlw : ∀ cs, (ldWl (.pointer (some ⟨w.heap.size, 15, none⟩))).run Tryz.prog (pw W (w.heap.size + 1) cs).drew = .ok (wlV p.will h.wp) (pw W (w.heap.size + 1) cs).drew := fun cs => ld_wl ((hW.bk_pw cs).drewN 1)
  have hbd := run_bdKPr p.kind p.props h.props.a h.props.c
  have HQI : Hid (∀ x, Below w.heap.size w x → PkIn x x.heap.size p h) := Lib.hid fun x hx => (IP.out.below hx).wider hx.size
  clear ip ok hW
  go_enter Tryz.func47, Tryz.ntmps47
  by_cases h2 : p.kind = 2
  · have e2 : (p.kind == 2) = true := beq_iff_eq.2 h2
    have H2 := Lib.hid h2
    clear h2
    go_wp2_with fail
    go_region
    go_wp2_with fail
    refine (same_cnt p h _ _ _ ((cntQ_two H2.out).trans rfl) (by unfold cntH; rw [if_neg (fun y => y.1 H2.out)]; rfl) (HQI.out _ ((HW.out.kept _).drew)) OK.out.len).mono ?_
    rintro e w1 ⟨rfl, hb⟩
    have HB := Lib.hid (((HW.out.kept _).drew).trans (hb.mono ((HW.out.kept _).drew).size)); clear hb
    go_wp2
    go_ret
    exact ⟨rfl, HB.out⟩
  · have e2 : (p.kind == 2) = false := beq_eq_false_iff_ne.2 h2
    have H2 := Lib.hid h2
    clear h2
    go_wp2_with fail
    go_region
    cases ha : p.hasWill <;> cases hb : p.hasUser <;> cases hc : p.hasPass
    all_goals
      have HABC := Lib.hid (And.intro ha (And.intro hb hc))
      go_wp2_with fail
      refine (same_cnt p h _ _ _ ((cntQ_one H2.out HABC.out.1 HABC.out.2.1 HABC.out.2.2).trans rfl)
        (by unfold cntH; first | (rw [if_neg (fun y => by have := HABC.out.1; rw [y.2] at this; cases this)]; rfl) | (rw [if_pos ⟨H2.out, HABC.out.1⟩])) (HQI.out _ ((HW.out.kept _).drew)) OK.out.len).mono ?_
      rintro e w1 ⟨rfl, hb'⟩
      have HB := Lib.hid (((HW.out.kept _).drew).trans (hb'.mono ((HW.out.kept _).drew).size)); clear hb'
      go_wp2
      go_ret
      exact ⟨rfl, HB.out⟩
end Go.Proofs.YtngnaenbnmajdaaGreat
