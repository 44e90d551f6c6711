/- A part of what the laws stand on: MCnt, MCnp. -/
import Derived.Shelf.Strings.OnBuilder
import Derived.Test.YtbdgkkmbnahgiaaGreatDoorMsG0MPubB
namespace Go.Proofs.YtbdgkkmbnahgiaaGreatDoor
open Go.RowKit
attribute [local go_sem ↓] to_ldPk to_bxPk to_bdPk to_alPk to_stPk
attribute [local go_sem] run_bxPk run_bxPk_agg ld_fresh run_alPk run_bd0 run_bdK run_bdKI run_bdKIC run_bdKC run_bdKICP run_stPk_fresh pkC_0 pkC_1 pkC_2 pkC_3 pkC_4 pkC_5 pkC_6 pkC_7 pkC_8 pkC_9 pkC_10 pkC_11 pkC_12 pkC_13 pkC_14 pkC_15 pkC_16 pkC_17 pkC_18 pkC_19 pkC_20 pkC_21 pkC_22 pkC_23 pkC_24
attribute [local go_sem ↓ high] to_stPk to_stWl to_ldWl
attribute [local go_sem ↓] to_stF
attribute [local go_sem] ld_pw pw_at pw_stwl pw_dstwl pw_stwl0 pw_stwp pw_st0 pw_dst0 pw_st1 pw_dst1 pw_st2 pw_dst2 pw_st3 pw_dst3 pw_st4 pw_dst4 pw_st5 pw_dst5 pw_st6 pw_dst6 pw_st7 pw_dst7 pw_st8 pw_dst8 pw_st9 pw_dst9 pw_st10 pw_dst10 pw_st11 pw_dst11 pw_st12 pw_dst12 pw_st13 pw_dst13 pw_st14 pw_dst14 pw_st15 pw_dst15 pw_st16 pw_dst16 pw_st17 pw_dst17 pw_st18 pw_dst18 pw_st20 pw_dst20 pw_st21 pw_dst21 pw_st22 pw_nil22 pw_st23 pw_nil23 pw_st24 pw_nil24
def cntOurs (k : Int) : Bool := decide (k = 1 ∨ k = 2)
set_option maxHeartbeats 400000 in
set_option maxRecDepth 10000 in
theorem cntKnown_any (v : Int) (w : World) : Calls Tryz.prog 264 #[.int .i64 v] w fun e w' => e = .returned (.bool (hdKnown v)) ∧ w = w' := by
  go_enter Tryz.func264, Tryz.ntmps264
  go_wp2
  all_goals
    go_ret
    refine ⟨ret_bool ?_, rfl⟩
    unfold hdKnown
    by_cases h4 : v = 4 <;> by_cases h5 : v = 5 <;> simp_all
set_option maxHeartbeats 400000 in
set_option maxRecDepth 10000 in
theorem cntOurs_any (k : Int) (w : World) : Calls Tryz.prog 265 #[.int .i64 k] w fun e w' => e = .returned (.bool (cntOurs k)) ∧ w = w' := by
  go_enter Tryz.func265, Tryz.ntmps265
  go_wp2
  all_goals
    go_ret
    refine ⟨ret_bool ?_, rfl⟩
    unfold cntOurs
    by_cases h4 : k = 1 <;> by_cases h5 : k = 2 <;> simp_all

/-- A packet with nothing but what its kind may have. -/
def cntQ (p : Pk) : Pk :=
  if p.kind = 2 then { pk0 with kind := p.kind, props := p.props, session := p.session, code := p.code }
  else { pk0 with kind := p.kind, props := p.props, clean := p.clean, alive := p.alive, client := p.client, hasWill := p.hasWill, will := (if p.hasWill = true then p.will else wl0), hasUser := p.hasUser, user := (if p.hasUser = true then p.user else ⟨#[]⟩), hasPass := p.hasPass, pass := (if p.hasPass = true then p.pass else ⟨#[]⟩) }
def cntH (p : Pk) (h : Hs) : Hs := { hs0 with props := h.props, wp := (if p.kind ≠ 2 ∧ p.hasWill = true then h.wp else hd0) }
theorem cntQ_two {p : Pk} (h : p.kind = 2) : cntQ p = { pk0 with kind := p.kind, props := p.props, session := p.session, code := p.code } := by unfold cntQ; rw [if_pos h]
theorem cntQ_one {p : Pk} (h : p.kind ≠ 2) {a b c : Bool} (ha : p.hasWill = a) (hb : p.hasUser = b) (hc : p.hasPass = c) : cntQ p = { pk0 with kind := p.kind, props := p.props, clean := p.clean, alive := p.alive, client := p.client, hasWill := a, will := (if a = true then p.will else wl0), hasUser := b, user := (if b = true then p.user else ⟨#[]⟩), hasPass := c, pass := (if c = true then p.pass else ⟨#[]⟩) } := by unfold cntQ; rw [if_neg h, ha, hb, hc]
theorem cntQ_len {p : Pk} (x : PkLen p) : PkLen (cntQ p) := by
  unfold cntQ
  split
  · exact ⟨Nat.zero_le _, Nat.zero_le _, Nat.zero_le _, x.2.2.2⟩
  · refine ⟨?_, Nat.zero_le _, Nat.zero_le _, x.2.2.2⟩
    show (if p.hasWill = true then p.will else wl0).props.length ≤ _
    split
    · exact x.1
    · exact Nat.zero_le _
theorem cntQ_in {w : World} {B : Nat} {p : Pk} {h : Hs} (x : PkIn w B p h) : PkIn w B (cntQ p) (cntH p h) := by
  by_cases h2 : p.kind = 2
  · have e1 : cntH p h = { hs0 with props := h.props } := by unfold cntH; rw [if_neg (fun y => y.1 h2)]; rfl
    rw [cntQ_two h2, e1]
    exact ⟨Rd.nil _ _ _ _, Rd.nil _ _ _ _, Rd.nil _ _ _ _, x.props, Nat.zero_le _, Nat.zero_le _, Nat.zero_le _, x.caps.2.2.2⟩
  · rw [cntQ_one h2 rfl rfl rfl]
    cases hw : p.hasWill
    · have e1 : cntH p h = { hs0 with props := h.props } := by unfold cntH; rw [if_neg (fun y => by rw [hw] at y; cases y.2)]; rfl
      rw [e1]
      exact ⟨Rd.nil _ _ _ _, Rd.nil _ _ _ _, Rd.nil _ _ _ _, x.props, Nat.zero_le _, Nat.zero_le _, Nat.zero_le _, x.caps.2.2.2⟩
    · have e1 : cntH p h = { hs0 with props := h.props, wp := h.wp } := by unfold cntH; rw [if_pos ⟨h2, hw⟩]
      rw [e1]
      exact ⟨x.wp, Rd.nil _ _ _ _, Rd.nil _ _ _ _, x.props, x.caps.1, Nat.zero_le _, Nat.zero_le _, x.caps.2.2.2⟩
theorem run_bdKPr (k : Int) (l : List Pr) (A : Option Addr) (n : Nat) (w : World) : (bdPk #[(0, .int .i64 k), (20, .slice A l.length n)]).run Tryz.prog w = .ok (pkV { pk0 with kind := k, props := l } { hs0 with props := ⟨A, n⟩ }) w := by kernel_rfl
theorem same_cnt (p : Pk) (h : Hs) (Q : Pk) (H : Hs) (x : World) (hq : cntQ p = Q) (hh : cntH p h = H) (hi : PkIn x x.heap.size p h) (hn : PkLen p) :
    Calls Tryz.prog 117 #[pkV p h, pkV Q H] x fun e y => e = .returned (.bool (decide (p = cntQ p))) ∧ Below x.heap.size x y := by
  subst hq hh
  exact same_any p (cntQ p) h (cntH p h) x hi (cntQ_in hi) hn (cntQ_len hn)
set_option maxHeartbeats 8000000 in
set_option maxRecDepth 10000 in
theorem alone_any (p : Pk) (h : Hs) (w : World) (ip : PkIn w w.heap.size p h) (ok : PkOk p) :
    Calls Tryz.prog 326 #[pkV p h] w fun e w' => e = .returned (.bool (decide (p = cntQ p))) ∧ Below w.heap.size w w' := by
  have OK := Lib.hid ok
  have IP := Lib.hid ip
  obtain ⟨W, hW, hst⟩ := pwIn_start w p { pk0 with kind := p.kind, props := p.props } h { hs0 with props := ⟨h.props.a, h.props.c⟩ }
  have HW := Lib.hid hW
  have hlt := hW.lt
  have j0 := fun cs => (hW.bk_pw cs).cell
  have i0 := (Bk.fresh w PkT (pkC p h)).cell
  have hl0 : ∀ cs, (ldPk (.pointer (some ⟨w.heap.size, 0, none⟩))).run Tryz.prog (pw W (w.heap.size + 1) cs).drew = .ok (pkV p h) (pw W (w.heap.size + 1) cs).drew := fun cs => ld_bk ((hW.bk_pw cs).drewN 1)
  have hl1 : ∀ q k, (ldPk (.pointer (some ⟨w.heap.size + 1, 0, none⟩))).run Tryz.prog (pw W (w.heap.size + 1) (pkC q k)).drew = .ok (pkV q k) (pw W (w.heap.size + 1) (pkC q k)).drew := fun q k => ld_bk ((pw_bk W (w.heap.size + 1) (pkC q k) hlt).drewN 1)
  have hlw : ∀ cs, (ldWl (.pointer (some ⟨w.heap.size, 15, none⟩))).run Tryz.prog (pw W (w.heap.size + 1) cs).drew = .ok (wlV p.will h.wp) (pw W (w.heap.size + 1) cs).drew := fun cs => ld_wl ((hW.bk_pw cs).drewN 1)
  have hbd := run_bdKPr p.kind p.props h.props.a h.props.c
  have HQI : Hid (∀ x, Below w.heap.size w x → PkIn x x.heap.size p h) := Lib.hid fun x hx => (IP.out.below hx).wider hx.size
  clear ip ok hW
  go_enter Tryz.func326, Tryz.ntmps326
  by_cases h2 : p.kind = 2
  · have e2 : (p.kind == 2) = true := beq_iff_eq.2 h2
    have H2 := Lib.hid h2
    clear h2
    go_wp2_with fail
    go_region
    go_wp2_with fail
    refine (same_cnt p h _ _ _ ((cntQ_two H2.out).trans rfl) (by unfold cntH; rw [if_neg (fun y => y.1 H2.out)]; rfl) (HQI.out _ ((HW.out.kept _).drew)) OK.out.len).mono ?_
    rintro e w1 ⟨rfl, hb⟩
    have HB := Lib.hid (((HW.out.kept _).drew).trans (hb.mono ((HW.out.kept _).drew).size)); clear hb
    go_wp2
    go_ret
    exact ⟨rfl, HB.out⟩
  · have e2 : (p.kind == 2) = false := beq_eq_false_iff_ne.2 h2
    have H2 := Lib.hid h2
    clear h2
    go_wp2_with fail
    go_region
    cases ha : p.hasWill <;> cases hb : p.hasUser <;> cases hc : p.hasPass
    all_goals
      have HABC := Lib.hid (And.intro ha (And.intro hb hc))
      go_wp2_with fail
      refine (same_cnt p h _ _ _ ((cntQ_one H2.out HABC.out.1 HABC.out.2.1 HABC.out.2.2).trans rfl)
        (by unfold cntH; first | (rw [if_neg (fun y => by have := HABC.out.1; rw [y.2] at this; cases this)]; rfl) | (rw [if_pos ⟨H2.out, HABC.out.1⟩])) (HQI.out _ ((HW.out.kept _).drew)) OK.out.len).mono ?_
      rintro e w1 ⟨rfl, hb'⟩
      have HB := Lib.hid (((HW.out.kept _).drew).trans (hb'.mono ((HW.out.kept _).drew).size)); clear hb'
      go_wp2
      go_ret
      exact ⟨rfl, HB.out⟩
end Go.Proofs.YtbdgkkmbnahgiaaGreatDoor

namespace Go.Proofs.YtbdgkkmbnahgiaaGreatDoor
open Go.RowKit
attribute [local go_sem ↓] to_ldPk to_bxPk to_bdPk to_alPk to_stPk
attribute [local go_sem] run_bxPk run_bxPk_agg ld_fresh run_alPk run_bd0 run_bdK run_bdKI run_bdKIC run_bdKC run_bdKICP run_stPk_fresh pkC_0 pkC_1 pkC_2 pkC_3 pkC_4 pkC_5 pkC_6 pkC_7 pkC_8 pkC_9 pkC_10 pkC_11 pkC_12 pkC_13 pkC_14 pkC_15 pkC_16 pkC_17 pkC_18 pkC_19 pkC_20 pkC_21 pkC_22 pkC_23 pkC_24
def cntCode (v : Int) (p : Pk) : Bool := if v = 4 then retB p.code else may p.kind p.code
def cntRng (v : Int) (p : Pk) : Bool :=
  if v = 4 ∧ 0 < p.props.length + p.will.props.length then false
  else if p.kind = 2 then cntCode v p && (decide (p.code = 0) || !p.session)
  else if v = 4 ∧ ((p.client.size = 0 ∧ p.clean = false) ∨ (p.hasPass = true ∧ p.hasUser = false)) then false
  else decide (0 ≤ p.alive ∧ p.alive < 65536 ∧ 0 ≤ p.will.qos ∧ p.will.qos ≤ 2)
set_option maxHeartbeats 8000000 in
set_option maxRecDepth 10000 in
theorem cntRng_any (v : Int) (p : Pk) (h : Hs) (w : World) (ip : PkIn w w.heap.size p h) (ok : PkOk p) :
    Calls Tryz.prog 327 #[.int .i64 v, pkV p h] w fun e w' => e = .returned (.bool (cntRng v p)) ∧ Below w.heap.size w w' := by
  have OK := Lib.hid ok
  have S0 := Lib.hid ((St.start w).push ip)
  have HE : Hid (cntRng v p = if v = 4 ∧ 0 < p.props.length + p.will.props.length then false
    else if p.kind = 2 then cntCode v p && (decide (p.code = 0) || !p.session)
    else if v = 4 ∧ ((p.client.size = 0 ∧ p.clean = false) ∨ (p.hasPass = true ∧ p.hasUser = false)) then false
    else decide (0 ≤ p.alive ∧ p.alive < 65536 ∧ 0 ≤ p.will.qos ∧ p.will.qos ≤ 2)) := Lib.hid rfl
  have k0 := S0.out.cell 0 rfl
  have hsum : IntKind.i64.wrap ((p.props.length : Int) + (p.will.props.length : Int)) = (p.props.length : Int) + (p.will.props.length : Int) := by
    rw [IntKind.wrap_i64]; have := ok.lens; omega
  have hem := emptyB_iff p.client
  clear ip ok
  go_enter Tryz.func327, Tryz.ntmps327
  by_cases h1 : v = 4 ∧ 0 < p.props.length + p.will.props.length
  · have HX : Hid (cntRng v p = false) := Lib.hid (by rw [HE.out, if_pos h1])
    have e4 : (v == 4) = true := beq_iff_eq.2 h1.1
    have d1 : (0 : Int) < (p.props.length : Int) + (p.will.props.length : Int) := by omega
    clear h1
    go_wp2
    go_ret
    exact ⟨by rw [HX.out]; rfl, S0.out.kept⟩
  have HE1 : Hid (cntRng v p = if p.kind = 2 then cntCode v p && (decide (p.code = 0) || !p.session)
    else if v = 4 ∧ ((p.client.size = 0 ∧ p.clean = false) ∨ (p.hasPass = true ∧ p.hasUser = false)) then false
    else decide (0 ≤ p.alive ∧ p.alive < 65536 ∧ 0 ≤ p.will.qos ∧ p.will.qos ≤ 2)) := Lib.hid (by rw [HE.out, if_neg h1])
  obtain ⟨b4, hb4⟩ : ∃ b : Bool, (v == 4) = b := ⟨_, rfl⟩
  have D1 : b4 = true → (p.props.length : Int) + (p.will.props.length : Int) ≤ 0 := fun hb => by
    have : v = 4 := beq_iff_eq.1 (hb4.trans hb)
    have := fun z => h1 ⟨this, z⟩
    omega
  have V4 : (v = 4) ↔ b4 = true := by rw [← hb4]; exact beq_iff_eq.symm
  have HV4 := Lib.hid V4
  clear h1 V4
  by_cases h2 : p.kind = 2
  · have e2 : (p.kind == 2) = true := beq_iff_eq.2 h2
    have HE2 : Hid (cntRng v p = (cntCode v p && (decide (p.code = 0) || !p.session))) := Lib.hid (by rw [HE1.out, if_pos h2])
    clear h2
    cases b4
    · have HC : Hid (cntCode v p = may p.kind p.code) := Lib.hid (by unfold cntCode; rw [if_neg (fun y => by have := HV4.out.1 y; cases this)])
      clear D1
      go_wp2_with fail
      refine (may_any p.kind p.code _).mono ?_
      rintro e w1 ⟨rfl, hb⟩
      have S1 := Lib.hid (S0.out.below hb); clear hb k0
      have k1 := S1.out.cell 0 rfl
      cases hm : may p.kind p.code
      · have HX : Hid (cntRng v p = false) := Lib.hid (by rw [HE2.out, HC.out, hm]; rfl)
        clear hm
        go_wp2
        go_ret
        exact ⟨by rw [HX.out]; rfl, S1.out.kept⟩
      · by_cases hc : p.code = 0
        · have ec : (p.code == 0) = true := beq_iff_eq.2 hc
          have HX : Hid (cntRng v p = true) := Lib.hid (by rw [HE2.out, HC.out, hm, decide_eq_true hc]; rfl)
          clear hm hc
          go_wp2
          go_ret
          exact ⟨by rw [HX.out]; rfl, S1.out.kept⟩
        · have ec : (p.code == 0) = false := beq_eq_false_iff_ne.2 hc
          have HX : Hid (cntRng v p = !p.session) := Lib.hid (by rw [HE2.out, HC.out, hm, decide_eq_false hc]; rfl)
          clear hm hc
          go_wp2
          go_ret
          exact ⟨by rw [HX.out]; rfl, S1.out.kept⟩
    · have HC : Hid (cntCode v p = retB p.code) := Lib.hid (by unfold cntCode; rw [if_pos (HV4.out.2 rfl)])
      have d1 := D1 rfl
      clear D1
      go_wp2_with fail
      refine (may_any p.kind p.code _).mono ?_
      rintro e w1 ⟨rfl, hb⟩
      have S1 := Lib.hid (S0.out.below hb); clear hb k0
      have k1 := S1.out.cell 0 rfl
      go_wp2_with fail
      refine (return_any p.code _).mono ?_
      rintro e w2 ⟨rfl, rfl⟩
      cases hm : retB p.code
      · have HX : Hid (cntRng v p = false) := Lib.hid (by rw [HE2.out, HC.out, hm]; rfl)
        clear hm
        go_wp2
        go_ret
        exact ⟨by rw [HX.out]; rfl, S1.out.kept⟩
      · by_cases hc : p.code = 0
        · have ec : (p.code == 0) = true := beq_iff_eq.2 hc
          have HX : Hid (cntRng v p = true) := Lib.hid (by rw [HE2.out, HC.out, hm, decide_eq_true hc]; rfl)
          clear hm hc
          go_wp2
          go_ret
          exact ⟨by rw [HX.out]; rfl, S1.out.kept⟩
        · have ec : (p.code == 0) = false := beq_eq_false_iff_ne.2 hc
          have HX : Hid (cntRng v p = !p.session) := Lib.hid (by rw [HE2.out, HC.out, hm, decide_eq_false hc]; rfl)
          clear hm hc
          go_wp2
          go_ret
          exact ⟨by rw [HX.out]; rfl, S1.out.kept⟩
  · have e2 : (p.kind == 2) = false := beq_eq_false_iff_ne.2 h2
    have HE2 : Hid (cntRng v p = if v = 4 ∧ ((p.client.size = 0 ∧ p.clean = false) ∨ (p.hasPass = true ∧ p.hasUser = false)) then false
      else decide (0 ≤ p.alive ∧ p.alive < 65536 ∧ 0 ≤ p.will.qos ∧ p.will.qos ≤ 2)) := Lib.hid (by rw [HE1.out, if_neg h2])
    clear h2
    have NUM : ∀ (hn : cntRng v p = decide (0 ≤ p.alive ∧ p.alive < 65536 ∧ 0 ≤ p.will.qos ∧ p.will.qos ≤ 2)),
      (¬ 0 ≤ p.alive ∧ cntRng v p = false) ∨ (0 ≤ p.alive ∧ ¬ p.alive < 65536 ∧ cntRng v p = false) ∨ (0 ≤ p.alive ∧ p.alive < 65536 ∧ ¬ 0 ≤ p.will.qos ∧ cntRng v p = false) ∨ (0 ≤ p.alive ∧ p.alive < 65536 ∧ 0 ≤ p.will.qos ∧ cntRng v p = decide (p.will.qos ≤ 2)) := fun hn => by
      rw [hn]
      by_cases a1 : 0 ≤ p.alive
      · by_cases a2 : p.alive < 65536
        · by_cases a3 : 0 ≤ p.will.qos
          · exact .inr (.inr (.inr ⟨a1, a2, a3, decide_eq_decide.2 ⟨fun y => y.2.2.2, fun y => ⟨a1, a2, a3, y⟩⟩⟩))
          · exact .inr (.inr (.inl ⟨a1, a2, a3, decide_eq_false (fun y => a3 y.2.2.1)⟩))
        · exact .inr (.inl ⟨a1, a2, decide_eq_false (fun y => a2 y.2.1)⟩)
      · exact .inl ⟨a1, decide_eq_false (fun y => a1 y.1)⟩
    have HNUM := Lib.hid NUM
    clear NUM
    cases b4
    · have HN := Lib.hid (HNUM.out (by rw [HE2.out, if_neg (fun y => by have := HV4.out.1 y.1; cases this)]))
      clear D1
      rcases HN.out with ⟨a1, hx⟩ | ⟨a1, a2, hx⟩ | ⟨a1, a2, a3, hx⟩ | ⟨a1, a2, a3, hx⟩
      · have HX := Lib.hid hx
        have a1' : p.alive < 0 := by omega
        clear hx a1
        go_wp2
        go_ret
        exact ⟨by rw [HX.out]; rfl, S0.out.kept⟩
      · have HX := Lib.hid hx
        have a2' : 65536 ≤ p.alive := by omega
        clear hx a2
        go_wp2
        go_ret
        exact ⟨by rw [HX.out]; rfl, S0.out.kept⟩
      · have HX := Lib.hid hx
        have a3' : p.will.qos < 0 := by omega
        clear hx a3
        go_wp2
        go_ret
        exact ⟨by rw [HX.out]; rfl, S0.out.kept⟩
      · have HX := Lib.hid hx
        clear hx
        go_wp2
        go_ret
        exact ⟨by rw [HX.out]; rfl, S0.out.kept⟩
    · have d1 := D1 rfl
      clear D1
      by_cases hc : p.client.size = 0 ∧ p.clean = false
      · have HX : Hid (cntRng v p = false) := Lib.hid (by rw [HE2.out, if_pos ⟨HV4.out.2 rfl, .inl hc⟩])
        rw [decide_eq_true hc.1] at hem
        have ec := hc.2
        clear hc
        go_wp2
        go_ret
        exact ⟨by rw [HX.out]; rfl, S0.out.kept⟩
      · by_cases hq : p.hasPass = true ∧ p.hasUser = false
        · have HX : Hid (cntRng v p = false) := Lib.hid (by rw [HE2.out, if_pos ⟨HV4.out.2 rfl, .inr hq⟩])
          obtain ⟨q1, q2⟩ := hq
          by_cases hz : p.client.size = 0
          · rw [decide_eq_true hz] at hem
            have ec : p.clean = true := by
              cases e : p.clean
              · exact absurd ⟨hz, e⟩ hc
              · rfl
            clear hc hz
            go_wp2
            go_ret
            exact ⟨by rw [HX.out]; rfl, S0.out.kept⟩
          · rw [decide_eq_false hz] at hem
            clear hc hz
            go_wp2
            go_ret
            exact ⟨by rw [HX.out]; rfl, S0.out.kept⟩
        · have HN := Lib.hid (HNUM.out (by rw [HE2.out, if_neg (fun y => y.2.elim hc hq)]))
          have HC := Lib.hid (And.intro hc hq)
          have hcz : (p.client.toList.isEmpty = false) ∨ (p.client.toList.isEmpty = true ∧ p.clean = true) := by
            by_cases hz : p.client.size = 0
            · rw [decide_eq_true hz] at hem
              refine .inr ⟨hem, ?_⟩
              cases e : p.clean
              · exact absurd ⟨hz, e⟩ hc
              · rfl
            · rw [decide_eq_false hz] at hem
              exact .inl hem
          have hqz : p.hasPass = false ∨ (p.hasPass = true ∧ p.hasUser = true) := by
            cases e : p.hasPass
            · exact .inl rfl
            · refine .inr ⟨rfl, ?_⟩
              cases e2 : p.hasUser
              · exact absurd ⟨e, e2⟩ hq
              · rfl
          clear hc hq hem
          rcases hcz with z1 | ⟨z1, z2⟩ <;> rcases hqz with y1 | ⟨y1, y2⟩
          all_goals
            rcases HN.out with ⟨a1, hx⟩ | ⟨a1, a2, hx⟩ | ⟨a1, a2, a3, hx⟩ | ⟨a1, a2, a3, hx⟩
            · have HX := Lib.hid hx
              have a1' : p.alive < 0 := by omega
              clear hx a1
              go_wp2
              go_ret
              exact ⟨by rw [HX.out]; rfl, S0.out.kept⟩
            · have HX := Lib.hid hx
              have a2' : 65536 ≤ p.alive := by omega
              clear hx a2
              go_wp2
              go_ret
              exact ⟨by rw [HX.out]; rfl, S0.out.kept⟩
            · have HX := Lib.hid hx
              have a3' : p.will.qos < 0 := by omega
              clear hx a3
              go_wp2
              go_ret
              exact ⟨by rw [HX.out]; rfl, S0.out.kept⟩
            · have HX := Lib.hid hx
              clear hx
              go_wp2
              go_ret
              exact ⟨by rw [HX.out]; rfl, S0.out.kept⟩
end Go.Proofs.YtbdgkkmbnahgiaaGreatDoor

namespace Go.Proofs.YtbdgkkmbnahgiaaGreatDoor
open Go.RowKit
attribute [local go_sem ↓] to_ldPk to_bxPk to_bdPk to_alPk to_stPk
attribute [local go_sem] run_bxPk run_bxPk_agg ld_fresh run_alPk run_bd0 run_bdK run_bdKI run_bdKIC run_bdKC run_bdKICP run_stPk_fresh pkC_0 pkC_1 pkC_2 pkC_3 pkC_4 pkC_5 pkC_6 pkC_7 pkC_8 pkC_9 pkC_10 pkC_11 pkC_12 pkC_13 pkC_14 pkC_15 pkC_16 pkC_17 pkC_18 pkC_19 pkC_20 pkC_21 pkC_22 pkC_23 pkC_24
def cntArg (v : Int) (p : Pk) : Bool := hdKnown v && (cntOurs p.kind && (decide (p = cntQ p) && cntRng v p))
def cntE (v : Int) (p : Pk) : Int :=
  if cntArg v p = false then 2
  else if validB p.client = false ∨ validB p.user = false then 6
  else if p.hasWill = true ∧ nameB p.will.topic = false then 10
  else if 65535 < p.will.payload.size ∨ 65535 < p.pass.size then 2
  else if (bytesS p.kind p.props).2 ≠ 0 then (bytesS p.kind p.props).2
  else (bytesS 16 p.will.props).2
set_option maxHeartbeats 8000000 in
set_option maxRecDepth 10000 in
theorem cntValid_any (v : Int) (p : Pk) (h : Hs) (w : World) (ip : PkIn w w.heap.size p h) (ok : PkOk p) :
    Calls Tryz.prog 259 #[.int .i64 v, pkV p h] w fun e w' => e = .returned (.int .i64 (cntE v p)) ∧ Below w.heap.size w w' := by
  have OK := Lib.hid ok
  have S0 := Lib.hid ((St.start w).push ip)
  have HE : Hid (cntE v p = if cntArg v p = false then 2
    else if validB p.client = false ∨ validB p.user = false then 6
    else if p.hasWill = true ∧ nameB p.will.topic = false then 10
    else if 65535 < p.will.payload.size ∨ 65535 < p.pass.size then 2
    else if (bytesS p.kind p.props).2 ≠ 0 then (bytesS p.kind p.props).2
    else (bytesS 16 p.will.props).2) := Lib.hid rfl
  have HA : Hid (cntArg v p = (hdKnown v && (cntOurs p.kind && (decide (p = cntQ p) && cntRng v p)))) := Lib.hid rfl
  have k0 := S0.out.cell 0 rfl
  have l0 := S0.out.ld 0 rfl
  clear ip ok
  go_enter Tryz.func259, Tryz.ntmps259
  go_wp2_with fail
  refine (cntKnown_any v _).mono ?_
  rintro e w1 ⟨rfl, rfl⟩
  cases hk : hdKnown v
  · have HX : Hid (cntE v p = 2) := Lib.hid (by rw [HE.out, if_pos (by rw [HA.out, hk]; rfl)])
    clear hk
    go_wp2
    go_ret
    exact ⟨by rw [HX.out]; rfl, S0.out.kept⟩
  have HA1 : Hid (cntArg v p = (cntOurs p.kind && (decide (p = cntQ p) && cntRng v p))) := Lib.hid (by rw [HA.out, hk, Bool.true_and])
  clear hk
  go_wp2_with fail
  refine (cntOurs_any p.kind _).mono ?_
  rintro e w1 ⟨rfl, rfl⟩
  cases hk : cntOurs p.kind
  · have HX : Hid (cntE v p = 2) := Lib.hid (by rw [HE.out, if_pos (by rw [HA1.out, hk]; rfl)])
    clear hk
    go_wp2
    go_ret
    exact ⟨by rw [HX.out]; rfl, S0.out.kept⟩
  have HA2 : Hid (cntArg v p = (decide (p = cntQ p) && cntRng v p)) := Lib.hid (by rw [HA1.out, hk, Bool.true_and])
  clear hk
  go_wp2_with fail
  refine (alone_any p h _ (S0.out.into 0 rfl) OK.out).mono ?_
  rintro e w1 ⟨rfl, hb⟩
  have S1 := Lib.hid (S0.out.below hb); clear hb k0 l0
  have k0 := S1.out.cell 0 rfl
  have l0 := S1.out.ld 0 rfl
  by_cases hs : p = cntQ p
  rotate_left
  · rw [decide_eq_false hs]
    have HX : Hid (cntE v p = 2) := Lib.hid (by rw [HE.out, if_pos (by rw [HA2.out, decide_eq_false hs]; rfl)])
    clear hs
    go_wp2
    go_ret
    exact ⟨by rw [HX.out]; rfl, S1.out.kept⟩
  rw [decide_eq_true hs]
  have HA3 : Hid (cntArg v p = cntRng v p) := Lib.hid (by rw [HA2.out, decide_eq_true hs, Bool.true_and])
  clear hs
  go_wp2_with fail
  refine (cntRng_any v p h _ (S1.out.into 0 rfl) OK.out).mono ?_
  rintro e w2 ⟨rfl, hb⟩
  have S2 := Lib.hid (S1.out.below hb); clear hb k0 l0
  have k0 := S2.out.cell 0 rfl
  cases hr : cntRng v p
  · have HX : Hid (cntE v p = 2) := Lib.hid (by rw [HE.out, if_pos (by rw [HA3.out, hr])])
    clear hr
    go_wp2
    go_ret
    exact ⟨by rw [HX.out]; rfl, S2.out.kept⟩
  have HE1 : Hid (cntE v p = if validB p.client = false ∨ validB p.user = false then 6
    else if p.hasWill = true ∧ nameB p.will.topic = false then 10
    else if 65535 < p.will.payload.size ∨ 65535 < p.pass.size then 2
    else if (bytesS p.kind p.props).2 ≠ 0 then (bytesS p.kind p.props).2
    else (bytesS 16 p.will.props).2) := Lib.hid (by rw [HE.out, if_neg (by rw [HA3.out, hr]; decide)])
  clear hr
  go_wp2_with fail
  refine (valid_any p.client _ (by have := OK.out.texts; omega)).mono ?_
  rintro e w3 ⟨rfl, hb⟩
  have S3 := Lib.hid (S2.out.below hb); clear hb k0
  have k0 := S3.out.cell 0 rfl
  cases hc : validB p.client
  · have HX : Hid (cntE v p = 6) := Lib.hid (by rw [HE1.out, if_pos (.inl hc)])
    clear hc
    go_wp2
    go_ret
    exact ⟨by rw [HX.out]; rfl, S3.out.kept⟩
  go_wp2_with fail
  refine (valid_any p.user _ (by have := OK.out.texts; omega)).mono ?_
  rintro e w4 ⟨rfl, hb⟩
  have S4 := Lib.hid (S3.out.below hb); clear hb k0
  have k0 := S4.out.cell 0 rfl
  cases hu : validB p.user
  · have HX : Hid (cntE v p = 6) := Lib.hid (by rw [HE1.out, if_pos (.inr hu)])
    clear hc hu
    go_wp2
    go_ret
    exact ⟨by rw [HX.out]; rfl, S4.out.kept⟩
  have HE2 : Hid (cntE v p = if p.hasWill = true ∧ nameB p.will.topic = false then 10
    else if 65535 < p.will.payload.size ∨ 65535 < p.pass.size then 2
    else if (bytesS p.kind p.props).2 ≠ 0 then (bytesS p.kind p.props).2
    else (bytesS 16 p.will.props).2) := Lib.hid (by rw [HE1.out, if_neg (fun y => y.elim (fun z => by rw [hc] at z; cases z) (fun z => by rw [hu] at z; cases z))])
  clear hc hu
  obtain ⟨hw, hhw⟩ : ∃ b, p.hasWill = b := ⟨_, rfl⟩
  cases hw
  · have HE3 : Hid (cntE v p = if 65535 < p.will.payload.size ∨ 65535 < p.pass.size then 2
      else if (bytesS p.kind p.props).2 ≠ 0 then (bytesS p.kind p.props).2
      else (bytesS 16 p.will.props).2) := Lib.hid (by rw [HE2.out, if_neg (fun y => by rw [hhw] at y; cases y.1)])
    have S5 := S4
    by_cases hy : 65535 < p.will.payload.size
    · have d1 : (65535 : Int) < (p.will.payload.size : Int) := by omega
      have HX : Hid (cntE v p = 2) := Lib.hid (by rw [HE3.out, if_pos (.inl hy)])
      clear hy
      go_wp2
      go_ret
      exact ⟨by rw [HX.out]; rfl, S5.out.kept⟩
    have d1 : (p.will.payload.size : Int) ≤ 65535 := by omega
    by_cases hz : 65535 < p.pass.size
    · have d2 : (65535 : Int) < (p.pass.size : Int) := by omega
      have HX : Hid (cntE v p = 2) := Lib.hid (by rw [HE3.out, if_pos (.inr hz)])
      clear hy hz
      go_wp2
      go_ret
      exact ⟨by rw [HX.out]; rfl, S5.out.kept⟩
    have d2 : (p.pass.size : Int) ≤ 65535 := by omega
    have HE4 : Hid (cntE v p = if (bytesS p.kind p.props).2 ≠ 0 then (bytesS p.kind p.props).2 else (bytesS 16 p.will.props).2) := Lib.hid (by rw [HE3.out, if_neg (fun y => y.elim hy hz)])
    clear hy hz
    go_wp2_with fail
    refine (validP_n p.kind p.props _ rfl OK.out.props h.props.a h.props.c _ (S5.out.into 0 rfl).props OK.out.len.2.2.2).mono ?_
    rintro e w6 ⟨rfl, hb⟩
    have S6 := Lib.hid (S5.out.below hb); clear hb k0
    have k0 := S6.out.cell 0 rfl
    by_cases hp : (bytesS p.kind p.props).2 = 0
    rotate_left
    · have e0 : ((bytesS p.kind p.props).2 != 0) = true := bne_iff_ne.2 hp
      have HX : Hid (cntE v p = (bytesS p.kind p.props).2) := Lib.hid (by rw [HE4.out, if_pos hp])
      clear hp
      go_wp2
      go_ret
      exact ⟨by rw [HX.out]; rfl, S6.out.kept⟩
    rw [hp]
    have HX : Hid (cntE v p = (bytesS 16 p.will.props).2) := Lib.hid (by rw [HE4.out, if_neg (fun y => y hp)])
    clear hp
    go_wp2_with fail
    refine (validP_n 16 p.will.props _ rfl OK.out.wp h.wp.a h.wp.c _ (S6.out.into 0 rfl).wp OK.out.len.1).mono ?_
    rintro e w7 ⟨rfl, hb⟩
    have S7 := Lib.hid (S6.out.below hb); clear hb k0
    go_wp2
    go_ret
    exact ⟨by rw [HX.out]; rfl, S7.out.kept⟩
  · go_wp2_with fail
    refine (name_any p.will.topic _ (by have := OK.out.texts; omega)).mono ?_
    rintro e w5 ⟨rfl, hb⟩
    have S5 := Lib.hid (S4.out.below hb); clear hb k0
    have k0 := S5.out.cell 0 rfl
    cases hn : nameB p.will.topic
    · have HX : Hid (cntE v p = 10) := Lib.hid (by rw [HE2.out, if_pos ⟨hhw, hn⟩])
      clear hn
      go_wp2
      go_ret
      exact ⟨by rw [HX.out]; rfl, S5.out.kept⟩
    have HE3 : Hid (cntE v p = if 65535 < p.will.payload.size ∨ 65535 < p.pass.size then 2
      else if (bytesS p.kind p.props).2 ≠ 0 then (bytesS p.kind p.props).2
      else (bytesS 16 p.will.props).2) := Lib.hid (by rw [HE2.out, if_neg (fun y => by rw [hn] at y; cases y.2)])
    clear hn
    by_cases hy : 65535 < p.will.payload.size
    · have d1 : (65535 : Int) < (p.will.payload.size : Int) := by omega
      have HX : Hid (cntE v p = 2) := Lib.hid (by rw [HE3.out, if_pos (.inl hy)])
      clear hy
      go_wp2
      go_ret
      exact ⟨by rw [HX.out]; rfl, S5.out.kept⟩
    have d1 : (p.will.payload.size : Int) ≤ 65535 := by omega
    by_cases hz : 65535 < p.pass.size
    · have d2 : (65535 : Int) < (p.pass.size : Int) := by omega
      have HX : Hid (cntE v p = 2) := Lib.hid (by rw [HE3.out, if_pos (.inr hz)])
      clear hy hz
      go_wp2
      go_ret
      exact ⟨by rw [HX.out]; rfl, S5.out.kept⟩
    have d2 : (p.pass.size : Int) ≤ 65535 := by omega
    have HE4 : Hid (cntE v p = if (bytesS p.kind p.props).2 ≠ 0 then (bytesS p.kind p.props).2 else (bytesS 16 p.will.props).2) := Lib.hid (by rw [HE3.out, if_neg (fun y => y.elim hy hz)])
    clear hy hz
    go_wp2_with fail
    refine (validP_n p.kind p.props _ rfl OK.out.props h.props.a h.props.c _ (S5.out.into 0 rfl).props OK.out.len.2.2.2).mono ?_
    rintro e w6 ⟨rfl, hb⟩
    have S6 := Lib.hid (S5.out.below hb); clear hb k0
    have k0 := S6.out.cell 0 rfl
    by_cases hp : (bytesS p.kind p.props).2 = 0
    rotate_left
    · have e0 : ((bytesS p.kind p.props).2 != 0) = true := bne_iff_ne.2 hp
      have HX : Hid (cntE v p = (bytesS p.kind p.props).2) := Lib.hid (by rw [HE4.out, if_pos hp])
      clear hp
      go_wp2
      go_ret
      exact ⟨by rw [HX.out]; rfl, S6.out.kept⟩
    rw [hp]
    have HX : Hid (cntE v p = (bytesS 16 p.will.props).2) := Lib.hid (by rw [HE4.out, if_neg (fun y => y hp)])
    clear hp
    go_wp2_with fail
    refine (validP_n 16 p.will.props _ rfl OK.out.wp h.wp.a h.wp.c _ (S6.out.into 0 rfl).wp OK.out.len.1).mono ?_
    rintro e w7 ⟨rfl, hb⟩
    have S7 := Lib.hid (S6.out.below hb); clear hb k0
    go_wp2
    go_ret
    exact ⟨by rw [HX.out]; rfl, S7.out.kept⟩
end Go.Proofs.YtbdgkkmbnahgiaaGreatDoor

namespace Go.Proofs.YtbdgkkmbnahgiaaGreatDoor
open Go.RowKit Go.Shelf
def lays156_ren : Ren := ⟨fun | 156 => 328 | 165 => 368 | 166 => 369 | 169 => 370 | 240 => 381 | 241 => 382 | 276 => 388 | 277 => 389 | n => n, fun | 0 => 0 | 3 => 3 | 4 => 4 | 5 => 5 | 9 => 9 | 20 => 20 | 31 => 55 | 37 => 80 | 70 => 289 | 72 => 291 | 75 => 293 | 76 => 294 | 80 => 91 | 127 => 306 | 164 => 314 | n => n, fun n => n⟩
theorem lays156 : Lays.n156 Tryz.prog lays156_ren where
  mixed := by kernel_rfl
  f156 := Tryz.func328.trans (congrArg some (by kernel_rfl))
  f165 := Tryz.func368.trans (congrArg some (by kernel_rfl))
  f166 := Tryz.func369.trans (congrArg some (by kernel_rfl))
  f169 := Tryz.func370.trans (congrArg some (by kernel_rfl))
  f240 := Tryz.func381.trans (congrArg some (by kernel_rfl))
  f241 := Tryz.func382.trans (congrArg some (by kernel_rfl))
  f276 := Tryz.func388.trans (congrArg some (by kernel_rfl))
  f277 := Tryz.func389.trans (congrArg some (by kernel_rfl))
  t0 := Tryz.underlying0
  a0 := Tryz.isAgg0
  z0 := Tryz.sizeOf0
  v0 := Tryz.zeroValue0
  t3 := Tryz.underlying3
  a3 := Tryz.isAgg3
  z3 := Tryz.sizeOf3
  v3 := Tryz.zeroValue3
  t4 := Tryz.underlying4
  a4 := Tryz.isAgg4
  z4 := Tryz.sizeOf4
  v4 := Tryz.zeroValue4
  t9 := Tryz.underlying9
  a9 := Tryz.isAgg9
  z9 := Tryz.sizeOf9
  v9 := Tryz.zeroValue9
  t20 := Tryz.underlying20
  a20 := Tryz.isAgg20
  z20 := Tryz.sizeOf20
  v20 := Tryz.zeroValue20
  t31 := Tryz.underlying55
  a31 := Tryz.isAgg55
  z31 := Tryz.sizeOf55
  v31 := Tryz.zeroValue55
  t37 := Tryz.underlying80
  a37 := Tryz.isAgg80
  z37 := Tryz.sizeOf80
  v37 := Tryz.zeroValue80
  t70 := Tryz.underlying289
  a70 := Tryz.isAgg289
  z70 := Tryz.sizeOf289
  v70 := Tryz.zeroValue289
  t72 := Tryz.underlying291
  a72 := Tryz.isAgg291
  z72 := Tryz.sizeOf291
  v72 := Tryz.zeroValue291
  t75 := Tryz.underlying293
  a75 := Tryz.isAgg293
  z75 := Tryz.sizeOf293
  v75 := Tryz.zeroValue293
  t76 := Tryz.underlying294
  a76 := Tryz.isAgg294
  z76 := Tryz.sizeOf294
  v76 := Tryz.zeroValue294
  t127 := Tryz.underlying306
  a127 := Tryz.isAgg306
  z127 := Tryz.sizeOf306
  v127 := Tryz.zeroValue306
  t164 := Tryz.underlying314
  a164 := Tryz.isAgg314
  z164 := Tryz.sizeOf314
  v164 := Tryz.zeroValue314
theorem extra156 : Builder.Extra Tryz.prog lays156_ren where
  sizeBuilder := by kernel_rfl
  liesBuilder := by kernel_rfl
  t5 := Tryz.underlying5
  a5 := Tryz.isAgg5
  z5 := Tryz.sizeOf5
  v5 := Tryz.zeroValue5
  infoByte := by kernel_rfl
  cellsByte := by kernel_rfl
  sizeByte := by kernel_rfl
  neB5 := by decide +kernel
/-- Texts, one behind the other. -/
def catL : List ByteArray → ByteArray
  | [] => ⟨#[]⟩
  | x :: l => x ++ catL l
theorem join_flat (l : List (List UInt8)) : Lib.join l [] = l.flatten := by
  cases l with
  | nil => rfl
  | cons x r =>
    rw [Lib.join_cons]
    simp [Lib.joinTail]
theorem cat_ls : ∀ (l : List ByteArray), ls (catL l) = (l.map (·.data.toList)).flatten
  | [] => rfl
  | x :: l => by
    rw [catL, ls_app, cat_ls l]
    rfl
theorem join_cat (l : List ByteArray) : (⟨(Lib.join (l.map (·.data.toList)) (⟨#[]⟩ : ByteArray).data.toList).toArray⟩ : ByteArray) = catL l := by
  apply ls_ext
  rw [ls_mk, cat_ls]
  exact join_flat _
theorem cat_size : ∀ (l : List ByteArray), (Lib.join (l.map (·.data.toList)) (⟨#[]⟩ : ByteArray).data.toList).length = (catL l).size := fun l => by
  rw [← ls_len, ← join_cat, ls_mk]
set_option maxHeartbeats 400000 in
set_option maxRecDepth 10000 in
theorem put8_any (xs : List ByteArray) (n c bk o : Nat) (hn : xs.length = n) (w : World) (hcells : ∀ (j : Nat) x, xs[j]? = some x → w.cell? ⟨bk, o + j, none⟩ = some (.string x)) (hbk : bk < w.heap.size) (hN : n ≤ 1000) (hcap : n ≤ c) (hlen : (catL xs).size ≤ 140737488355328) :
    Calls Tryz.prog 261 #[.slice (some ⟨bk, o, none⟩) n c] w fun e w' => e = .returned (.string (catL xs)) ∧ Below w.heap.size w w' := by
  subst hn
  have HJ := Lib.hid (Any.strings_Join lays156 extra156 bk o c xs ⟨#[]⟩ w hcells hbk (by omega) hcap (by rw [cat_size]; exact hlen))
  rw [join_cat] at HJ
  clear hcells hN hcap hlen
  go_enter Tryz.func261, Tryz.ntmps261
  go_wp2_with fail
  refine (HJ.out).mono ?_
  rintro e w1 ⟨rfl, hb⟩
  have HB := Lib.hid hb; clear hb
  go_wp2
  go_ret
  exact ⟨rfl, HB.out⟩
/-- Properties' bytes, of V5. -/
def tail8 (v k : Int) (l : List Pr) : ByteArray := if v = 4 then ⟨#[]⟩ else ⟨(bytesS k l).1.toArray⟩
set_option maxHeartbeats 400000 in
set_option maxRecDepth 10000 in
theorem tail8_any (v k : Int) (l : List Pr) (n : Nat) (hn : l.length = n) (hok : ∀ p ∈ l, prGood p) (A : Option Addr) (c : Nat) (w : World) (h : Rd w w.heap.size 4 A n (prs l)) (hl : n ≤ 4611686018427387904) :
    Calls Tryz.prog 260 #[.int .i64 v, .int .i64 k, .slice A n c] w fun e w' => e = .returned (.string (tail8 v k l)) ∧ Below w.heap.size w w' := by
  subst hn
  by_cases h4 : v = 4
  · have e4 : (v == 4) = true := beq_iff_eq.2 h4
    have HX : Hid (tail8 v k l = ⟨#[]⟩) := Lib.hid (if_pos h4)
    clear h4 h hok
    go_enter Tryz.func260, Tryz.ntmps260
    go_wp2
    go_ret
    exact ⟨by rw [HX.out]; rfl, Below.refl _ _⟩
  · have e4 : (v == 4) = false := beq_eq_false_iff_ne.2 h4
    have HX : Hid (tail8 v k l = ⟨(bytesS k l).1.toArray⟩) := Lib.hid (if_neg h4)
    clear h4
    go_enter Tryz.func260, Tryz.ntmps260
    go_wp2_with fail
    refine (bytesP_n k l _ rfl hok A c _ h hl).mono ?_
    rintro e w1 ⟨rfl, hb⟩
    have HB := Lib.hid hb; clear hb
    go_wp2
    go_ret
    exact ⟨by rw [HX.out]; rfl, HB.out⟩
end Go.Proofs.YtbdgkkmbnahgiaaGreatDoor

namespace Go.Proofs.YtbdgkkmbnahgiaaGreatDoor
open Go.RowKit
attribute [local go_sem ↓] to_ldPk to_bxPk to_bdPk to_alPk to_stPk
attribute [local go_sem] run_bxPk run_bxPk_agg ld_fresh run_alPk run_bd0 run_bdK run_bdKI run_bdKIC run_bdKC run_bdKICP run_stPk_fresh pkC_0 pkC_1 pkC_2 pkC_3 pkC_4 pkC_5 pkC_6 pkC_7 pkC_8 pkC_9 pkC_10 pkC_11 pkC_12 pkC_13 pkC_14 pkC_15 pkC_16 pkC_17 pkC_18 pkC_19 pkC_20 pkC_21 pkC_22 pkC_23 pkC_24
theorem cells3 (w : World) (a b c : ByteArray) (t : TypeId) : ∀ (j : Nat) x, [a, b, c][j]? = some x → (w.alloc (.cells #[.string a, .string b, .string c] t)).cell? ⟨w.heap.size, 0 + j, none⟩ = some (.string x) := by
  intro j x h
  rw [Nat.zero_add, (Bk.fresh w t #[.string a, .string b, .string c]).cell]
  rcases j with _ | _ | _ | j
  · simp at h; subst h; rfl
  · simp at h; subst h; rfl
  · simp at h; subst h; rfl
  · simp at h
/-- A CONNACK's body. -/
def ackS8 (v : Int) (p : Pk) : ByteArray := catL [⟨#[if p.session = true then 1 else 0]⟩, ⟨(putL p.code.toNat 1).toArray⟩, tail8 v p.kind p.props]
def cntB2 (v : Int) (p : Pk) : ByteArray × Int := if cntE v p = 0 then (ackS8 v p, 0) else (⟨#[]⟩, cntE v p)
theorem ret_range {c : Int} (h : retB c = true) : 0 ≤ c ∧ c < 256 := by
  unfold retB at h
  simp at h
  omega
theorem cntE_parts {v : Int} {p : Pk} (x : cntE v p = 0) : cntArg v p = true ∧ (validB p.client = true ∧ validB p.user = true) ∧ (p.hasWill = true → nameB p.will.topic = true) ∧ (p.will.payload.size ≤ 65535 ∧ p.pass.size ≤ 65535) ∧ (bytesS p.kind p.props).2 = 0 ∧ (bytesS 16 p.will.props).2 = 0 := by
  unfold cntE at x
  by_cases h1 : cntArg v p = false
  · rw [if_pos h1] at x; cases x
  rw [if_neg h1] at x
  by_cases h2 : validB p.client = false ∨ validB p.user = false
  · rw [if_pos h2] at x; cases x
  rw [if_neg h2] at x
  by_cases h3 : p.hasWill = true ∧ nameB p.will.topic = false
  · rw [if_pos h3] at x; cases x
  rw [if_neg h3] at x
  by_cases h4 : 65535 < p.will.payload.size ∨ 65535 < p.pass.size
  · rw [if_pos h4] at x; cases x
  rw [if_neg h4] at x
  by_cases h5 : (bytesS p.kind p.props).2 = 0
  · rw [if_neg (fun y => y h5)] at x
    refine ⟨by simpa using h1, ⟨?_, ?_⟩, fun hw => ?_, ⟨by omega, by omega⟩, h5, x⟩
    · cases e : validB p.client
      · exact absurd (.inl e) h2
      · rfl
    · cases e : validB p.user
      · exact absurd (.inr e) h2
      · rfl
    · cases e : nameB p.will.topic
      · exact absurd ⟨hw, e⟩ h3
      · rfl
  · rw [if_pos h5] at x; exact absurd x h5
theorem cntE_rng {v : Int} {p : Pk} (x : cntE v p = 0) : hdKnown v = true ∧ cntOurs p.kind = true ∧ p = cntQ p ∧ cntRng v p = true := by
  have := (cntE_parts x).1
  unfold cntArg at this
  simp only [Bool.and_eq_true, decide_eq_true_iff] at this
  exact ⟨this.1, this.2.1, this.2.2.1, this.2.2.2⟩
theorem cntE_code {v : Int} {p : Pk} (x : cntE v p = 0) (h2 : p.kind = 2) : 0 ≤ p.code ∧ p.code < 256 := by
  have h := (cntE_rng x).2.2.2
  unfold cntRng at h
  by_cases h1 : v = 4 ∧ 0 < p.props.length + p.will.props.length
  · rw [if_pos h1] at h; cases h
  rw [if_neg h1, if_pos h2] at h
  have hc : cntCode v p = true := (Bool.and_eq_true_iff.1 h).1
  unfold cntCode at hc
  by_cases h4 : v = 4
  · rw [if_pos h4] at hc; exact ret_range hc
  · rw [if_neg h4] at hc; exact may_range hc
set_option maxHeartbeats 4000000 in
set_option maxRecDepth 10000 in
theorem cntBody2_any (v : Int) (p : Pk) (h : Hs) (w : World) (ip : PkIn w w.heap.size p h) (ok : PkOk p) (h2 : p.kind = 2) :
    Calls Tryz.prog 193 #[.int .i64 v, pkV p h] w fun e w' => e = .returned (.tuple #[.string (cntB2 v p).1, .int .i64 (cntB2 v p).2]) ∧ Below w.heap.size w w' := by
  have OK := Lib.hid ok
  have S0 := Lib.hid ((St.start w).push ip)
  have HE : Hid (cntB2 v p = if cntE v p = 0 then (ackS8 v p, 0) else (⟨#[]⟩, cntE v p)) := Lib.hid rfl
  have HS : Hid (ackS8 v p = catL [⟨#[if p.session = true then 1 else 0]⟩, ⟨(putL p.code.toNat 1).toArray⟩, tail8 v p.kind p.props]) := Lib.hid rfl
  have l0 := S0.out.ld 0 rfl
  have H2 := Lib.hid h2
  clear ip ok h2
  go_enter Tryz.func193, Tryz.ntmps193
  go_wp2_with fail
  refine (cntValid_any v p h _ (S0.out.into 0 rfl) OK.out).mono ?_
  rintro e w1 ⟨rfl, hb⟩
  have S1 := Lib.hid (S0.out.below hb); clear hb l0
  by_cases he : cntE v p = 0
  rotate_left
  · have e0 : (cntE v p != 0) = true := bne_iff_ne.2 he
    have HX : Hid (cntB2 v p = (⟨#[]⟩, cntE v p)) := Lib.hid (by rw [HE.out, if_neg he])
    clear he
    go_wp2
    go_ret2
    exact ⟨by rw [HX.out]; rfl, S1.out.kept⟩
  have HX : Hid (cntB2 v p = (ackS8 v p, 0)) := Lib.hid (by rw [HE.out, if_pos he])
  have HB := Lib.hid (bytesS_size p.kind p.props (cntE_parts he).2.2.2.2.1).2
  have hcr := cntE_code he H2.out
  obtain ⟨m, hm, hw1⟩ : ∃ m : Nat, Hid (p.code.toNat = m) ∧ IntKind.u64.wrap p.code = (m : Int) := ⟨_, Lib.hid rfl, by rw [IntKind.wrap_u64]; omega⟩
  have HM : Hid (m < 256) := Lib.hid (by have := hm.out; omega)
  rw [he]
  have k0 := S1.out.cell 0 rfl
  have k0' : w1.cell? ⟨w.heap.size, 0, none⟩ = some (.int .i64 2) := by rw [k0, pkC_0, H2.out]
  have k0a : w1.cell? ⟨w.heap.size, 24, none⟩ = some (.slice h.props.a p.props.length h.props.c) := by rw [k0, pkC_24]
  clear he hcr k0
  go_wp2_with fail
  rw [← H2.out]
  refine (tail8_any v p.kind p.props _ rfl OK.out.props h.props.a h.props.c _ (S1.out.into 0 rfl).props OK.out.len.2.2.2).mono ?_
  rintro e w2 ⟨rfl, hb⟩
  have S2 := Lib.hid (S1.out.below hb); clear hb k0' k0a
  have k0 := S2.out.cell 0 rfl
  have k1 : w2.cell? ⟨w.heap.size, 0, none⟩ = some (.int .i64 2) := by rw [k0, pkC_0, H2.out]
  have k2 : w2.cell? ⟨w.heap.size, 21, none⟩ = some (.int .i64 p.code) := by rw [k0, pkC_21]
  have k3 : w2.cell? ⟨w.heap.size, 20, none⟩ = some (.bool p.session) := by rw [k0, pkC_20]
  obtain ⟨T, hT⟩ : ∃ T, tail8 v p.kind p.props = T := ⟨_, rfl⟩
  have HTS : Hid (T.size ≤ 131075004) := Lib.hid (by
    rw [← hT]
    unfold tail8
    split
    · exact Nat.zero_le _
    · rw [mk_size]; exact HB.out)
  obtain ⟨X, hX⟩ : ∃ X : ByteArray, (⟨(putL m 1).toArray⟩ : ByteArray) = X := ⟨_, rfl⟩
  have HXS : Hid (X.size = 1) := Lib.hid (by rw [← hX, mk_size, putL_len])
  have HXX := Lib.hid hX
  rw [hT, hm.out, hX] at HS
  rw [hT]
  clear hT hX k0
  obtain ⟨ss, hss⟩ : ∃ b, p.session = b := ⟨_, rfl⟩
  rw [hss] at HS k3
  clear hss
  cases ss
  · have HY : Hid (ackS8 v p = catL [⟨#[0]⟩, X, T]) := Lib.hid (by rw [HS.out, if_neg (by decide)])
    clear HS
    go_wp2_with fail
    refine (put_any m 1 _ (by have := HM.out; omega) (by omega) (by omega)).mono ?_
    rintro e w3 ⟨rfl, hb⟩
    have S3 := Lib.hid (S2.out.below hb); clear hb
    rw [HXX.out]
    have S4 := Lib.hid (S3.out.alloc (.cells #[.string ⟨#[0]⟩, .string X, .string T] 9))
    go_wp2_with fail
    refine (put8_any [⟨#[0]⟩, X, T] 3 3 w3.heap.size 0 rfl _ (cells3 w3 _ _ _ _) (by simp) (by omega) (by omega) (by simp only [catL]; rw [ByteArray.size_append, ByteArray.size_append, ByteArray.size_append]; have := HXS.out; have := HTS.out; have e1 : (⟨#[0]⟩ : ByteArray).size = 1 := rfl; have e2 : (⟨#[]⟩ : ByteArray).size = 0 := rfl; omega)).mono ?_
    rintro e w5 ⟨rfl, hb⟩
    have S5 := Lib.hid (S4.out.below hb); clear hb
    go_wp2
    go_ret2
    exact ⟨by rw [HX.out, HY.out]; rfl, S5.out.kept⟩
  · have HY : Hid (ackS8 v p = catL [⟨#[1]⟩, X, T]) := Lib.hid (by rw [HS.out, if_pos rfl])
    clear HS
    go_wp2_with fail
    refine (put_any m 1 _ (by have := HM.out; omega) (by omega) (by omega)).mono ?_
    rintro e w3 ⟨rfl, hb⟩
    have S3 := Lib.hid (S2.out.below hb); clear hb
    rw [HXX.out]
    have S4 := Lib.hid (S3.out.alloc (.cells #[.string ⟨#[1]⟩, .string X, .string T] 9))
    go_wp2_with fail
    refine (put8_any [⟨#[1]⟩, X, T] 3 3 w3.heap.size 0 rfl _ (cells3 w3 _ _ _ _) (by simp) (by omega) (by omega) (by simp only [catL]; rw [ByteArray.size_append, ByteArray.size_append, ByteArray.size_append]; have := HXS.out; have := HTS.out; have e1 : (⟨#[1]⟩ : ByteArray).size = 1 := rfl; have e2 : (⟨#[]⟩ : ByteArray).size = 0 := rfl; omega)).mono ?_
    rintro e w5 ⟨rfl, hb⟩
    have S5 := Lib.hid (S4.out.below hb); clear hb
    go_wp2
    go_ret2
    exact ⟨by rw [HX.out, HY.out]; rfl, S5.out.kept⟩
end Go.Proofs.YtbdgkkmbnahgiaaGreatDoor

namespace Go.Proofs.YtbdgkkmbnahgiaaGreatDoor
open Go.RowKit
attribute [local go_sem ↓] to_ldPk to_bxPk to_bdPk to_alPk to_stPk
attribute [local go_sem] run_bxPk run_bxPk_agg ld_fresh run_alPk run_bd0 run_bdK run_bdKI run_bdKIC run_bdKC run_bdKICP run_stPk_fresh pkC_0 pkC_1 pkC_2 pkC_3 pkC_4 pkC_5 pkC_6 pkC_7 pkC_8 pkC_9 pkC_10 pkC_11 pkC_12 pkC_13 pkC_14 pkC_15 pkC_16 pkC_17 pkC_18 pkC_19 pkC_20 pkC_21 pkC_22 pkC_23 pkC_24

def bitN (b : Bool) (n : Int) : Int := if b = true then n else 0
/-- The flags of a CONNECT. -/
def flN (p : Pk) : Int := bitN p.hasUser 128 + bitN p.hasPass 64 + bitN p.will.retain 32 + p.will.qos % 4 * 8 + bitN p.hasWill 4 + bitN p.clean 2
def flQ (p : Pk) : Int := if p.kind = 1 then flN p else 0
def flL (p : Pk) : List (Bool × Int) := [(p.clean, 2), (p.hasWill, 4), (p.will.retain, 32), (p.hasPass, 64), (p.hasUser, 128)]
def orF (m : Int) : List (Bool × Int) → Int
  | [] => m
  | (b, n) :: l => orF (if b = true then bits BinOp.or IntKind.i64 m n else m) l
theorem low3 (q : Int) : bits BinOp.and IntKind.i64 q 3 = q % 4 := by
  show IntKind.i64.wrap ((BitVec.ofInt 64 q &&& BitVec.ofInt 64 3).toNat : Int) = _
  rw [BitVec.toNat_and, BitVec.toNat_ofInt, show (BitVec.ofInt 64 3).toNat = 2 ^ 2 - 1 from rfl, Nat.and_two_pow_sub_one_eq_mod, IntKind.wrap_i64]
  omega
theorem orF_all : ∀ m : Fin 4, ∀ a b c d e : Bool, orF ((m.1 : Int) * 8) [(a, 2), (b, 4), (c, 32), (d, 64), (e, 128)] = bitN e 128 + bitN d 64 + bitN c 32 + (m.1 : Int) * 8 + bitN b 4 + bitN a 2 := by decide +kernel
theorem orF_end (p : Pk) : orF (p.will.qos % 4 * 8) (flL p) = flN p := by
  obtain ⟨m, hm⟩ : ∃ m : Fin 4, p.will.qos % 4 = (m.1 : Int) := ⟨⟨(p.will.qos % 4).toNat, by omega⟩, by simp only; omega⟩
  unfold flN flL
  rw [hm]
  exact orF_all m _ _ _ _ _
theorem flN_range (p : Pk) : 0 ≤ flN p ∧ flN p < 256 := by
  have : ∀ b n, bitN b n = 0 ∨ bitN b n = n := fun b n => by unfold bitN; split; exact .inr rfl; exact .inl rfl
  unfold flN
  have h1 := this p.hasUser 128; have h2 := this p.hasPass 64; have h3 := this p.will.retain 32; have h4 := this p.hasWill 4; have h5 := this p.clean 2
  omega
set_option maxHeartbeats 4000000 in
set_option maxRecDepth 10000 in
theorem cntFlags_any (p : Pk) (h : Hs) (w : World) :
    Calls Tryz.prog 262 #[pkV p h] w fun e w' => e = .returned (.int .i64 (flQ p)) ∧ Below w.heap.size w w' := by
  have HB0 := Lib.hid ((Below.refl w.heap.size w).alloc (Nat.le_refl _) (.cells (pkC p h) PkT))
  have HP0 := Lib.hid (Bk.fresh w PkT (pkC p h))
  have HF := Lib.hid (orF_end p)
  go_enter Tryz.func262, Tryz.ntmps262
  have k0 := HP0.out.cell 0
  rw [pkC_0] at k0
  by_cases h1 : p.kind = 1
  rotate_left
  · have e1 : (p.kind != 1) = true := bne_iff_ne.2 h1
    have HX : Hid (flQ p = 0) := Lib.hid (if_neg h1)
    clear h1
    go_wp2
    go_ret
    exact ⟨by rw [HX.out]; rfl, HB0.out⟩
  have e1 : (p.kind != 1) = false := by simpa using h1
  have HX : Hid (flQ p = flN p) := Lib.hid (if_pos h1)
  clear h1
  have k7 := HP0.out.cell 7
  have k14 := HP0.out.cell 14
  have k17 := HP0.out.cell 17
  have k18 := HP0.out.cell 18
  have k12 := HP0.out.cell 12
  have k10 := HP0.out.cell 10
  rw [pkC_7] at k7
  rw [pkC_14] at k14
  rw [pkC_17] at k17
  rw [pkC_18] at k18
  rw [pkC_12] at k12
  rw [pkC_10] at k10
  have hl3 := low3 p.will.qos
  have hw3 : IntKind.i64.wrap (p.will.qos % 4 * 8) = p.will.qos % 4 * 8 := by rw [IntKind.wrap_i64]; omega
  go_wp2_with fail
  have HS0 := Lib.hid (Bk.fresh (w.alloc (.cells (pkC p h) PkT)) 260 #[.bool p.clean, .int .i64 2, .bool p.hasWill, .int .i64 4, .bool p.will.retain, .int .i64 32, .bool p.hasPass, .int .i64 64, .bool p.hasUser, .int .i64 128])
  have HB1 := Lib.hid (HB0.out.alloc HB0.out.size (.cells #[.bool p.clean, .int .i64 2, .bool p.hasWill, .int .i64 4, .bool p.will.retain, .int .i64 32, .bool p.hasPass, .int .i64 64, .bool p.hasUser, .int .i64 128] 260))
  rw [show (w.alloc (.cells (pkC p h) PkT)).heap.size = w.heap.size + 1 by simp] at HS0
  clear k0 k7 k14 k17 k18 k12 k10 hl3 hw3 e1
  go_loopw [3, 32] (fun o i wr => ∃ (k : Nat) (m : Int), k ≤ 5 ∧ i = .int .i64 k ∧ o = .int .i64 m ∧ orF m ((flL p).drop k) = flN p ∧ Below w.heap.size w wr ∧ Bk wr (w.heap.size + 1) 260 #[.bool p.clean, .int .i64 2, .bool p.hasWill, .int .i64 4, .bool p.will.retain, .int .i64 32, .bool p.hasPass, .int .i64 64, .bool p.hasUser, .int .i64 128]) (fun _ i _ => 5 - (intOf i).toNat)
  case atStart => exact ⟨0, _, by omega, rfl, rfl, HF.out, HB1.out, HS0.out⟩
  case round =>
    obtain ⟨k, m, hk, rfl, rfl, h0, hs, hg⟩ := hrel
    have H0 := Lib.hid h0; have SR := Lib.hid hs; have GR := Lib.hid hg
    clear h0 hs hg
    obtain rfl | rfl | rfl | rfl | rfl | rfl : k = 0 ∨ k = 1 ∨ k = 2 ∨ k = 3 ∨ k = 4 ∨ k = 5 := by omega
    · have c0 : wr.cell? ⟨w.heap.size + 1, 0, none⟩ = some (.bool p.clean) := GR.out.cell 0
      have c1 : wr.cell? ⟨w.heap.size + 1, 1, none⟩ = some (.int .i64 2) := GR.out.cell 1
      have HD : Hid (orF (if p.clean = true then bits BinOp.or IntKind.i64 m 2 else m) ((flL p).drop 1) = flN p) := Lib.hid (by have h9 := H0.out; exact h9)
      have SA := Lib.hid (SR.out.alloc SR.out.size (.cells #[.bool p.clean, .int .i64 2] 260)); have GA := Lib.hid (fun V : Array Value => GR.out.alloc (.cells V 260))
      obtain ⟨b, hb⟩ : ∃ b, p.clean = b := ⟨_, rfl⟩
      rw [hb] at c0 HD SA
      clear hb
      cases b
      · have HN : Hid (orF m ((flL p).drop 1) = flN p) := Lib.hid (by have h9 := HD.out; rwa [if_neg (by decide)] at h9)
        clear HD
        go_wp2
        go_roundw
        case rel => exact ⟨1, m, by omega, by go_num, rfl, HN.out, SA.out, GA.out _⟩
        case measure => simp [intOf]
      · have HN : Hid (orF (bits BinOp.or IntKind.i64 m 2) ((flL p).drop 1) = flN p) := Lib.hid (by have h9 := HD.out; rwa [if_pos rfl] at h9)
        clear HD
        go_wp2
        go_roundw
        case rel => exact ⟨1, _, by omega, by go_num, rfl, HN.out, SA.out, GA.out _⟩
        case measure => simp [intOf]
    · have c0 : wr.cell? ⟨w.heap.size + 1, 2, none⟩ = some (.bool p.hasWill) := GR.out.cell 2
      have c1 : wr.cell? ⟨w.heap.size + 1, 3, none⟩ = some (.int .i64 4) := GR.out.cell 3
      have HD : Hid (orF (if p.hasWill = true then bits BinOp.or IntKind.i64 m 4 else m) ((flL p).drop 2) = flN p) := Lib.hid (by have h9 := H0.out; exact h9)
      have SA := Lib.hid (SR.out.alloc SR.out.size (.cells #[.bool p.hasWill, .int .i64 4] 260)); have GA := Lib.hid (fun V : Array Value => GR.out.alloc (.cells V 260))
      obtain ⟨b, hb⟩ : ∃ b, p.hasWill = b := ⟨_, rfl⟩
      rw [hb] at c0 HD SA
      clear hb
      cases b
      · have HN : Hid (orF m ((flL p).drop 2) = flN p) := Lib.hid (by have h9 := HD.out; rwa [if_neg (by decide)] at h9)
        clear HD
        go_wp2
        go_roundw
        case rel => exact ⟨2, m, by omega, by go_num, rfl, HN.out, SA.out, GA.out _⟩
        case measure => simp [intOf]
      · have HN : Hid (orF (bits BinOp.or IntKind.i64 m 4) ((flL p).drop 2) = flN p) := Lib.hid (by have h9 := HD.out; rwa [if_pos rfl] at h9)
        clear HD
        go_wp2
        go_roundw
        case rel => exact ⟨2, _, by omega, by go_num, rfl, HN.out, SA.out, GA.out _⟩
        case measure => simp [intOf]
    · have c0 : wr.cell? ⟨w.heap.size + 1, 4, none⟩ = some (.bool p.will.retain) := GR.out.cell 4
      have c1 : wr.cell? ⟨w.heap.size + 1, 5, none⟩ = some (.int .i64 32) := GR.out.cell 5
      have HD : Hid (orF (if p.will.retain = true then bits BinOp.or IntKind.i64 m 32 else m) ((flL p).drop 3) = flN p) := Lib.hid (by have h9 := H0.out; exact h9)
      have SA := Lib.hid (SR.out.alloc SR.out.size (.cells #[.bool p.will.retain, .int .i64 32] 260)); have GA := Lib.hid (fun V : Array Value => GR.out.alloc (.cells V 260))
      obtain ⟨b, hb⟩ : ∃ b, p.will.retain = b := ⟨_, rfl⟩
      rw [hb] at c0 HD SA
      clear hb
      cases b
      · have HN : Hid (orF m ((flL p).drop 3) = flN p) := Lib.hid (by have h9 := HD.out; rwa [if_neg (by decide)] at h9)
        clear HD
        go_wp2
        go_roundw
        case rel => exact ⟨3, m, by omega, by go_num, rfl, HN.out, SA.out, GA.out _⟩
        case measure => simp [intOf]
      · have HN : Hid (orF (bits BinOp.or IntKind.i64 m 32) ((flL p).drop 3) = flN p) := Lib.hid (by have h9 := HD.out; rwa [if_pos rfl] at h9)
        clear HD
        go_wp2
        go_roundw
        case rel => exact ⟨3, _, by omega, by go_num, rfl, HN.out, SA.out, GA.out _⟩
        case measure => simp [intOf]
    · have c0 : wr.cell? ⟨w.heap.size + 1, 6, none⟩ = some (.bool p.hasPass) := GR.out.cell 6
      have c1 : wr.cell? ⟨w.heap.size + 1, 7, none⟩ = some (.int .i64 64) := GR.out.cell 7
      have HD : Hid (orF (if p.hasPass = true then bits BinOp.or IntKind.i64 m 64 else m) ((flL p).drop 4) = flN p) := Lib.hid (by have h9 := H0.out; exact h9)
      have SA := Lib.hid (SR.out.alloc SR.out.size (.cells #[.bool p.hasPass, .int .i64 64] 260)); have GA := Lib.hid (fun V : Array Value => GR.out.alloc (.cells V 260))
      obtain ⟨b, hb⟩ : ∃ b, p.hasPass = b := ⟨_, rfl⟩
      rw [hb] at c0 HD SA
      clear hb
      cases b
      · have HN : Hid (orF m ((flL p).drop 4) = flN p) := Lib.hid (by have h9 := HD.out; rwa [if_neg (by decide)] at h9)
        clear HD
        go_wp2
        go_roundw
        case rel => exact ⟨4, m, by omega, by go_num, rfl, HN.out, SA.out, GA.out _⟩
        case measure => simp [intOf]
      · have HN : Hid (orF (bits BinOp.or IntKind.i64 m 64) ((flL p).drop 4) = flN p) := Lib.hid (by have h9 := HD.out; rwa [if_pos rfl] at h9)
        clear HD
        go_wp2
        go_roundw
        case rel => exact ⟨4, _, by omega, by go_num, rfl, HN.out, SA.out, GA.out _⟩
        case measure => simp [intOf]
    · have c0 : wr.cell? ⟨w.heap.size + 1, 8, none⟩ = some (.bool p.hasUser) := GR.out.cell 8
      have c1 : wr.cell? ⟨w.heap.size + 1, 9, none⟩ = some (.int .i64 128) := GR.out.cell 9
      have HD : Hid (orF (if p.hasUser = true then bits BinOp.or IntKind.i64 m 128 else m) ((flL p).drop 5) = flN p) := Lib.hid (by have h9 := H0.out; exact h9)
      have SA := Lib.hid (SR.out.alloc SR.out.size (.cells #[.bool p.hasUser, .int .i64 128] 260)); have GA := Lib.hid (fun V : Array Value => GR.out.alloc (.cells V 260))
      obtain ⟨b, hb⟩ : ∃ b, p.hasUser = b := ⟨_, rfl⟩
      rw [hb] at c0 HD SA
      clear hb
      cases b
      · have HN : Hid (orF m ((flL p).drop 5) = flN p) := Lib.hid (by have h9 := HD.out; rwa [if_neg (by decide)] at h9)
        clear HD
        go_wp2
        go_roundw
        case rel => exact ⟨5, m, by omega, by go_num, rfl, HN.out, SA.out, GA.out _⟩
        case measure => simp [intOf]
      · have HN : Hid (orF (bits BinOp.or IntKind.i64 m 128) ((flL p).drop 5) = flN p) := Lib.hid (by have h9 := HD.out; rwa [if_pos rfl] at h9)
        clear HD
        go_wp2
        go_roundw
        case rel => exact ⟨5, _, by omega, by go_num, rfl, HN.out, SA.out, GA.out _⟩
        case measure => simp [intOf]
    · have HN : Hid (m = flN p) := Lib.hid H0.out
      go_wp2
      go_ret
      exact ⟨by rw [HX.out, HN.out]; rfl, SR.out⟩
end Go.Proofs.YtbdgkkmbnahgiaaGreatDoor

namespace Go.Proofs.YtbdgkkmbnahgiaaGreatDoor
open Go.RowKit

/-- Bytes with their length, if they can have one. -/
def dataB (s : ByteArray) : ByteArray := if s.size ≤ 65535 then framedS s else ⟨#[]⟩
def cntName : ByteArray := ⟨#[0, 4, 77, 81, 84, 84]⟩
/-- A CONNECT's body, up to the client's name. -/
def cntS1 (v : Int) (p : Pk) : ByteArray := catL [cntName, ⟨(putL v.toNat 1).toArray⟩, ⟨(putL (flN p).toNat 1).toArray⟩, ⟨(putL p.alive.toNat 2).toArray⟩, tail8 v p.kind p.props, dataB p.client]
def cntS2 (v : Int) (p : Pk) : ByteArray := if p.hasWill = true then catL [cntS1 v p, tail8 v 16 p.will.props, dataB p.will.topic, dataB p.will.payload] else cntS1 v p
def cntS3 (v : Int) (p : Pk) : ByteArray := if p.hasUser = true then catL [cntS2 v p, dataB p.user] else cntS2 v p
def cntS (v : Int) (p : Pk) : ByteArray := if p.hasPass = true then catL [cntS3 v p, dataB p.pass] else cntS3 v p
def cntB (v : Int) (p : Pk) : ByteArray × Int := if p.kind = 2 then cntB2 v p else if cntE v p = 0 then (cntS v p, 0) else (⟨#[]⟩, cntE v p)

def failE (e n : Int) : Int := if e = 0 then n else e
theorem failE_zero {e n : Int} (h : failE e n = 0) (hn : n ≠ 0) : False := by
  unfold failE at h
  split at h
  · exact hn h
  · next x => exact x h
/-- A cursor's next data. -/
def binC (t : ByteArray) (a : Nat) (e : Int) : ByteArray × Nat × Int := takeS t (takeS t a e 2).2.1 (takeS t a e 2).2.2 (numS t a e 2 : Nat)
theorem binC_lt (t : ByteArray) (a : Nat) (e : Int) (ha : a ≤ t.size) : (binC t a e).1.size ≤ 65535 :=
  takeS_size (takeS_le ha e 2) _ _ 65535 (by have := num_two_lt t a e ha; omega)
theorem binC_le (t : ByteArray) (a : Nat) (e : Int) (ha : a ≤ t.size) : (binC t a e).2.1 ≤ t.size := takeS_le (takeS_le ha e 2) _ _
/-- A cursor's next text. -/
def txtC (t : ByteArray) (a : Nat) (e : Int) : ByteArray × Nat × Int := ((binC t a e).1, (binC t a e).2.1, if validB (binC t a e).1 = true then (binC t a e).2.2 else failE (binC t a e).2.2 6)
/-- A cursor's next properties. -/
def prpC (v kind : Int) (t : ByteArray) (a : Nat) (e : Int) : List Pr × Nat × Int :=
  if v = 4 ∨ e ≠ 0 then ([], a, e) else ((readP kind (t.extract a t.size)).1, a + (readP kind (t.extract a t.size)).2.1, (readP kind (t.extract a t.size)).2.2)
/-- May flags be? -/
def flOk (v : Int) (f : Nat) : Bool :=
  !(decide (f % 2 = 1) || decide (f / 8 % 4 = 3) || (!decide (f / 4 % 2 = 1) && decide (f / 8 % 8 ≠ 0))) && (decide (v = 5) || !decide (f / 64 % 2 = 1) || decide (f / 128 % 2 = 1))
/-- A CONNECT by its flags, before its texts. -/
def cnPk (f k : Nat) (c : ByteArray) (l : List Pr) : Pk :=
  { pk0 with kind := 1, clean := decide (f / 2 % 2 = 1), alive := (k : Int), client := c, hasUser := decide (f / 128 % 2 = 1), hasPass := decide (f / 64 % 2 = 1), hasWill := decide (f / 4 % 2 = 1), will := { wl0 with qos := ((f / 8 % 4 : Nat) : Int), retain := decide (f / 32 % 2 = 1) }, props := l }
/-- The name; the version; the flags; the time. -/
def stN (s : ByteArray) : Nat × Int := ((takeS s 0 0 6).2.1, if (takeS s 0 0 6).1 = cntName then (takeS s 0 0 6).2.2 else failE (takeS s 0 0 6).2.2 5)
def stV (v : Int) (s : ByteArray) (a : Nat) (e : Int) : Nat × Int := ((takeS s a e 1).2.1, if ((numS s a e 1 : Nat) : Int) = v then (takeS s a e 1).2.2 else failE (takeS s a e 1).2.2 5)
def stG (v : Int) (s : ByteArray) (a : Nat) (e : Int) : Nat × Nat × Int := (numS s a e 1, (takeS s a e 1).2.1, if flOk v (numS s a e 1) = true then (takeS s a e 1).2.2 else failE (takeS s a e 1).2.2 7)
def stK (s : ByteArray) (a : Nat) (e : Int) : Nat × Nat × Int := (numS s a e 2, (takeS s a e 2).2.1, (takeS s a e 2).2.2)
def cnV (v : Int) (s : ByteArray) : Nat × Int := stV v s (stN s).1 (stN s).2
def cnF (v : Int) (s : ByteArray) : Nat × Nat × Int := stG v s (cnV v s).1 (cnV v s).2
def cnK (v : Int) (s : ByteArray) : Nat × Nat × Int := stK s (cnF v s).2.1 (cnF v s).2.2
def cnP (v : Int) (s : ByteArray) : List Pr × Nat × Int := prpC v 1 s (cnK v s).2.1 (cnK v s).2.2
def cnT (v : Int) (s : ByteArray) : ByteArray × Nat × Int := txtC s (cnP v s).2.1 (cnP v s).2.2
def cn1 (v : Int) (s : ByteArray) : Pk × Nat × Int := (cnPk (cnF v s).1 (cnK v s).1 (cnT v s).1 (cnP v s).1, (cnT v s).2.1, (cnT v s).2.2)
def cnWP (v : Int) (s : ByteArray) (a : Nat) (e : Int) : List Pr × Nat × Int := prpC v 16 s a e
def cnWT (v : Int) (s : ByteArray) (a : Nat) (e : Int) : ByteArray × Nat × Int := txtC s (cnWP v s a e).2.1 (cnWP v s a e).2.2
def cnWB (v : Int) (s : ByteArray) (a : Nat) (e : Int) : ByteArray × Nat × Int := binC s (cnWT v s a e).2.1 (cnWT v s a e).2.2
def cn2 (v : Int) (s : ByteArray) (r : Pk × Nat × Int) : Pk × Nat × Int :=
  if r.1.hasWill = true then ({ r.1 with will := { r.1.will with props := (cnWP v s r.2.1 r.2.2).1, topic := (cnWT v s r.2.1 r.2.2).1, payload := (cnWB v s r.2.1 r.2.2).1 } }, (cnWB v s r.2.1 r.2.2).2.1, (cnWB v s r.2.1 r.2.2).2.2) else r
def cn3 (s : ByteArray) (r : Pk × Nat × Int) : Pk × Nat × Int := if r.1.hasUser = true then ({ r.1 with user := (txtC s r.2.1 r.2.2).1 }, (txtC s r.2.1 r.2.2).2.1, (txtC s r.2.1 r.2.2).2.2) else r
def cn4 (s : ByteArray) (r : Pk × Nat × Int) : Pk × Nat × Int := if r.1.hasPass = true then ({ r.1 with pass := (binC s r.2.1 r.2.2).1 }, (binC s r.2.1 r.2.2).2.1, (binC s r.2.1 r.2.2).2.2) else r
/-- The CONNECT that is read, the cursor behind it. -/
def cnRd (v : Int) (s : ByteArray) : Pk × Nat × Int := cn4 s (cn3 s (cn2 v s (cn1 v s)))
/-- The CONNACK that is read, the cursor behind it. -/
def caF (s : ByteArray) : Nat × Nat × Int := (numS s 0 0 1, (takeS s 0 0 1).2.1, if numS s 0 0 1 ≤ 1 then (takeS s 0 0 1).2.2 else failE (takeS s 0 0 1).2.2 7)
def caC (s : ByteArray) : Nat × Nat × Int := (numS s (caF s).2.1 (caF s).2.2 1, (takeS s (caF s).2.1 (caF s).2.2 1).2.1, (takeS s (caF s).2.1 (caF s).2.2 1).2.2)
def caP (v : Int) (s : ByteArray) : List Pr × Nat × Int := prpC v 2 s (caC s).2.1 (caC s).2.2
def caPk (f c : Nat) (l : List Pr) : Pk := { pk0 with kind := 2, session := decide (f = 1), code := (c : Int), props := l }
def caRd (v : Int) (s : ByteArray) : Pk × Nat × Int := (caPk (caF s).1 (caC s).1 (caP v s).1, (caP v s).2.1, (caP v s).2.2)
/-- Bytes behind it, Valid's error, are errors. -/
def cnEnd (s : ByteArray) (r : Pk × Nat × Int) : Int := if s.size - r.2.1 = 0 then r.2.2 else failE r.2.2 5
def cnDone (v : Int) (s : ByteArray) (r : Pk × Nat × Int) : Pk × Int :=
  if cnEnd s r ≠ 0 then (pk0, cnEnd s r) else if cntE v r.1 ≠ 0 then (pk0, cntE v r.1) else (r.1, 0)
def cntR (v k : Int) (s : ByteArray) : Pk × Int :=
  if hdKnown v = false ∨ cntOurs k = false then (pk0, 2) else cnDone v s (if k = 1 then cnRd v s else caRd v s)

theorem take_ok {t : ByteArray} {a : Nat} {e : Int} {k : Nat} (h : (takeS t a e k).2.2 = 0) : e = 0 ∧ a + k ≤ t.size ∧ takeS t a 0 k = (t.extract a (a + k), a + k, 0) := by
  by_cases he : e = 0
  · subst he
    by_cases hs : a + k ≤ t.size
    · exact ⟨rfl, hs, take_yes hs⟩
    · rw [take_no hs] at h; cases h
  · rw [takeS_bad he] at h; exact absurd h he
theorem take_ls {t : ByteArray} {a k : Nat} (_h : a + k ≤ t.size) : (ls t).drop a = ls (t.extract a (a + k)) ++ (ls t).drop (a + k) := by
  rw [extract_ls, ← List.drop_drop, List.take_append_drop]
theorem bin_ok {t : ByteArray} {a : Nat} {e : Int} (h : (binC t a e).2.2 = 0) : e = 0 ∧ (binC t a e).2.1 ≤ t.size ∧ (binC t a e).1.size ≤ 65535 ∧ (ls t).drop a = putL (binC t a e).1.size 2 ++ (ls (binC t a e).1 ++ (ls t).drop (binC t a e).2.1) := by
  obtain ⟨h1, h2, h3⟩ := take_ok h
  obtain ⟨he, h5, h6⟩ := take_ok (k := 2) h1
  subst he
  have h6' : takeS t a 0 2 = (t.extract a (a + 2), a + 2, 0) := h6
  have hle : a ≤ t.size := by omega
  have hlt := binC_lt t a 0 hle
  have hE : binC t a 0 = (t.extract (a + 2) (a + 2 + numS t a 0 2), a + 2 + numS t a 0 2, 0) := by
    rw [h6'] at h3 h2
    unfold binC
    rw [h6']
    exact h3
  rw [h6'] at h2
  simp only at h2
  rw [hE] at hlt ⊢
  simp only at hlt ⊢
  have hsz : (t.extract (a + 2) (a + 2 + numS t a 0 2)).size = numS t a 0 2 := by rw [ByteArray.size_extract]; omega
  refine ⟨trivial, h2, hlt, ?_⟩
  rw [hsz, ← take_ls h2]
  exact num_back2 h5
theorem txt_ok {t : ByteArray} {a : Nat} {e : Int} (h : (txtC t a e).2.2 = 0) : e = 0 ∧ (txtC t a e).2.1 ≤ t.size ∧ (txtC t a e).1.size ≤ 65535 ∧ validB (txtC t a e).1 = true ∧ (ls t).drop a = putL (txtC t a e).1.size 2 ++ (ls (txtC t a e).1 ++ (ls t).drop (txtC t a e).2.1) := by
  unfold txtC at h ⊢
  simp only at h ⊢
  by_cases hv : validB (binC t a e).1 = true
  · rw [if_pos hv] at h
    obtain ⟨h1, h2, h3, h4⟩ := bin_ok h
    exact ⟨h1, h2, h3, hv, h4⟩
  · rw [if_neg hv] at h
    exact (failE_zero h (by decide)).elim
/-- Properties as they lie in a body. -/
def tailL8 (v k : Int) (l : List Pr) : List UInt8 := if v = 4 then [] else (bytesS k l).1
theorem tail8_ls (v k : Int) (l : List Pr) : ls (tail8 v k l) = tailL8 v k l := by
  unfold tail8 tailL8
  split
  · rfl
  · exact ls_mk _
theorem pr_ok {v k : Int} {t : ByteArray} {a : Nat} {e : Int} (ha : a ≤ t.size) (h : (prpC v k t a e).2.2 = 0) : e = 0 ∧ (prpC v k t a e).2.1 ≤ t.size ∧ (v = 4 → (prpC v k t a e).1 = []) ∧ (bytesS k (prpC v k t a e).1).2 = 0 ∧ (ls t).drop a = tailL8 v k (prpC v k t a e).1 ++ (ls t).drop (prpC v k t a e).2.1 := by
  unfold prpC at h ⊢
  by_cases hv : v = 4 ∨ e ≠ 0
  · rw [if_pos hv] at h ⊢
    simp only at h ⊢
    have h4 : v = 4 := hv.resolve_right (fun x => x h)
    refine ⟨h, ha, fun _ => trivial, by rw [bytesS_none], ?_⟩
    unfold tailL8
    rw [if_pos h4]
    rfl
  · rw [if_neg hv] at h ⊢
    simp only at h ⊢
    have he : e = 0 := Decidable.not_not.1 fun x => hv (.inr x)
    have h4 : v ≠ 4 := fun x => hv (.inl x)
    obtain ⟨g1, g2, g3⟩ := readP_back (kind := k) (s := t.extract a t.size) (l := (readP k (t.extract a t.size)).1) (n := (readP k (t.extract a t.size)).2.1) (by rw [← h])
    rw [ByteArray.size_extract] at g3
    refine ⟨he, by omega, fun x => absurd x h4, g1, ?_⟩
    unfold tailL8
    rw [if_neg h4, g2, rest_ls, ← List.drop_drop, List.take_append_drop]
def fS (p : Pk) (r : List UInt8) : List UInt8 := if p.hasPass = true then putL p.pass.size 2 ++ (ls p.pass ++ r) else r
def fU (p : Pk) (r : List UInt8) : List UInt8 := if p.hasUser = true then putL p.user.size 2 ++ (ls p.user ++ r) else r
def fW (v : Int) (p : Pk) (r : List UInt8) : List UInt8 := if p.hasWill = true then tailL8 v 16 p.will.props ++ (putL p.will.topic.size 2 ++ (ls p.will.topic ++ (putL p.will.payload.size 2 ++ (ls p.will.payload ++ r)))) else r
def f1 (v : Int) (p : Pk) (r : List UInt8) : List UInt8 := ls cntName ++ (putL v.toNat 1 ++ (putL (flN p).toNat 1 ++ (putL p.alive.toNat 2 ++ (tailL8 v 1 p.props ++ (putL p.client.size 2 ++ (ls p.client ++ r))))))
theorem cat_cons (x : ByteArray) (l : List ByteArray) : ls (catL (x :: l)) = ls x ++ ls (catL l) := by
  rw [cat_ls, cat_ls]; rfl
theorem cat_nil : ls (catL []) = [] := by rw [cat_ls]; rfl
theorem dataB_ls {x : ByteArray} (h : x.size ≤ 65535) : ls (dataB x) = putL x.size 2 ++ ls x := by
  unfold dataB
  rw [if_pos h]
  have := ls_framed x ⟨#[]⟩
  rw [show ls (⟨#[]⟩ : ByteArray) = [] from rfl, List.append_nil] at this
  rw [← this]
  congr 1
  exact ls_ext (by unfold framedS; simp [ls])
theorem nameB_valid {x : ByteArray} (hv : nameB x = true) : validB x = true := by
  unfold nameB textB at hv
  simp only [Bool.and_eq_true] at hv
  exact hv.1.2
/-- What holds of a CONNECT that may be. -/
structure CnGood (v : Int) (p : Pk) : Prop where
  ver : v = 4 ∨ v = 5
  kind : p.kind = 1
  same : p = cntQ p
  old : v = 4 → p.props = [] ∧ p.will.props = []
  alive : 0 ≤ p.alive ∧ p.alive < 65536
  qos : 0 ≤ p.will.qos ∧ p.will.qos ≤ 2
  pair : v = 4 → p.hasPass = true → p.hasUser = true
  client : validB p.client = true
  user : validB p.user = true
  topic : p.hasWill = true → validB p.will.topic = true
  payload : p.will.payload.size ≤ 65535
  pass : p.pass.size ≤ 65535
  props : (bytesS 1 p.props).2 = 0
  wprops : (bytesS 16 p.will.props).2 = 0
theorem cn_ls {v : Int} {p : Pk} (g : CnGood v p) (r : List UInt8) : ls (cntS v p) ++ r = f1 v p (fW v p (fU p (fS p r))) := by
  have e1 := dataB_ls (valid_size g.client)
  have e2 := dataB_ls (valid_size g.user)
  have e3 := dataB_ls g.pass
  have e4 := dataB_ls g.payload
  have h1 : ∀ R, ls (cntS1 v p) ++ R = f1 v p R := fun R => by
    unfold cntS1 f1
    simp only [cat_cons, cat_nil, ls_mk, tail8_ls, e1, g.kind, List.append_assoc, List.append_nil]
  have h2 : ∀ R, ls (cntS2 v p) ++ R = f1 v p (fW v p R) := fun R => by
    unfold cntS2 fW
    by_cases h : p.hasWill = true
    · rw [if_pos h, if_pos h, ← h1]
      simp only [cat_cons, cat_nil, tail8_ls, dataB_ls (valid_size (g.topic h)), e4, List.append_assoc, List.append_nil]
    · rw [if_neg h, if_neg h, h1]
  have h3 : ∀ R, ls (cntS3 v p) ++ R = f1 v p (fW v p (fU p R)) := fun R => by
    unfold cntS3 fU
    by_cases h : p.hasUser = true
    · rw [if_pos h, if_pos h, ← h2]
      simp only [cat_cons, cat_nil, e2, List.append_assoc, List.append_nil]
    · rw [if_neg h, if_neg h, h2]
  unfold cntS fS
  by_cases h : p.hasPass = true
  · rw [if_pos h, if_pos h, ← h3]
    simp only [cat_cons, cat_nil, e3, List.append_assoc, List.append_nil]
  · rw [if_neg h, if_neg h, h3]
end Go.Proofs.YtbdgkkmbnahgiaaGreatDoor

