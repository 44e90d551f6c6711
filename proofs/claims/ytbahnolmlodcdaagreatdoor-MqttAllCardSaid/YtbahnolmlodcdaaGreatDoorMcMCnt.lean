/- A part of what the laws stand on: MCnt. -/
import Derived.Test.YtbahnolmlodcdaaGreatDoorMcMPubA
import Derived.BigRegion
import Derived.Shelf.Strings.OnBuilder
namespace Go.Proofs.YtbahnolmlodcdaaGreatDoor
open Go.RowKit
attribute [local go_sem ↓] to_ldPk to_bxPk to_bdPk to_alPk to_stPk
attribute [local go_sem] run_bxPk run_bxPk_agg ld_fresh run_alPk run_bd0 run_bdK run_bdKI run_bdKIC run_bdKC run_bdKICP run_stPk_fresh pkC_0 pkC_1 pkC_2 pkC_3 pkC_4 pkC_5 pkC_6 pkC_7 pkC_8 pkC_9 pkC_10 pkC_11 pkC_12 pkC_13 pkC_14 pkC_15 pkC_16 pkC_17 pkC_18 pkC_19 pkC_20 pkC_21 pkC_22 pkC_23 pkC_24
attribute [local go_sem ↓ high] to_stPk to_stWl to_ldWl
attribute [local go_sem ↓] to_stF
attribute [local go_sem] ld_pw pw_at pw_stwl pw_dstwl pw_stwl0 pw_stwp pw_st0 pw_dst0 pw_st1 pw_dst1 pw_st2 pw_dst2 pw_st3 pw_dst3 pw_st4 pw_dst4 pw_st5 pw_dst5 pw_st6 pw_dst6 pw_st7 pw_dst7 pw_st8 pw_dst8 pw_st9 pw_dst9 pw_st10 pw_dst10 pw_st11 pw_dst11 pw_st12 pw_dst12 pw_st13 pw_dst13 pw_st14 pw_dst14 pw_st15 pw_dst15 pw_st16 pw_dst16 pw_st17 pw_dst17 pw_st18 pw_dst18 pw_st20 pw_dst20 pw_st21 pw_dst21 pw_st22 pw_nil22 pw_st23 pw_nil23 pw_st24 pw_nil24
def cntOurs (k : Int) : Bool := decide (k = 1 ∨ k = 2)
set_option maxHeartbeats 400000 in
set_option maxRecDepth 10000 in
theorem cntKnown_any (v : Int) (w : World) : Calls Tryz.prog 229 #[.int .i64 v] w fun e w' => e = .returned (.bool (hdKnown v)) ∧ w = w' := by
  go_enter Tryz.func229, Tryz.ntmps229
  go_wp2
  all_goals
    go_ret
    refine ⟨ret_bool ?_, rfl⟩
    unfold hdKnown
    by_cases h4 : v = 4 <;> by_cases h5 : v = 5 <;> simp_all
set_option maxHeartbeats 400000 in
set_option maxRecDepth 10000 in
theorem cntOurs_any (k : Int) (w : World) : Calls Tryz.prog 230 #[.int .i64 k] w fun e w' => e = .returned (.bool (cntOurs k)) ∧ w = w' := by
  go_enter Tryz.func230, Tryz.ntmps230
  go_wp2
  all_goals
    go_ret
    refine ⟨ret_bool ?_, rfl⟩
    unfold cntOurs
    by_cases h4 : k = 1 <;> by_cases h5 : k = 2 <;> simp_all

/-- A packet with nothing but what its kind may have. -/
def cntQ (p : Pk) : Pk :=
  if p.kind = 2 then { pk0 with kind := p.kind, props := p.props, session := p.session, code := p.code }
  else { pk0 with kind := p.kind, props := p.props, clean := p.clean, alive := p.alive, client := p.client, hasWill := p.hasWill, will := (if p.hasWill = true then p.will else wl0), hasUser := p.hasUser, user := (if p.hasUser = true then p.user else ⟨#[]⟩), hasPass := p.hasPass, pass := (if p.hasPass = true then p.pass else ⟨#[]⟩) }
def cntH (p : Pk) (h : Hs) : Hs := { hs0 with props := h.props, wp := (if p.kind ≠ 2 ∧ p.hasWill = true then h.wp else hd0) }
theorem cntQ_two {p : Pk} (h : p.kind = 2) : cntQ p = { pk0 with kind := p.kind, props := p.props, session := p.session, code := p.code } := by unfold cntQ; rw [if_pos h]
theorem cntQ_one {p : Pk} (h : p.kind ≠ 2) {a b c : Bool} (ha : p.hasWill = a) (hb : p.hasUser = b) (hc : p.hasPass = c) : cntQ p = { pk0 with kind := p.kind, props := p.props, clean := p.clean, alive := p.alive, client := p.client, hasWill := a, will := (if a = true then p.will else wl0), hasUser := b, user := (if b = true then p.user else ⟨#[]⟩), hasPass := c, pass := (if c = true then p.pass else ⟨#[]⟩) } := by unfold cntQ; rw [if_neg h, ha, hb, hc]
theorem cntQ_len {p : Pk} (x : PkLen p) : PkLen (cntQ p) := by
  unfold cntQ
  split
  · exact ⟨Nat.zero_le _, Nat.zero_le _, Nat.zero_le _, x.2.2.2⟩
  · refine ⟨?_, Nat.zero_le _, Nat.zero_le _, x.2.2.2⟩
    show (if p.hasWill = true then p.will else wl0).props.length ≤ _
    split
    · exact x.1
    · exact Nat.zero_le _
theorem cntQ_in {w : World} {B : Nat} {p : Pk} {h : Hs} (x : PkIn w B p h) : PkIn w B (cntQ p) (cntH p h) := by
  by_cases h2 : p.kind = 2
  · have e1 : cntH p h = { hs0 with props := h.props } := by unfold cntH; rw [if_neg (fun y => y.1 h2)]; rfl
    rw [cntQ_two h2, e1]
    exact ⟨Rd.nil _ _ _ _, Rd.nil _ _ _ _, Rd.nil _ _ _ _, x.props, Nat.zero_le _, Nat.zero_le _, Nat.zero_le _, x.caps.2.2.2⟩
  · rw [cntQ_one h2 rfl rfl rfl]
    cases hw : p.hasWill
    · have e1 : cntH p h = { hs0 with props := h.props } := by unfold cntH; rw [if_neg (fun y => by rw [hw] at y; cases y.2)]; rfl
      rw [e1]
      exact ⟨Rd.nil _ _ _ _, Rd.nil _ _ _ _, Rd.nil _ _ _ _, x.props, Nat.zero_le _, Nat.zero_le _, Nat.zero_le _, x.caps.2.2.2⟩
    · have e1 : cntH p h = { hs0 with props := h.props, wp := h.wp } := by unfold cntH; rw [if_pos ⟨h2, hw⟩]
      rw [e1]
      exact ⟨x.wp, Rd.nil _ _ _ _, Rd.nil _ _ _ _, x.props, x.caps.1, Nat.zero_le _, Nat.zero_le _, x.caps.2.2.2⟩
theorem run_bdKPr (k : Int) (l : List Pr) (A : Option Addr) (n : Nat) (w : World) : (bdPk #[(0, .int .i64 k), (20, .slice A l.length n)]).run Tryz.prog w = .ok (pkV { pk0 with kind := k, props := l } { hs0 with props := ⟨A, n⟩ }) w := by kernel_rfl
theorem same_cnt (p : Pk) (h : Hs) (Q : Pk) (H : Hs) (x : World) (hq : cntQ p = Q) (hh : cntH p h = H) (hi : PkIn x x.heap.size p h) (hn : PkLen p) :
    Calls Tryz.prog 111 #[pkV p h, pkV Q H] x fun e y => e = .returned (.bool (decide (p = cntQ p))) ∧ Below x.heap.size x y := by
  subst hq hh
  exact same_any p (cntQ p) h (cntH p h) x hi (cntQ_in hi) hn (cntQ_len hn)
set_option maxHeartbeats 8000000 in
set_option maxRecDepth 10000 in
theorem alone_any (p : Pk) (h : Hs) (w : World) (ip : PkIn w w.heap.size p h) (ok : PkOk p) :
    Calls Tryz.prog 284 #[pkV p h] w fun e w' => e = .returned (.bool (decide (p = cntQ p))) ∧ Below w.heap.size w w' := by
  have OK := Lib.hid ok
  have IP := Lib.hid ip
  obtain ⟨W, hW, hst⟩ := pwIn_start w p { pk0 with kind := p.kind, props := p.props } h { hs0 with props := ⟨h.props.a, h.props.c⟩ }
  have HW := Lib.hid hW
  have hlt := hW.lt
  have j0 := fun cs => (hW.bk_pw cs).cell
  have i0 := (Bk.fresh w PkT (pkC p h)).cell
  have hl0 : ∀ cs, (ldPk (.pointer (some ⟨w.heap.size, 0, none⟩))).run Tryz.prog (pw W (w.heap.size + 1) cs).drew = .ok (pkV p h) (pw W (w.heap.size + 1) cs).drew := fun cs => ld_bk ((hW.bk_pw cs).drewN 1)
  have hl1 : ∀ q k, (ldPk (.pointer (some ⟨w.heap.size + 1, 0, none⟩))).run Tryz.prog (pw W (w.heap.size + 1) (pkC q k)).drew = .ok (pkV q k) (pw W (w.heap.size + 1) (pkC q k)).drew := fun q k => ld_bk ((pw_bk W (w.heap.size + 1) (pkC q k) hlt).drewN 1)
  have hlw : ∀ cs, (ldWl (.pointer (some ⟨w.heap.size, 15, none⟩))).run Tryz.prog (pw W (w.heap.size + 1) cs).drew = .ok (wlV p.will h.wp) (pw W (w.heap.size + 1) cs).drew := fun cs => ld_wl ((hW.bk_pw cs).drewN 1)
  have hbd := run_bdKPr p.kind p.props h.props.a h.props.c
  have HQI : Hid (∀ x, Below w.heap.size w x → PkIn x x.heap.size p h) := Lib.hid fun x hx => (IP.out.below hx).wider hx.size
  clear ip ok hW
  go_enter Tryz.func284, Tryz.ntmps284
  by_cases h2 : p.kind = 2
  · have e2 : (p.kind == 2) = true := beq_iff_eq.2 h2
    have H2 := Lib.hid h2
    clear h2
    go_wp2_with fail
    go_region
    go_wp2_with fail
    refine (same_cnt p h _ _ _ ((cntQ_two H2.out).trans rfl) (by unfold cntH; rw [if_neg (fun y => y.1 H2.out)]; rfl) (HQI.out _ ((HW.out.kept _).drew)) OK.out.len).mono ?_
    rintro e w1 ⟨rfl, hb⟩
    have HB := Lib.hid (((HW.out.kept _).drew).trans (hb.mono ((HW.out.kept _).drew).size)); clear hb
    go_wp2
    go_ret
    exact ⟨rfl, HB.out⟩
  · have e2 : (p.kind == 2) = false := beq_eq_false_iff_ne.2 h2
    have H2 := Lib.hid h2
    clear h2
    go_wp2_with fail
    go_region
    cases ha : p.hasWill <;> cases hb : p.hasUser <;> cases hc : p.hasPass
    all_goals
      have HABC := Lib.hid (And.intro ha (And.intro hb hc))
      go_wp2_with fail
      refine (same_cnt p h _ _ _ ((cntQ_one H2.out HABC.out.1 HABC.out.2.1 HABC.out.2.2).trans rfl)
        (by unfold cntH; first | (rw [if_neg (fun y => by have := HABC.out.1; rw [y.2] at this; cases this)]; rfl) | (rw [if_pos ⟨H2.out, HABC.out.1⟩])) (HQI.out _ ((HW.out.kept _).drew)) OK.out.len).mono ?_
      rintro e w1 ⟨rfl, hb'⟩
      have HB := Lib.hid (((HW.out.kept _).drew).trans (hb'.mono ((HW.out.kept _).drew).size)); clear hb'
      go_wp2
      go_ret
      exact ⟨rfl, HB.out⟩
end Go.Proofs.YtbahnolmlodcdaaGreatDoor

namespace Go.Proofs.YtbahnolmlodcdaaGreatDoor
open Go.RowKit
attribute [local go_sem ↓] to_ldPk to_bxPk to_bdPk to_alPk to_stPk
attribute [local go_sem] run_bxPk run_bxPk_agg ld_fresh run_alPk run_bd0 run_bdK run_bdKI run_bdKIC run_bdKC run_bdKICP run_stPk_fresh pkC_0 pkC_1 pkC_2 pkC_3 pkC_4 pkC_5 pkC_6 pkC_7 pkC_8 pkC_9 pkC_10 pkC_11 pkC_12 pkC_13 pkC_14 pkC_15 pkC_16 pkC_17 pkC_18 pkC_19 pkC_20 pkC_21 pkC_22 pkC_23 pkC_24
def cntCode (v : Int) (p : Pk) : Bool := if v = 4 then retB p.code else may p.kind p.code
def cntRng (v : Int) (p : Pk) : Bool :=
  if v = 4 ∧ 0 < p.props.length + p.will.props.length then false
  else if p.kind = 2 then cntCode v p && (decide (p.code = 0) || !p.session)
  else if v = 4 ∧ ((p.client.size = 0 ∧ p.clean = false) ∨ (p.hasPass = true ∧ p.hasUser = false)) then false
  else decide (0 ≤ p.alive ∧ p.alive < 65536 ∧ 0 ≤ p.will.qos ∧ p.will.qos ≤ 2)
set_option maxHeartbeats 8000000 in
set_option maxRecDepth 10000 in
theorem cntRng_any (v : Int) (p : Pk) (h : Hs) (w : World) (ip : PkIn w w.heap.size p h) (ok : PkOk p) :
    Calls Tryz.prog 285 #[.int .i64 v, pkV p h] w fun e w' => e = .returned (.bool (cntRng v p)) ∧ Below w.heap.size w w' := by
  have OK := Lib.hid ok
  have S0 := Lib.hid ((St.start w).push ip)
  have HE : Hid (cntRng v p = if v = 4 ∧ 0 < p.props.length + p.will.props.length then false
    else if p.kind = 2 then cntCode v p && (decide (p.code = 0) || !p.session)
    else if v = 4 ∧ ((p.client.size = 0 ∧ p.clean = false) ∨ (p.hasPass = true ∧ p.hasUser = false)) then false
    else decide (0 ≤ p.alive ∧ p.alive < 65536 ∧ 0 ≤ p.will.qos ∧ p.will.qos ≤ 2)) := Lib.hid rfl
  have k0 := S0.out.cell 0 rfl
  have hsum : IntKind.i64.wrap ((p.props.length : Int) + (p.will.props.length : Int)) = (p.props.length : Int) + (p.will.props.length : Int) := by
    rw [IntKind.wrap_i64]; have := ok.lens; omega
  have hem := emptyB_iff p.client
  clear ip ok
  go_enter Tryz.func285, Tryz.ntmps285
  by_cases h1 : v = 4 ∧ 0 < p.props.length + p.will.props.length
  · have HX : Hid (cntRng v p = false) := Lib.hid (by rw [HE.out, if_pos h1])
    have e4 : (v == 4) = true := beq_iff_eq.2 h1.1
    have d1 : (0 : Int) < (p.props.length : Int) + (p.will.props.length : Int) := by omega
    clear h1
    go_wp2
    go_ret
    exact ⟨by rw [HX.out]; rfl, S0.out.kept⟩
  have HE1 : Hid (cntRng v p = if p.kind = 2 then cntCode v p && (decide (p.code = 0) || !p.session)
    else if v = 4 ∧ ((p.client.size = 0 ∧ p.clean = false) ∨ (p.hasPass = true ∧ p.hasUser = false)) then false
    else decide (0 ≤ p.alive ∧ p.alive < 65536 ∧ 0 ≤ p.will.qos ∧ p.will.qos ≤ 2)) := Lib.hid (by rw [HE.out, if_neg h1])
  obtain ⟨b4, hb4⟩ : ∃ b : Bool, (v == 4) = b := ⟨_, rfl⟩
  have D1 : b4 = true → (p.props.length : Int) + (p.will.props.length : Int) ≤ 0 := fun hb => by
    have : v = 4 := beq_iff_eq.1 (hb4.trans hb)
    have := fun z => h1 ⟨this, z⟩
    omega
  have V4 : (v = 4) ↔ b4 = true := by rw [← hb4]; exact beq_iff_eq.symm
  have HV4 := Lib.hid V4
  clear h1 V4
  by_cases h2 : p.kind = 2
  · have e2 : (p.kind == 2) = true := beq_iff_eq.2 h2
    have HE2 : Hid (cntRng v p = (cntCode v p && (decide (p.code = 0) || !p.session))) := Lib.hid (by rw [HE1.out, if_pos h2])
    clear h2
    cases b4
    · have HC : Hid (cntCode v p = may p.kind p.code) := Lib.hid (by unfold cntCode; rw [if_neg (fun y => by have := HV4.out.1 y; cases this)])
      clear D1
      go_wp2_with fail
      refine (may_any p.kind p.code _).mono ?_
      rintro e w1 ⟨rfl, hb⟩
      have S1 := Lib.hid (S0.out.below hb); clear hb k0
      have k1 := S1.out.cell 0 rfl
      cases hm : may p.kind p.code
      · have HX : Hid (cntRng v p = false) := Lib.hid (by rw [HE2.out, HC.out, hm]; rfl)
        clear hm
        go_wp2
        go_ret
        exact ⟨by rw [HX.out]; rfl, S1.out.kept⟩
      · by_cases hc : p.code = 0
        · have ec : (p.code == 0) = true := beq_iff_eq.2 hc
          have HX : Hid (cntRng v p = true) := Lib.hid (by rw [HE2.out, HC.out, hm, decide_eq_true hc]; rfl)
          clear hm hc
          go_wp2
          go_ret
          exact ⟨by rw [HX.out]; rfl, S1.out.kept⟩
        · have ec : (p.code == 0) = false := beq_eq_false_iff_ne.2 hc
          have HX : Hid (cntRng v p = !p.session) := Lib.hid (by rw [HE2.out, HC.out, hm, decide_eq_false hc]; rfl)
          clear hm hc
          go_wp2
          go_ret
          exact ⟨by rw [HX.out]; rfl, S1.out.kept⟩
    · have HC : Hid (cntCode v p = retB p.code) := Lib.hid (by unfold cntCode; rw [if_pos (HV4.out.2 rfl)])
      have d1 := D1 rfl
      clear D1
      go_wp2_with fail
      refine (may_any p.kind p.code _).mono ?_
      rintro e w1 ⟨rfl, hb⟩
      have S1 := Lib.hid (S0.out.below hb); clear hb k0
      have k1 := S1.out.cell 0 rfl
      go_wp2_with fail
      refine (return_any p.code _).mono ?_
      rintro e w2 ⟨rfl, rfl⟩
      cases hm : retB p.code
      · have HX : Hid (cntRng v p = false) := Lib.hid (by rw [HE2.out, HC.out, hm]; rfl)
        clear hm
        go_wp2
        go_ret
        exact ⟨by rw [HX.out]; rfl, S1.out.kept⟩
      · by_cases hc : p.code = 0
        · have ec : (p.code == 0) = true := beq_iff_eq.2 hc
          have HX : Hid (cntRng v p = true) := Lib.hid (by rw [HE2.out, HC.out, hm, decide_eq_true hc]; rfl)
          clear hm hc
          go_wp2
          go_ret
          exact ⟨by rw [HX.out]; rfl, S1.out.kept⟩
        · have ec : (p.code == 0) = false := beq_eq_false_iff_ne.2 hc
          have HX : Hid (cntRng v p = !p.session) := Lib.hid (by rw [HE2.out, HC.out, hm, decide_eq_false hc]; rfl)
          clear hm hc
          go_wp2
          go_ret
          exact ⟨by rw [HX.out]; rfl, S1.out.kept⟩
  · have e2 : (p.kind == 2) = false := beq_eq_false_iff_ne.2 h2
    have HE2 : Hid (cntRng v p = if v = 4 ∧ ((p.client.size = 0 ∧ p.clean = false) ∨ (p.hasPass = true ∧ p.hasUser = false)) then false
      else decide (0 ≤ p.alive ∧ p.alive < 65536 ∧ 0 ≤ p.will.qos ∧ p.will.qos ≤ 2)) := Lib.hid (by rw [HE1.out, if_neg h2])
    clear h2
    have NUM : ∀ (hn : cntRng v p = decide (0 ≤ p.alive ∧ p.alive < 65536 ∧ 0 ≤ p.will.qos ∧ p.will.qos ≤ 2)),
      (¬ 0 ≤ p.alive ∧ cntRng v p = false) ∨ (0 ≤ p.alive ∧ ¬ p.alive < 65536 ∧ cntRng v p = false) ∨ (0 ≤ p.alive ∧ p.alive < 65536 ∧ ¬ 0 ≤ p.will.qos ∧ cntRng v p = false) ∨ (0 ≤ p.alive ∧ p.alive < 65536 ∧ 0 ≤ p.will.qos ∧ cntRng v p = decide (p.will.qos ≤ 2)) := fun hn => by
      rw [hn]
      by_cases a1 : 0 ≤ p.alive
      · by_cases a2 : p.alive < 65536
        · by_cases a3 : 0 ≤ p.will.qos
          · exact .inr (.inr (.inr ⟨a1, a2, a3, decide_eq_decide.2 ⟨fun y => y.2.2.2, fun y => ⟨a1, a2, a3, y⟩⟩⟩))
          · exact .inr (.inr (.inl ⟨a1, a2, a3, decide_eq_false (fun y => a3 y.2.2.1)⟩))
        · exact .inr (.inl ⟨a1, a2, decide_eq_false (fun y => a2 y.2.1)⟩)
      · exact .inl ⟨a1, decide_eq_false (fun y => a1 y.1)⟩
    have HNUM := Lib.hid NUM
    clear NUM
    cases b4
    · have HN := Lib.hid (HNUM.out (by rw [HE2.out, if_neg (fun y => by have := HV4.out.1 y.1; cases this)]))
      clear D1
      rcases HN.out with ⟨a1, hx⟩ | ⟨a1, a2, hx⟩ | ⟨a1, a2, a3, hx⟩ | ⟨a1, a2, a3, hx⟩
      · have HX := Lib.hid hx
        have a1' : p.alive < 0 := by omega
        clear hx a1
        go_wp2
        go_ret
        exact ⟨by rw [HX.out]; rfl, S0.out.kept⟩
      · have HX := Lib.hid hx
        have a2' : 65536 ≤ p.alive := by omega
        clear hx a2
        go_wp2
        go_ret
        exact ⟨by rw [HX.out]; rfl, S0.out.kept⟩
      · have HX := Lib.hid hx
        have a3' : p.will.qos < 0 := by omega
        clear hx a3
        go_wp2
        go_ret
        exact ⟨by rw [HX.out]; rfl, S0.out.kept⟩
      · have HX := Lib.hid hx
        clear hx
        go_wp2
        go_ret
        exact ⟨by rw [HX.out]; rfl, S0.out.kept⟩
    · have d1 := D1 rfl
      clear D1
      by_cases hc : p.client.size = 0 ∧ p.clean = false
      · have HX : Hid (cntRng v p = false) := Lib.hid (by rw [HE2.out, if_pos ⟨HV4.out.2 rfl, .inl hc⟩])
        rw [decide_eq_true hc.1] at hem
        have ec := hc.2
        clear hc
        go_wp2
        go_ret
        exact ⟨by rw [HX.out]; rfl, S0.out.kept⟩
      · by_cases hq : p.hasPass = true ∧ p.hasUser = false
        · have HX : Hid (cntRng v p = false) := Lib.hid (by rw [HE2.out, if_pos ⟨HV4.out.2 rfl, .inr hq⟩])
          obtain ⟨q1, q2⟩ := hq
          by_cases hz : p.client.size = 0
          · rw [decide_eq_true hz] at hem
            have ec : p.clean = true := by
              cases e : p.clean
              · exact absurd ⟨hz, e⟩ hc
              · rfl
            clear hc hz
            go_wp2
            go_ret
            exact ⟨by rw [HX.out]; rfl, S0.out.kept⟩
          · rw [decide_eq_false hz] at hem
            clear hc hz
            go_wp2
            go_ret
            exact ⟨by rw [HX.out]; rfl, S0.out.kept⟩
        · have HN := Lib.hid (HNUM.out (by rw [HE2.out, if_neg (fun y => y.2.elim hc hq)]))
          have HC := Lib.hid (And.intro hc hq)
          have hcz : (p.client.toList.isEmpty = false) ∨ (p.client.toList.isEmpty = true ∧ p.clean = true) := by
            by_cases hz : p.client.size = 0
            · rw [decide_eq_true hz] at hem
              refine .inr ⟨hem, ?_⟩
              cases e : p.clean
              · exact absurd ⟨hz, e⟩ hc
              · rfl
            · rw [decide_eq_false hz] at hem
              exact .inl hem
          have hqz : p.hasPass = false ∨ (p.hasPass = true ∧ p.hasUser = true) := by
            cases e : p.hasPass
            · exact .inl rfl
            · refine .inr ⟨rfl, ?_⟩
              cases e2 : p.hasUser
              · exact absurd ⟨e, e2⟩ hq
              · rfl
          clear hc hq hem
          rcases hcz with z1 | ⟨z1, z2⟩ <;> rcases hqz with y1 | ⟨y1, y2⟩
          all_goals
            rcases HN.out with ⟨a1, hx⟩ | ⟨a1, a2, hx⟩ | ⟨a1, a2, a3, hx⟩ | ⟨a1, a2, a3, hx⟩
            · have HX := Lib.hid hx
              have a1' : p.alive < 0 := by omega
              clear hx a1
              go_wp2
              go_ret
              exact ⟨by rw [HX.out]; rfl, S0.out.kept⟩
            · have HX := Lib.hid hx
              have a2' : 65536 ≤ p.alive := by omega
              clear hx a2
              go_wp2
              go_ret
              exact ⟨by rw [HX.out]; rfl, S0.out.kept⟩
            · have HX := Lib.hid hx
              have a3' : p.will.qos < 0 := by omega
              clear hx a3
              go_wp2
              go_ret
              exact ⟨by rw [HX.out]; rfl, S0.out.kept⟩
            · have HX := Lib.hid hx
              clear hx
              go_wp2
              go_ret
              exact ⟨by rw [HX.out]; rfl, S0.out.kept⟩
end Go.Proofs.YtbahnolmlodcdaaGreatDoor

namespace Go.Proofs.YtbahnolmlodcdaaGreatDoor
open Go.RowKit
attribute [local go_sem ↓] to_ldPk to_bxPk to_bdPk to_alPk to_stPk
attribute [local go_sem] run_bxPk run_bxPk_agg ld_fresh run_alPk run_bd0 run_bdK run_bdKI run_bdKIC run_bdKC run_bdKICP run_stPk_fresh pkC_0 pkC_1 pkC_2 pkC_3 pkC_4 pkC_5 pkC_6 pkC_7 pkC_8 pkC_9 pkC_10 pkC_11 pkC_12 pkC_13 pkC_14 pkC_15 pkC_16 pkC_17 pkC_18 pkC_19 pkC_20 pkC_21 pkC_22 pkC_23 pkC_24
def cntArg (v : Int) (p : Pk) : Bool := hdKnown v && (cntOurs p.kind && (decide (p = cntQ p) && cntRng v p))
def cntE (v : Int) (p : Pk) : Int :=
  if cntArg v p = false then 2
  else if validB p.client = false ∨ validB p.user = false then 6
  else if p.hasWill = true ∧ nameB p.will.topic = false then 10
  else if 65535 < p.will.payload.size ∨ 65535 < p.pass.size then 2
  else if (bytesS p.kind p.props).2 ≠ 0 then (bytesS p.kind p.props).2
  else (bytesS 16 p.will.props).2
set_option maxHeartbeats 8000000 in
set_option maxRecDepth 10000 in
theorem cntValid_any (v : Int) (p : Pk) (h : Hs) (w : World) (ip : PkIn w w.heap.size p h) (ok : PkOk p) :
    Calls Tryz.prog 224 #[.int .i64 v, pkV p h] w fun e w' => e = .returned (.int .i64 (cntE v p)) ∧ Below w.heap.size w w' := by
  have OK := Lib.hid ok
  have S0 := Lib.hid ((St.start w).push ip)
  have HE : Hid (cntE v p = if cntArg v p = false then 2
    else if validB p.client = false ∨ validB p.user = false then 6
    else if p.hasWill = true ∧ nameB p.will.topic = false then 10
    else if 65535 < p.will.payload.size ∨ 65535 < p.pass.size then 2
    else if (bytesS p.kind p.props).2 ≠ 0 then (bytesS p.kind p.props).2
    else (bytesS 16 p.will.props).2) := Lib.hid rfl
  have HA : Hid (cntArg v p = (hdKnown v && (cntOurs p.kind && (decide (p = cntQ p) && cntRng v p)))) := Lib.hid rfl
  have k0 := S0.out.cell 0 rfl
  have l0 := S0.out.ld 0 rfl
  clear ip ok
  go_enter Tryz.func224, Tryz.ntmps224
  go_wp2_with fail
  refine (cntKnown_any v _).mono ?_
  rintro e w1 ⟨rfl, rfl⟩
  cases hk : hdKnown v
  · have HX : Hid (cntE v p = 2) := Lib.hid (by rw [HE.out, if_pos (by rw [HA.out, hk]; rfl)])
    clear hk
    go_wp2
    go_ret
    exact ⟨by rw [HX.out]; rfl, S0.out.kept⟩
  have HA1 : Hid (cntArg v p = (cntOurs p.kind && (decide (p = cntQ p) && cntRng v p))) := Lib.hid (by rw [HA.out, hk, Bool.true_and])
  clear hk
  go_wp2_with fail
  refine (cntOurs_any p.kind _).mono ?_
  rintro e w1 ⟨rfl, rfl⟩
  cases hk : cntOurs p.kind
  · have HX : Hid (cntE v p = 2) := Lib.hid (by rw [HE.out, if_pos (by rw [HA1.out, hk]; rfl)])
    clear hk
    go_wp2
    go_ret
    exact ⟨by rw [HX.out]; rfl, S0.out.kept⟩
  have HA2 : Hid (cntArg v p = (decide (p = cntQ p) && cntRng v p)) := Lib.hid (by rw [HA1.out, hk, Bool.true_and])
  clear hk
  go_wp2_with fail
  refine (alone_any p h _ (S0.out.into 0 rfl) OK.out).mono ?_
  rintro e w1 ⟨rfl, hb⟩
  have S1 := Lib.hid (S0.out.below hb); clear hb k0 l0
  have k0 := S1.out.cell 0 rfl
  have l0 := S1.out.ld 0 rfl
  by_cases hs : p = cntQ p
  rotate_left
  · rw [decide_eq_false hs]
    have HX : Hid (cntE v p = 2) := Lib.hid (by rw [HE.out, if_pos (by rw [HA2.out, decide_eq_false hs]; rfl)])
    clear hs
    go_wp2
    go_ret
    exact ⟨by rw [HX.out]; rfl, S1.out.kept⟩
  rw [decide_eq_true hs]
  have HA3 : Hid (cntArg v p = cntRng v p) := Lib.hid (by rw [HA2.out, decide_eq_true hs, Bool.true_and])
  clear hs
  go_wp2_with fail
  refine (cntRng_any v p h _ (S1.out.into 0 rfl) OK.out).mono ?_
  rintro e w2 ⟨rfl, hb⟩
  have S2 := Lib.hid (S1.out.below hb); clear hb k0 l0
  have k0 := S2.out.cell 0 rfl
  cases hr : cntRng v p
  · have HX : Hid (cntE v p = 2) := Lib.hid (by rw [HE.out, if_pos (by rw [HA3.out, hr])])
    clear hr
    go_wp2
    go_ret
    exact ⟨by rw [HX.out]; rfl, S2.out.kept⟩
  have HE1 : Hid (cntE v p = if validB p.client = false ∨ validB p.user = false then 6
    else if p.hasWill = true ∧ nameB p.will.topic = false then 10
    else if 65535 < p.will.payload.size ∨ 65535 < p.pass.size then 2
    else if (bytesS p.kind p.props).2 ≠ 0 then (bytesS p.kind p.props).2
    else (bytesS 16 p.will.props).2) := Lib.hid (by rw [HE.out, if_neg (by rw [HA3.out, hr]; decide)])
  clear hr
  go_wp2_with fail
  refine (valid_any p.client _ (by have := OK.out.texts; omega)).mono ?_
  rintro e w3 ⟨rfl, hb⟩
  have S3 := Lib.hid (S2.out.below hb); clear hb k0
  have k0 := S3.out.cell 0 rfl
  cases hc : validB p.client
  · have HX : Hid (cntE v p = 6) := Lib.hid (by rw [HE1.out, if_pos (.inl hc)])
    clear hc
    go_wp2
    go_ret
    exact ⟨by rw [HX.out]; rfl, S3.out.kept⟩
  go_wp2_with fail
  refine (valid_any p.user _ (by have := OK.out.texts; omega)).mono ?_
  rintro e w4 ⟨rfl, hb⟩
  have S4 := Lib.hid (S3.out.below hb); clear hb k0
  have k0 := S4.out.cell 0 rfl
  cases hu : validB p.user
  · have HX : Hid (cntE v p = 6) := Lib.hid (by rw [HE1.out, if_pos (.inr hu)])
    clear hc hu
    go_wp2
    go_ret
    exact ⟨by rw [HX.out]; rfl, S4.out.kept⟩
  have HE2 : Hid (cntE v p = if p.hasWill = true ∧ nameB p.will.topic = false then 10
    else if 65535 < p.will.payload.size ∨ 65535 < p.pass.size then 2
    else if (bytesS p.kind p.props).2 ≠ 0 then (bytesS p.kind p.props).2
    else (bytesS 16 p.will.props).2) := Lib.hid (by rw [HE1.out, if_neg (fun y => y.elim (fun z => by rw [hc] at z; cases z) (fun z => by rw [hu] at z; cases z))])
  clear hc hu
  obtain ⟨hw, hhw⟩ : ∃ b, p.hasWill = b := ⟨_, rfl⟩
  cases hw
  · have HE3 : Hid (cntE v p = if 65535 < p.will.payload.size ∨ 65535 < p.pass.size then 2
      else if (bytesS p.kind p.props).2 ≠ 0 then (bytesS p.kind p.props).2
      else (bytesS 16 p.will.props).2) := Lib.hid (by rw [HE2.out, if_neg (fun y => by rw [hhw] at y; cases y.1)])
    have S5 := S4
    by_cases hy : 65535 < p.will.payload.size
    · have d1 : (65535 : Int) < (p.will.payload.size : Int) := by omega
      have HX : Hid (cntE v p = 2) := Lib.hid (by rw [HE3.out, if_pos (.inl hy)])
      clear hy
      go_wp2
      go_ret
      exact ⟨by rw [HX.out]; rfl, S5.out.kept⟩
    have d1 : (p.will.payload.size : Int) ≤ 65535 := by omega
    by_cases hz : 65535 < p.pass.size
    · have d2 : (65535 : Int) < (p.pass.size : Int) := by omega
      have HX : Hid (cntE v p = 2) := Lib.hid (by rw [HE3.out, if_pos (.inr hz)])
      clear hy hz
      go_wp2
      go_ret
      exact ⟨by rw [HX.out]; rfl, S5.out.kept⟩
    have d2 : (p.pass.size : Int) ≤ 65535 := by omega
    have HE4 : Hid (cntE v p = if (bytesS p.kind p.props).2 ≠ 0 then (bytesS p.kind p.props).2 else (bytesS 16 p.will.props).2) := Lib.hid (by rw [HE3.out, if_neg (fun y => y.elim hy hz)])
    clear hy hz
    go_wp2_with fail
    refine (validP_n p.kind p.props _ rfl OK.out.props h.props.a h.props.c _ (S5.out.into 0 rfl).props OK.out.len.2.2.2).mono ?_
    rintro e w6 ⟨rfl, hb⟩
    have S6 := Lib.hid (S5.out.below hb); clear hb k0
    have k0 := S6.out.cell 0 rfl
    by_cases hp : (bytesS p.kind p.props).2 = 0
    rotate_left
    · have e0 : ((bytesS p.kind p.props).2 != 0) = true := bne_iff_ne.2 hp
      have HX : Hid (cntE v p = (bytesS p.kind p.props).2) := Lib.hid (by rw [HE4.out, if_pos hp])
      clear hp
      go_wp2
      go_ret
      exact ⟨by rw [HX.out]; rfl, S6.out.kept⟩
    rw [hp]
    have HX : Hid (cntE v p = (bytesS 16 p.will.props).2) := Lib.hid (by rw [HE4.out, if_neg (fun y => y hp)])
    clear hp
    go_wp2_with fail
    refine (validP_n 16 p.will.props _ rfl OK.out.wp h.wp.a h.wp.c _ (S6.out.into 0 rfl).wp OK.out.len.1).mono ?_
    rintro e w7 ⟨rfl, hb⟩
    have S7 := Lib.hid (S6.out.below hb); clear hb k0
    go_wp2
    go_ret
    exact ⟨by rw [HX.out]; rfl, S7.out.kept⟩
  · go_wp2_with fail
    refine (name_any p.will.topic _ (by have := OK.out.texts; omega)).mono ?_
    rintro e w5 ⟨rfl, hb⟩
    have S5 := Lib.hid (S4.out.below hb); clear hb k0
    have k0 := S5.out.cell 0 rfl
    cases hn : nameB p.will.topic
    · have HX : Hid (cntE v p = 10) := Lib.hid (by rw [HE2.out, if_pos ⟨hhw, hn⟩])
      clear hn
      go_wp2
      go_ret
      exact ⟨by rw [HX.out]; rfl, S5.out.kept⟩
    have HE3 : Hid (cntE v p = if 65535 < p.will.payload.size ∨ 65535 < p.pass.size then 2
      else if (bytesS p.kind p.props).2 ≠ 0 then (bytesS p.kind p.props).2
      else (bytesS 16 p.will.props).2) := Lib.hid (by rw [HE2.out, if_neg (fun y => by rw [hn] at y; cases y.2)])
    clear hn
    by_cases hy : 65535 < p.will.payload.size
    · have d1 : (65535 : Int) < (p.will.payload.size : Int) := by omega
      have HX : Hid (cntE v p = 2) := Lib.hid (by rw [HE3.out, if_pos (.inl hy)])
      clear hy
      go_wp2
      go_ret
      exact ⟨by rw [HX.out]; rfl, S5.out.kept⟩
    have d1 : (p.will.payload.size : Int) ≤ 65535 := by omega
    by_cases hz : 65535 < p.pass.size
    · have d2 : (65535 : Int) < (p.pass.size : Int) := by omega
      have HX : Hid (cntE v p = 2) := Lib.hid (by rw [HE3.out, if_pos (.inr hz)])
      clear hy hz
      go_wp2
      go_ret
      exact ⟨by rw [HX.out]; rfl, S5.out.kept⟩
    have d2 : (p.pass.size : Int) ≤ 65535 := by omega
    have HE4 : Hid (cntE v p = if (bytesS p.kind p.props).2 ≠ 0 then (bytesS p.kind p.props).2 else (bytesS 16 p.will.props).2) := Lib.hid (by rw [HE3.out, if_neg (fun y => y.elim hy hz)])
    clear hy hz
    go_wp2_with fail
    refine (validP_n p.kind p.props _ rfl OK.out.props h.props.a h.props.c _ (S5.out.into 0 rfl).props OK.out.len.2.2.2).mono ?_
    rintro e w6 ⟨rfl, hb⟩
    have S6 := Lib.hid (S5.out.below hb); clear hb k0
    have k0 := S6.out.cell 0 rfl
    by_cases hp : (bytesS p.kind p.props).2 = 0
    rotate_left
    · have e0 : ((bytesS p.kind p.props).2 != 0) = true := bne_iff_ne.2 hp
      have HX : Hid (cntE v p = (bytesS p.kind p.props).2) := Lib.hid (by rw [HE4.out, if_pos hp])
      clear hp
      go_wp2
      go_ret
      exact ⟨by rw [HX.out]; rfl, S6.out.kept⟩
    rw [hp]
    have HX : Hid (cntE v p = (bytesS 16 p.will.props).2) := Lib.hid (by rw [HE4.out, if_neg (fun y => y hp)])
    clear hp
    go_wp2_with fail
    refine (validP_n 16 p.will.props _ rfl OK.out.wp h.wp.a h.wp.c _ (S6.out.into 0 rfl).wp OK.out.len.1).mono ?_
    rintro e w7 ⟨rfl, hb⟩
    have S7 := Lib.hid (S6.out.below hb); clear hb k0
    go_wp2
    go_ret
    exact ⟨by rw [HX.out]; rfl, S7.out.kept⟩
end Go.Proofs.YtbahnolmlodcdaaGreatDoor

namespace Go.Proofs.YtbahnolmlodcdaaGreatDoor
open Go.RowKit Go.Shelf
def lays156_ren : Ren := ⟨fun | 156 => 286 | 165 => 332 | 166 => 333 | 169 => 334 | 240 => 346 | 241 => 347 | 276 => 355 | 277 => 356 | n => n, fun | 0 => 0 | 3 => 3 | 4 => 4 | 5 => 5 | 9 => 9 | 20 => 20 | 31 => 73 | 37 => 82 | 70 => 260 | 72 => 262 | 75 => 264 | 76 => 265 | 80 => 93 | 127 => 278 | 164 => 288 | n => n, fun n => n⟩
theorem lays156 : Lays.n156 Tryz.prog lays156_ren where
  mixed := by kernel_rfl
  f156 := Tryz.func286.trans (congrArg some (by kernel_rfl))
  f165 := Tryz.func332.trans (congrArg some (by kernel_rfl))
  f166 := Tryz.func333.trans (congrArg some (by kernel_rfl))
  f169 := Tryz.func334.trans (congrArg some (by kernel_rfl))
  f240 := Tryz.func346.trans (congrArg some (by kernel_rfl))
  f241 := Tryz.func347.trans (congrArg some (by kernel_rfl))
  f276 := Tryz.func355.trans (congrArg some (by kernel_rfl))
  f277 := Tryz.func356.trans (congrArg some (by kernel_rfl))
  t0 := Tryz.underlying0
  a0 := Tryz.isAgg0
  z0 := Tryz.sizeOf0
  v0 := Tryz.zeroValue0
  t3 := Tryz.underlying3
  a3 := Tryz.isAgg3
  z3 := Tryz.sizeOf3
  v3 := Tryz.zeroValue3
  t4 := Tryz.underlying4
  a4 := Tryz.isAgg4
  z4 := Tryz.sizeOf4
  v4 := Tryz.zeroValue4
  t9 := Tryz.underlying9
  a9 := Tryz.isAgg9
  z9 := Tryz.sizeOf9
  v9 := Tryz.zeroValue9
  t20 := Tryz.underlying20
  a20 := Tryz.isAgg20
  z20 := Tryz.sizeOf20
  v20 := Tryz.zeroValue20
  t31 := Tryz.underlying73
  a31 := Tryz.isAgg73
  z31 := Tryz.sizeOf73
  v31 := Tryz.zeroValue73
  t37 := Tryz.underlying82
  a37 := Tryz.isAgg82
  z37 := Tryz.sizeOf82
  v37 := Tryz.zeroValue82
  t70 := Tryz.underlying260
  a70 := Tryz.isAgg260
  z70 := Tryz.sizeOf260
  v70 := Tryz.zeroValue260
  t72 := Tryz.underlying262
  a72 := Tryz.isAgg262
  z72 := Tryz.sizeOf262
  v72 := Tryz.zeroValue262
  t75 := Tryz.underlying264
  a75 := Tryz.isAgg264
  z75 := Tryz.sizeOf264
  v75 := Tryz.zeroValue264
  t76 := Tryz.underlying265
  a76 := Tryz.isAgg265
  z76 := Tryz.sizeOf265
  v76 := Tryz.zeroValue265
  t127 := Tryz.underlying278
  a127 := Tryz.isAgg278
  z127 := Tryz.sizeOf278
  v127 := Tryz.zeroValue278
  t164 := Tryz.underlying288
  a164 := Tryz.isAgg288
  z164 := Tryz.sizeOf288
  v164 := Tryz.zeroValue288
theorem extra156 : Builder.Extra Tryz.prog lays156_ren where
  sizeBuilder := by kernel_rfl
  liesBuilder := by kernel_rfl
  t5 := Tryz.underlying5
  a5 := Tryz.isAgg5
  z5 := Tryz.sizeOf5
  v5 := Tryz.zeroValue5
  infoByte := by kernel_rfl
  cellsByte := by kernel_rfl
  sizeByte := by kernel_rfl
  neB5 := by decide +kernel
/-- Texts, one behind the other. -/
def catL : List ByteArray → ByteArray
  | [] => ⟨#[]⟩
  | x :: l => x ++ catL l
theorem join_flat (l : List (List UInt8)) : Lib.join l [] = l.flatten := by
  cases l with
  | nil => rfl
  | cons x r =>
    rw [Lib.join_cons]
    simp [Lib.joinTail]
theorem cat_ls : ∀ (l : List ByteArray), ls (catL l) = (l.map (·.data.toList)).flatten
  | [] => rfl
  | x :: l => by
    rw [catL, ls_app, cat_ls l]
    rfl
theorem join_cat (l : List ByteArray) : (⟨(Lib.join (l.map (·.data.toList)) (⟨#[]⟩ : ByteArray).data.toList).toArray⟩ : ByteArray) = catL l := by
  apply ls_ext
  rw [ls_mk, cat_ls]
  exact join_flat _
theorem cat_size : ∀ (l : List ByteArray), (Lib.join (l.map (·.data.toList)) (⟨#[]⟩ : ByteArray).data.toList).length = (catL l).size := fun l => by
  rw [← ls_len, ← join_cat, ls_mk]
set_option maxHeartbeats 400000 in
set_option maxRecDepth 10000 in
theorem put8_any (xs : List ByteArray) (n c bk o : Nat) (hn : xs.length = n) (w : World) (hcells : ∀ (j : Nat) x, xs[j]? = some x → w.cell? ⟨bk, o + j, none⟩ = some (.string x)) (hbk : bk < w.heap.size) (hN : n ≤ 1000) (hcap : n ≤ c) (hlen : (catL xs).size ≤ 140737488355328) :
    Calls Tryz.prog 226 #[.slice (some ⟨bk, o, none⟩) n c] w fun e w' => e = .returned (.string (catL xs)) ∧ Below w.heap.size w w' := by
  subst hn
  have HJ := Lib.hid (Any.strings_Join lays156 extra156 bk o c xs ⟨#[]⟩ w hcells hbk (by omega) hcap (by rw [cat_size]; exact hlen))
  rw [join_cat] at HJ
  clear hcells hN hcap hlen
  go_enter Tryz.func226, Tryz.ntmps226
  go_wp2_with fail
  refine (HJ.out).mono ?_
  rintro e w1 ⟨rfl, hb⟩
  have HB := Lib.hid hb; clear hb
  go_wp2
  go_ret
  exact ⟨rfl, HB.out⟩
/-- Properties' bytes, of V5. -/
def tail8 (v k : Int) (l : List Pr) : ByteArray := if v = 4 then ⟨#[]⟩ else ⟨(bytesS k l).1.toArray⟩
set_option maxHeartbeats 400000 in
set_option maxRecDepth 10000 in
theorem tail8_any (v k : Int) (l : List Pr) (n : Nat) (hn : l.length = n) (hok : ∀ p ∈ l, prGood p) (A : Option Addr) (c : Nat) (w : World) (h : Rd w w.heap.size 4 A n (prs l)) (hl : n ≤ 4611686018427387904) :
    Calls Tryz.prog 225 #[.int .i64 v, .int .i64 k, .slice A n c] w fun e w' => e = .returned (.string (tail8 v k l)) ∧ Below w.heap.size w w' := by
  subst hn
  by_cases h4 : v = 4
  · have e4 : (v == 4) = true := beq_iff_eq.2 h4
    have HX : Hid (tail8 v k l = ⟨#[]⟩) := Lib.hid (if_pos h4)
    clear h4 h hok
    go_enter Tryz.func225, Tryz.ntmps225
    go_wp2
    go_ret
    exact ⟨by rw [HX.out]; rfl, Below.refl _ _⟩
  · have e4 : (v == 4) = false := beq_eq_false_iff_ne.2 h4
    have HX : Hid (tail8 v k l = ⟨(bytesS k l).1.toArray⟩) := Lib.hid (if_neg h4)
    clear h4
    go_enter Tryz.func225, Tryz.ntmps225
    go_wp2_with fail
    refine (bytesP_n k l _ rfl hok A c _ h hl).mono ?_
    rintro e w1 ⟨rfl, hb⟩
    have HB := Lib.hid hb; clear hb
    go_wp2
    go_ret
    exact ⟨by rw [HX.out]; rfl, HB.out⟩
end Go.Proofs.YtbahnolmlodcdaaGreatDoor

namespace Go.Proofs.YtbahnolmlodcdaaGreatDoor
open Go.RowKit
attribute [local go_sem ↓] to_ldPk to_bxPk to_bdPk to_alPk to_stPk
attribute [local go_sem] run_bxPk run_bxPk_agg ld_fresh run_alPk run_bd0 run_bdK run_bdKI run_bdKIC run_bdKC run_bdKICP run_stPk_fresh pkC_0 pkC_1 pkC_2 pkC_3 pkC_4 pkC_5 pkC_6 pkC_7 pkC_8 pkC_9 pkC_10 pkC_11 pkC_12 pkC_13 pkC_14 pkC_15 pkC_16 pkC_17 pkC_18 pkC_19 pkC_20 pkC_21 pkC_22 pkC_23 pkC_24
theorem cells3 (w : World) (a b c : ByteArray) (t : TypeId) : ∀ (j : Nat) x, [a, b, c][j]? = some x → (w.alloc (.cells #[.string a, .string b, .string c] t)).cell? ⟨w.heap.size, 0 + j, none⟩ = some (.string x) := by
  intro j x h
  rw [Nat.zero_add, (Bk.fresh w t #[.string a, .string b, .string c]).cell]
  rcases j with _ | _ | _ | j
  · simp at h; subst h; rfl
  · simp at h; subst h; rfl
  · simp at h; subst h; rfl
  · simp at h
/-- A CONNACK's body. -/
def ackS8 (v : Int) (p : Pk) : ByteArray := catL [⟨#[if p.session = true then 1 else 0]⟩, ⟨(putL p.code.toNat 1).toArray⟩, tail8 v p.kind p.props]
def cntB2 (v : Int) (p : Pk) : ByteArray × Int := if cntE v p = 0 then (ackS8 v p, 0) else (⟨#[]⟩, cntE v p)
theorem ret_range {c : Int} (h : retB c = true) : 0 ≤ c ∧ c < 256 := by
  unfold retB at h
  simp at h
  omega
theorem cntE_parts {v : Int} {p : Pk} (x : cntE v p = 0) : cntArg v p = true ∧ (validB p.client = true ∧ validB p.user = true) ∧ (p.hasWill = true → nameB p.will.topic = true) ∧ (p.will.payload.size ≤ 65535 ∧ p.pass.size ≤ 65535) ∧ (bytesS p.kind p.props).2 = 0 ∧ (bytesS 16 p.will.props).2 = 0 := by
  unfold cntE at x
  by_cases h1 : cntArg v p = false
  · rw [if_pos h1] at x; cases x
  rw [if_neg h1] at x
  by_cases h2 : validB p.client = false ∨ validB p.user = false
  · rw [if_pos h2] at x; cases x
  rw [if_neg h2] at x
  by_cases h3 : p.hasWill = true ∧ nameB p.will.topic = false
  · rw [if_pos h3] at x; cases x
  rw [if_neg h3] at x
  by_cases h4 : 65535 < p.will.payload.size ∨ 65535 < p.pass.size
  · rw [if_pos h4] at x; cases x
  rw [if_neg h4] at x
  by_cases h5 : (bytesS p.kind p.props).2 = 0
  · rw [if_neg (fun y => y h5)] at x
    refine ⟨by simpa using h1, ⟨?_, ?_⟩, fun hw => ?_, ⟨by omega, by omega⟩, h5, x⟩
    · cases e : validB p.client
      · exact absurd (.inl e) h2
      · rfl
    · cases e : validB p.user
      · exact absurd (.inr e) h2
      · rfl
    · cases e : nameB p.will.topic
      · exact absurd ⟨hw, e⟩ h3
      · rfl
  · rw [if_pos h5] at x; exact absurd x h5
theorem cntE_rng {v : Int} {p : Pk} (x : cntE v p = 0) : hdKnown v = true ∧ cntOurs p.kind = true ∧ p = cntQ p ∧ cntRng v p = true := by
  have := (cntE_parts x).1
  unfold cntArg at this
  simp only [Bool.and_eq_true, decide_eq_true_iff] at this
  exact ⟨this.1, this.2.1, this.2.2.1, this.2.2.2⟩
theorem cntE_code {v : Int} {p : Pk} (x : cntE v p = 0) (h2 : p.kind = 2) : 0 ≤ p.code ∧ p.code < 256 := by
  have h := (cntE_rng x).2.2.2
  unfold cntRng at h
  by_cases h1 : v = 4 ∧ 0 < p.props.length + p.will.props.length
  · rw [if_pos h1] at h; cases h
  rw [if_neg h1, if_pos h2] at h
  have hc : cntCode v p = true := (Bool.and_eq_true_iff.1 h).1
  unfold cntCode at hc
  by_cases h4 : v = 4
  · rw [if_pos h4] at hc; exact ret_range hc
  · rw [if_neg h4] at hc; exact may_range hc
set_option maxHeartbeats 4000000 in
set_option maxRecDepth 10000 in
theorem cntBody2_any (v : Int) (p : Pk) (h : Hs) (w : World) (ip : PkIn w w.heap.size p h) (ok : PkOk p) (h2 : p.kind = 2) :
    Calls Tryz.prog 170 #[.int .i64 v, pkV p h] w fun e w' => e = .returned (.tuple #[.string (cntB2 v p).1, .int .i64 (cntB2 v p).2]) ∧ Below w.heap.size w w' := by
  have OK := Lib.hid ok
  have S0 := Lib.hid ((St.start w).push ip)
  have HE : Hid (cntB2 v p = if cntE v p = 0 then (ackS8 v p, 0) else (⟨#[]⟩, cntE v p)) := Lib.hid rfl
  have HS : Hid (ackS8 v p = catL [⟨#[if p.session = true then 1 else 0]⟩, ⟨(putL p.code.toNat 1).toArray⟩, tail8 v p.kind p.props]) := Lib.hid rfl
  have l0 := S0.out.ld 0 rfl
  have H2 := Lib.hid h2
  clear ip ok h2
  go_enter Tryz.func170, Tryz.ntmps170
  go_wp2_with fail
  refine (cntValid_any v p h _ (S0.out.into 0 rfl) OK.out).mono ?_
  rintro e w1 ⟨rfl, hb⟩
  have S1 := Lib.hid (S0.out.below hb); clear hb l0
  by_cases he : cntE v p = 0
  rotate_left
  · have e0 : (cntE v p != 0) = true := bne_iff_ne.2 he
    have HX : Hid (cntB2 v p = (⟨#[]⟩, cntE v p)) := Lib.hid (by rw [HE.out, if_neg he])
    clear he
    go_wp2
    go_ret2
    exact ⟨by rw [HX.out]; rfl, S1.out.kept⟩
  have HX : Hid (cntB2 v p = (ackS8 v p, 0)) := Lib.hid (by rw [HE.out, if_pos he])
  have HB := Lib.hid (bytesS_size p.kind p.props (cntE_parts he).2.2.2.2.1).2
  have hcr := cntE_code he H2.out
  obtain ⟨m, hm, hw1⟩ : ∃ m : Nat, Hid (p.code.toNat = m) ∧ IntKind.u64.wrap p.code = (m : Int) := ⟨_, Lib.hid rfl, by rw [IntKind.wrap_u64]; omega⟩
  have HM : Hid (m < 256) := Lib.hid (by have := hm.out; omega)
  rw [he]
  have k0 := S1.out.cell 0 rfl
  have k0' : w1.cell? ⟨w.heap.size, 0, none⟩ = some (.int .i64 2) := by rw [k0, pkC_0, H2.out]
  have k0a : w1.cell? ⟨w.heap.size, 24, none⟩ = some (.slice h.props.a p.props.length h.props.c) := by rw [k0, pkC_24]
  clear he hcr k0
  go_wp2_with fail
  rw [← H2.out]
  refine (tail8_any v p.kind p.props _ rfl OK.out.props h.props.a h.props.c _ (S1.out.into 0 rfl).props OK.out.len.2.2.2).mono ?_
  rintro e w2 ⟨rfl, hb⟩
  have S2 := Lib.hid (S1.out.below hb); clear hb k0' k0a
  have k0 := S2.out.cell 0 rfl
  have k1 : w2.cell? ⟨w.heap.size, 0, none⟩ = some (.int .i64 2) := by rw [k0, pkC_0, H2.out]
  have k2 : w2.cell? ⟨w.heap.size, 21, none⟩ = some (.int .i64 p.code) := by rw [k0, pkC_21]
  have k3 : w2.cell? ⟨w.heap.size, 20, none⟩ = some (.bool p.session) := by rw [k0, pkC_20]
  obtain ⟨T, hT⟩ : ∃ T, tail8 v p.kind p.props = T := ⟨_, rfl⟩
  have HTS : Hid (T.size ≤ 131075004) := Lib.hid (by
    rw [← hT]
    unfold tail8
    split
    · exact Nat.zero_le _
    · rw [mk_size]; exact HB.out)
  obtain ⟨X, hX⟩ : ∃ X : ByteArray, (⟨(putL m 1).toArray⟩ : ByteArray) = X := ⟨_, rfl⟩
  have HXS : Hid (X.size = 1) := Lib.hid (by rw [← hX, mk_size, putL_len])
  have HXX := Lib.hid hX
  rw [hT, hm.out, hX] at HS
  rw [hT]
  clear hT hX k0
  obtain ⟨ss, hss⟩ : ∃ b, p.session = b := ⟨_, rfl⟩
  rw [hss] at HS k3
  clear hss
  cases ss
  · have HY : Hid (ackS8 v p = catL [⟨#[0]⟩, X, T]) := Lib.hid (by rw [HS.out, if_neg (by decide)])
    clear HS
    go_wp2_with fail
    refine (put_any m 1 _ (by have := HM.out; omega) (by omega) (by omega)).mono ?_
    rintro e w3 ⟨rfl, hb⟩
    have S3 := Lib.hid (S2.out.below hb); clear hb
    rw [HXX.out]
    have S4 := Lib.hid (S3.out.alloc (.cells #[.string ⟨#[0]⟩, .string X, .string T] 9))
    go_wp2_with fail
    refine (put8_any [⟨#[0]⟩, X, T] 3 3 w3.heap.size 0 rfl _ (cells3 w3 _ _ _ _) (by simp) (by omega) (by omega) (by simp only [catL]; rw [ByteArray.size_append, ByteArray.size_append, ByteArray.size_append]; have := HXS.out; have := HTS.out; have e1 : (⟨#[0]⟩ : ByteArray).size = 1 := rfl; have e2 : (⟨#[]⟩ : ByteArray).size = 0 := rfl; omega)).mono ?_
    rintro e w5 ⟨rfl, hb⟩
    have S5 := Lib.hid (S4.out.below hb); clear hb
    go_wp2
    go_ret2
    exact ⟨by rw [HX.out, HY.out]; rfl, S5.out.kept⟩
  · have HY : Hid (ackS8 v p = catL [⟨#[1]⟩, X, T]) := Lib.hid (by rw [HS.out, if_pos rfl])
    clear HS
    go_wp2_with fail
    refine (put_any m 1 _ (by have := HM.out; omega) (by omega) (by omega)).mono ?_
    rintro e w3 ⟨rfl, hb⟩
    have S3 := Lib.hid (S2.out.below hb); clear hb
    rw [HXX.out]
    have S4 := Lib.hid (S3.out.alloc (.cells #[.string ⟨#[1]⟩, .string X, .string T] 9))
    go_wp2_with fail
    refine (put8_any [⟨#[1]⟩, X, T] 3 3 w3.heap.size 0 rfl _ (cells3 w3 _ _ _ _) (by simp) (by omega) (by omega) (by simp only [catL]; rw [ByteArray.size_append, ByteArray.size_append, ByteArray.size_append]; have := HXS.out; have := HTS.out; have e1 : (⟨#[1]⟩ : ByteArray).size = 1 := rfl; have e2 : (⟨#[]⟩ : ByteArray).size = 0 := rfl; omega)).mono ?_
    rintro e w5 ⟨rfl, hb⟩
    have S5 := Lib.hid (S4.out.below hb); clear hb
    go_wp2
    go_ret2
    exact ⟨by rw [HX.out, HY.out]; rfl, S5.out.kept⟩
end Go.Proofs.YtbahnolmlodcdaaGreatDoor

