/- A part of what the laws stand on: MCnt, MCnp. -/
import Derived.Shelf.Strings.OnBuilder
import Derived.Test.YtpcleamaieaefaaGreatDoorMzG0MPubB
namespace Go.Proofs.YtpcleamaieaefaaGreatDoor
open Go.RowKit
attribute [local go_sem ↓] to_ldPk to_bxPk to_bdPk to_alPk to_stPk
attribute [local go_sem] run_bxPk run_bxPk_agg ld_fresh run_alPk run_bd0 run_bdK run_bdKI run_bdKIC run_bdKC run_bdKICP run_stPk_fresh pkC_0 pkC_1 pkC_2 pkC_3 pkC_4 pkC_5 pkC_6 pkC_7 pkC_8 pkC_9 pkC_10 pkC_11 pkC_12 pkC_13 pkC_14 pkC_15 pkC_16 pkC_17 pkC_18 pkC_19 pkC_20 pkC_21 pkC_22 pkC_23 pkC_24
attribute [local go_sem ↓ high] to_stPk to_stWl to_ldWl
attribute [local go_sem ↓] to_stF
attribute [local go_sem] ld_pw pw_at pw_stwl pw_dstwl pw_stwl0 pw_stwp pw_st0 pw_dst0 pw_st1 pw_dst1 pw_st2 pw_dst2 pw_st3 pw_dst3 pw_st4 pw_dst4 pw_st5 pw_dst5 pw_st6 pw_dst6 pw_st7 pw_dst7 pw_st8 pw_dst8 pw_st9 pw_dst9 pw_st10 pw_dst10 pw_st11 pw_dst11 pw_st12 pw_dst12 pw_st13 pw_dst13 pw_st14 pw_dst14 pw_st15 pw_dst15 pw_st16 pw_dst16 pw_st17 pw_dst17 pw_st18 pw_dst18 pw_st20 pw_dst20 pw_st21 pw_dst21 pw_st22 pw_nil22 pw_st23 pw_nil23 pw_st24 pw_nil24
def cntOurs (k : Int) : Bool := decide (k = 1 ∨ k = 2)
set_option maxHeartbeats 400000 in
set_option maxRecDepth 10000 in
theorem cntKnown_any (v : Int) (w : World) : Calls Tryz.prog 245 #[.int .i64 v] w fun e w' => e = .returned (.bool (hdKnown v)) ∧ w = w' := by
  go_enter Tryz.func245, Tryz.ntmps245
  go_wp2
  all_goals
    go_ret
    refine ⟨ret_bool ?_, rfl⟩
    unfold hdKnown
    by_cases h4 : v = 4 <;> by_cases h5 : v = 5 <;> simp_all
set_option maxHeartbeats 400000 in
set_option maxRecDepth 10000 in
theorem cntOurs_any (k : Int) (w : World) : Calls Tryz.prog 246 #[.int .i64 k] w fun e w' => e = .returned (.bool (cntOurs k)) ∧ w = w' := by
  go_enter Tryz.func246, Tryz.ntmps246
  go_wp2
  all_goals
    go_ret
    refine ⟨ret_bool ?_, rfl⟩
    unfold cntOurs
    by_cases h4 : k = 1 <;> by_cases h5 : k = 2 <;> simp_all

/-- A packet with nothing but what its kind may have. -/
def cntQ (p : Pk) : Pk :=
  if p.kind = 2 then { pk0 with kind := p.kind, props := p.props, session := p.session, code := p.code }
  else { pk0 with kind := p.kind, props := p.props, clean := p.clean, alive := p.alive, client := p.client, hasWill := p.hasWill, will := (if p.hasWill = true then p.will else wl0), hasUser := p.hasUser, user := (if p.hasUser = true then p.user else ⟨#[]⟩), hasPass := p.hasPass, pass := (if p.hasPass = true then p.pass else ⟨#[]⟩) }
def cntH (p : Pk) (h : Hs) : Hs := { hs0 with props := h.props, wp := (if p.kind ≠ 2 ∧ p.hasWill = true then h.wp else hd0) }
theorem cntQ_two {p : Pk} (h : p.kind = 2) : cntQ p = { pk0 with kind := p.kind, props := p.props, session := p.session, code := p.code } := by unfold cntQ; rw [if_pos h]
theorem cntQ_one {p : Pk} (h : p.kind ≠ 2) {a b c : Bool} (ha : p.hasWill = a) (hb : p.hasUser = b) (hc : p.hasPass = c) : cntQ p = { pk0 with kind := p.kind, props := p.props, clean := p.clean, alive := p.alive, client := p.client, hasWill := a, will := (if a = true then p.will else wl0), hasUser := b, user := (if b = true then p.user else ⟨#[]⟩), hasPass := c, pass := (if c = true then p.pass else ⟨#[]⟩) } := by unfold cntQ; rw [if_neg h, ha, hb, hc]
theorem cntQ_len {p : Pk} (x : PkLen p) : PkLen (cntQ p) := by
  unfold cntQ
  split
  · exact ⟨Nat.zero_le _, Nat.zero_le _, Nat.zero_le _, x.2.2.2⟩
  · refine ⟨?_, Nat.zero_le _, Nat.zero_le _, x.2.2.2⟩
    show (if p.hasWill = true then p.will else wl0).props.length ≤ _
    split
    · exact x.1
    · exact Nat.zero_le _
theorem cntQ_in {w : World} {B : Nat} {p : Pk} {h : Hs} (x : PkIn w B p h) : PkIn w B (cntQ p) (cntH p h) := by
  by_cases h2 : p.kind = 2
  · have e1 : cntH p h = { hs0 with props := h.props } := by unfold cntH; rw [if_neg (fun y => y.1 h2)]; rfl
    rw [cntQ_two h2, e1]
    exact ⟨Rd.nil _ _ _ _, Rd.nil _ _ _ _, Rd.nil _ _ _ _, x.props, Nat.zero_le _, Nat.zero_le _, Nat.zero_le _, x.caps.2.2.2⟩
  · rw [cntQ_one h2 rfl rfl rfl]
    cases hw : p.hasWill
    · have e1 : cntH p h = { hs0 with props := h.props } := by unfold cntH; rw [if_neg (fun y => by rw [hw] at y; cases y.2)]; rfl
      rw [e1]
      exact ⟨Rd.nil _ _ _ _, Rd.nil _ _ _ _, Rd.nil _ _ _ _, x.props, Nat.zero_le _, Nat.zero_le _, Nat.zero_le _, x.caps.2.2.2⟩
    · have e1 : cntH p h = { hs0 with props := h.props, wp := h.wp } := by unfold cntH; rw [if_pos ⟨h2, hw⟩]
      rw [e1]
      exact ⟨x.wp, Rd.nil _ _ _ _, Rd.nil _ _ _ _, x.props, x.caps.1, Nat.zero_le _, Nat.zero_le _, x.caps.2.2.2⟩
theorem run_bdKPr (k : Int) (l : List Pr) (A : Option Addr) (n : Nat) (w : World) : (bdPk #[(0, .int .i64 k), (20, .slice A l.length n)]).run Tryz.prog w = .ok (pkV { pk0 with kind := k, props := l } { hs0 with props := ⟨A, n⟩ }) w := by kernel_rfl
theorem same_cnt (p : Pk) (h : Hs) (Q : Pk) (H : Hs) (x : World) (hq : cntQ p = Q) (hh : cntH p h = H) (hi : PkIn x x.heap.size p h) (hn : PkLen p) :
    Calls Tryz.prog 105 #[pkV p h, pkV Q H] x fun e y => e = .returned (.bool (decide (p = cntQ p))) ∧ Below x.heap.size x y := by
  subst hq hh
  exact same_any p (cntQ p) h (cntH p h) x hi (cntQ_in hi) hn (cntQ_len hn)
set_option maxHeartbeats 8000000 in
set_option maxRecDepth 10000 in
theorem alone_any (p : Pk) (h : Hs) (w : World) (ip : PkIn w w.heap.size p h) (ok : PkOk p) :
    Calls Tryz.prog 296 #[pkV p h] w fun e w' => e = .returned (.bool (decide (p = cntQ p))) ∧ Below w.heap.size w w' := by
  have OK := Lib.hid ok
  have IP := Lib.hid ip
  obtain ⟨W, hW, hst⟩ := pwIn_start w p { pk0 with kind := p.kind, props := p.props } h { hs0 with props := ⟨h.props.a, h.props.c⟩ }
  have HW := Lib.hid hW
  have hlt := hW.lt
  have j0 := fun cs => (hW.bk_pw cs).cell
  have i0 := (Bk.fresh w PkT (pkC p h)).cell
  have hl0 : ∀ cs, (ldPk (.pointer (some ⟨w.heap.size, 0, none⟩))).run Tryz.prog (pw W (w.heap.size + 1) cs).drew = .ok (pkV p h) (pw W (w.heap.size + 1) cs).drew := fun cs => ld_bk ((hW.bk_pw cs).drewN 1)
  have hl1 : ∀ q k, (ldPk (.pointer (some ⟨w.heap.size + 1, 0, none⟩))).run Tryz.prog (pw W (w.heap.size + 1) (pkC q k)).drew = .ok (pkV q k) (pw W (w.heap.size + 1) (pkC q k)).drew := fun q k => ld_bk ((pw_bk W (w.heap.size + 1) (pkC q k) hlt).drewN 1)
  have hlw : ∀ cs, (ldWl (.pointer (some ⟨w.heap.size, 15, none⟩))).run Tryz.prog (pw W (w.heap.size + 1) cs).drew = .ok (wlV p.will h.wp) (pw W (w.heap.size + 1) cs).drew := fun cs => ld_wl ((hW.bk_pw cs).drewN 1)
  have hbd := run_bdKPr p.kind p.props h.props.a h.props.c
  have HQI : Hid (∀ x, Below w.heap.size w x → PkIn x x.heap.size p h) := Lib.hid fun x hx => (IP.out.below hx).wider hx.size
  clear ip ok hW
  go_enter Tryz.func296, Tryz.ntmps296
  by_cases h2 : p.kind = 2
  · have e2 : (p.kind == 2) = true := beq_iff_eq.2 h2
    have H2 := Lib.hid h2
    clear h2
    go_wp2_with fail
    go_region
    go_wp2_with fail
    refine (same_cnt p h _ _ _ ((cntQ_two H2.out).trans rfl) (by unfold cntH; rw [if_neg (fun y => y.1 H2.out)]; rfl) (HQI.out _ ((HW.out.kept _).drew)) OK.out.len).mono ?_
    rintro e w1 ⟨rfl, hb⟩
    have HB := Lib.hid (((HW.out.kept _).drew).trans (hb.mono ((HW.out.kept _).drew).size)); clear hb
    go_wp2
    go_ret
    exact ⟨rfl, HB.out⟩
  · have e2 : (p.kind == 2) = false := beq_eq_false_iff_ne.2 h2
    have H2 := Lib.hid h2
    clear h2
    go_wp2_with fail
    go_region
    cases ha : p.hasWill <;> cases hb : p.hasUser <;> cases hc : p.hasPass
    all_goals
      have HABC := Lib.hid (And.intro ha (And.intro hb hc))
      go_wp2_with fail
      refine (same_cnt p h _ _ _ ((cntQ_one H2.out HABC.out.1 HABC.out.2.1 HABC.out.2.2).trans rfl)
        (by unfold cntH; first | (rw [if_neg (fun y => by have := HABC.out.1; rw [y.2] at this; cases this)]; rfl) | (rw [if_pos ⟨H2.out, HABC.out.1⟩])) (HQI.out _ ((HW.out.kept _).drew)) OK.out.len).mono ?_
      rintro e w1 ⟨rfl, hb'⟩
      have HB := Lib.hid (((HW.out.kept _).drew).trans (hb'.mono ((HW.out.kept _).drew).size)); clear hb'
      go_wp2
      go_ret
      exact ⟨rfl, HB.out⟩
end Go.Proofs.YtpcleamaieaefaaGreatDoor

namespace Go.Proofs.YtpcleamaieaefaaGreatDoor
open Go.RowKit
attribute [local go_sem ↓] to_ldPk to_bxPk to_bdPk to_alPk to_stPk
attribute [local go_sem] run_bxPk run_bxPk_agg ld_fresh run_alPk run_bd0 run_bdK run_bdKI run_bdKIC run_bdKC run_bdKICP run_stPk_fresh pkC_0 pkC_1 pkC_2 pkC_3 pkC_4 pkC_5 pkC_6 pkC_7 pkC_8 pkC_9 pkC_10 pkC_11 pkC_12 pkC_13 pkC_14 pkC_15 pkC_16 pkC_17 pkC_18 pkC_19 pkC_20 pkC_21 pkC_22 pkC_23 pkC_24
def cntCode (v : Int) (p : Pk) : Bool := if v = 4 then retB p.code else may p.kind p.code
def cntRng (v : Int) (p : Pk) : Bool :=
  if v = 4 ∧ 0 < p.props.length + p.will.props.length then false
  else if p.kind = 2 then cntCode v p && (decide (p.code = 0) || !p.session)
  else if v = 4 ∧ ((p.client.size = 0 ∧ p.clean = false) ∨ (p.hasPass = true ∧ p.hasUser = false)) then false
  else decide (0 ≤ p.alive ∧ p.alive < 65536 ∧ 0 ≤ p.will.qos ∧ p.will.qos ≤ 2)
set_option maxHeartbeats 8000000 in
set_option maxRecDepth 10000 in
theorem cntRng_any (v : Int) (p : Pk) (h : Hs) (w : World) (ip : PkIn w w.heap.size p h) (ok : PkOk p) :
    Calls Tryz.prog 297 #[.int .i64 v, pkV p h] w fun e w' => e = .returned (.bool (cntRng v p)) ∧ Below w.heap.size w w' := by
  have OK := Lib.hid ok
  have S0 := Lib.hid ((St.start w).push ip)
  have HE : Hid (cntRng v p = if v = 4 ∧ 0 < p.props.length + p.will.props.length then false
    else if p.kind = 2 then cntCode v p && (decide (p.code = 0) || !p.session)
    else if v = 4 ∧ ((p.client.size = 0 ∧ p.clean = false) ∨ (p.hasPass = true ∧ p.hasUser = false)) then false
    else decide (0 ≤ p.alive ∧ p.alive < 65536 ∧ 0 ≤ p.will.qos ∧ p.will.qos ≤ 2)) := Lib.hid rfl
  have k0 := S0.out.cell 0 rfl
  have hsum : IntKind.i64.wrap ((p.props.length : Int) + (p.will.props.length : Int)) = (p.props.length : Int) + (p.will.props.length : Int) := by
    rw [IntKind.wrap_i64]; have := ok.lens; omega
  have hem := emptyB_iff p.client
  clear ip ok
  go_enter Tryz.func297, Tryz.ntmps297
  by_cases h1 : v = 4 ∧ 0 < p.props.length + p.will.props.length
  · have HX : Hid (cntRng v p = false) := Lib.hid (by rw [HE.out, if_pos h1])
    have e4 : (v == 4) = true := beq_iff_eq.2 h1.1
    have d1 : (0 : Int) < (p.props.length : Int) + (p.will.props.length : Int) := by omega
    clear h1
    go_wp2
    go_ret
    exact ⟨by rw [HX.out]; rfl, S0.out.kept⟩
  have HE1 : Hid (cntRng v p = if p.kind = 2 then cntCode v p && (decide (p.code = 0) || !p.session)
    else if v = 4 ∧ ((p.client.size = 0 ∧ p.clean = false) ∨ (p.hasPass = true ∧ p.hasUser = false)) then false
    else decide (0 ≤ p.alive ∧ p.alive < 65536 ∧ 0 ≤ p.will.qos ∧ p.will.qos ≤ 2)) := Lib.hid (by rw [HE.out, if_neg h1])
  obtain ⟨b4, hb4⟩ : ∃ b : Bool, (v == 4) = b := ⟨_, rfl⟩
  have D1 : b4 = true → (p.props.length : Int) + (p.will.props.length : Int) ≤ 0 := fun hb => by
    have : v = 4 := beq_iff_eq.1 (hb4.trans hb)
    have := fun z => h1 ⟨this, z⟩
    omega
  have V4 : (v = 4) ↔ b4 = true := by rw [← hb4]; exact beq_iff_eq.symm
  have HV4 := Lib.hid V4
  clear h1 V4
  by_cases h2 : p.kind = 2
  · have e2 : (p.kind == 2) = true := beq_iff_eq.2 h2
    have HE2 : Hid (cntRng v p = (cntCode v p && (decide (p.code = 0) || !p.session))) := Lib.hid (by rw [HE1.out, if_pos h2])
    clear h2
    cases b4
    · have HC : Hid (cntCode v p = may p.kind p.code) := Lib.hid (by unfold cntCode; rw [if_neg (fun y => by have := HV4.out.1 y; cases this)])
      clear D1
      go_wp2_with fail
      refine (may_any p.kind p.code _).mono ?_
      rintro e w1 ⟨rfl, hb⟩
      have S1 := Lib.hid (S0.out.below hb); clear hb k0
      have k1 := S1.out.cell 0 rfl
      cases hm : may p.kind p.code
      · have HX : Hid (cntRng v p = false) := Lib.hid (by rw [HE2.out, HC.out, hm]; rfl)
        clear hm
        go_wp2
        go_ret
        exact ⟨by rw [HX.out]; rfl, S1.out.kept⟩
      · by_cases hc : p.code = 0
        · have ec : (p.code == 0) = true := beq_iff_eq.2 hc
          have HX : Hid (cntRng v p = true) := Lib.hid (by rw [HE2.out, HC.out, hm, decide_eq_true hc]; rfl)
          clear hm hc
          go_wp2
          go_ret
          exact ⟨by rw [HX.out]; rfl, S1.out.kept⟩
        · have ec : (p.code == 0) = false := beq_eq_false_iff_ne.2 hc
          have HX : Hid (cntRng v p = !p.session) := Lib.hid (by rw [HE2.out, HC.out, hm, decide_eq_false hc]; rfl)
          clear hm hc
          go_wp2
          go_ret
          exact ⟨by rw [HX.out]; rfl, S1.out.kept⟩
    · have HC : Hid (cntCode v p = retB p.code) := Lib.hid (by unfold cntCode; rw [if_pos (HV4.out.2 rfl)])
      have d1 := D1 rfl
      clear D1
      go_wp2_with fail
      refine (may_any p.kind p.code _).mono ?_
      rintro e w1 ⟨rfl, hb⟩
      have S1 := Lib.hid (S0.out.below hb); clear hb k0
      have k1 := S1.out.cell 0 rfl
      go_wp2_with fail
      refine (return_any p.code _).mono ?_
      rintro e w2 ⟨rfl, rfl⟩
      cases hm : retB p.code
      · have HX : Hid (cntRng v p = false) := Lib.hid (by rw [HE2.out, HC.out, hm]; rfl)
        clear hm
        go_wp2
        go_ret
        exact ⟨by rw [HX.out]; rfl, S1.out.kept⟩
      · by_cases hc : p.code = 0
        · have ec : (p.code == 0) = true := beq_iff_eq.2 hc
          have HX : Hid (cntRng v p = true) := Lib.hid (by rw [HE2.out, HC.out, hm, decide_eq_true hc]; rfl)
          clear hm hc
          go_wp2
          go_ret
          exact ⟨by rw [HX.out]; rfl, S1.out.kept⟩
        · have ec : (p.code == 0) = false := beq_eq_false_iff_ne.2 hc
          have HX : Hid (cntRng v p = !p.session) := Lib.hid (by rw [HE2.out, HC.out, hm, decide_eq_false hc]; rfl)
          clear hm hc
          go_wp2
          go_ret
          exact ⟨by rw [HX.out]; rfl, S1.out.kept⟩
  · have e2 : (p.kind == 2) = false := beq_eq_false_iff_ne.2 h2
    have HE2 : Hid (cntRng v p = if v = 4 ∧ ((p.client.size = 0 ∧ p.clean = false) ∨ (p.hasPass = true ∧ p.hasUser = false)) then false
      else decide (0 ≤ p.alive ∧ p.alive < 65536 ∧ 0 ≤ p.will.qos ∧ p.will.qos ≤ 2)) := Lib.hid (by rw [HE1.out, if_neg h2])
    clear h2
    have NUM : ∀ (hn : cntRng v p = decide (0 ≤ p.alive ∧ p.alive < 65536 ∧ 0 ≤ p.will.qos ∧ p.will.qos ≤ 2)),
      (¬ 0 ≤ p.alive ∧ cntRng v p = false) ∨ (0 ≤ p.alive ∧ ¬ p.alive < 65536 ∧ cntRng v p = false) ∨ (0 ≤ p.alive ∧ p.alive < 65536 ∧ ¬ 0 ≤ p.will.qos ∧ cntRng v p = false) ∨ (0 ≤ p.alive ∧ p.alive < 65536 ∧ 0 ≤ p.will.qos ∧ cntRng v p = decide (p.will.qos ≤ 2)) := fun hn => by
      rw [hn]
      by_cases a1 : 0 ≤ p.alive
      · by_cases a2 : p.alive < 65536
        · by_cases a3 : 0 ≤ p.will.qos
          · exact .inr (.inr (.inr ⟨a1, a2, a3, decide_eq_decide.2 ⟨fun y => y.2.2.2, fun y => ⟨a1, a2, a3, y⟩⟩⟩))
          · exact .inr (.inr (.inl ⟨a1, a2, a3, decide_eq_false (fun y => a3 y.2.2.1)⟩))
        · exact .inr (.inl ⟨a1, a2, decide_eq_false (fun y => a2 y.2.1)⟩)
      · exact .inl ⟨a1, decide_eq_false (fun y => a1 y.1)⟩
    have HNUM := Lib.hid NUM
    clear NUM
    cases b4
    · have HN := Lib.hid (HNUM.out (by rw [HE2.out, if_neg (fun y => by have := HV4.out.1 y.1; cases this)]))
      clear D1
      rcases HN.out with ⟨a1, hx⟩ | ⟨a1, a2, hx⟩ | ⟨a1, a2, a3, hx⟩ | ⟨a1, a2, a3, hx⟩
      · have HX := Lib.hid hx
        have a1' : p.alive < 0 := by omega
        clear hx a1
        go_wp2
        go_ret
        exact ⟨by rw [HX.out]; rfl, S0.out.kept⟩
      · have HX := Lib.hid hx
        have a2' : 65536 ≤ p.alive := by omega
        clear hx a2
        go_wp2
        go_ret
        exact ⟨by rw [HX.out]; rfl, S0.out.kept⟩
      · have HX := Lib.hid hx
        have a3' : p.will.qos < 0 := by omega
        clear hx a3
        go_wp2
        go_ret
        exact ⟨by rw [HX.out]; rfl, S0.out.kept⟩
      · have HX := Lib.hid hx
        clear hx
        go_wp2
        go_ret
        exact ⟨by rw [HX.out]; rfl, S0.out.kept⟩
    · have d1 := D1 rfl
      clear D1
      by_cases hc : p.client.size = 0 ∧ p.clean = false
      · have HX : Hid (cntRng v p = false) := Lib.hid (by rw [HE2.out, if_pos ⟨HV4.out.2 rfl, .inl hc⟩])
        rw [decide_eq_true hc.1] at hem
        have ec := hc.2
        clear hc
        go_wp2
        go_ret
        exact ⟨by rw [HX.out]; rfl, S0.out.kept⟩
      · by_cases hq : p.hasPass = true ∧ p.hasUser = false
        · have HX : Hid (cntRng v p = false) := Lib.hid (by rw [HE2.out, if_pos ⟨HV4.out.2 rfl, .inr hq⟩])
          obtain ⟨q1, q2⟩ := hq
          by_cases hz : p.client.size = 0
          · rw [decide_eq_true hz] at hem
            have ec : p.clean = true := by
              cases e : p.clean
              · exact absurd ⟨hz, e⟩ hc
              · rfl
            clear hc hz
            go_wp2
            go_ret
            exact ⟨by rw [HX.out]; rfl, S0.out.kept⟩
          · rw [decide_eq_false hz] at hem
            clear hc hz
            go_wp2
            go_ret
            exact ⟨by rw [HX.out]; rfl, S0.out.kept⟩
        · have HN := Lib.hid (HNUM.out (by rw [HE2.out, if_neg (fun y => y.2.elim hc hq)]))
          have HC := Lib.hid (And.intro hc hq)
          have hcz : (p.client.toList.isEmpty = false) ∨ (p.client.toList.isEmpty = true ∧ p.clean = true) := by
            by_cases hz : p.client.size = 0
            · rw [decide_eq_true hz] at hem
              refine .inr ⟨hem, ?_⟩
              cases e : p.clean
              · exact absurd ⟨hz, e⟩ hc
              · rfl
            · rw [decide_eq_false hz] at hem
              exact .inl hem
          have hqz : p.hasPass = false ∨ (p.hasPass = true ∧ p.hasUser = true) := by
            cases e : p.hasPass
            · exact .inl rfl
            · refine .inr ⟨rfl, ?_⟩
              cases e2 : p.hasUser
              · exact absurd ⟨e, e2⟩ hq
              · rfl
          clear hc hq hem
          rcases hcz with z1 | ⟨z1, z2⟩ <;> rcases hqz with y1 | ⟨y1, y2⟩
          all_goals
            rcases HN.out with ⟨a1, hx⟩ | ⟨a1, a2, hx⟩ | ⟨a1, a2, a3, hx⟩ | ⟨a1, a2, a3, hx⟩
            · have HX := Lib.hid hx
              have a1' : p.alive < 0 := by omega
              clear hx a1
              go_wp2
              go_ret
              exact ⟨by rw [HX.out]; rfl, S0.out.kept⟩
            · have HX := Lib.hid hx
              have a2' : 65536 ≤ p.alive := by omega
              clear hx a2
              go_wp2
              go_ret
              exact ⟨by rw [HX.out]; rfl, S0.out.kept⟩
            · have HX := Lib.hid hx
              have a3' : p.will.qos < 0 := by omega
              clear hx a3
              go_wp2
              go_ret
              exact ⟨by rw [HX.out]; rfl, S0.out.kept⟩
            · have HX := Lib.hid hx
              clear hx
              go_wp2
              go_ret
              exact ⟨by rw [HX.out]; rfl, S0.out.kept⟩
end Go.Proofs.YtpcleamaieaefaaGreatDoor

namespace Go.Proofs.YtpcleamaieaefaaGreatDoor
open Go.RowKit
attribute [local go_sem ↓] to_ldPk to_bxPk to_bdPk to_alPk to_stPk
attribute [local go_sem] run_bxPk run_bxPk_agg ld_fresh run_alPk run_bd0 run_bdK run_bdKI run_bdKIC run_bdKC run_bdKICP run_stPk_fresh pkC_0 pkC_1 pkC_2 pkC_3 pkC_4 pkC_5 pkC_6 pkC_7 pkC_8 pkC_9 pkC_10 pkC_11 pkC_12 pkC_13 pkC_14 pkC_15 pkC_16 pkC_17 pkC_18 pkC_19 pkC_20 pkC_21 pkC_22 pkC_23 pkC_24
def cntArg (v : Int) (p : Pk) : Bool := hdKnown v && (cntOurs p.kind && (decide (p = cntQ p) && cntRng v p))
def cntE (v : Int) (p : Pk) : Int :=
  if cntArg v p = false then 2
  else if validB p.client = false ∨ validB p.user = false then 6
  else if p.hasWill = true ∧ nameB p.will.topic = false then 10
  else if 65535 < p.will.payload.size ∨ 65535 < p.pass.size then 2
  else if (bytesS p.kind p.props).2 ≠ 0 then (bytesS p.kind p.props).2
  else (bytesS 16 p.will.props).2
set_option maxHeartbeats 8000000 in
set_option maxRecDepth 10000 in
theorem cntValid_any (v : Int) (p : Pk) (h : Hs) (w : World) (ip : PkIn w w.heap.size p h) (ok : PkOk p) :
    Calls Tryz.prog 240 #[.int .i64 v, pkV p h] w fun e w' => e = .returned (.int .i64 (cntE v p)) ∧ Below w.heap.size w w' := by
  have OK := Lib.hid ok
  have S0 := Lib.hid ((St.start w).push ip)
  have HE : Hid (cntE v p = if cntArg v p = false then 2
    else if validB p.client = false ∨ validB p.user = false then 6
    else if p.hasWill = true ∧ nameB p.will.topic = false then 10
    else if 65535 < p.will.payload.size ∨ 65535 < p.pass.size then 2
    else if (bytesS p.kind p.props).2 ≠ 0 then (bytesS p.kind p.props).2
    else (bytesS 16 p.will.props).2) := Lib.hid rfl
  have HA : Hid (cntArg v p = (hdKnown v && (cntOurs p.kind && (decide (p = cntQ p) && cntRng v p)))) := Lib.hid rfl
  have k0 := S0.out.cell 0 rfl
  have l0 := S0.out.ld 0 rfl
  clear ip ok
  go_enter Tryz.func240, Tryz.ntmps240
  go_wp2_with fail
  refine (cntKnown_any v _).mono ?_
  rintro e w1 ⟨rfl, rfl⟩
  cases hk : hdKnown v
  · have HX : Hid (cntE v p = 2) := Lib.hid (by rw [HE.out, if_pos (by rw [HA.out, hk]; rfl)])
    clear hk
    go_wp2
    go_ret
    exact ⟨by rw [HX.out]; rfl, S0.out.kept⟩
  have HA1 : Hid (cntArg v p = (cntOurs p.kind && (decide (p = cntQ p) && cntRng v p))) := Lib.hid (by rw [HA.out, hk, Bool.true_and])
  clear hk
  go_wp2_with fail
  refine (cntOurs_any p.kind _).mono ?_
  rintro e w1 ⟨rfl, rfl⟩
  cases hk : cntOurs p.kind
  · have HX : Hid (cntE v p = 2) := Lib.hid (by rw [HE.out, if_pos (by rw [HA1.out, hk]; rfl)])
    clear hk
    go_wp2
    go_ret
    exact ⟨by rw [HX.out]; rfl, S0.out.kept⟩
  have HA2 : Hid (cntArg v p = (decide (p = cntQ p) && cntRng v p)) := Lib.hid (by rw [HA1.out, hk, Bool.true_and])
  clear hk
  go_wp2_with fail
  refine (alone_any p h _ (S0.out.into 0 rfl) OK.out).mono ?_
  rintro e w1 ⟨rfl, hb⟩
  have S1 := Lib.hid (S0.out.below hb); clear hb k0 l0
  have k0 := S1.out.cell 0 rfl
  have l0 := S1.out.ld 0 rfl
  by_cases hs : p = cntQ p
  rotate_left
  · rw [decide_eq_false hs]
    have HX : Hid (cntE v p = 2) := Lib.hid (by rw [HE.out, if_pos (by rw [HA2.out, decide_eq_false hs]; rfl)])
    clear hs
    go_wp2
    go_ret
    exact ⟨by rw [HX.out]; rfl, S1.out.kept⟩
  rw [decide_eq_true hs]
  have HA3 : Hid (cntArg v p = cntRng v p) := Lib.hid (by rw [HA2.out, decide_eq_true hs, Bool.true_and])
  clear hs
  go_wp2_with fail
  refine (cntRng_any v p h _ (S1.out.into 0 rfl) OK.out).mono ?_
  rintro e w2 ⟨rfl, hb⟩
  have S2 := Lib.hid (S1.out.below hb); clear hb k0 l0
  have k0 := S2.out.cell 0 rfl
  cases hr : cntRng v p
  · have HX : Hid (cntE v p = 2) := Lib.hid (by rw [HE.out, if_pos (by rw [HA3.out, hr])])
    clear hr
    go_wp2
    go_ret
    exact ⟨by rw [HX.out]; rfl, S2.out.kept⟩
  have HE1 : Hid (cntE v p = if validB p.client = false ∨ validB p.user = false then 6
    else if p.hasWill = true ∧ nameB p.will.topic = false then 10
    else if 65535 < p.will.payload.size ∨ 65535 < p.pass.size then 2
    else if (bytesS p.kind p.props).2 ≠ 0 then (bytesS p.kind p.props).2
    else (bytesS 16 p.will.props).2) := Lib.hid (by rw [HE.out, if_neg (by rw [HA3.out, hr]; decide)])
  clear hr
  go_wp2_with fail
  refine (valid_any p.client _ (by have := OK.out.texts; omega)).mono ?_
  rintro e w3 ⟨rfl, hb⟩
  have S3 := Lib.hid (S2.out.below hb); clear hb k0
  have k0 := S3.out.cell 0 rfl
  cases hc : validB p.client
  · have HX : Hid (cntE v p = 6) := Lib.hid (by rw [HE1.out, if_pos (.inl hc)])
    clear hc
    go_wp2
    go_ret
    exact ⟨by rw [HX.out]; rfl, S3.out.kept⟩
  go_wp2_with fail
  refine (valid_any p.user _ (by have := OK.out.texts; omega)).mono ?_
  rintro e w4 ⟨rfl, hb⟩
  have S4 := Lib.hid (S3.out.below hb); clear hb k0
  have k0 := S4.out.cell 0 rfl
  cases hu : validB p.user
  · have HX : Hid (cntE v p = 6) := Lib.hid (by rw [HE1.out, if_pos (.inr hu)])
    clear hc hu
    go_wp2
    go_ret
    exact ⟨by rw [HX.out]; rfl, S4.out.kept⟩
  have HE2 : Hid (cntE v p = if p.hasWill = true ∧ nameB p.will.topic = false then 10
    else if 65535 < p.will.payload.size ∨ 65535 < p.pass.size then 2
    else if (bytesS p.kind p.props).2 ≠ 0 then (bytesS p.kind p.props).2
    else (bytesS 16 p.will.props).2) := Lib.hid (by rw [HE1.out, if_neg (fun y => y.elim (fun z => by rw [hc] at z; cases z) (fun z => by rw [hu] at z; cases z))])
  clear hc hu
  obtain ⟨hw, hhw⟩ : ∃ b, p.hasWill = b := ⟨_, rfl⟩
  cases hw
  · have HE3 : Hid (cntE v p = if 65535 < p.will.payload.size ∨ 65535 < p.pass.size then 2
      else if (bytesS p.kind p.props).2 ≠ 0 then (bytesS p.kind p.props).2
      else (bytesS 16 p.will.props).2) := Lib.hid (by rw [HE2.out, if_neg (fun y => by rw [hhw] at y; cases y.1)])
    have S5 := S4
    by_cases hy : 65535 < p.will.payload.size
    · have d1 : (65535 : Int) < (p.will.payload.size : Int) := by omega
      have HX : Hid (cntE v p = 2) := Lib.hid (by rw [HE3.out, if_pos (.inl hy)])
      clear hy
      go_wp2
      go_ret
      exact ⟨by rw [HX.out]; rfl, S5.out.kept⟩
    have d1 : (p.will.payload.size : Int) ≤ 65535 := by omega
    by_cases hz : 65535 < p.pass.size
    · have d2 : (65535 : Int) < (p.pass.size : Int) := by omega
      have HX : Hid (cntE v p = 2) := Lib.hid (by rw [HE3.out, if_pos (.inr hz)])
      clear hy hz
      go_wp2
      go_ret
      exact ⟨by rw [HX.out]; rfl, S5.out.kept⟩
    have d2 : (p.pass.size : Int) ≤ 65535 := by omega
    have HE4 : Hid (cntE v p = if (bytesS p.kind p.props).2 ≠ 0 then (bytesS p.kind p.props).2 else (bytesS 16 p.will.props).2) := Lib.hid (by rw [HE3.out, if_neg (fun y => y.elim hy hz)])
    clear hy hz
    go_wp2_with fail
    refine (validP_n p.kind p.props _ rfl OK.out.props h.props.a h.props.c _ (S5.out.into 0 rfl).props OK.out.len.2.2.2).mono ?_
    rintro e w6 ⟨rfl, hb⟩
    have S6 := Lib.hid (S5.out.below hb); clear hb k0
    have k0 := S6.out.cell 0 rfl
    by_cases hp : (bytesS p.kind p.props).2 = 0
    rotate_left
    · have e0 : ((bytesS p.kind p.props).2 != 0) = true := bne_iff_ne.2 hp
      have HX : Hid (cntE v p = (bytesS p.kind p.props).2) := Lib.hid (by rw [HE4.out, if_pos hp])
      clear hp
      go_wp2
      go_ret
      exact ⟨by rw [HX.out]; rfl, S6.out.kept⟩
    rw [hp]
    have HX : Hid (cntE v p = (bytesS 16 p.will.props).2) := Lib.hid (by rw [HE4.out, if_neg (fun y => y hp)])
    clear hp
    go_wp2_with fail
    refine (validP_n 16 p.will.props _ rfl OK.out.wp h.wp.a h.wp.c _ (S6.out.into 0 rfl).wp OK.out.len.1).mono ?_
    rintro e w7 ⟨rfl, hb⟩
    have S7 := Lib.hid (S6.out.below hb); clear hb k0
    go_wp2
    go_ret
    exact ⟨by rw [HX.out]; rfl, S7.out.kept⟩
  · go_wp2_with fail
    refine (name_any p.will.topic _ (by have := OK.out.texts; omega)).mono ?_
    rintro e w5 ⟨rfl, hb⟩
    have S5 := Lib.hid (S4.out.below hb); clear hb k0
    have k0 := S5.out.cell 0 rfl
    cases hn : nameB p.will.topic
    · have HX : Hid (cntE v p = 10) := Lib.hid (by rw [HE2.out, if_pos ⟨hhw, hn⟩])
      clear hn
      go_wp2
      go_ret
      exact ⟨by rw [HX.out]; rfl, S5.out.kept⟩
    have HE3 : Hid (cntE v p = if 65535 < p.will.payload.size ∨ 65535 < p.pass.size then 2
      else if (bytesS p.kind p.props).2 ≠ 0 then (bytesS p.kind p.props).2
      else (bytesS 16 p.will.props).2) := Lib.hid (by rw [HE2.out, if_neg (fun y => by rw [hn] at y; cases y.2)])
    clear hn
    by_cases hy : 65535 < p.will.payload.size
    · have d1 : (65535 : Int) < (p.will.payload.size : Int) := by omega
      have HX : Hid (cntE v p = 2) := Lib.hid (by rw [HE3.out, if_pos (.inl hy)])
      clear hy
      go_wp2
      go_ret
      exact ⟨by rw [HX.out]; rfl, S5.out.kept⟩
    have d1 : (p.will.payload.size : Int) ≤ 65535 := by omega
    by_cases hz : 65535 < p.pass.size
    · have d2 : (65535 : Int) < (p.pass.size : Int) := by omega
      have HX : Hid (cntE v p = 2) := Lib.hid (by rw [HE3.out, if_pos (.inr hz)])
      clear hy hz
      go_wp2
      go_ret
      exact ⟨by rw [HX.out]; rfl, S5.out.kept⟩
    have d2 : (p.pass.size : Int) ≤ 65535 := by omega
    have HE4 : Hid (cntE v p = if (bytesS p.kind p.props).2 ≠ 0 then (bytesS p.kind p.props).2 else (bytesS 16 p.will.props).2) := Lib.hid (by rw [HE3.out, if_neg (fun y => y.elim hy hz)])
    clear hy hz
    go_wp2_with fail
    refine (validP_n p.kind p.props _ rfl OK.out.props h.props.a h.props.c _ (S5.out.into 0 rfl).props OK.out.len.2.2.2).mono ?_
    rintro e w6 ⟨rfl, hb⟩
    have S6 := Lib.hid (S5.out.below hb); clear hb k0
    have k0 := S6.out.cell 0 rfl
    by_cases hp : (bytesS p.kind p.props).2 = 0
    rotate_left
    · have e0 : ((bytesS p.kind p.props).2 != 0) = true := bne_iff_ne.2 hp
      have HX : Hid (cntE v p = (bytesS p.kind p.props).2) := Lib.hid (by rw [HE4.out, if_pos hp])
      clear hp
      go_wp2
      go_ret
      exact ⟨by rw [HX.out]; rfl, S6.out.kept⟩
    rw [hp]
    have HX : Hid (cntE v p = (bytesS 16 p.will.props).2) := Lib.hid (by rw [HE4.out, if_neg (fun y => y hp)])
    clear hp
    go_wp2_with fail
    refine (validP_n 16 p.will.props _ rfl OK.out.wp h.wp.a h.wp.c _ (S6.out.into 0 rfl).wp OK.out.len.1).mono ?_
    rintro e w7 ⟨rfl, hb⟩
    have S7 := Lib.hid (S6.out.below hb); clear hb k0
    go_wp2
    go_ret
    exact ⟨by rw [HX.out]; rfl, S7.out.kept⟩
end Go.Proofs.YtpcleamaieaefaaGreatDoor

namespace Go.Proofs.YtpcleamaieaefaaGreatDoor
open Go.RowKit Go.Shelf
/-- Texts, one behind the other. -/
def catL : List ByteArray → ByteArray
  | [] => ⟨#[]⟩
  | x :: l => x ++ catL l
theorem cat_ls : ∀ (l : List ByteArray), ls (catL l) = (l.map (·.data.toList)).flatten
  | [] => rfl
  | x :: l => by
    rw [catL, ls_app, cat_ls l]
    rfl
/-- Properties' bytes, of V5. -/
def tail8 (v k : Int) (l : List Pr) : ByteArray := if v = 4 then ⟨#[]⟩ else ⟨(bytesS k l).1.toArray⟩
end Go.Proofs.YtpcleamaieaefaaGreatDoor

namespace Go.Proofs.YtpcleamaieaefaaGreatDoor
open Go.RowKit
attribute [local go_sem ↓] to_ldPk to_bxPk to_bdPk to_alPk to_stPk
attribute [local go_sem] run_bxPk run_bxPk_agg ld_fresh run_alPk run_bd0 run_bdK run_bdKI run_bdKIC run_bdKC run_bdKICP run_stPk_fresh pkC_0 pkC_1 pkC_2 pkC_3 pkC_4 pkC_5 pkC_6 pkC_7 pkC_8 pkC_9 pkC_10 pkC_11 pkC_12 pkC_13 pkC_14 pkC_15 pkC_16 pkC_17 pkC_18 pkC_19 pkC_20 pkC_21 pkC_22 pkC_23 pkC_24
/-- A CONNACK's body. -/
def ackS8 (v : Int) (p : Pk) : ByteArray := catL [⟨#[if p.session = true then 1 else 0]⟩, ⟨(putL p.code.toNat 1).toArray⟩, tail8 v p.kind p.props]
def cntB2 (v : Int) (p : Pk) : ByteArray × Int := if cntE v p = 0 then (ackS8 v p, 0) else (⟨#[]⟩, cntE v p)
theorem ret_range {c : Int} (h : retB c = true) : 0 ≤ c ∧ c < 256 := by
  unfold retB at h
  simp at h
  omega
theorem cntE_parts {v : Int} {p : Pk} (x : cntE v p = 0) : cntArg v p = true ∧ (validB p.client = true ∧ validB p.user = true) ∧ (p.hasWill = true → nameB p.will.topic = true) ∧ (p.will.payload.size ≤ 65535 ∧ p.pass.size ≤ 65535) ∧ (bytesS p.kind p.props).2 = 0 ∧ (bytesS 16 p.will.props).2 = 0 := by
  unfold cntE at x
  by_cases h1 : cntArg v p = false
  · rw [if_pos h1] at x; cases x
  rw [if_neg h1] at x
  by_cases h2 : validB p.client = false ∨ validB p.user = false
  · rw [if_pos h2] at x; cases x
  rw [if_neg h2] at x
  by_cases h3 : p.hasWill = true ∧ nameB p.will.topic = false
  · rw [if_pos h3] at x; cases x
  rw [if_neg h3] at x
  by_cases h4 : 65535 < p.will.payload.size ∨ 65535 < p.pass.size
  · rw [if_pos h4] at x; cases x
  rw [if_neg h4] at x
  by_cases h5 : (bytesS p.kind p.props).2 = 0
  · rw [if_neg (fun y => y h5)] at x
    refine ⟨by simpa using h1, ⟨?_, ?_⟩, fun hw => ?_, ⟨by omega, by omega⟩, h5, x⟩
    · cases e : validB p.client
      · exact absurd (.inl e) h2
      · rfl
    · cases e : validB p.user
      · exact absurd (.inr e) h2
      · rfl
    · cases e : nameB p.will.topic
      · exact absurd ⟨hw, e⟩ h3
      · rfl
  · rw [if_pos h5] at x; exact absurd x h5
theorem cntE_rng {v : Int} {p : Pk} (x : cntE v p = 0) : hdKnown v = true ∧ cntOurs p.kind = true ∧ p = cntQ p ∧ cntRng v p = true := by
  have := (cntE_parts x).1
  unfold cntArg at this
  simp only [Bool.and_eq_true, decide_eq_true_iff] at this
  exact ⟨this.1, this.2.1, this.2.2.1, this.2.2.2⟩
theorem cntE_code {v : Int} {p : Pk} (x : cntE v p = 0) (h2 : p.kind = 2) : 0 ≤ p.code ∧ p.code < 256 := by
  have h := (cntE_rng x).2.2.2
  unfold cntRng at h
  by_cases h1 : v = 4 ∧ 0 < p.props.length + p.will.props.length
  · rw [if_pos h1] at h; cases h
  rw [if_neg h1, if_pos h2] at h
  have hc : cntCode v p = true := (Bool.and_eq_true_iff.1 h).1
  unfold cntCode at hc
  by_cases h4 : v = 4
  · rw [if_pos h4] at hc; exact ret_range hc
  · rw [if_neg h4] at hc; exact may_range hc
end Go.Proofs.YtpcleamaieaefaaGreatDoor

namespace Go.Proofs.YtpcleamaieaefaaGreatDoor
open Go.RowKit
attribute [local go_sem ↓] to_ldPk to_bxPk to_bdPk to_alPk to_stPk
attribute [local go_sem] run_bxPk run_bxPk_agg ld_fresh run_alPk run_bd0 run_bdK run_bdKI run_bdKIC run_bdKC run_bdKICP run_stPk_fresh pkC_0 pkC_1 pkC_2 pkC_3 pkC_4 pkC_5 pkC_6 pkC_7 pkC_8 pkC_9 pkC_10 pkC_11 pkC_12 pkC_13 pkC_14 pkC_15 pkC_16 pkC_17 pkC_18 pkC_19 pkC_20 pkC_21 pkC_22 pkC_23 pkC_24

def bitN (b : Bool) (n : Int) : Int := if b = true then n else 0
/-- The flags of a CONNECT. -/
def flN (p : Pk) : Int := bitN p.hasUser 128 + bitN p.hasPass 64 + bitN p.will.retain 32 + p.will.qos % 4 * 8 + bitN p.hasWill 4 + bitN p.clean 2
end Go.Proofs.YtpcleamaieaefaaGreatDoor

namespace Go.Proofs.YtpcleamaieaefaaGreatDoor
open Go.RowKit

/-- Bytes with their length, if they can have one. -/
def dataB (s : ByteArray) : ByteArray := if s.size ≤ 65535 then framedS s else ⟨#[]⟩
def cntName : ByteArray := ⟨#[0, 4, 77, 81, 84, 84]⟩
/-- A CONNECT's body, up to the client's name. -/
def cntS1 (v : Int) (p : Pk) : ByteArray := catL [cntName, ⟨(putL v.toNat 1).toArray⟩, ⟨(putL (flN p).toNat 1).toArray⟩, ⟨(putL p.alive.toNat 2).toArray⟩, tail8 v p.kind p.props, dataB p.client]
def cntS2 (v : Int) (p : Pk) : ByteArray := if p.hasWill = true then catL [cntS1 v p, tail8 v 16 p.will.props, dataB p.will.topic, dataB p.will.payload] else cntS1 v p
def cntS3 (v : Int) (p : Pk) : ByteArray := if p.hasUser = true then catL [cntS2 v p, dataB p.user] else cntS2 v p
def cntS (v : Int) (p : Pk) : ByteArray := if p.hasPass = true then catL [cntS3 v p, dataB p.pass] else cntS3 v p
def cntB (v : Int) (p : Pk) : ByteArray × Int := if p.kind = 2 then cntB2 v p else if cntE v p = 0 then (cntS v p, 0) else (⟨#[]⟩, cntE v p)

def failE (e n : Int) : Int := if e = 0 then n else e
theorem failE_zero {e n : Int} (h : failE e n = 0) (hn : n ≠ 0) : False := by
  unfold failE at h
  split at h
  · exact hn h
  · next x => exact x h
/-- A cursor's next data. -/
def binC (t : ByteArray) (a : Nat) (e : Int) : ByteArray × Nat × Int := takeS t (takeS t a e 2).2.1 (takeS t a e 2).2.2 (numS t a e 2 : Nat)
theorem binC_lt (t : ByteArray) (a : Nat) (e : Int) (ha : a ≤ t.size) : (binC t a e).1.size ≤ 65535 :=
  takeS_size (takeS_le ha e 2) _ _ 65535 (by have := num_two_lt t a e ha; omega)
theorem binC_le (t : ByteArray) (a : Nat) (e : Int) (ha : a ≤ t.size) : (binC t a e).2.1 ≤ t.size := takeS_le (takeS_le ha e 2) _ _
/-- A cursor's next text. -/
def txtC (t : ByteArray) (a : Nat) (e : Int) : ByteArray × Nat × Int := ((binC t a e).1, (binC t a e).2.1, if validB (binC t a e).1 = true then (binC t a e).2.2 else failE (binC t a e).2.2 6)
/-- A cursor's next properties. -/
def prpC (v kind : Int) (t : ByteArray) (a : Nat) (e : Int) : List Pr × Nat × Int :=
  if v = 4 ∨ e ≠ 0 then ([], a, e) else ((readP kind (t.extract a t.size)).1, a + (readP kind (t.extract a t.size)).2.1, (readP kind (t.extract a t.size)).2.2)
/-- May flags be? -/
def flOk (v : Int) (f : Nat) : Bool :=
  !(decide (f % 2 = 1) || decide (f / 8 % 4 = 3) || (!decide (f / 4 % 2 = 1) && decide (f / 8 % 8 ≠ 0))) && (decide (v = 5) || !decide (f / 64 % 2 = 1) || decide (f / 128 % 2 = 1))
/-- A CONNECT by its flags, before its texts. -/
def cnPk (f k : Nat) (c : ByteArray) (l : List Pr) : Pk :=
  { pk0 with kind := 1, clean := decide (f / 2 % 2 = 1), alive := (k : Int), client := c, hasUser := decide (f / 128 % 2 = 1), hasPass := decide (f / 64 % 2 = 1), hasWill := decide (f / 4 % 2 = 1), will := { wl0 with qos := ((f / 8 % 4 : Nat) : Int), retain := decide (f / 32 % 2 = 1) }, props := l }
/-- The name; the version; the flags; the time. -/
def stN (s : ByteArray) : Nat × Int := ((takeS s 0 0 6).2.1, if (takeS s 0 0 6).1 = cntName then (takeS s 0 0 6).2.2 else failE (takeS s 0 0 6).2.2 5)
def stV (v : Int) (s : ByteArray) (a : Nat) (e : Int) : Nat × Int := ((takeS s a e 1).2.1, if ((numS s a e 1 : Nat) : Int) = v then (takeS s a e 1).2.2 else failE (takeS s a e 1).2.2 5)
def stG (v : Int) (s : ByteArray) (a : Nat) (e : Int) : Nat × Nat × Int := (numS s a e 1, (takeS s a e 1).2.1, if flOk v (numS s a e 1) = true then (takeS s a e 1).2.2 else failE (takeS s a e 1).2.2 7)
def stK (s : ByteArray) (a : Nat) (e : Int) : Nat × Nat × Int := (numS s a e 2, (takeS s a e 2).2.1, (takeS s a e 2).2.2)
def cnV (v : Int) (s : ByteArray) : Nat × Int := stV v s (stN s).1 (stN s).2
def cnF (v : Int) (s : ByteArray) : Nat × Nat × Int := stG v s (cnV v s).1 (cnV v s).2
def cnK (v : Int) (s : ByteArray) : Nat × Nat × Int := stK s (cnF v s).2.1 (cnF v s).2.2
def cnP (v : Int) (s : ByteArray) : List Pr × Nat × Int := prpC v 1 s (cnK v s).2.1 (cnK v s).2.2
def cnT (v : Int) (s : ByteArray) : ByteArray × Nat × Int := txtC s (cnP v s).2.1 (cnP v s).2.2
def cn1 (v : Int) (s : ByteArray) : Pk × Nat × Int := (cnPk (cnF v s).1 (cnK v s).1 (cnT v s).1 (cnP v s).1, (cnT v s).2.1, (cnT v s).2.2)
def cnWP (v : Int) (s : ByteArray) (a : Nat) (e : Int) : List Pr × Nat × Int := prpC v 16 s a e
def cnWT (v : Int) (s : ByteArray) (a : Nat) (e : Int) : ByteArray × Nat × Int := txtC s (cnWP v s a e).2.1 (cnWP v s a e).2.2
def cnWB (v : Int) (s : ByteArray) (a : Nat) (e : Int) : ByteArray × Nat × Int := binC s (cnWT v s a e).2.1 (cnWT v s a e).2.2
def cn2 (v : Int) (s : ByteArray) (r : Pk × Nat × Int) : Pk × Nat × Int :=
  if r.1.hasWill = true then ({ r.1 with will := { r.1.will with props := (cnWP v s r.2.1 r.2.2).1, topic := (cnWT v s r.2.1 r.2.2).1, payload := (cnWB v s r.2.1 r.2.2).1 } }, (cnWB v s r.2.1 r.2.2).2.1, (cnWB v s r.2.1 r.2.2).2.2) else r
def cn3 (s : ByteArray) (r : Pk × Nat × Int) : Pk × Nat × Int := if r.1.hasUser = true then ({ r.1 with user := (txtC s r.2.1 r.2.2).1 }, (txtC s r.2.1 r.2.2).2.1, (txtC s r.2.1 r.2.2).2.2) else r
def cn4 (s : ByteArray) (r : Pk × Nat × Int) : Pk × Nat × Int := if r.1.hasPass = true then ({ r.1 with pass := (binC s r.2.1 r.2.2).1 }, (binC s r.2.1 r.2.2).2.1, (binC s r.2.1 r.2.2).2.2) else r
/-- The CONNECT that is read, the cursor behind it. -/
def cnRd (v : Int) (s : ByteArray) : Pk × Nat × Int := cn4 s (cn3 s (cn2 v s (cn1 v s)))
/-- The CONNACK that is read, the cursor behind it. -/
def caF (s : ByteArray) : Nat × Nat × Int := (numS s 0 0 1, (takeS s 0 0 1).2.1, if numS s 0 0 1 ≤ 1 then (takeS s 0 0 1).2.2 else failE (takeS s 0 0 1).2.2 7)
def caC (s : ByteArray) : Nat × Nat × Int := (numS s (caF s).2.1 (caF s).2.2 1, (takeS s (caF s).2.1 (caF s).2.2 1).2.1, (takeS s (caF s).2.1 (caF s).2.2 1).2.2)
def caP (v : Int) (s : ByteArray) : List Pr × Nat × Int := prpC v 2 s (caC s).2.1 (caC s).2.2
def caPk (f c : Nat) (l : List Pr) : Pk := { pk0 with kind := 2, session := decide (f = 1), code := (c : Int), props := l }
def caRd (v : Int) (s : ByteArray) : Pk × Nat × Int := (caPk (caF s).1 (caC s).1 (caP v s).1, (caP v s).2.1, (caP v s).2.2)
/-- Bytes behind it, Valid's error, are errors. -/
def cnEnd (s : ByteArray) (r : Pk × Nat × Int) : Int := if s.size - r.2.1 = 0 then r.2.2 else failE r.2.2 5
def cnDone (v : Int) (s : ByteArray) (r : Pk × Nat × Int) : Pk × Int :=
  if cnEnd s r ≠ 0 then (pk0, cnEnd s r) else if cntE v r.1 ≠ 0 then (pk0, cntE v r.1) else (r.1, 0)
def cntR (v k : Int) (s : ByteArray) : Pk × Int :=
  if hdKnown v = false ∨ cntOurs k = false then (pk0, 2) else cnDone v s (if k = 1 then cnRd v s else caRd v s)

theorem take_ok {t : ByteArray} {a : Nat} {e : Int} {k : Nat} (h : (takeS t a e k).2.2 = 0) : e = 0 ∧ a + k ≤ t.size ∧ takeS t a 0 k = (t.extract a (a + k), a + k, 0) := by
  by_cases he : e = 0
  · subst he
    by_cases hs : a + k ≤ t.size
    · exact ⟨rfl, hs, take_yes hs⟩
    · rw [take_no hs] at h; cases h
  · rw [takeS_bad he] at h; exact absurd h he
theorem take_ls {t : ByteArray} {a k : Nat} (_h : a + k ≤ t.size) : (ls t).drop a = ls (t.extract a (a + k)) ++ (ls t).drop (a + k) := by
  rw [extract_ls, ← List.drop_drop, List.take_append_drop]
theorem bin_ok {t : ByteArray} {a : Nat} {e : Int} (h : (binC t a e).2.2 = 0) : e = 0 ∧ (binC t a e).2.1 ≤ t.size ∧ (binC t a e).1.size ≤ 65535 ∧ (ls t).drop a = putL (binC t a e).1.size 2 ++ (ls (binC t a e).1 ++ (ls t).drop (binC t a e).2.1) := by
  obtain ⟨h1, h2, h3⟩ := take_ok h
  obtain ⟨he, h5, h6⟩ := take_ok (k := 2) h1
  subst he
  have h6' : takeS t a 0 2 = (t.extract a (a + 2), a + 2, 0) := h6
  have hle : a ≤ t.size := by omega
  have hlt := binC_lt t a 0 hle
  have hE : binC t a 0 = (t.extract (a + 2) (a + 2 + numS t a 0 2), a + 2 + numS t a 0 2, 0) := by
    rw [h6'] at h3 h2
    unfold binC
    rw [h6']
    exact h3
  rw [h6'] at h2
  simp only at h2
  rw [hE] at hlt ⊢
  simp only at hlt ⊢
  have hsz : (t.extract (a + 2) (a + 2 + numS t a 0 2)).size = numS t a 0 2 := by rw [ByteArray.size_extract]; omega
  refine ⟨trivial, h2, hlt, ?_⟩
  rw [hsz, ← take_ls h2]
  exact num_back2 h5
theorem txt_ok {t : ByteArray} {a : Nat} {e : Int} (h : (txtC t a e).2.2 = 0) : e = 0 ∧ (txtC t a e).2.1 ≤ t.size ∧ (txtC t a e).1.size ≤ 65535 ∧ validB (txtC t a e).1 = true ∧ (ls t).drop a = putL (txtC t a e).1.size 2 ++ (ls (txtC t a e).1 ++ (ls t).drop (txtC t a e).2.1) := by
  unfold txtC at h ⊢
  simp only at h ⊢
  by_cases hv : validB (binC t a e).1 = true
  · rw [if_pos hv] at h
    obtain ⟨h1, h2, h3, h4⟩ := bin_ok h
    exact ⟨h1, h2, h3, hv, h4⟩
  · rw [if_neg hv] at h
    exact (failE_zero h (by decide)).elim
/-- Properties as they lie in a body. -/
def tailL8 (v k : Int) (l : List Pr) : List UInt8 := if v = 4 then [] else (bytesS k l).1
theorem tail8_ls (v k : Int) (l : List Pr) : ls (tail8 v k l) = tailL8 v k l := by
  unfold tail8 tailL8
  split
  · rfl
  · exact ls_mk _
theorem pr_ok {v k : Int} {t : ByteArray} {a : Nat} {e : Int} (ha : a ≤ t.size) (h : (prpC v k t a e).2.2 = 0) : e = 0 ∧ (prpC v k t a e).2.1 ≤ t.size ∧ (v = 4 → (prpC v k t a e).1 = []) ∧ (bytesS k (prpC v k t a e).1).2 = 0 ∧ (ls t).drop a = tailL8 v k (prpC v k t a e).1 ++ (ls t).drop (prpC v k t a e).2.1 := by
  unfold prpC at h ⊢
  by_cases hv : v = 4 ∨ e ≠ 0
  · rw [if_pos hv] at h ⊢
    simp only at h ⊢
    have h4 : v = 4 := hv.resolve_right (fun x => x h)
    refine ⟨h, ha, fun _ => trivial, by rw [bytesS_none], ?_⟩
    unfold tailL8
    rw [if_pos h4]
    rfl
  · rw [if_neg hv] at h ⊢
    simp only at h ⊢
    have he : e = 0 := Decidable.not_not.1 fun x => hv (.inr x)
    have h4 : v ≠ 4 := fun x => hv (.inl x)
    obtain ⟨g1, g2, g3⟩ := readP_back (kind := k) (s := t.extract a t.size) (l := (readP k (t.extract a t.size)).1) (n := (readP k (t.extract a t.size)).2.1) (by rw [← h])
    rw [ByteArray.size_extract] at g3
    refine ⟨he, by omega, fun x => absurd x h4, g1, ?_⟩
    unfold tailL8
    rw [if_neg h4, g2, rest_ls, ← List.drop_drop, List.take_append_drop]
def fS (p : Pk) (r : List UInt8) : List UInt8 := if p.hasPass = true then putL p.pass.size 2 ++ (ls p.pass ++ r) else r
def fU (p : Pk) (r : List UInt8) : List UInt8 := if p.hasUser = true then putL p.user.size 2 ++ (ls p.user ++ r) else r
def fW (v : Int) (p : Pk) (r : List UInt8) : List UInt8 := if p.hasWill = true then tailL8 v 16 p.will.props ++ (putL p.will.topic.size 2 ++ (ls p.will.topic ++ (putL p.will.payload.size 2 ++ (ls p.will.payload ++ r)))) else r
def f1 (v : Int) (p : Pk) (r : List UInt8) : List UInt8 := ls cntName ++ (putL v.toNat 1 ++ (putL (flN p).toNat 1 ++ (putL p.alive.toNat 2 ++ (tailL8 v 1 p.props ++ (putL p.client.size 2 ++ (ls p.client ++ r))))))
theorem cat_cons (x : ByteArray) (l : List ByteArray) : ls (catL (x :: l)) = ls x ++ ls (catL l) := by
  rw [cat_ls, cat_ls]; rfl
theorem cat_nil : ls (catL []) = [] := by rw [cat_ls]; rfl
theorem dataB_ls {x : ByteArray} (h : x.size ≤ 65535) : ls (dataB x) = putL x.size 2 ++ ls x := by
  unfold dataB
  rw [if_pos h]
  have := ls_framed x ⟨#[]⟩
  rw [show ls (⟨#[]⟩ : ByteArray) = [] from rfl, List.append_nil] at this
  rw [← this]
  congr 1
  exact ls_ext (by unfold framedS; simp [ls])
theorem nameB_valid {x : ByteArray} (hv : nameB x = true) : validB x = true := by
  unfold nameB textB at hv
  simp only [Bool.and_eq_true] at hv
  exact hv.1.2
/-- What holds of a CONNECT that may be. -/
structure CnGood (v : Int) (p : Pk) : Prop where
  ver : v = 4 ∨ v = 5
  kind : p.kind = 1
  same : p = cntQ p
  old : v = 4 → p.props = [] ∧ p.will.props = []
  alive : 0 ≤ p.alive ∧ p.alive < 65536
  qos : 0 ≤ p.will.qos ∧ p.will.qos ≤ 2
  pair : v = 4 → p.hasPass = true → p.hasUser = true
  client : validB p.client = true
  user : validB p.user = true
  topic : p.hasWill = true → validB p.will.topic = true
  payload : p.will.payload.size ≤ 65535
  pass : p.pass.size ≤ 65535
  props : (bytesS 1 p.props).2 = 0
  wprops : (bytesS 16 p.will.props).2 = 0
theorem cn_ls {v : Int} {p : Pk} (g : CnGood v p) (r : List UInt8) : ls (cntS v p) ++ r = f1 v p (fW v p (fU p (fS p r))) := by
  have e1 := dataB_ls (valid_size g.client)
  have e2 := dataB_ls (valid_size g.user)
  have e3 := dataB_ls g.pass
  have e4 := dataB_ls g.payload
  have h1 : ∀ R, ls (cntS1 v p) ++ R = f1 v p R := fun R => by
    unfold cntS1 f1
    simp only [cat_cons, cat_nil, ls_mk, tail8_ls, e1, g.kind, List.append_assoc, List.append_nil]
  have h2 : ∀ R, ls (cntS2 v p) ++ R = f1 v p (fW v p R) := fun R => by
    unfold cntS2 fW
    by_cases h : p.hasWill = true
    · rw [if_pos h, if_pos h, ← h1]
      simp only [cat_cons, cat_nil, tail8_ls, dataB_ls (valid_size (g.topic h)), e4, List.append_assoc, List.append_nil]
    · rw [if_neg h, if_neg h, h1]
  have h3 : ∀ R, ls (cntS3 v p) ++ R = f1 v p (fW v p (fU p R)) := fun R => by
    unfold cntS3 fU
    by_cases h : p.hasUser = true
    · rw [if_pos h, if_pos h, ← h2]
      simp only [cat_cons, cat_nil, e2, List.append_assoc, List.append_nil]
    · rw [if_neg h, if_neg h, h2]
  unfold cntS fS
  by_cases h : p.hasPass = true
  · rw [if_pos h, if_pos h, ← h3]
    simp only [cat_cons, cat_nil, e3, List.append_assoc, List.append_nil]
  · rw [if_neg h, if_neg h, h3]
end Go.Proofs.YtpcleamaieaefaaGreatDoor

