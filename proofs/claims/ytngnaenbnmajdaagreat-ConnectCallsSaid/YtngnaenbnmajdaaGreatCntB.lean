/- connect: the walks of ranges, Valid. -/
import Derived.Test.YtngnaenbnmajdaaGreatCntA
namespace Go.Proofs.YtngnaenbnmajdaaGreat
open Go.RowKit
attribute [local go_sem ↓] to_ldPk to_bxPk to_bdPk to_alPk to_stPk
attribute [local go_sem] run_bxPk run_bxPk_agg ld_fresh run_alPk run_bd0 run_bdK run_bdKI run_bdKIC run_bdKC run_bdKICP run_stPk_fresh pkC_0 pkC_1 pkC_2 pkC_3 pkC_4 pkC_5 pkC_6 pkC_7 pkC_8 pkC_9 pkC_10 pkC_11 pkC_12 pkC_13 pkC_14 pkC_15 pkC_16 pkC_17 pkC_18 pkC_19 pkC_20 pkC_21 pkC_22 pkC_23 pkC_24
def cntCode (v : Int) (p : Pk) : Bool := if v = 4 then retB p.code else may p.kind p.code
def cntRng (v : Int) (p : Pk) : Bool :=
  if v = 4 ∧ 0 < p.props.length + p.will.props.length then false
  else if p.kind = 2 then cntCode v p && (decide (p.code = 0) || !p.session)
  else if v = 4 ∧ ((p.client.size = 0 ∧ p.clean = false) ∨ (p.hasPass = true ∧ p.hasUser = false)) then false
  else decide (0 ≤ p.alive ∧ p.alive < 65536 ∧ 0 ≤ p.will.qos ∧ p.will.qos ≤ 2)
set_option maxHeartbeats 8000000 in
set_option maxRecDepth 10000 in
theorem cntRng_any (v : Int) (p : Pk) (h : Hs) (w : World) (ip : PkIn w w.heap.size p h) (ok : PkOk p) :
    Calls Tryz.prog 48 #[.int .i64 v, pkV p h] w fun e w' => e = .returned (.bool (cntRng v p)) ∧ Below w.heap.size w w' := by
  have OK := Lib.hid ok
  have S0 := Lib.hid ((St.start w).push ip)
  have HE : Hid (cntRng v p = if v = 4 ∧ 0 < p.props.length + p.will.props.length then false
    else if p.kind = 2 then cntCode v p && (decide (p.code = 0) || !p.session)
    else if v = 4 ∧ ((p.client.size = 0 ∧ p.clean = false) ∨ (p.hasPass = true ∧ p.hasUser = false)) then false
    else decide (0 ≤ p.alive ∧ p.alive < 65536 ∧ 0 ≤ p.will.qos ∧ p.will.qos ≤ 2)) := Lib.hid rfl
  have k0 := S0.out.cell 0 rfl
  have hsum : IntKind.i64.wrap ((p.props.length : Int) + (p.will.props.length : Int)) = (p.props.length : Int) + (p.will.props.length : Int) := by
    rw [IntKind.wrap_i64]; have := ok.lens; omega
  have hem := emptyB_iff p.client
  clear ip ok
  go_enter Tryz.func48, Tryz.ntmps48
  by_cases h1 : v = 4 ∧ 0 < p.props.length + p.will.props.length
  · have HX : Hid (cntRng v p = false) := Lib.hid (by rw [HE.out, if_pos h1])
    have e4 : (v == 4) = true := beq_iff_eq.2 h1.1
    have d1 : (0 : Int) < (p.props.length : Int) + (p.will.props.length : Int) := by omega
    clear h1
    go_wp2
    go_ret
    exact ⟨by rw [HX.out]; rfl, S0.out.kept⟩
  have HE1 : Hid (cntRng v p = if p.kind = 2 then cntCode v p && (decide (p.code = 0) || !p.session)
    else if v = 4 ∧ ((p.client.size = 0 ∧ p.clean = false) ∨ (p.hasPass = true ∧ p.hasUser = false)) then false
    else decide (0 ≤ p.alive ∧ p.alive < 65536 ∧ 0 ≤ p.will.qos ∧ p.will.qos ≤ 2)) := Lib.hid (by rw [HE.out, if_neg h1])
  obtain ⟨b4, hb4⟩ : ∃ b : Bool, (v == 4) = b := ⟨_, rfl⟩
  have D1 : b4 = true → (p.props.length : Int) + (p.will.props.length : Int) ≤ 0 := fun hb => by
    have : v = 4 := beq_iff_eq.1 (hb4.trans hb)
    have := fun z => h1 ⟨this, z⟩
    omega
  have V4 : (v = 4) ↔ b4 = true := by rw [← hb4]; exact beq_iff_eq.symm
  have HV4 := Lib.hid V4
  clear h1 V4
  by_cases h2 : p.kind = 2
  · have e2 : (p.kind == 2) = true := beq_iff_eq.2 h2
    have HE2 : Hid (cntRng v p = (cntCode v p && (decide (p.code = 0) || !p.session))) := Lib.hid (by rw [HE1.out, if_pos h2])
    clear h2
    cases b4
    · have HC : Hid (cntCode v p = may p.kind p.code) := Lib.hid (by unfold cntCode; rw [if_neg (fun y => by have := HV4.out.1 y; cases this)])
      clear D1
      go_wp2_with fail
      refine (may_any p.kind p.code _).mono ?_
      rintro e w1 ⟨rfl, hb⟩
      have S1 := Lib.hid (S0.out.below hb); clear hb k0
      have k1 := S1.out.cell 0 rfl
      cases hm : may p.kind p.code
      · have HX : Hid (cntRng v p = false) := Lib.hid (by rw [HE2.out, HC.out, hm]; rfl)
        clear hm
        go_wp2
        go_ret
        exact ⟨by rw [HX.out]; rfl, S1.out.kept⟩
      · by_cases hc : p.code = 0
        · have ec : (p.code == 0) = true := beq_iff_eq.2 hc
          have HX : Hid (cntRng v p = true) := Lib.hid (by rw [HE2.out, HC.out, hm, decide_eq_true hc]; rfl)
          clear hm hc
          go_wp2
          go_ret
          exact ⟨by rw [HX.out]; rfl, S1.out.kept⟩
        · have ec : (p.code == 0) = false := beq_eq_false_iff_ne.2 hc
          have HX : Hid (cntRng v p = !p.session) := Lib.hid (by rw [HE2.out, HC.out, hm, decide_eq_false hc]; rfl)
          clear hm hc
          go_wp2
          go_ret
          exact ⟨by rw [HX.out]; rfl, S1.out.kept⟩
    · have HC : Hid (cntCode v p = retB p.code) := Lib.hid (by unfold cntCode; rw [if_pos (HV4.out.2 rfl)])
      have d1 := D1 rfl
      clear D1
      go_wp2_with fail
      refine (may_any p.kind p.code _).mono ?_
      rintro e w1 ⟨rfl, hb⟩
      have S1 := Lib.hid (S0.out.below hb); clear hb k0
      have k1 := S1.out.cell 0 rfl
      go_wp2_with fail
      refine (return_any p.code _).mono ?_
      rintro e w2 ⟨rfl, rfl⟩
      cases hm : retB p.code
      · have HX : Hid (cntRng v p = false) := Lib.hid (by rw [HE2.out, HC.out, hm]; rfl)
        clear hm
        go_wp2
        go_ret
        exact ⟨by rw [HX.out]; rfl, S1.out.kept⟩
      · by_cases hc : p.code = 0
        · have ec : (p.code == 0) = true := beq_iff_eq.2 hc
          have HX : Hid (cntRng v p = true) := Lib.hid (by rw [HE2.out, HC.out, hm, decide_eq_true hc]; rfl)
          clear hm hc
          go_wp2
          go_ret
          exact ⟨by rw [HX.out]; rfl, S1.out.kept⟩
        · have ec : (p.code == 0) = false := beq_eq_false_iff_ne.2 hc
          have HX : Hid (cntRng v p = !p.session) := Lib.hid (by rw [HE2.out, HC.out, hm, decide_eq_false hc]; rfl)
          clear hm hc
          go_wp2
          go_ret
          exact ⟨by rw [HX.out]; rfl, S1.out.kept⟩
  · have e2 : (p.kind == 2) = false := beq_eq_false_iff_ne.2 h2
    have HE2 : Hid (cntRng v p = if v = 4 ∧ ((p.client.size = 0 ∧ p.clean = false) ∨ (p.hasPass = true ∧ p.hasUser = false)) then false
      else decide (0 ≤ p.alive ∧ p.alive < 65536 ∧ 0 ≤ p.will.qos ∧ p.will.qos ≤ 2)) := Lib.hid (by rw [HE1.out, if_neg h2])
    clear h2
    have NUM : ∀ (hn : cntRng v p = decide (0 ≤ p.alive ∧ p.alive < 65536 ∧ 0 ≤ p.will.qos ∧ p.will.qos ≤ 2)),
      (¬ 0 ≤ p.alive ∧ cntRng v p = false) ∨ (0 ≤ p.alive ∧ ¬ p.alive < 65536 ∧ cntRng v p = false) ∨ (0 ≤ p.alive ∧ p.alive < 65536 ∧ ¬ 0 ≤ p.will.qos ∧ cntRng v p = false) ∨ (0 ≤ p.alive ∧ p.alive < 65536 ∧ 0 ≤ p.will.qos ∧ cntRng v p = decide (p.will.qos ≤ 2)) := fun hn => by
      rw [hn]
      by_cases a1 : 0 ≤ p.alive
      · by_cases a2 : p.alive < 65536
        · by_cases a3 : 0 ≤ p.will.qos
          · exact .inr (.inr (.inr ⟨a1, a2, a3, decide_eq_decide.2 ⟨fun y => y.2.2.2, fun y => ⟨a1, a2, a3, y⟩⟩⟩))
          · exact .inr (.inr (.inl ⟨a1, a2, a3, decide_eq_false (fun y => a3 y.2.2.1)⟩))
        · exact .inr (.inl ⟨a1, a2, decide_eq_false (fun y => a2 y.2.1)⟩)
      · exact .inl ⟨a1, decide_eq_false (fun y => a1 y.1)⟩
    have HNUM := Lib.hid NUM
    clear NUM
    cases b4
    · have HN := Lib.hid (HNUM.out (by rw [HE2.out, if_neg (fun y => by have := HV4.out.1 y.1; cases this)]))
      clear D1
      rcases HN.out with ⟨a1, hx⟩ | ⟨a1, a2, hx⟩ | ⟨a1, a2, a3, hx⟩ | ⟨a1, a2, a3, hx⟩
      · have HX := Lib.hid hx
        have a1' : p.alive < 0 := by omega
        clear hx a1
        go_wp2
        go_ret
        exact ⟨by rw [HX.out]; rfl, S0.out.kept⟩
      · have HX := Lib.hid hx
        have a2' : 65536 ≤ p.alive := by omega
        clear hx a2
        go_wp2
        go_ret
        exact ⟨by rw [HX.out]; rfl, S0.out.kept⟩
      · have HX := Lib.hid hx
        have a3' : p.will.qos < 0 := by omega
        clear hx a3
        go_wp2
        go_ret
        exact ⟨by rw [HX.out]; rfl, S0.out.kept⟩
      · have HX := Lib.hid hx
        clear hx
        go_wp2
        go_ret
        exact ⟨by rw [HX.out]; rfl, S0.out.kept⟩
    · have d1 := D1 rfl
      clear D1
      by_cases hc : p.client.size = 0 ∧ p.clean = false
      · have HX : Hid (cntRng v p = false) := Lib.hid (by rw [HE2.out, if_pos ⟨HV4.out.2 rfl, .inl hc⟩])
        rw [decide_eq_true hc.1] at hem
        have ec := hc.2
        clear hc
        go_wp2
        go_ret
        exact ⟨by rw [HX.out]; rfl, S0.out.kept⟩
      · by_cases hq : p.hasPass = true ∧ p.hasUser = false
        · have HX : Hid (cntRng v p = false) := Lib.hid (by rw [HE2.out, if_pos ⟨HV4.out.2 rfl, .inr hq⟩])
          obtain ⟨q1, q2⟩ := hq
          by_cases hz : p.client.size = 0
          · rw [decide_eq_true hz] at hem
            have ec : p.clean = true := by
              cases e : p.clean
              · exact absurd ⟨hz, e⟩ hc
              · rfl
            clear hc hz
            go_wp2
            go_ret
            exact ⟨by rw [HX.out]; rfl, S0.out.kept⟩
          · rw [decide_eq_false hz] at hem
            clear hc hz
            go_wp2
            go_ret
            exact ⟨by rw [HX.out]; rfl, S0.out.kept⟩
        · have HN := Lib.hid (HNUM.out (by rw [HE2.out, if_neg (fun y => y.2.elim hc hq)]))
          have HC := Lib.hid (And.intro hc hq)
          have hcz : (p.client.toList.isEmpty = false) ∨ (p.client.toList.isEmpty = true ∧ p.clean = true) := by
            by_cases hz : p.client.size = 0
            · rw [decide_eq_true hz] at hem
              refine .inr ⟨hem, ?_⟩
              cases e : p.clean
              · exact absurd ⟨hz, e⟩ hc
              · rfl
            · rw [decide_eq_false hz] at hem
              exact .inl hem
          have hqz : p.hasPass = false ∨ (p.hasPass = true ∧ p.hasUser = true) := by
            cases e : p.hasPass
            · exact .inl rfl
            · refine .inr ⟨rfl, ?_⟩
              cases e2 : p.hasUser
              · exact absurd ⟨e, e2⟩ hq
              · rfl
          clear hc hq hem
          rcases hcz with z1 | ⟨z1, z2⟩ <;> rcases hqz with y1 | ⟨y1, y2⟩
          all_goals
            rcases HN.out with ⟨a1, hx⟩ | ⟨a1, a2, hx⟩ | ⟨a1, a2, a3, hx⟩ | ⟨a1, a2, a3, hx⟩
            · have HX := Lib.hid hx
              have a1' : p.alive < 0 := by omega
              clear hx a1
              go_wp2
              go_ret
              exact ⟨by rw [HX.out]; rfl, S0.out.kept⟩
            · have HX := Lib.hid hx
              have a2' : 65536 ≤ p.alive := by omega
              clear hx a2
              go_wp2
              go_ret
              exact ⟨by rw [HX.out]; rfl, S0.out.kept⟩
            · have HX := Lib.hid hx
              have a3' : p.will.qos < 0 := by omega
              clear hx a3
              go_wp2
              go_ret
              exact ⟨by rw [HX.out]; rfl, S0.out.kept⟩
            · have HX := Lib.hid hx
              clear hx
              go_wp2
              go_ret
              exact ⟨by rw [HX.out]; rfl, S0.out.kept⟩
end Go.Proofs.YtngnaenbnmajdaaGreat
