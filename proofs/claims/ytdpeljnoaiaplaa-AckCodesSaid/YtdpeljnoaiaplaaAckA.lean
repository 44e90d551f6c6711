/- ack: the walks of known, Valid. -/
import Derived.Test.YtdpeljnoaiaplaaPkE
import Derived.Test.YtdpeljnoaiaplaaPkM
import Derived.Test.YtdpeljnoaiaplaaReaD
namespace Go.Proofs.Ytdpeljnoaiaplaa
open Go.RowKit
attribute [local go_sem ↓] to_ldPk to_bxPk to_bdPk to_alPk to_stPk
attribute [local go_sem] run_bxPk run_bxPk_agg ld_fresh run_alPk run_bd0 run_bdK run_bdKI run_bdKIC run_bdKC run_bdKICP run_stPk_fresh pkC_0 pkC_1 pkC_2 pkC_3 pkC_4 pkC_5 pkC_6 pkC_7 pkC_8 pkC_9 pkC_10 pkC_11 pkC_12 pkC_13 pkC_14 pkC_15 pkC_16 pkC_17 pkC_18 pkC_19 pkC_20 pkC_21 pkC_22 pkC_23 pkC_24

/-- Such a version, such a kind. -/
def ackK (v k : Int) : Bool := decide ((v = 4 ∨ v = 5) ∧ 4 ≤ k ∧ k ≤ 7)
set_option maxHeartbeats 400000 in
set_option maxRecDepth 10000 in
theorem ackKnown_any (v k : Int) (w : World) : Calls Try.prog 41 #[.int .i64 v, .int .i64 k] w fun e w' => e = .returned (.bool (ackK v k)) ∧ w = w' := by
  go_enter Try.func41, Try.ntmps41
  go_wp2
  all_goals
    go_ret
    refine ⟨ret_bool ?_, rfl⟩
    unfold ackK
    simp_all <;> omega

/-- A packet with nothing but what an acknowledgement may have. -/
def ackP (p : Pk) : Pk := { pk0 with kind := p.kind, id := p.id, code := p.code, props := p.props }
def ackH (h : Hs) : Hs := { hs0 with props := h.props }
def ackE (v : Int) (p : Pk) : Int :=
  if ackK v p.kind = false ∨ p.id ≤ 0 ∨ 65536 ≤ p.id ∨ may p.kind p.code = false then 2
  else if v = 4 ∧ (p.code ≠ 0 ∨ p.props.length ≠ 0) then 2
  else if p ≠ ackP p then 2
  else (bytesS p.kind p.props).2
theorem ackIn {w : World} {B : Nat} {p : Pk} {h : Hs} (x : PkIn w B p h) : PkIn w B (ackP p) (ackH h) := ⟨Rd.nil _ _ _ _, Rd.nil _ _ _ _, Rd.nil _ _ _ _, x.props, Nat.zero_le _, Nat.zero_le _, Nat.zero_le _, x.caps.2.2.2⟩
theorem PkOk.len {p : Pk} (x : PkOk p) : PkLen p := by
  obtain ⟨h1, h2, h3, h4⟩ := x.lens
  exact ⟨by omega, by omega, by omega, by omega⟩
theorem ackLen {p : Pk} (x : PkLen p) : PkLen (ackP p) := ⟨Nat.zero_le _, Nat.zero_le _, Nat.zero_le _, x.2.2.2⟩

set_option maxHeartbeats 2000000 in
set_option maxRecDepth 10000 in
theorem ackValid_any (v : Int) (p : Pk) (h : Hs) (w : World) (ip : PkIn w w.heap.size p h) (ok : PkOk p) :
    Calls Try.prog 19 #[.int .i64 v, pkV p h] w fun e w' => e = .returned (.int .i64 (ackE v p)) ∧ Below w.heap.size w w' := by
  have IP := Lib.hid ip; have OK := Lib.hid ok; clear ip ok
  have HB := Lib.hid ((Below.refl w.heap.size w).alloc (Nat.le_refl _) (.cells (pkC p h) PkT))
  have HK := Lib.hid (Bk.fresh w PkT (pkC p h))
  have HE : Hid (ackE v p = if ackK v p.kind = false ∨ p.id ≤ 0 ∨ 65536 ≤ p.id ∨ may p.kind p.code = false then 2 else if v = 4 ∧ (p.code ≠ 0 ∨ p.props.length ≠ 0) then 2 else if p ≠ ackP p then 2 else (bytesS p.kind p.props).2) := Lib.hid rfl
  go_enter Try.func19, Try.ntmps19
  go_wp2_with fail
  refine (ackKnown_any v p.kind _).mono ?_
  rintro e w1 ⟨rfl, rfl⟩
  cases hk : ackK v p.kind
  · have HX : Hid (ackE v p = 2) := Lib.hid (by rw [HE.out, if_pos (.inl hk)])
    go_wp2
    go_ret
    exact ⟨by rw [HX.out]; rfl, HB.out⟩
  · by_cases h1 : p.id ≤ 0
    · have HX : Hid (ackE v p = 2) := Lib.hid (by rw [HE.out, if_pos (.inr (.inl h1))])
      go_wp2
      go_ret
      exact ⟨by rw [HX.out]; rfl, HB.out⟩
    · have d1 : decide (p.id ≤ 0) = false := decide_eq_false h1
      have d1' : 0 < p.id := by omega
      by_cases h2 : 65536 ≤ p.id
      · have HX : Hid (ackE v p = 2) := Lib.hid (by rw [HE.out, if_pos (.inr (.inr (.inl h2)))])
        clear h1
        go_wp2
        go_ret
        exact ⟨by rw [HX.out]; rfl, HB.out⟩
      · have d2 : decide (65536 ≤ p.id) = false := decide_eq_false h2
        have d2' : p.id < 65536 := by omega
        have H12 := Lib.hid (And.intro h1 h2)
        clear h1 h2
        go_wp2_with fail
        refine (may_any p.kind p.code _).mono ?_
        rintro e w1 ⟨rfl, hb⟩
        have HB1 := Lib.hid (HB.out.trans (hb.mono HB.out.size)); have HK1 := Lib.hid (HK.out.below hb HK.out.lt)
        clear hb
        have k1 := fun i => HK1.out.cell i
        cases hm : may p.kind p.code
        · have HX : Hid (ackE v p = 2) := Lib.hid (by rw [HE.out, if_pos (.inr (.inr (.inr hm)))])
          clear hm
          go_wp2
          go_ret
          exact ⟨by rw [HX.out]; rfl, HB1.out⟩
        · have HE2 : Hid (ackE v p = if v = 4 ∧ (p.code ≠ 0 ∨ p.props.length ≠ 0) then 2 else if p ≠ ackP p then 2 else (bytesS p.kind p.props).2) := Lib.hid (by
            rw [HE.out, if_neg]
            rintro (x | x | x | x)
            · rw [hk] at x; cases x
            · have := H12.out.1; omega
            · have := H12.out.2; omega
            · rw [hm] at x; cases x)
          clear hm hk HE
          by_cases h4 : v = 4 ∧ (p.code ≠ 0 ∨ p.props.length ≠ 0)
          · have HX : Hid (ackE v p = 2) := Lib.hid (by rw [HE2.out, if_pos h4])
            obtain ⟨rfl, h5⟩ := h4
            by_cases hc : p.code = 0
            · have e1 : (p.code != 0) = false := by simpa using hc
              have e2 : ((p.props.length : Int) != 0) = true := bne_iff_ne.2 (by omega)
              clear hc h5
              go_wp2
              go_ret
              exact ⟨by rw [HX.out]; rfl, HB1.out⟩
            · have e1 : (p.code != 0) = true := bne_iff_ne.2 hc
              clear hc h5
              go_wp2
              go_ret
              exact ⟨by rw [HX.out]; rfl, HB1.out⟩
          · have HE3 : Hid (ackE v p = if p ≠ ackP p then 2 else (bytesS p.kind p.props).2) := Lib.hid (by rw [HE2.out, if_neg h4])
            have HL := Lib.hid (ld_bk HK1.out)
            by_cases hv : v = 4
            · have hc : p.code = 0 := by
                rcases Decidable.em (p.code = 0) with x | x
                · exact x
                · exact absurd ⟨hv, .inl x⟩ h4
              have hn : p.props.length = 0 := by
                rcases Decidable.em (p.props.length = 0) with x | x
                · exact x
                · exact absurd ⟨hv, .inr x⟩ h4
              have e0 : (v == 4) = true := beq_iff_eq.2 hv
              have e1 : (p.code != 0) = false := by simpa using hc
              have e2 : ((p.props.length : Int) != 0) = false := by simpa using (show (p.props.length : Int) = 0 by omega)
              have hl := HL.out
              clear h4 hv hc hn HE2
              go_wp2_with fail
              refine (same_any p (ackP p) h (ackH h) _ ((IP.out.below HB1.out).wider HB1.out.size) (ackIn ((IP.out.below HB1.out).wider HB1.out.size)) OK.out.len (ackLen OK.out.len)).mono ?_
              rintro e w2 ⟨rfl, hb⟩
              have HB2 := Lib.hid (HB1.out.trans (hb.mono HB1.out.size)); have HK2 := Lib.hid (HK1.out.below hb HK1.out.lt)
              clear hb k1 hl
              have k2 := fun i => HK2.out.cell i
              by_cases hs : p = ackP p
              · rw [decide_eq_true hs]
                have HX : Hid (ackE v p = (bytesS p.kind p.props).2) := Lib.hid (by rw [HE3.out, if_neg (fun x => x hs)])
                clear hs
                go_wp2_with fail
                refine (validP_n p.kind p.props _ rfl OK.out.props h.props.a h.props.c _ ((IP.out.below HB2.out).wider HB2.out.size).props OK.out.len.2.2.2).mono ?_
                rintro e w3 ⟨rfl, hb⟩
                have HB3 := Lib.hid (HB2.out.trans (hb.mono HB2.out.size))
                clear hb k2
                go_wp2
                go_ret
                exact ⟨by rw [HX.out]; rfl, HB3.out⟩
              · rw [decide_eq_false hs]
                have HX : Hid (ackE v p = 2) := Lib.hid (by rw [HE3.out, if_pos hs])
                clear hs
                go_wp2
                go_ret
                exact ⟨by rw [HX.out]; rfl, HB2.out⟩
            · have e0 : (v == 4) = false := beq_eq_false_iff_ne.2 hv
              have hl := HL.out
              clear h4 hv HE2
              go_wp2_with fail
              refine (same_any p (ackP p) h (ackH h) _ ((IP.out.below HB1.out).wider HB1.out.size) (ackIn ((IP.out.below HB1.out).wider HB1.out.size)) OK.out.len (ackLen OK.out.len)).mono ?_
              rintro e w2 ⟨rfl, hb⟩
              have HB2 := Lib.hid (HB1.out.trans (hb.mono HB1.out.size)); have HK2 := Lib.hid (HK1.out.below hb HK1.out.lt)
              clear hb k1 hl
              have k2 := fun i => HK2.out.cell i
              by_cases hs : p = ackP p
              · rw [decide_eq_true hs]
                have HX : Hid (ackE v p = (bytesS p.kind p.props).2) := Lib.hid (by rw [HE3.out, if_neg (fun x => x hs)])
                clear hs
                go_wp2_with fail
                refine (validP_n p.kind p.props _ rfl OK.out.props h.props.a h.props.c _ ((IP.out.below HB2.out).wider HB2.out.size).props OK.out.len.2.2.2).mono ?_
                rintro e w3 ⟨rfl, hb⟩
                have HB3 := Lib.hid (HB2.out.trans (hb.mono HB2.out.size))
                clear hb k2
                go_wp2
                go_ret
                exact ⟨by rw [HX.out]; rfl, HB3.out⟩
              · rw [decide_eq_false hs]
                have HX : Hid (ackE v p = 2) := Lib.hid (by rw [HE3.out, if_pos hs])
                clear hs
                go_wp2
                go_ret
                exact ⟨by rw [HX.out]; rfl, HB2.out⟩
end Go.Proofs.Ytdpeljnoaiaplaa
