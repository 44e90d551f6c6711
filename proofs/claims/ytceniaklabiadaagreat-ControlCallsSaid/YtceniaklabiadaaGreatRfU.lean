/- Reference 10: right, Valid, Short, Body, Next, Rest; reference 08: Done. -/
import Derived.Test.YtceniaklabiadaaGreatRfT
import Derived.Test.YtceniaklabiadaaGreatMRfC
import Derived.Test.YtceniaklabiadaaGreatMRfB
import Derived.Test.YtceniaklabiadaaGreatMReaB
import Derived.Deep.RegionLaw
namespace Go.Proofs.YtceniaklabiadaaGreat
open Go.RowKit
attribute [local go_sem ↓] to_ldPk to_bxPk to_bdPk to_alPk to_stPk
attribute [local go_sem] run_bxPk run_bxPk_agg ld_fresh run_alPk run_bd0 run_bdK run_bdKI run_bdKIC run_bdKC run_stPk_fresh pkC_0 pkC_1 pkC_2 pkC_3 pkC_4 pkC_5 pkC_6 pkC_7 pkC_8 pkC_9 pkC_10 pkC_11 pkC_12 pkC_13 pkC_14 pkC_15 pkC_16 pkC_17 pkC_18 pkC_19 pkC_20 pkC_21 pkC_22 pkC_23 pkC_24

theorem run_bdAckP (p : Pk) (h : Hs) (w : World) : (bdPk #[(0, .int .i64 p.kind), (4, .int .i64 p.id), (17, .int .i64 p.code), (20, .slice h.props.a p.props.length h.props.c)]).run Tryz.prog w = .ok (pkV (ackP p) (ackH h)) w := by kernel_rfl
set_option maxHeartbeats 4000000 in
set_option maxRecDepth 10000 in
theorem refAckRight_any (v : Int) (p : Pk) (h : Hs) (w : World) (ip : PkIn w w.heap.size p h) (ok : PkOk p) :
    Calls Tryz.prog 81 #[.int .i64 v, pkV p h] w fun e w' => e = .returned (.bool (ackRB v p)) ∧ Below w.heap.size w w' := by
  have OK := Lib.hid ok
  have S0 := Lib.hid ((St.start w).push ip)
  clear ip ok
  go_enter Tryz.func81, Tryz.ntmps81
  have k0 := S0.out.cell 0 rfl 0
  rw [pkC_0] at k0
  go_wp2_with fail
  refine (refVersion_any v _).mono ?_
  rintro e w1 ⟨rfl, rfl⟩
  cases hk : hdKnown v
  · have HX : Hid (ackRB v p = false) := Lib.hid (decide_eq_false (fun x => by have h1 := of_decide_eq_true (show decide _ = true from x.1); have h2 := of_decide_eq_false (show decide (v = 4 ∨ v = 5) = false from hk); exact h2 h1.1))
    clear hk
    go_wp2
    go_ret
    exact ⟨by rw [HX.out]; rfl, S0.out.kept⟩
  by_cases h4 : p.kind < 4
  · have HX : Hid (ackRB v p = false) := Lib.hid (decide_eq_false (fun x => by have h1 := of_decide_eq_true (show decide _ = true from x.1); omega))
    clear hk
    go_wp2
    go_ret
    exact ⟨by rw [HX.out]; rfl, S0.out.kept⟩
  have d4 : decide (p.kind < (4 : Int)) = false := decide_eq_false h4
  by_cases h7 : 7 < p.kind
  · have HX : Hid (ackRB v p = false) := Lib.hid (decide_eq_false (fun x => by have h1 := of_decide_eq_true (show decide _ = true from x.1); omega))
    clear hk h4
    go_wp2
    go_ret
    exact ⟨by rw [HX.out]; rfl, S0.out.kept⟩
  have d7 : decide ((7 : Int) < p.kind) = false := decide_eq_false h7
  have HKN : Hid (ackK v p.kind = true) := Lib.hid (decide_eq_true ⟨of_decide_eq_true (show decide (v = 4 ∨ v = 5) = true from hk), by omega, by omega⟩)
  clear hk h4 h7
  have k4 := S0.out.cell 0 rfl 4
  have k17 := S0.out.cell 0 rfl 21
  have k20 := S0.out.cell 0 rfl 24
  rw [pkC_4] at k4
  rw [pkC_21] at k17
  rw [pkC_24] at k20
  have hbd := fun W => run_bdAckP p h W
  generalize hW : w.alloc (.cells (pkC p h) PkT) = W at *
  have S2 : Hid (St w [(w.heap.size, p, h), (W.heap.size, ackP p, ackH h)] (W.alloc (.cells (pkC (ackP p) (ackH h)) PkT))) := Lib.hid (S0.out.push (ackIn (S0.out.into 0 rfl)))
  have C2 : Hid (Calls Tryz.prog 87 #[pkV p h, pkV (ackP p) (ackH h)] (W.alloc (.cells (pkC (ackP p) (ackH h)) PkT)) fun e w' => e = .returned (.bool (decide (p = ackP p))) ∧ Below (W.alloc (.cells (pkC (ackP p) (ackH h)) PkT)).heap.size (W.alloc (.cells (pkC (ackP p) (ackH h)) PkT)) w') :=
    Lib.hid (refSamePk_any p (ackP p) h (ackH h) _ (S2.out.into 0 rfl) (S2.out.into 1 rfl) OK.out.len (ackLen OK.out.len))
  clear hW
  have hl0 := S2.out.ld 0 rfl
  have hl1 := S2.out.ld 1 rfl
  have j17 := S2.out.cell 0 rfl 21
  have j20 := S2.out.cell 0 rfl 24
  rw [pkC_21] at j17
  rw [pkC_24] at j20
  by_cases hv : v = 4
  · have e4 : (v == 4) = true := beq_iff_eq.2 hv
    by_cases hc : p.code = 0
    · have ec : (p.code != 0) = false := by simpa using hc
      by_cases hl : 0 < p.props.length
      · have dl : decide ((0 : Int) < (p.props.length : Int)) = true := decide_eq_true (by omega)
        have dl1 : decide (0 < p.props.length) = true := decide_eq_true hl
        have HO : Hid (v = 4 ∧ (p.code ≠ 0 ∨ 0 < p.props.length)) := Lib.hid ⟨hv, .inr hl⟩
        clear hv hc hl
        go_wp2_with fail
        refine C2.out.mono ?_
        rintro e w3 ⟨rfl, hb⟩
        have S3 := Lib.hid (S2.out.below hb); clear hb hl0 hl1 k0 k4 k17 k20 j17 j20 hbd
        have m0 := S3.out.cell 0 rfl 0
        have m4 := S3.out.cell 0 rfl 4
        have m17 := S3.out.cell 0 rfl 21
        rw [pkC_0] at m0
        rw [pkC_4] at m4
        rw [pkC_21] at m17
        by_cases hsm : p = ackP p
        rotate_left
        · have HX : Hid (ackRB v p = false) := Lib.hid (decide_eq_false (fun x => hsm x.2.1))
          rw [decide_eq_false hsm]
          clear hsm
          go_wp2
          go_ret
          exact ⟨by rw [HX.out]; rfl, S3.out.kept⟩
        rw [decide_eq_true hsm]
        have HSM := Lib.hid hsm
        clear hsm
        have HX : Hid (ackRB v p = false) := Lib.hid (decide_eq_false (fun x => x.2.2.1 HO.out))
        go_wp2
        go_ret
        exact ⟨by rw [HX.out]; rfl, S3.out.kept⟩
      · have dl : decide ((0 : Int) < (p.props.length : Int)) = false := decide_eq_false (by omega)
        have dl1 : decide (0 < p.props.length) = false := decide_eq_false hl
        have HO : Hid (¬ (v = 4 ∧ (p.code ≠ 0 ∨ 0 < p.props.length))) := Lib.hid (fun x => x.2.elim (fun y => y hc) hl)
        clear hv hc hl
        go_wp2_with fail
        refine C2.out.mono ?_
        rintro e w3 ⟨rfl, hb⟩
        have S3 := Lib.hid (S2.out.below hb); clear hb hl0 hl1 k0 k4 k17 k20 j17 j20 hbd
        have m0 := S3.out.cell 0 rfl 0
        have m4 := S3.out.cell 0 rfl 4
        have m17 := S3.out.cell 0 rfl 21
        rw [pkC_0] at m0
        rw [pkC_4] at m4
        rw [pkC_21] at m17
        by_cases hsm : p = ackP p
        rotate_left
        · have HX : Hid (ackRB v p = false) := Lib.hid (decide_eq_false (fun x => hsm x.2.1))
          rw [decide_eq_false hsm]
          clear hsm
          go_wp2
          go_ret
          exact ⟨by rw [HX.out]; rfl, S3.out.kept⟩
        rw [decide_eq_true hsm]
        have HSM := Lib.hid hsm
        clear hsm
        by_cases i1 : 1 ≤ p.id
        rotate_left
        · have HX : Hid (ackRB v p = false) := Lib.hid (decide_eq_false (fun x => i1 x.2.2.2.1))
          have di1 : decide ((1 : Int) ≤ p.id) = false := decide_eq_false i1
          clear i1
          go_wp2
          go_ret
          exact ⟨by rw [HX.out]; rfl, S3.out.kept⟩
        by_cases i2 : p.id ≤ 65535
        rotate_left
        · have HX : Hid (ackRB v p = false) := Lib.hid (decide_eq_false (fun x => i2 x.2.2.2.2.1))
          have di1 : decide ((1 : Int) ≤ p.id) = true := decide_eq_true i1
          have di2 : decide (p.id ≤ (65535 : Int)) = false := decide_eq_false i2
          clear i1 i2
          go_wp2
          go_ret
          exact ⟨by rw [HX.out]; rfl, S3.out.kept⟩
        have di1 : decide ((1 : Int) ≤ p.id) = true := decide_eq_true i1
        have di2 : decide (p.id ≤ (65535 : Int)) = true := decide_eq_true i2
        have HI := Lib.hid (And.intro i1 i2)
        clear i1 i2
        go_wp2_with fail
        refine (refMay_any p.kind p.code _).mono ?_
        rintro e w4 ⟨rfl, hb⟩
        have S4 := Lib.hid (S3.out.below hb); clear hb m0 m4 m17
        have HX : Hid (ackRB v p = may p.kind p.code) := Lib.hid (by
          cases hm : may p.kind p.code
          · exact decide_eq_false (fun x => by have := x.2.2.2.2.2; rw [hm] at this; cases this)
          · exact decide_eq_true ⟨HKN.out, HSM.out, HO.out, HI.out.1, HI.out.2, hm⟩)
        go_wp2
        go_ret
        exact ⟨by rw [HX.out]; rfl, S4.out.kept⟩
    · have ec : (p.code != 0) = true := bne_iff_ne.2 hc
      have HO : Hid (v = 4 ∧ (p.code ≠ 0 ∨ 0 < p.props.length)) := Lib.hid ⟨hv, .inl hc⟩
      clear hv hc
      go_wp2_with fail
      refine C2.out.mono ?_
      rintro e w3 ⟨rfl, hb⟩
      have S3 := Lib.hid (S2.out.below hb); clear hb hl0 hl1 k0 k4 k17 k20 j17 j20 hbd
      have m0 := S3.out.cell 0 rfl 0
      have m4 := S3.out.cell 0 rfl 4
      have m17 := S3.out.cell 0 rfl 21
      rw [pkC_0] at m0
      rw [pkC_4] at m4
      rw [pkC_21] at m17
      by_cases hsm : p = ackP p
      rotate_left
      · have HX : Hid (ackRB v p = false) := Lib.hid (decide_eq_false (fun x => hsm x.2.1))
        rw [decide_eq_false hsm]
        clear hsm
        go_wp2
        go_ret
        exact ⟨by rw [HX.out]; rfl, S3.out.kept⟩
      rw [decide_eq_true hsm]
      have HSM := Lib.hid hsm
      clear hsm
      have HX : Hid (ackRB v p = false) := Lib.hid (decide_eq_false (fun x => x.2.2.1 HO.out))
      go_wp2
      go_ret
      exact ⟨by rw [HX.out]; rfl, S3.out.kept⟩
  · have e4 : (v == 4) = false := beq_eq_false_iff_ne.2 hv
    have HO : Hid (¬ (v = 4 ∧ (p.code ≠ 0 ∨ 0 < p.props.length))) := Lib.hid (fun x => hv x.1)
    clear hv
    go_wp2_with fail
    refine C2.out.mono ?_
    rintro e w3 ⟨rfl, hb⟩
    have S3 := Lib.hid (S2.out.below hb); clear hb hl0 hl1 k0 k4 k17 k20 j17 j20 hbd
    have m0 := S3.out.cell 0 rfl 0
    have m4 := S3.out.cell 0 rfl 4
    have m17 := S3.out.cell 0 rfl 21
    rw [pkC_0] at m0
    rw [pkC_4] at m4
    rw [pkC_21] at m17
    by_cases hsm : p = ackP p
    rotate_left
    · have HX : Hid (ackRB v p = false) := Lib.hid (decide_eq_false (fun x => hsm x.2.1))
      rw [decide_eq_false hsm]
      clear hsm
      go_wp2
      go_ret
      exact ⟨by rw [HX.out]; rfl, S3.out.kept⟩
    rw [decide_eq_true hsm]
    have HSM := Lib.hid hsm
    clear hsm
    by_cases i1 : 1 ≤ p.id
    rotate_left
    · have HX : Hid (ackRB v p = false) := Lib.hid (decide_eq_false (fun x => i1 x.2.2.2.1))
      have di1 : decide ((1 : Int) ≤ p.id) = false := decide_eq_false i1
      clear i1
      go_wp2
      go_ret
      exact ⟨by rw [HX.out]; rfl, S3.out.kept⟩
    by_cases i2 : p.id ≤ 65535
    rotate_left
    · have HX : Hid (ackRB v p = false) := Lib.hid (decide_eq_false (fun x => i2 x.2.2.2.2.1))
      have di1 : decide ((1 : Int) ≤ p.id) = true := decide_eq_true i1
      have di2 : decide (p.id ≤ (65535 : Int)) = false := decide_eq_false i2
      clear i1 i2
      go_wp2
      go_ret
      exact ⟨by rw [HX.out]; rfl, S3.out.kept⟩
    have di1 : decide ((1 : Int) ≤ p.id) = true := decide_eq_true i1
    have di2 : decide (p.id ≤ (65535 : Int)) = true := decide_eq_true i2
    have HI := Lib.hid (And.intro i1 i2)
    clear i1 i2
    go_wp2_with fail
    refine (refMay_any p.kind p.code _).mono ?_
    rintro e w4 ⟨rfl, hb⟩
    have S4 := Lib.hid (S3.out.below hb); clear hb m0 m4 m17
    have HX : Hid (ackRB v p = may p.kind p.code) := Lib.hid (by
      cases hm : may p.kind p.code
      · exact decide_eq_false (fun x => by have := x.2.2.2.2.2; rw [hm] at this; cases this)
      · exact decide_eq_true ⟨HKN.out, HSM.out, HO.out, HI.out.1, HI.out.2, hm⟩)
    go_wp2
    go_ret
    exact ⟨by rw [HX.out]; rfl, S4.out.kept⟩

set_option maxHeartbeats 4000000 in
set_option maxRecDepth 10000 in
theorem refAckValid_any (v : Int) (p : Pk) (h : Hs) (w : World) (ip : PkIn w w.heap.size p h) (ok : PkOk p) :
    Calls Tryz.prog 21 #[.int .i64 v, pkV p h] w fun e w' => e = .returned (.int .i64 (ackE v p)) ∧ Below w.heap.size w w' := by
  have OK := Lib.hid ok
  have S0 := Lib.hid ((St.start w).push ip)
  have HE := Lib.hid (ackE_ref v p)
  clear ip ok
  go_enter Tryz.func21, Tryz.ntmps21
  have hl := S0.out.ld 0 rfl
  go_wp2_with fail
  refine (refAckRight_any v p h _ (S0.out.into 0 rfl) OK.out).mono ?_
  rintro e w1 ⟨rfl, hb⟩
  have S1 := Lib.hid (S0.out.below hb); clear hb hl
  cases hr : ackRB v p
  · have HX : Hid (ackE v p = 2) := Lib.hid (by rw [HE.out, if_neg (fun x => by rw [hr] at x; cases x)])
    clear hr
    go_wp2
    go_ret
    exact ⟨by rw [HX.out]; rfl, S1.out.kept⟩
  have HX : Hid (ackE v p = rightE v p.kind p.props) := Lib.hid (by rw [HE.out, if_pos hr])
  clear hr
  have k0 := S1.out.cell 0 rfl 0
  have k20 := S1.out.cell 0 rfl 24
  rw [pkC_0] at k0
  rw [pkC_24] at k20
  go_wp2_with fail
  refine (refRight_any v p.kind p.props _ rfl OK.out.props h.props.a h.props.c _ (S1.out.into 0 rfl).props OK.out.len.2.2.2 (S1.out.into 0 rfl).caps.2.2.2).mono ?_
  rintro e w2 ⟨rfl, hb⟩
  have S2 := Lib.hid (S1.out.below hb); clear hb k0 k20
  go_wp2
  go_ret
  exact ⟨by rw [HX.out]; rfl, S2.out.kept⟩

set_option maxHeartbeats 4000000 in
set_option maxRecDepth 10000 in
theorem refShort_any (v k c : Int) (l : List Pr) (n : Nat) (hn : l.length = n) (hc : 0 ≤ c ∧ c < 256) (hg : ∀ p ∈ l, prGood p) (A : Option Addr) (q : Nat) (w : World) (h : Rd w w.heap.size 4 A n (prs l)) (hl : n ≤ 4611686018427387904) (hq : n ≤ q) :
    Calls Tryz.prog 60 #[.int .i64 v, .int .i64 k, .int .i64 c, .slice A n q] w fun e w' => e = .returned (.string (shortB v k c l)) ∧ Below w.heap.size w w' := by
  have H := Lib.hid h; have HG := Lib.hid hg; have HN := Lib.hid hn; have HL := Lib.hid hl; have HQ := Lib.hid hq
  clear h hg hn hl hq
  by_cases h5 : v = 5
  rotate_left
  · have e5 : (v == 5) = false := beq_eq_false_iff_ne.2 h5
    have HX : Hid (shortB v k c l = ⟨#[]⟩) := Lib.hid (if_neg h5)
    clear h5
    go_enter Tryz.func60, Tryz.ntmps60
    go_wp2
    go_ret
    exact ⟨by rw [HX.out]; rfl, Below.refl _ _⟩
  have e5 : (v == 5) = true := beq_iff_eq.2 h5
  have HX : Hid (shortB v k c l = ⟨(tailL k c l).toArray⟩) := Lib.hid (if_pos h5)
  have HT : Hid (tailB v k l = ⟨(bytesS k l).1.toArray⟩) := Lib.hid (if_neg (by omega))
  have HTL : Hid (tailL k c l = if c = 0 ∧ l.length = 0 then [] else putL c.toNat 1 ++ (if l.length = 0 then [] else (bytesS k l).1)) := Lib.hid rfl
  have hcb : c = ((UInt8.ofNat c.toNat).toNat : Int) := by rw [UInt8.toNat_ofNat']; omega
  have HP : Hid (putL c.toNat 1 = [UInt8.ofNat c.toNat]) := Lib.hid (by
    show [UInt8.ofNat (c.toNat / 2 ^ 0)] = _
    rw [Nat.pow_zero, Nat.div_one])
  have hcv := conv_one0 (P := Tryz.prog) 50 9 5 Tryz.underlying50 Tryz.underlying5 Tryz.underlying9
  have hw : IntKind.u8.wrap c = c := by rw [IntKind.wrap_u8]; omega
  clear h5
  obtain ⟨Y, hY⟩ : ∃ Y, shortB v k c l = Y := ⟨_, rfl⟩
  rw [hY] at HX ⊢
  clear hY
  by_cases h0 : c = 0 ∧ n = 0
  · have HY : Hid (Y = ⟨#[]⟩) := Lib.hid (by rw [HX.out, HTL.out, if_pos ⟨h0.1, by rw [HN.out]; exact h0.2⟩])
    have ec : (c != 0) = false := by simpa using h0.1
    have dl : decide ((0 : Int) < (n : Int)) = false := decide_eq_false (by omega)
    have dl1 : decide (0 < n) = false := decide_eq_false (by omega)
    clear h0 hcb hc hw
    go_enter Tryz.func60, Tryz.ntmps60
    go_wp2
    go_ret
    exact ⟨by rw [HY.out]; rfl, Below.refl _ _⟩
  obtain ⟨b, hb⟩ : ∃ b, UInt8.ofNat c.toNat = b := ⟨_, rfl⟩
  rw [hb] at hcb HP
  have HC0 := Lib.hid h0
  by_cases hn0 : n = 0
  · have HY : Hid (Y = ⟨#[b]⟩) := Lib.hid (by rw [HX.out, HTL.out, if_neg (by rw [HN.out]; exact h0), if_pos (by rw [HN.out]; exact hn0), HP.out]; rfl)
    have ec : (c != 0) = true := bne_iff_ne.2 (fun x => h0 ⟨x, hn0⟩)
    have dl : decide ((0 : Int) < (n : Int)) = false := decide_eq_false (by omega)
    have dl1 : decide (0 < n) = false := decide_eq_false (by omega)
    rw [hcb] at ec hw ⊢
    clear h0 hn0 hcb hc hb
    go_enter Tryz.func60, Tryz.ntmps60
    go_wp2
    go_ret
    exact ⟨by rw [HY.out]; rfl, (Below.refl _ _).alloc (Nat.le_refl _) _⟩
  have HY : Hid (Y = (⟨#[b]⟩ : ByteArray) ++ tailB v k l) := Lib.hid (by
    rw [HX.out, HTL.out, if_neg (by rw [HN.out]; exact h0), if_neg (by rw [HN.out]; exact hn0), HP.out, HT.out]
    apply ls_ext
    rw [ls_mk, ls_app, ls_mk, ls_mk])
  have HS := Lib.hid (tailB_all v k l)
  have dl : decide ((0 : Int) < (n : Int)) = true := decide_eq_true (by omega)
  have dl1 : decide (0 < n) = true := decide_eq_true (by omega)
  by_cases hc0 : c = 0
  · have ec : (c != 0) = false := by simpa using hc0
    rw [hcb] at ec hw ⊢
    clear h0 hn0 hcb hc hb hc0
    go_enter Tryz.func60, Tryz.ntmps60
    go_wp2_with fail
    refine (refTail_any v k l n HN.out HG.out A q _ ((H.out.alloc (Nat.le_refl _) _).wider (by simp)) HL.out HQ.out).mono ?_
    rintro e w1 ⟨rfl, hb⟩
    have HB := Lib.hid (((Below.refl w.heap.size w).alloc (Nat.le_refl _) (.cells #[.int .u8 (b.toNat : Int)] 5)).trans (hb.mono (by simp))); clear hb
    obtain ⟨T, hT⟩ : ∃ T, tailB v k l = T := ⟨_, rfl⟩
    rw [hT] at HY HS ⊢
    have hs1 : ¬ (9223372036854775807 < 1 + T.size) := by have := HS.out; omega
    clear hT
    go_wp2
    go_ret
    exact ⟨by rw [HY.out]; rfl, HB.out⟩
  · have ec : (c != 0) = true := bne_iff_ne.2 hc0
    rw [hcb] at ec hw ⊢
    clear h0 hn0 hcb hc hb hc0
    go_enter Tryz.func60, Tryz.ntmps60
    go_wp2_with fail
    refine (refTail_any v k l n HN.out HG.out A q _ ((H.out.alloc (Nat.le_refl _) _).wider (by simp)) HL.out HQ.out).mono ?_
    rintro e w1 ⟨rfl, hb⟩
    have HB := Lib.hid (((Below.refl w.heap.size w).alloc (Nat.le_refl _) (.cells #[.int .u8 (b.toNat : Int)] 5)).trans (hb.mono (by simp))); clear hb
    obtain ⟨T, hT⟩ : ∃ T, tailB v k l = T := ⟨_, rfl⟩
    rw [hT] at HY HS ⊢
    have hs1 : ¬ (9223372036854775807 < 1 + T.size) := by have := HS.out; omega
    clear hT
    go_wp2
    go_ret
    exact ⟨by rw [HY.out]; rfl, HB.out⟩
end Go.Proofs.YtceniaklabiadaaGreat
