/-
  Reference 07: Flags; reference 09: Alias, Valid.
  Reference 09: Body.
  Reference 09: Read.
  Reference 09: Read, the walk.
-/
import Derived.Test.YtceniaklabiadaaGreatMRfC
import Derived.Test.YtceniaklabiadaaGreatMPubA
import Derived.Test.YtceniaklabiadaaGreatPubD
import Derived.Test.YtceniaklabiadaaGreatMPubB
import Derived.Deep.RegionLaw

namespace Go.Proofs.YtceniaklabiadaaGreat
open Go.RowKit
attribute [local go_sem ↓] to_ldPk to_bxPk to_bdPk to_alPk to_stPk
attribute [local go_sem] run_bxPk run_bxPk_agg ld_fresh run_alPk run_bd0 run_bdK run_bdKI run_bdKIC run_bdKC run_bdKICP run_stPk_fresh pkC_0 pkC_1 pkC_2 pkC_3 pkC_4 pkC_5 pkC_6 pkC_7 pkC_8 pkC_9 pkC_10 pkC_11 pkC_12 pkC_13 pkC_14 pkC_15 pkC_16 pkC_17 pkC_18 pkC_19 pkC_20 pkC_21 pkC_22 pkC_23 pkC_24

set_option maxHeartbeats 2000000 in
set_option maxRecDepth 10000 in
theorem refFlags_any (v : Int) (p : Pk) (h : Hs) (w : World) :
    Calls Tryz.prog 116 #[.int .i64 v, pkV p h] w fun e w' => e = .returned (.tuple #[.int .i64 (hdFlags v p).1, .int .i64 (hdFlags v p).2]) ∧ Below w.heap.size w w' := by
  have HB := Lib.hid ((Below.refl w.heap.size w).alloc (Nat.le_refl _) (.cells (pkC p h) PkT))
  have HE : Hid (hdFlags v p = if hdKnown v = false then (0, 2) else if hdKinds v p.kind = false then (0, 8) else if p.kind ≠ 3 then (hdFixed p.kind, 0) else if badQ p = true then (0, 7) else (flagsP p, 0)) := Lib.hid rfl
  have HBQ : Hid (badQ p = decide (p.qos < 0 ∨ 2 < p.qos ∨ (p.qos = 0 ∧ p.dup = true))) := Lib.hid rfl
  have HFP : Hid (flagsP p = 2 * p.qos + (if p.retain = true then 1 else 0) + (if p.dup = true then 8 else 0)) := Lib.hid rfl
  have k1a : (w.alloc (.cells (pkC p h) PkT)).cell? ⟨w.heap.size, 3, none⟩ = some (.int .i64 p.qos) := (Bk.fresh w PkT (pkC p h)).cell 3
  have k1b : (w.alloc (.cells (pkC p h) PkT)).cell? ⟨w.heap.size, 1, none⟩ = some (.bool p.dup) := (Bk.fresh w PkT (pkC p h)).cell 1
  have k1c : (w.alloc (.cells (pkC p h) PkT)).cell? ⟨w.heap.size, 2, none⟩ = some (.bool p.retain) := (Bk.fresh w PkT (pkC p h)).cell 2
  have k1d : (w.alloc (.cells (pkC p h) PkT)).cell? ⟨w.heap.size, 0, none⟩ = some (.int .i64 p.kind) := (Bk.fresh w PkT (pkC p h)).cell 0
  go_enter Tryz.func116, Tryz.ntmps116
  go_wp2_with fail
  refine (refVersion_any v _).mono ?_
  rintro e w1 ⟨rfl, rfl⟩
  cases hk : hdKnown v
  · have HX : Hid (hdFlags v p = (0, 2)) := Lib.hid (by rw [HE.out, if_pos hk])
    clear hk
    go_wp2
    go_ret2
    exact ⟨by rw [HX.out]; rfl, HB.out⟩
  have HE1 : Hid (hdFlags v p = if hdKinds v p.kind = false then (0, 8) else if p.kind ≠ 3 then (hdFixed p.kind, 0) else if badQ p = true then (0, 7) else (flagsP p, 0)) := Lib.hid (by rw [HE.out, if_neg (fun x => by rw [hk] at x; cases x)])
  clear hk HE
  go_wp2_with fail
  refine (refKind_any v p.kind _).mono ?_
  rintro e w1 ⟨rfl, rfl⟩
  cases hk : hdKinds v p.kind
  · have HX : Hid (hdFlags v p = (0, 8)) := Lib.hid (by rw [HE1.out, if_pos hk])
    clear hk
    go_wp2
    go_ret2
    exact ⟨by rw [HX.out]; rfl, HB.out⟩
  have HE2 : Hid (hdFlags v p = if p.kind ≠ 3 then (hdFixed p.kind, 0) else if badQ p = true then (0, 7) else (flagsP p, 0)) := Lib.hid (by rw [HE1.out, if_neg (fun x => by rw [hk] at x; cases x)])
  clear hk HE1
  generalize p.kind = kd at *
  by_cases h3 : kd = 3
  rotate_left
  · have q3 : (kd == 3) = false := beq_eq_false_iff_ne.2 h3
    have HX0 : Hid (hdFlags v p = (hdFixed kd, 0)) := Lib.hid (by rw [HE2.out, if_pos h3])
    by_cases h6 : kd = 6
    · subst h6
      have HX : Hid (hdFlags v p = (2, 0)) := Lib.hid (by rw [HX0.out]; rfl)
      clear h3 q3
      go_wp2
      go_ret2
      exact ⟨by rw [HX.out]; rfl, HB.out⟩
    by_cases h8 : kd = 8
    · subst h8
      have HX : Hid (hdFlags v p = (2, 0)) := Lib.hid (by rw [HX0.out]; rfl)
      clear h3 q3 h6
      go_wp2
      go_ret2
      exact ⟨by rw [HX.out]; rfl, HB.out⟩
    by_cases h10 : kd = 10
    · subst h10
      have HX : Hid (hdFlags v p = (2, 0)) := Lib.hid (by rw [HX0.out]; rfl)
      clear h3 q3 h6 h8
      go_wp2
      go_ret2
      exact ⟨by rw [HX.out]; rfl, HB.out⟩
    · have HX : Hid (hdFlags v p = (0, 0)) := Lib.hid (by rw [HX0.out]; unfold hdFixed; rw [if_neg (by omega)])
      have q6 : (kd == 6) = false := beq_eq_false_iff_ne.2 h6
      have q8 : (kd == 8) = false := beq_eq_false_iff_ne.2 h8
      have q10 : (kd == 10) = false := beq_eq_false_iff_ne.2 h10
      clear h3 h6 h8 h10
      go_wp2
      go_ret2
      exact ⟨by rw [HX.out]; rfl, HB.out⟩
  subst h3
  have HE3 : Hid (hdFlags v p = if badQ p = true then (0, 7) else (flagsP p, 0)) := Lib.hid (by rw [HE2.out, if_neg (fun x => x rfl)])
  clear HE2
  generalize p.qos = q at *
  generalize p.dup = d at *
  generalize p.retain = r at *
  by_cases h0 : q < 0
  · have HX : Hid (hdFlags v p = (0, 7)) := Lib.hid (by rw [HE3.out, if_pos (by rw [HBQ.out]; exact decide_eq_true (.inl h0))])
    have d0 : decide (q < 0) = true := decide_eq_true h0
    clear h0
    go_wp2
    go_ret2
    exact ⟨by rw [HX.out]; rfl, HB.out⟩
  have d0 : decide (q < 0) = false := decide_eq_false h0
  by_cases h2 : 2 < q
  · have HX : Hid (hdFlags v p = (0, 7)) := Lib.hid (by rw [HE3.out, if_pos (by rw [HBQ.out]; exact decide_eq_true (.inr (.inl h2)))])
    have d2 : decide (2 < q) = true := decide_eq_true h2
    clear h0 h2
    go_wp2
    go_ret2
    exact ⟨by rw [HX.out]; rfl, HB.out⟩
  have hq : q = 0 ∨ q = 1 ∨ q = 2 := by omega
  clear h0 h2 d0
  obtain rfl | rfl | rfl := hq
  · cases d
    · have HX : Hid (hdFlags v p = (flagsP p, 0)) := Lib.hid (by rw [HE3.out, if_neg (by rw [HBQ.out]; decide)])
      cases r
      all_goals
        go_wp2
        go_ret2
        exact ⟨by rw [HX.out, HFP.out]; rfl, HB.out⟩
    · have HX : Hid (hdFlags v p = (0, 7)) := Lib.hid (by rw [HE3.out, if_pos (by rw [HBQ.out]; decide)])
      go_wp2
      go_ret2
      exact ⟨by rw [HX.out]; rfl, HB.out⟩
  all_goals
    have HX : Hid (hdFlags v p = (flagsP p, 0)) := Lib.hid (by rw [HE3.out, if_neg (by rw [HBQ.out]; simp)])
    cases d <;> cases r
    all_goals
      go_wp2
      go_ret2
      exact ⟨by rw [HX.out, HFP.out]; rfl, HB.out⟩
set_option maxHeartbeats 1000000 in
set_option maxRecDepth 10000 in
theorem refAlias_any (p : Pk) (h : Hs) (w : World) (ip : PkIn w w.heap.size p h) (ok : PkOk p) :
    Calls Tryz.prog 37 #[pkV p h] w fun e w' => e = .returned (.tuple #[.int .i64 (getR p.props 35).n, .bool (aliasB p)]) ∧ Below w.heap.size w w' := by
  have hn := getR_n p.props 35 ok.props
  have OK := Lib.hid ok
  have S0 := Lib.hid ((St.start w).push ip)
  clear ip ok
  go_enter Tryz.func37, Tryz.ntmps37
  go_wp2_with fail
  refine (refGetP_any 35 p.props h.props.a h.props.c _ (S0.out.into 0 rfl).props OK.out.len.2.2.2).mono ?_
  rintro e w1 ⟨rfl, hb⟩
  have S1 := Lib.hid (S0.out.below hb); clear hb
  have HA : Hid (aliasB p = (getP p.props 35).isSome) := Lib.hid rfl
  generalize (getP p.props 35).isSome = al at *
  obtain ⟨q, hq⟩ : ∃ q, getR p.props 35 = q := ⟨_, rfl⟩
  rw [hq] at hn ⊢
  have HQ := Lib.hid hq
  clear hq
  obtain ⟨id, n, t, u⟩ := q
  simp only at hn
  have hw : IntKind.i64.wrap (n : Int) = (n : Int) := by rw [IntKind.wrap_i64]; omega
  simp only [Pr.val]
  have S2 := Lib.hid (S1.out.alloc (.cells #[.int .i64 id, .int .u32 n, .string t, .string u] 63))
  go_wp2
  go_ret2
  exact ⟨by rw [HA.out, HQ.out]; rfl, S2.out.kept⟩

/-- A packet with just what a PUBLISH may have, built. -/
theorem run_bdUsed (p : Pk) (A : Option Addr) (c : Nat) (w : World) : (bdPk #[(0, .int .i64 p.kind), (1, .bool p.dup), (2, .bool p.retain), (3, .int .i64 p.qos), (4, .int .i64 p.id), (5, .string p.topic), (6, .string p.payload), (20, .slice A p.props.length c)]).run Tryz.prog w = .ok (pkV (pubQ p) { hs0 with props := ⟨A, c⟩ }) w := by kernel_rfl
theorem pubQ_in {w : World} {B : Nat} {p : Pk} {h : Hs} (i : PkIn w B p h) : PkIn w B (pubQ p) { hs0 with props := ⟨h.props.a, h.props.c⟩ } :=
  ⟨Rd.nil _ _ _ _, Rd.nil _ _ _ _, Rd.nil _ _ _ _, i.props, Nat.zero_le _, Nat.zero_le _, Nat.zero_le _, i.caps.2.2.2⟩
theorem pubQ_len {p : Pk} (h : PkLen p) : PkLen (pubQ p) := ⟨Nat.zero_le _, Nat.zero_le _, Nat.zero_le _, h.2.2.2⟩
set_option maxHeartbeats 8000000 in
set_option maxRecDepth 10000 in
theorem refPubValid_any (v : Int) (p : Pk) (h : Hs) (w : World) (ip : PkIn w w.heap.size p h) (ok : PkOk p) :
    Calls Tryz.prog 39 #[.int .i64 v, pkV p h] w fun e w' => e = .returned (.int .i64 (pubE v p)) ∧ Below w.heap.size w w' := by
  have OK := Lib.hid ok
  have S0 := Lib.hid ((St.start w).push ip)
  have HL0 : Hid (pubL v p 0 = if hdKnown v = true ∧ p.kind = 3 then 0 else 2) := Lib.hid rfl
  have HL1 : Hid (pubL v p 1 = (hdFlags v p).2) := Lib.hid rfl
  have HL2 : Hid (pubL v p 2 = if pubF v p = true then 0 else 2) := Lib.hid rfl
  have HL3 : Hid (pubL v p 3 = if pubN v p = true then 0 else 10) := Lib.hid rfl
  have HL4 : Hid (pubL v p 4 = (bytesS 3 p.props).2) := Lib.hid rfl
  have HE : Hid (pubE v p = if pubL v p 0 ≠ 0 then pubL v p 0 else if pubL v p 1 ≠ 0 then pubL v p 1 else if pubL v p 2 ≠ 0 then pubL v p 2 else if pubL v p 3 ≠ 0 then pubL v p 3 else pubL v p 4) := Lib.hid rfl
  clear ip ok
  go_enter Tryz.func39, Tryz.ntmps39
  go_wp2_with fail
  refine (refVersion_any v _).mono ?_
  rintro e w1 ⟨rfl, rfl⟩
  have k0 := S0.out.cell 0 rfl 0
  rw [pkC_0] at k0
  cases hk : hdKnown v
  · have HX : Hid (pubE v p = 2) := Lib.hid (by
      have h0 : pubL v p 0 = 2 := by rw [HL0.out, if_neg (fun x => by rw [hk] at x; cases x.1)]
      rw [HE.out, h0]; rfl)
    clear hk
    go_wp2
    go_ret
    exact ⟨by rw [HX.out]; rfl, S0.out.kept⟩
  by_cases h3 : p.kind = 3
  rotate_left
  · have HX : Hid (pubE v p = 2) := Lib.hid (by
      have h0 : pubL v p 0 = 2 := by rw [HL0.out, if_neg (fun x => h3 x.2)]
      rw [HE.out, h0]; rfl)
    have e3 : (p.kind != 3) = true := bne_iff_ne.2 h3
    clear hk h3
    go_wp2
    go_ret
    exact ⟨by rw [HX.out]; rfl, S0.out.kept⟩
  have e3 : (p.kind != 3) = false := by simpa using h3
  have HE1 : Hid (pubE v p = if pubL v p 1 ≠ 0 then pubL v p 1 else if pubL v p 2 ≠ 0 then pubL v p 2 else if pubL v p 3 ≠ 0 then pubL v p 3 else pubL v p 4) := Lib.hid (by
    have h0 : pubL v p 0 = 0 := by rw [HL0.out, if_pos ⟨hk, h3⟩]
    rw [HE.out, h0, if_neg (fun x => x rfl)])
  have HK3 := Lib.hid (And.intro hk h3)
  clear hk h3 HE HL0
  have hl := S0.out.ld 0 rfl
  go_wp2_with fail
  refine (refFlags_any v p h _).mono ?_
  rintro e w1 ⟨rfl, hb⟩
  have S1 := Lib.hid (S0.out.below hb); clear hb hl k0 e3
  obtain ⟨fl, hfl⟩ : ∃ fl, hdFlags v p = fl := ⟨_, rfl⟩
  rw [hfl] at HL1 ⊢
  have HFL := Lib.hid hfl
  clear hfl
  obtain ⟨f1, f2⟩ := fl
  simp only at HL1 ⊢
  by_cases hf : f2 = 0
  rotate_left
  · have HX : Hid (pubE v p = f2) := Lib.hid (by rw [HE1.out, HL1.out, if_pos hf])
    have e2 : (f2 != 0) = true := bne_iff_ne.2 hf
    clear hf
    go_wp2
    go_ret
    exact ⟨by rw [HX.out]; rfl, S1.out.kept⟩
  subst hf
  have HE2 : Hid (pubE v p = if pubL v p 2 ≠ 0 then pubL v p 2 else if pubL v p 3 ≠ 0 then pubL v p 3 else pubL v p 4) := Lib.hid (by rw [HE1.out, HL1.out, if_neg (fun x => x rfl)])
  have HBQ : Hid (0 ≤ p.qos ∧ p.qos ≤ 2) := Lib.hid (by
    have hh := HFL.out
    unfold hdFlags at hh
    rw [HK3.out.1, HK3.out.2] at hh
    rw [if_neg (by simp)] at hh
    by_cases hkk : hdKinds v 3 = false
    · rw [if_pos hkk] at hh; cases hh
    rw [if_neg hkk, if_neg (fun x => x rfl)] at hh
    by_cases hbq : badQ p = true
    · rw [if_pos hbq] at hh; cases hh
    · have hb0 : badQ p = false := by simpa using hbq
      have := of_decide_eq_false hb0
      omega)
  clear HE1 HL1 HFL
  have j0 := S1.out.cell 0 rfl 0
  have j1 := S1.out.cell 0 rfl 1
  have j2 := S1.out.cell 0 rfl 2
  have j3 := S1.out.cell 0 rfl 3
  have j4 := S1.out.cell 0 rfl 4
  have j5 := S1.out.cell 0 rfl 5
  have j6 := S1.out.cell 0 rfl 6
  have j20 := S1.out.cell 0 rfl 24
  rw [pkC_0] at j0
  rw [pkC_1] at j1
  rw [pkC_2] at j2
  rw [pkC_3] at j3
  rw [pkC_4] at j4
  rw [pkC_5] at j5
  rw [pkC_6] at j6
  rw [pkC_24] at j20
  have hbd := fun W => run_bdUsed p h.props.a h.props.c W
  have S2 : Hid (St w [(w.heap.size, p, h), (w1.heap.size, pubQ p, { hs0 with props := ⟨h.props.a, h.props.c⟩ })] (w1.alloc (.cells (pkC (pubQ p) { hs0 with props := ⟨h.props.a, h.props.c⟩ }) PkT))) := Lib.hid (S1.out.push (pubQ_in (S1.out.into 0 rfl)))
  have hl0 := S2.out.ld 0 rfl
  have hl1 := S2.out.ld 1 rfl
  go_wp2_with fail
  refine (refSamePk_any p (pubQ p) h _ _ (S2.out.into 0 rfl) (S2.out.into 1 rfl) OK.out.len (pubQ_len OK.out.len)).mono ?_
  rintro e w3 ⟨rfl, hb⟩
  have S3 := Lib.hid (S2.out.below hb); clear hb hl0 hl1 j0 j1 j2 j3 j4 j5 j6 j20 hbd
  have k3 := S3.out.cell 0 rfl 3
  have k4 := S3.out.cell 0 rfl 4
  have k20 := S3.out.cell 0 rfl 24
  rw [pkC_3] at k3
  rw [pkC_4] at k4
  rw [pkC_24] at k20
  have hl3 := S3.out.ld 0 rfl
  by_cases hsm : p = pubQ p
  rotate_left
  · have HX : Hid (pubE v p = 2) := Lib.hid (by
      have h0 : pubL v p 2 = 2 := by rw [HL2.out, if_neg (by unfold pubF; simp only [decide_eq_true_eq]; exact fun x => hsm x.1)]
      rw [HE2.out, h0]; rfl)
    rw [decide_eq_false hsm]
    clear hsm
    go_wp2
    go_ret
    exact ⟨by rw [HX.out]; rfl, S3.out.kept⟩
  rw [decide_eq_true hsm]
  have HSM := Lib.hid hsm
  clear hsm
  by_cases hq : p.qos = 0
  · have q0 : (p.qos == 0) = true := beq_iff_eq.2 hq
    have q1 : decide ((0 : Int) < p.qos) = false := decide_eq_false (by omega)
    by_cases hi : p.id = 0
    rotate_left
    · have HX : Hid (pubE v p = 2) := Lib.hid (by
        have h0 : pubL v p 2 = 2 := by rw [HL2.out, if_neg (by unfold pubF; simp only [decide_eq_true_eq]; exact fun x => hi (x.2.2.1 hq))]
        rw [HE2.out, h0]; rfl)
      have i0 : (p.id != 0) = true := bne_iff_ne.2 hi
      clear hq hi
      go_wp2
      go_ret
      exact ⟨by rw [HX.out]; rfl, S3.out.kept⟩
    have i0 : (p.id != 0) = false := by simpa using hi
    have HV5 : v ≠ 4 → Hid (v = 5) := fun x => Lib.hid (by have := of_decide_eq_true (show decide (v = 4 ∨ v = 5) = true from HK3.out.1); omega)
    by_cases h4 : v = 4
    · have e4 : (v == 4) = true := beq_iff_eq.2 h4
      have e5 : (v == 5) = false := beq_eq_false_iff_ne.2 (by omega)
      by_cases h0 : 0 < p.props.length
      · have HX : Hid (pubE v p = 2) := Lib.hid (by
          have h0 : pubL v p 2 = 2 := by rw [HL2.out, if_neg (by unfold pubF; simp only [decide_eq_true_eq]; exact fun x => x.2.1 ⟨h4, h0⟩)]
          rw [HE2.out, h0]; rfl)
        have d0 : decide ((0 : Int) < (p.props.length : Int)) = true := decide_eq_true (by omega)
        have d1 : decide (0 < p.props.length) = true := decide_eq_true h0
        clear hq hi HV5 h4 h0
        go_wp2
        go_ret
        exact ⟨by rw [HX.out]; rfl, S3.out.kept⟩
      · have HE3 : Hid (pubE v p = if pubL v p 3 ≠ 0 then pubL v p 3 else pubL v p 4) := Lib.hid (by
          have h0 : pubL v p 2 = 0 := by rw [HL2.out, if_pos (by unfold pubF; exact decide_eq_true ⟨HSM.out, fun x => h0 x.2, fun _ => hi, fun x => absurd hq x⟩)]
          rw [HE2.out, h0, if_neg (fun x => x rfl)])
        have HRT : Hid (rightE v 3 p.props = (bytesS 3 p.props).2) := Lib.hid (by
          unfold rightE
          rw [if_pos h4, if_neg h0, show p.props = [] from List.eq_nil_of_length_eq_zero (by omega)]
          rfl)
        have d0 : decide ((0 : Int) < (p.props.length : Int)) = false := decide_eq_false (by omega)
        have d1 : decide (0 < p.props.length) = false := decide_eq_false h0
        have H4 := Lib.hid h4
        clear hq hi HV5 h4 h0
        go_wp2_with fail
        refine (refAlias_any p h _ (S3.out.into 0 rfl) OK.out).mono ?_
        rintro e w4 ⟨rfl, hb⟩
        have S4 := Lib.hid (S3.out.below hb); clear hb hl3 k3 k4 k20
        have n5 := S4.out.cell 0 rfl 5
        rw [pkC_5] at n5
        have n24 := S4.out.cell 0 rfl 24
        rw [pkC_24] at n24
        go_wp2_with fail
        refine (refName_any p.topic _ (by have := OK.out.texts.1; omega)).mono ?_
        rintro e w5 ⟨rfl, rfl⟩
        have hem := emptyB_iff p.topic
        have HN : Hid (pubN v p = (nameB p.topic || (decide (v = 5) && (aliasB p && p.topic.toList.isEmpty)))) := Lib.hid (by rw [hem]; rfl)
        clear hem
        generalize (getR p.props 35).n = al at *
        cases hn : nameB p.topic
        · rw [hn, Bool.false_or] at HN
          have HNM := Lib.hid hn
          cases he : p.topic.toList.isEmpty
          · have HX : Hid (pubE v p = 10) := Lib.hid (by
              have h0 : pubL v p 3 = 10 := by rw [HL3.out, if_neg (by rw [HN.out, he, Bool.and_false, Bool.and_false]; simp)]
              rw [HE3.out, h0]; rfl)
            clear hn
            go_wp2
            go_ret
            exact ⟨by rw [HX.out]; rfl, S4.out.kept⟩
          cases ha : aliasB p
          · have HX : Hid (pubE v p = 10) := Lib.hid (by
              have h0 : pubL v p 3 = 10 := by rw [HL3.out, if_neg (by rw [HN.out, ha, Bool.false_and, Bool.and_false]; simp)]
              rw [HE3.out, h0]; rfl)
            clear hn ha
            go_wp2
            go_ret
            exact ⟨by rw [HX.out]; rfl, S4.out.kept⟩
          have HX : Hid (pubE v p = 10) := Lib.hid (by
            have h0 : pubL v p 3 = 10 := by rw [HL3.out, if_neg (by rw [HN.out, decide_eq_false (by have := H4.out; omega), Bool.false_and]; simp)]
            rw [HE3.out, h0]; rfl)
          clear hn ha
          go_wp2
          go_ret
          exact ⟨by rw [HX.out]; rfl, S4.out.kept⟩
        · have HX3 : Hid (pubE v p = pubL v p 4) := Lib.hid (by
            have h0 : pubL v p 3 = 0 := by rw [HL3.out, if_pos (by unfold pubN; rw [hn]; rfl)]
            rw [HE3.out, h0, if_neg (fun x => x rfl)])
          clear hn
          go_wp2_with fail
          refine (refRight_any v 3 p.props _ rfl OK.out.props h.props.a h.props.c _ (S4.out.into 0 rfl).props OK.out.len.2.2.2 (S4.out.into 0 rfl).caps.2.2.2).mono ?_
          rintro e w6 ⟨rfl, hb⟩
          have S5 := Lib.hid (S4.out.below hb); clear hb
          rw [HRT.out]
          go_wp2
          go_ret
          exact ⟨by rw [HX3.out, HL4.out]; rfl, S5.out.kept⟩
    · have e4 : (v == 4) = false := beq_eq_false_iff_ne.2 h4
      have e5 : (v == 5) = true := beq_iff_eq.2 (HV5 h4).out
      have H5 : Hid (v = 5) := HV5 h4
      have HE3 : Hid (pubE v p = if pubL v p 3 ≠ 0 then pubL v p 3 else pubL v p 4) := Lib.hid (by
        have h0 : pubL v p 2 = 0 := by rw [HL2.out, if_pos (by unfold pubF; exact decide_eq_true ⟨HSM.out, fun x => h4 x.1, fun _ => hi, fun x => absurd hq x⟩)]
        rw [HE2.out, h0, if_neg (fun x => x rfl)])
      have HRT : Hid (rightE v 3 p.props = (bytesS 3 p.props).2) := Lib.hid (if_neg h4)
      clear hq hi HV5 h4
      go_wp2_with fail
      refine (refAlias_any p h _ (S3.out.into 0 rfl) OK.out).mono ?_
      rintro e w4 ⟨rfl, hb⟩
      have S4 := Lib.hid (S3.out.below hb); clear hb hl3 k3 k4 k20
      have n5 := S4.out.cell 0 rfl 5
      rw [pkC_5] at n5
      have n24 := S4.out.cell 0 rfl 24
      rw [pkC_24] at n24
      go_wp2_with fail
      refine (refName_any p.topic _ (by have := OK.out.texts.1; omega)).mono ?_
      rintro e w5 ⟨rfl, rfl⟩
      have hem := emptyB_iff p.topic
      have HN : Hid (pubN v p = (nameB p.topic || (decide (v = 5) && (aliasB p && p.topic.toList.isEmpty)))) := Lib.hid (by rw [hem]; rfl)
      clear hem
      generalize (getR p.props 35).n = al at *
      cases hn : nameB p.topic
      · rw [hn, Bool.false_or] at HN
        have HNM := Lib.hid hn
        cases he : p.topic.toList.isEmpty
        · have HX : Hid (pubE v p = 10) := Lib.hid (by
            have h0 : pubL v p 3 = 10 := by rw [HL3.out, if_neg (by rw [HN.out, he, Bool.and_false, Bool.and_false]; simp)]
            rw [HE3.out, h0]; rfl)
          clear hn
          go_wp2
          go_ret
          exact ⟨by rw [HX.out]; rfl, S4.out.kept⟩
        cases ha : aliasB p
        · have HX : Hid (pubE v p = 10) := Lib.hid (by
            have h0 : pubL v p 3 = 10 := by rw [HL3.out, if_neg (by rw [HN.out, ha, Bool.false_and, Bool.and_false]; simp)]
            rw [HE3.out, h0]; rfl)
          clear hn ha
          go_wp2
          go_ret
          exact ⟨by rw [HX.out]; rfl, S4.out.kept⟩
        have HX3 : Hid (pubE v p = pubL v p 4) := Lib.hid (by
          have h0 : pubL v p 3 = 0 := by rw [HL3.out, if_pos (by rw [HN.out, he, ha, decide_eq_true H5.out]; rfl)]
          rw [HE3.out, h0, if_neg (fun x => x rfl)])
        clear hn ha
        go_wp2_with fail
        refine (refRight_any v 3 p.props _ rfl OK.out.props h.props.a h.props.c _ (S4.out.into 0 rfl).props OK.out.len.2.2.2 (S4.out.into 0 rfl).caps.2.2.2).mono ?_
        rintro e w6 ⟨rfl, hb⟩
        have S5 := Lib.hid (S4.out.below hb); clear hb
        rw [HRT.out]
        go_wp2
        go_ret
        exact ⟨by rw [HX3.out, HL4.out]; rfl, S5.out.kept⟩
      · have HX3 : Hid (pubE v p = pubL v p 4) := Lib.hid (by
          have h0 : pubL v p 3 = 0 := by rw [HL3.out, if_pos (by unfold pubN; rw [hn]; rfl)]
          rw [HE3.out, h0, if_neg (fun x => x rfl)])
        clear hn
        go_wp2_with fail
        refine (refRight_any v 3 p.props _ rfl OK.out.props h.props.a h.props.c _ (S4.out.into 0 rfl).props OK.out.len.2.2.2 (S4.out.into 0 rfl).caps.2.2.2).mono ?_
        rintro e w6 ⟨rfl, hb⟩
        have S5 := Lib.hid (S4.out.below hb); clear hb
        rw [HRT.out]
        go_wp2
        go_ret
        exact ⟨by rw [HX3.out, HL4.out]; rfl, S5.out.kept⟩
  · have q0 : (p.qos == 0) = false := beq_eq_false_iff_ne.2 hq
    have q1 : decide ((0 : Int) < p.qos) = true := decide_eq_true (by have := HBQ.out; omega)
    by_cases hi : p.id < 1
    · have HX : Hid (pubE v p = 2) := Lib.hid (by
        have h0 : pubL v p 2 = 2 := by rw [HL2.out, if_neg (by unfold pubF; simp only [decide_eq_true_eq]; exact fun x => by have := (x.2.2.2 hq).1; omega)]
        rw [HE2.out, h0]; rfl)
      have i1 : decide (p.id < (1 : Int)) = true := decide_eq_true hi
      clear hq hi
      go_wp2
      go_ret
      exact ⟨by rw [HX.out]; rfl, S3.out.kept⟩
    have i1 : decide (p.id < (1 : Int)) = false := decide_eq_false hi
    by_cases hj : 65535 < p.id
    · have HX : Hid (pubE v p = 2) := Lib.hid (by
        have h0 : pubL v p 2 = 2 := by rw [HL2.out, if_neg (by unfold pubF; simp only [decide_eq_true_eq]; exact fun x => by have := (x.2.2.2 hq).2; omega)]
        rw [HE2.out, h0]; rfl)
      have i2 : decide ((65535 : Int) < p.id) = true := decide_eq_true hj
      clear hq hi hj
      go_wp2
      go_ret
      exact ⟨by rw [HX.out]; rfl, S3.out.kept⟩
    have i2 : decide ((65535 : Int) < p.id) = false := decide_eq_false hj
    have HV5 : v ≠ 4 → Hid (v = 5) := fun x => Lib.hid (by have := of_decide_eq_true (show decide (v = 4 ∨ v = 5) = true from HK3.out.1); omega)
    by_cases h4 : v = 4
    · have e4 : (v == 4) = true := beq_iff_eq.2 h4
      have e5 : (v == 5) = false := beq_eq_false_iff_ne.2 (by omega)
      by_cases h0 : 0 < p.props.length
      · have HX : Hid (pubE v p = 2) := Lib.hid (by
          have h0 : pubL v p 2 = 2 := by rw [HL2.out, if_neg (by unfold pubF; simp only [decide_eq_true_eq]; exact fun x => x.2.1 ⟨h4, h0⟩)]
          rw [HE2.out, h0]; rfl)
        have d0 : decide ((0 : Int) < (p.props.length : Int)) = true := decide_eq_true (by omega)
        have d1 : decide (0 < p.props.length) = true := decide_eq_true h0
        clear hq hi hj HV5 h4 h0
        go_wp2
        go_ret
        exact ⟨by rw [HX.out]; rfl, S3.out.kept⟩
      · have HE3 : Hid (pubE v p = if pubL v p 3 ≠ 0 then pubL v p 3 else pubL v p 4) := Lib.hid (by
          have h0 : pubL v p 2 = 0 := by rw [HL2.out, if_pos (by unfold pubF; exact decide_eq_true ⟨HSM.out, fun x => h0 x.2, fun x => absurd x hq, fun _ => ⟨by omega, by omega⟩⟩)]
          rw [HE2.out, h0, if_neg (fun x => x rfl)])
        have HRT : Hid (rightE v 3 p.props = (bytesS 3 p.props).2) := Lib.hid (by
          unfold rightE
          rw [if_pos h4, if_neg h0, show p.props = [] from List.eq_nil_of_length_eq_zero (by omega)]
          rfl)
        have d0 : decide ((0 : Int) < (p.props.length : Int)) = false := decide_eq_false (by omega)
        have d1 : decide (0 < p.props.length) = false := decide_eq_false h0
        have H4 := Lib.hid h4
        clear hq hi hj HV5 h4 h0
        go_wp2_with fail
        refine (refAlias_any p h _ (S3.out.into 0 rfl) OK.out).mono ?_
        rintro e w4 ⟨rfl, hb⟩
        have S4 := Lib.hid (S3.out.below hb); clear hb hl3 k3 k4 k20
        have n5 := S4.out.cell 0 rfl 5
        rw [pkC_5] at n5
        have n24 := S4.out.cell 0 rfl 24
        rw [pkC_24] at n24
        go_wp2_with fail
        refine (refName_any p.topic _ (by have := OK.out.texts.1; omega)).mono ?_
        rintro e w5 ⟨rfl, rfl⟩
        have hem := emptyB_iff p.topic
        have HN : Hid (pubN v p = (nameB p.topic || (decide (v = 5) && (aliasB p && p.topic.toList.isEmpty)))) := Lib.hid (by rw [hem]; rfl)
        clear hem
        generalize (getR p.props 35).n = al at *
        cases hn : nameB p.topic
        · rw [hn, Bool.false_or] at HN
          have HNM := Lib.hid hn
          cases he : p.topic.toList.isEmpty
          · have HX : Hid (pubE v p = 10) := Lib.hid (by
              have h0 : pubL v p 3 = 10 := by rw [HL3.out, if_neg (by rw [HN.out, he, Bool.and_false, Bool.and_false]; simp)]
              rw [HE3.out, h0]; rfl)
            clear hn
            go_wp2
            go_ret
            exact ⟨by rw [HX.out]; rfl, S4.out.kept⟩
          cases ha : aliasB p
          · have HX : Hid (pubE v p = 10) := Lib.hid (by
              have h0 : pubL v p 3 = 10 := by rw [HL3.out, if_neg (by rw [HN.out, ha, Bool.false_and, Bool.and_false]; simp)]
              rw [HE3.out, h0]; rfl)
            clear hn ha
            go_wp2
            go_ret
            exact ⟨by rw [HX.out]; rfl, S4.out.kept⟩
          have HX : Hid (pubE v p = 10) := Lib.hid (by
            have h0 : pubL v p 3 = 10 := by rw [HL3.out, if_neg (by rw [HN.out, decide_eq_false (by have := H4.out; omega), Bool.false_and]; simp)]
            rw [HE3.out, h0]; rfl)
          clear hn ha
          go_wp2
          go_ret
          exact ⟨by rw [HX.out]; rfl, S4.out.kept⟩
        · have HX3 : Hid (pubE v p = pubL v p 4) := Lib.hid (by
            have h0 : pubL v p 3 = 0 := by rw [HL3.out, if_pos (by unfold pubN; rw [hn]; rfl)]
            rw [HE3.out, h0, if_neg (fun x => x rfl)])
          clear hn
          go_wp2_with fail
          refine (refRight_any v 3 p.props _ rfl OK.out.props h.props.a h.props.c _ (S4.out.into 0 rfl).props OK.out.len.2.2.2 (S4.out.into 0 rfl).caps.2.2.2).mono ?_
          rintro e w6 ⟨rfl, hb⟩
          have S5 := Lib.hid (S4.out.below hb); clear hb
          rw [HRT.out]
          go_wp2
          go_ret
          exact ⟨by rw [HX3.out, HL4.out]; rfl, S5.out.kept⟩
    · have e4 : (v == 4) = false := beq_eq_false_iff_ne.2 h4
      have e5 : (v == 5) = true := beq_iff_eq.2 (HV5 h4).out
      have H5 : Hid (v = 5) := HV5 h4
      have HE3 : Hid (pubE v p = if pubL v p 3 ≠ 0 then pubL v p 3 else pubL v p 4) := Lib.hid (by
        have h0 : pubL v p 2 = 0 := by rw [HL2.out, if_pos (by unfold pubF; exact decide_eq_true ⟨HSM.out, fun x => h4 x.1, fun x => absurd x hq, fun _ => ⟨by omega, by omega⟩⟩)]
        rw [HE2.out, h0, if_neg (fun x => x rfl)])
      have HRT : Hid (rightE v 3 p.props = (bytesS 3 p.props).2) := Lib.hid (if_neg h4)
      clear hq hi hj HV5 h4
      go_wp2_with fail
      refine (refAlias_any p h _ (S3.out.into 0 rfl) OK.out).mono ?_
      rintro e w4 ⟨rfl, hb⟩
      have S4 := Lib.hid (S3.out.below hb); clear hb hl3 k3 k4 k20
      have n5 := S4.out.cell 0 rfl 5
      rw [pkC_5] at n5
      have n24 := S4.out.cell 0 rfl 24
      rw [pkC_24] at n24
      go_wp2_with fail
      refine (refName_any p.topic _ (by have := OK.out.texts.1; omega)).mono ?_
      rintro e w5 ⟨rfl, rfl⟩
      have hem := emptyB_iff p.topic
      have HN : Hid (pubN v p = (nameB p.topic || (decide (v = 5) && (aliasB p && p.topic.toList.isEmpty)))) := Lib.hid (by rw [hem]; rfl)
      clear hem
      generalize (getR p.props 35).n = al at *
      cases hn : nameB p.topic
      · rw [hn, Bool.false_or] at HN
        have HNM := Lib.hid hn
        cases he : p.topic.toList.isEmpty
        · have HX : Hid (pubE v p = 10) := Lib.hid (by
            have h0 : pubL v p 3 = 10 := by rw [HL3.out, if_neg (by rw [HN.out, he, Bool.and_false, Bool.and_false]; simp)]
            rw [HE3.out, h0]; rfl)
          clear hn
          go_wp2
          go_ret
          exact ⟨by rw [HX.out]; rfl, S4.out.kept⟩
        cases ha : aliasB p
        · have HX : Hid (pubE v p = 10) := Lib.hid (by
            have h0 : pubL v p 3 = 10 := by rw [HL3.out, if_neg (by rw [HN.out, ha, Bool.false_and, Bool.and_false]; simp)]
            rw [HE3.out, h0]; rfl)
          clear hn ha
          go_wp2
          go_ret
          exact ⟨by rw [HX.out]; rfl, S4.out.kept⟩
        have HX3 : Hid (pubE v p = pubL v p 4) := Lib.hid (by
          have h0 : pubL v p 3 = 0 := by rw [HL3.out, if_pos (by rw [HN.out, he, ha, decide_eq_true H5.out]; rfl)]
          rw [HE3.out, h0, if_neg (fun x => x rfl)])
        clear hn ha
        go_wp2_with fail
        refine (refRight_any v 3 p.props _ rfl OK.out.props h.props.a h.props.c _ (S4.out.into 0 rfl).props OK.out.len.2.2.2 (S4.out.into 0 rfl).caps.2.2.2).mono ?_
        rintro e w6 ⟨rfl, hb⟩
        have S5 := Lib.hid (S4.out.below hb); clear hb
        rw [HRT.out]
        go_wp2
        go_ret
        exact ⟨by rw [HX3.out, HL4.out]; rfl, S5.out.kept⟩
      · have HX3 : Hid (pubE v p = pubL v p 4) := Lib.hid (by
          have h0 : pubL v p 3 = 0 := by rw [HL3.out, if_pos (by unfold pubN; rw [hn]; rfl)]
          rw [HE3.out, h0, if_neg (fun x => x rfl)])
        clear hn
        go_wp2_with fail
        refine (refRight_any v 3 p.props _ rfl OK.out.props h.props.a h.props.c _ (S4.out.into 0 rfl).props OK.out.len.2.2.2 (S4.out.into 0 rfl).caps.2.2.2).mono ?_
        rintro e w6 ⟨rfl, hb⟩
        have S5 := Lib.hid (S4.out.below hb); clear hb
        rw [HRT.out]
        go_wp2
        go_ret
        exact ⟨by rw [HX3.out, HL4.out]; rfl, S5.out.kept⟩
end Go.Proofs.YtceniaklabiadaaGreat

namespace Go.Proofs.YtceniaklabiadaaGreat
open Go.RowKit
attribute [local go_sem ↓] to_ldPk to_bxPk to_bdPk to_alPk to_stPk
attribute [local go_sem] run_bxPk run_bxPk_agg ld_fresh run_alPk run_bd0 run_bdK run_bdKI run_bdKIC run_bdKC run_bdKICP run_stPk_fresh pkC_0 pkC_1 pkC_2 pkC_3 pkC_4 pkC_5 pkC_6 pkC_7 pkC_8 pkC_9 pkC_10 pkC_11 pkC_12 pkC_13 pkC_14 pkC_15 pkC_16 pkC_17 pkC_18 pkC_19 pkC_20 pkC_21 pkC_22 pkC_23 pkC_24

theorem add_nil (T Y : ByteArray) : T ++ (⟨#[]⟩ : ByteArray) ++ Y = T ++ Y := ls_ext (by rw [ls_app, ls_app, ls_app]; simp [ls])
theorem tailB_size {v : Int} {l : List Pr} (h : (bytesS 3 l).2 = 0) : (tailB v 3 l).size ≤ 131075004 := by
  unfold tailB
  split
  · exact Nat.zero_le _
  · rw [mk_size]; exact (bytesS_size 3 l h).2
set_option maxHeartbeats 4000000 in
set_option maxRecDepth 10000 in
theorem refPubBody_any (v : Int) (p : Pk) (h : Hs) (w : World) (ip : PkIn w w.heap.size p h) (ok : PkOk p) :
    Calls Tryz.prog 33 #[.int .i64 v, pkV p h] w fun e w' => e = .returned (.tuple #[.string (pubB v p).1, .int .i64 (pubB v p).2]) ∧ Below w.heap.size w w' := by
  have OK := Lib.hid ok
  have S0 := Lib.hid ((St.start w).push ip)
  have HE : Hid (pubB v p = if pubE v p = 0 then (pubS2 v p ++ p.payload, 0) else (⟨#[]⟩, pubE v p)) := Lib.hid rfl
  have H2 : Hid (pubS2 v p = if v = 5 then pubS1 p ++ ⟨(bytesS p.kind p.props).1.toArray⟩ else pubS1 p) := Lib.hid rfl
  have H1 : Hid (pubS1 p = if p.qos ≠ 0 then framedS p.topic ++ ⟨(putL p.id.toNat 2).toArray⟩ else framedS p.topic) := Lib.hid rfl
  clear ip ok
  have hl := S0.out.ld 0 rfl
  go_enter Tryz.func33, Tryz.ntmps33
  go_wp2_with fail
  refine (refPubValid_any v p h _ (S0.out.into 0 rfl) OK.out).mono ?_
  rintro e w1 ⟨rfl, hb⟩
  have S1 := Lib.hid (S0.out.below hb); clear hb hl
  by_cases he : pubE v p = 0
  rotate_left
  · have e0 : (pubE v p != 0) = true := bne_iff_ne.2 he
    have HX : Hid (pubB v p = (⟨#[]⟩, pubE v p)) := Lib.hid (by rw [HE.out, if_neg he])
    clear he
    go_wp2
    go_ret2
    exact ⟨by rw [HX.out]; rfl, S1.out.kept⟩
  have HX : Hid (pubB v p = (pubS2 v p ++ p.payload, 0)) := Lib.hid (by rw [HE.out, if_pos he])
  have G := Lib.hid (pubE_good he)
  rw [he]
  have HT := Lib.hid (valid_size G.out.topic)
  have HXX : ∀ Q : ByteArray, pubS1 p = Q → Hid (pubB v p = (Q ++ tailB v 3 p.props ++ p.payload, 0)) := fun Q hQ => Lib.hid (by
    rw [HX.out, H2.out]
    unfold tailB
    by_cases h5 : v = 5
    · rw [if_pos h5, if_neg (by omega), hQ, G.out.kind]
    · have h4 := G.out.k.resolve_right h5
      rw [if_neg h5, if_pos h4, hQ, add_nil])
  have HTB := Lib.hid (tailB_size (v := v) G.out.bytes)
  have k1 := S1.out.cell 0 rfl 5
  rw [pkC_5] at k1
  clear he
  go_wp2_with fail
  refine (refTextU_any p.topic _ (by have := OK.out.texts.1; omega)).mono ?_
  rintro e w2 ⟨rfl, hb⟩
  have S2 := Lib.hid (S1.out.below hb); clear hb k1
  rw [show textUS p.topic = (framedS p.topic, 0) from if_pos G.out.topic]
  simp only
  have hfs : (framedS p.topic).size ≤ 65537 := by rw [framedS_size]; have := HT.out; omega
  obtain ⟨T, hT⟩ : ∃ T, framedS p.topic = T := ⟨_, rfl⟩
  rw [hT] at hfs H1 ⊢
  have HFS := Lib.hid hfs
  obtain ⟨Y, hY⟩ : ∃ Y : ByteArray, p.payload = Y := ⟨_, rfl⟩
  have HY : Hid (Y.size ≤ 140737488351232) := Lib.hid (by rw [← hY]; exact OK.out.texts.2.1)
  rw [hY] at HXX
  have HYY := Lib.hid hY
  have HXH := Lib.hid HXX
  clear hT hfs hY HXX
  have k2 := S2.out.cell 0 rfl 3
  rw [pkC_3] at k2
  have k3 := S2.out.cell 0 rfl 4
  rw [pkC_4] at k3
  by_cases hq : p.qos = 0
  · have eq : decide ((0 : Int) < p.qos) = false := decide_eq_false (by omega)
    have HW := HXH.out T (by rw [H1.out, if_neg (fun y => y hq)])
    clear hq k3
    obtain ⟨Z, hZ⟩ : ∃ Z : ByteArray, tailB v 3 p.props = Z := ⟨_, rfl⟩
    rw [hZ] at HW HTB
    have HZ := Lib.hid hZ
    have ht := regrown (W := w2) (fun x hx => refTail_any v 3 p.props _ rfl OK.out.props h.props.a h.props.c x ((S2.out.below hx).into 0 rfl).props OK.out.len.2.2.2 (S2.out.into 0 rfl).caps.2.2.2)
    rw [HZ.out] at ht
    have k6 := cell_regrown (show w2.cell? ⟨w.heap.size, 6, none⟩ = some (.string Y) by rw [← HYY.out]; exact S2.out.cell 0 rfl 6)
    have k24 := cell_regrown (show w2.cell? ⟨w.heap.size, 24, none⟩ = some (.slice h.props.a p.props.length h.props.c) from S2.out.cell 0 rfl 24)
    have hs1 : ¬ (9223372036854775807 < T.size + Z.size) := by have := HFS.out; have := HTB.out; omega
    have hs2 : ¬ (9223372036854775807 < T.size + Z.size + Y.size) := by have := HFS.out; have := HTB.out; have := HY.out; omega
    have HBQ := Lib.hid (fun d os => S2.out.kept.trans ((below_regrown w2 d os).mono S2.out.kept.size))
    clear hZ
    go_wp2_with fail
    refine wp_region_quiet_below (by kernel_rfl) (by kernel_rfl) ?_
    repeat (go_big_quiet_step (with_reducible exact ht _ _))
    refine wpQuiet_nil ?_
    intro _ hw'
    obtain ⟨⟨dq, osq⟩, hw''⟩ := hw'
    subst hw''
    have KF := Lib.hid (HBQ.out dq osq)
    clear ht k6 k24 HBQ
    generalize Sort.grow (redrawn _ dq) osq = wq at *
    go_wp2
    go_ret2
    exact ⟨by rw [HW.out]; rfl, KF.out⟩
  · have eq : decide ((0 : Int) < p.qos) = true := decide_eq_true (by
      have := of_decide_eq_false G.out.flags
      omega)
    obtain ⟨m, hm, hw1⟩ : ∃ m : Nat, Hid (p.id.toNat = m) ∧ IntKind.u64.wrap p.id = (m : Int) := ⟨_, Lib.hid rfl, by rw [IntKind.wrap_u64]; have := G.out.id1 hq; omega⟩
    have HM : Hid (m < 65536) := Lib.hid (by have := hm.out; have := G.out.id1 hq; omega)
    obtain ⟨X, hX⟩ : ∃ X : ByteArray, (⟨(putL m 2).toArray⟩ : ByteArray) = X := ⟨_, rfl⟩
    have HXE := Lib.hid hX
    have HXS : Hid (X.size = 2) := Lib.hid (by rw [← hX, mk_size, putL_len])
    have HW := HXH.out (T ++ X) (by rw [H1.out, if_pos hq, hm.out, hX])
    clear hq hX
    go_wp2_with fail
    refine (refPut_any m 2 _ (by have := HM.out; omega) (by omega) (by omega)).mono ?_
    rintro e w3 ⟨rfl, hb⟩
    have S3 := Lib.hid (S2.out.below hb); clear hb k2 k3
    rw [HXE.out]
    have hs0 : ¬ (9223372036854775807 < T.size + X.size) := by have := HFS.out; have := HXS.out; omega
    obtain ⟨Z, hZ⟩ : ∃ Z : ByteArray, tailB v 3 p.props = Z := ⟨_, rfl⟩
    rw [hZ] at HW HTB
    have HZ := Lib.hid hZ
    have ht := regrown (W := w3) (fun x hx => refTail_any v 3 p.props _ rfl OK.out.props h.props.a h.props.c x ((S3.out.below hx).into 0 rfl).props OK.out.len.2.2.2 (S3.out.into 0 rfl).caps.2.2.2)
    rw [HZ.out] at ht
    have k6 := cell_regrown (show w3.cell? ⟨w.heap.size, 6, none⟩ = some (.string Y) by rw [← HYY.out]; exact S3.out.cell 0 rfl 6)
    have k24 := cell_regrown (show w3.cell? ⟨w.heap.size, 24, none⟩ = some (.slice h.props.a p.props.length h.props.c) from S3.out.cell 0 rfl 24)
    have hs1 : ¬ (9223372036854775807 < T.size + X.size + Z.size) := by have := HFS.out; have := HXS.out; have := HTB.out; omega
    have hs2 : ¬ (9223372036854775807 < T.size + X.size + Z.size + Y.size) := by have := HFS.out; have := HXS.out; have := HTB.out; have := HY.out; omega
    have HBQ := Lib.hid (fun d os => S3.out.kept.trans ((below_regrown w3 d os).mono S3.out.kept.size))
    clear hZ
    go_wp2_with fail
    refine wp_region_quiet_below (by kernel_rfl) (by kernel_rfl) ?_
    repeat (go_big_quiet_step (with_reducible exact ht _ _))
    refine wpQuiet_nil ?_
    intro _ hw'
    obtain ⟨⟨dq, osq⟩, hw''⟩ := hw'
    subst hw''
    have KF := Lib.hid (HBQ.out dq osq)
    clear ht k6 k24 HBQ
    generalize Sort.grow (redrawn _ dq) osq = wq at *
    go_wp2
    go_ret2
    exact ⟨by rw [HW.out]; rfl, KF.out⟩
end Go.Proofs.YtceniaklabiadaaGreat

namespace Go.Proofs.YtceniaklabiadaaGreat
open Go.RowKit
attribute [local go_sem ↓] to_ldPk to_bxPk to_bdPk to_alPk to_stPk
attribute [local go_sem] run_bxPk run_bxPk_agg ld_fresh run_alPk run_bd0 run_bdK run_bdKI run_bdKIC run_bdKC run_bdKICP run_stPk_fresh pkC_0 pkC_1 pkC_2 pkC_3 pkC_4 pkC_5 pkC_6 pkC_7 pkC_8 pkC_9 pkC_10 pkC_11 pkC_12 pkC_13 pkC_14 pkC_15 pkC_16 pkC_17 pkC_18 pkC_19 pkC_20 pkC_21 pkC_22 pkC_23 pkC_24

/-- What the reference's cursor finds behind the topic. -/
def rN (f : Int) (X : ByteArray) : Nat × Nat × Int := if f / 2 % 4 ≠ 0 then (numS X 0 0 2, (takeS X 0 0 2).2.1, (takeS X 0 0 2).2.2) else (0, 0, 0)
def rP (v f : Int) (X : ByteArray) : List Pr × Nat × Int := propsC v 3 X (rN f X).2.1 (rN f X).2.2
def rY (v f : Int) (X : ByteArray) : ByteArray := (takeS X (rP v f X).2.1 (rP v f X).2.2 ((X.size - (rP v f X).2.1 : Nat) : Int)).1
def rQ (v f : Int) (T X : ByteArray) : Pk := rdPub f T (rN f X).1 (rP v f X).1 (rY v f X)
def rE (v f : Int) (T X : ByteArray) : Int := if (rP v f X).2.2 = 0 then pubE v (rQ v f T X) else (rP v f X).2.2
theorem rN_le (f : Int) (X : ByteArray) : (rN f X).2.1 ≤ X.size := by
  unfold rN
  split
  · exact takeS_le (Nat.zero_le _) _ _
  · exact Nat.zero_le _
theorem rP_le (v f : Int) (X : ByteArray) : (rP v f X).2.1 ≤ X.size := by
  have h := rN_le f X
  unfold rP propsC
  split
  · exact h
  · have := readP_at 3 (X.extract (rN f X).2.1 X.size)
    rw [ByteArray.size_extract] at this
    show (rN f X).2.1 + _ ≤ _
    omega
theorem take_rest {X : ByteArray} {a : Nat} (h : a ≤ X.size) : takeS X a 0 ((X.size - a : Nat) : Int) = (X.extract a X.size, X.size, 0) := by
  rw [take_yes (by omega), show a + (X.size - a) = X.size by omega]
/-- The reference's reading is the program's. -/
theorem rd_ref {v f : Int} {s T X : ByteArray} {N : Nat} (hk : hdKnown v = true) (hc : hdCheck3 v f = 0) (hu : readU s = (T, N, 0)) (hX : s.extract N s.size = X) (hN : N ≤ s.size) : pubR v f s = if rE v f T X ≠ 0 then (pk0, rE v f T X) else (rQ v f T X, 0) := by
  have hxs : X.size = s.size - N := by rw [← hX, ByteArray.size_extract]; omega
  have hxe : ∀ i j, j ≤ X.size → X.extract i j = s.extract (N + i) (N + j) := fun i j hj => by rw [← hX, ex_ex (by omega)]
  have hv : ¬ v = 4 → v = 5 := fun h => by have := of_decide_eq_true (show decide (v = 4 ∨ v = 5) = true from hk); omega
  unfold pubR
  rw [if_neg (fun x => by rw [hk] at x; cases x), if_neg (fun x => x hc), hu, if_neg (fun x => x rfl)]
  simp only
  by_cases hsh : f / 2 % 4 ≠ 0 ∧ s.size < N + 2
  · have h1 : rN f X = (0, 0, 3) := by
      unfold rN numS
      have h2 : takeS X 0 0 (2 : Nat) = (⟨#[]⟩, 0, 3) := take_no (by omega)
      rw [show ((2 : Nat) : Int) = 2 from rfl] at h2
      rw [if_pos hsh.1, h2]
      rfl
    have h3 : rP v f X = ([], 0, 3) := by unfold rP propsC; rw [h1]; exact if_pos (.inr (by decide))
    have h4 : rE v f T X = 3 := by unfold rE; rw [h3]; rfl
    rw [if_pos hsh, h4]
    rfl
  rw [if_neg hsh]
  have hN2 : rN f X = ((pubId f s).toNat, pubAt f s - N, 0) ∧ N ≤ pubAt f s ∧ pubAt f s ≤ s.size ∧ ((pubId f s).toNat : Int) = pubId f s := by
    unfold rN pubId pubAt
    rw [hu]
    by_cases h0 : f / 2 % 4 ≠ 0
    · have h2 : takeS X 0 0 (2 : Nat) = (X.extract 0 (0 + 2), 0 + 2, 0) := take_yes (by have : ¬ s.size < N + 2 := fun x => hsh ⟨h0, x⟩; omega)
      rw [show ((2 : Nat) : Int) = 2 from rfl] at h2
      rw [if_pos h0, if_pos h0, if_pos h0]
      unfold numS
      rw [h2, hxe 0 (0 + 2) (by have : ¬ s.size < N + 2 := fun x => hsh ⟨h0, x⟩; omega)]
      have : ¬ s.size < N + 2 := fun x => hsh ⟨h0, x⟩
      refine ⟨?_, by simp only; omega, by simp only; omega, by simp⟩
      simp
    · rw [if_neg h0, if_neg h0, if_neg h0]
      exact ⟨by simp, by simp only; omega, by simp only; omega, rfl⟩
  obtain ⟨hn1, hn2, hn3, hn4⟩ := hN2
  have hP : rP v f X = ((pubPr v f s).1, pubAt f s - N + (pubPr v f s).2.1, (pubPr v f s).2.2) := by
    unfold rP propsC pubPr
    rw [hn1]
    simp only
    by_cases h4 : v = 4
    · rw [if_pos (.inl h4), if_neg (by omega)]
      rfl
    · have h5 := hv h4
      rw [if_neg (by simpa using h4), if_pos h5]
      have e1 : X.extract (pubAt f s - N) X.size = s.extract (pubAt f s) s.size := by
        rw [hxe _ _ (Nat.le_refl _), hxs, show N + (pubAt f s - N) = pubAt f s by omega, show N + (s.size - N) = s.size by omega]
      rw [e1]
  by_cases hp : (pubPr v f s).2.2 ≠ 0
  · have h4 : rE v f T X = (pubPr v f s).2.2 := by unfold rE; rw [hP]; exact if_neg hp
    rw [if_pos hp, h4, if_pos hp]
  rw [if_neg hp]
  have hp0 := Decidable.not_not.1 hp
  have hle := rP_le v f X
  have hY : rY v f X = s.extract (pubAt f s + (pubPr v f s).2.1) s.size := by
    unfold rY
    rw [hP] at hle ⊢
    simp only at hle ⊢
    rw [hp0, take_rest hle]
    simp only
    rw [hxe _ _ (Nat.le_refl _), hxs]
    congr 1 <;> omega
  have hQ : rQ v f T X = pubFull v f s := by
    unfold rQ pubFull
    rw [hY, hP, hn1, hu]
    simp only
    rw [hn4]
  have hE : rE v f T X = pubE v (pubFull v f s) := by unfold rE; rw [hP]; simp only; rw [if_pos hp0, hQ]
  rw [hE, hQ]
theorem rQ_ok {v f : Int} {T X : ByteArray} (hT : T.size ≤ 140737488351232) (hX : X.size ≤ 140737488351232) : PkOk (rQ v f T X) := by
  have hx : ∀ a b, (X.extract a b).size ≤ 140737488351232 := fun a b => by rw [ByteArray.size_extract]; omega
  have hl : (rP v f X).1.length ≤ 1000 ∧ ∀ q ∈ (rP v f X).1, prGood q := by
    unfold rP propsC
    split
    · exact ⟨Nat.zero_le _, by intro q hq; cases hq⟩
    · show (readP 3 (X.extract (rN f X).2.1 X.size)).1.length ≤ 1000 ∧ ∀ q ∈ (readP 3 (X.extract (rN f X).2.1 X.size)).1, prGood q
      have hz := hx (rN f X).2.1 X.size
      generalize X.extract (rN f X).2.1 X.size = Z at *
      refine ⟨?_, readP_good (kind := 3) (s := Z) hz⟩
      by_cases h : (readP 3 Z).2.2 = 0
      · exact readP_len h
      · rw [readP_bad h]; exact Nat.zero_le _
  have hy : (rY v f X).size ≤ 140737488351232 := by
    unfold rY takeS
    split
    · split
      · exact hx _ _
      · exact Nat.zero_le _
    · exact Nat.zero_le _
  refine ⟨?_, hl.2, ?_, ?_, ?_⟩
  · intro q hq; cases hq
  · intro q hq; cases hq
  · exact ⟨hT, hy, Nat.zero_le _, Nat.zero_le _, Nat.zero_le _, Nat.zero_le _, Nat.zero_le _⟩
  · exact ⟨Nat.zero_le _, Nat.zero_le _, Nat.zero_le _, Nat.le_trans hl.1 (by decide)⟩
end Go.Proofs.YtceniaklabiadaaGreat

namespace Go.Proofs.YtceniaklabiadaaGreat
open Go.RowKit
attribute [local go_sem ↓] to_ldPk to_bxPk to_bdPk to_alPk to_stPk
attribute [local go_sem] run_bxPk run_bxPk_agg ld_fresh run_alPk run_bd0 run_bdK run_bdKI run_bdKIC run_bdKC run_bdKICP run_stPk_fresh pkC_0 pkC_1 pkC_2 pkC_3 pkC_4 pkC_5 pkC_6 pkC_7 pkC_8 pkC_9 pkC_10 pkC_11 pkC_12 pkC_13 pkC_14 pkC_15 pkC_16 pkC_17 pkC_18 pkC_19 pkC_20 pkC_21 pkC_22 pkC_23 pkC_24

theorem run_bdRd (f : Int) (w : World) : (bdPk #[(0, .int .i64 3), (1, .bool (decide (8 ≤ f))), (3, .int .i64 (f / 2 % 4)), (2, .bool (decide (f % 2 = 1)))]).run Tryz.prog w = .ok (pkV (rdPub f ⟨#[]⟩ 0 [] ⟨#[]⟩) (hsP none 0)) w := by kernel_rfl
theorem take_err {X : ByteArray} {a : Nat} (h : a ≤ X.size) (e : Int) : (takeS X a e ((X.size - a : Nat) : Int)).2.2 = e := by
  by_cases he : e = 0
  · subst he; rw [take_rest h]
  · rw [takeS_bad he]
/-- What stands while the reference reads a PUBLISH: the result's block, the packet's, the cursor's. -/
structure QR (w : World) (g gc : Nat) (f : Int) (t : ByteArray) (i : Int) (l : List Pr) (y : ByteArray) (A : Option Addr) (n : Nat) (S : ByteArray) (a : Nat) (e : Int) (x : World) : Prop where
  kept : Below w.heap.size w x
  res : Bk x w.heap.size PkT (pkC pk0 hs0)
  pk : Bk x g PkT (pkC (rdPub f t i l y) (hsP A n))
  rd : Rd x x.heap.size 4 A l.length (prs l)
  cap : l.length ≤ n
  base : w.heap.size < g
  cur : RCur x gc S a e
  ne : g ≠ gc
  cb : w.heap.size < gc
section
variable {w x y : World} {g gc : Nat} {f i : Int} {t u S : ByteArray} {l : List Pr} {A : Option Addr} {n a : Nat} {e : Int}
theorem QR.below (h : QR w g gc f t i l u A n S a e x) (hb : Below x.heap.size x y) : QR w g gc f t i l u A n S a e y :=
  ⟨h.kept.trans (hb.mono h.kept.size), h.res.below hb h.res.lt, h.pk.below hb h.pk.lt, (h.rd.below hb).wider hb.size, h.cap, h.base, h.cur.below hb, h.ne, h.cb⟩
theorem QR.set (h : QR w g gc f t i l u A n S a e x) (k : Nat) (v : Value) {i' : Int} {t' u' : ByteArray} (he : (pkC (rdPub f t i l u) (hsP A n)).setIfInBounds k v = pkC (rdPub f t' i' l u') (hsP A n)) : QR w g gc f t' i' l u' A n S a e (x.setCell ⟨g, k, none⟩ v) :=
  ⟨below_mod h.kept (mod_set x g k v) h.kept.size (by have := h.base; omega), h.res.other (by have := h.base; simp; omega) _, h.pk.upd k v he, (h.rd.other h.pk (pk_no32 _ _) (mod_set x g k v) (Nat.le_refl _)).wider (mod_set x g k v).size, h.cap, h.base, ⟨h.cur.1.other (by have := h.ne; simp; omega) _, h.cur.2⟩, h.ne, h.cb⟩
theorem QR.put (h : QR w g gc f t i l u A n S a e x) {l' : List Pr} {A' : Option Addr} {n' : Nat} (hr : Rd x x.heap.size 4 A' l'.length (prs l')) (hn : l'.length ≤ n') : QR w g gc f t i l' u A' n' S a e (x.setCell ⟨g, 24, none⟩ (.slice A' l'.length n')) :=
  ⟨below_mod h.kept (mod_set x g 24 _) h.kept.size (by have := h.base; omega), h.res.other (by have := h.base; simp; omega) _, h.pk.upd 24 _ rfl, (hr.other h.pk (pk_no32 _ _) (mod_set x g 24 _) (Nat.le_refl _)).wider (mod_set x g 24 _).size, hn, h.base, ⟨h.cur.1.other (by have := h.ne; simp; omega) _, h.cur.2⟩, h.ne, h.cb⟩
theorem QR.turn (h : QR w g gc f t i l u A n S a e x) {a' : Nat} {e' : Int} (hc : RCur y gc S a' e') (hm : x.grownBy y (some gc)) : QR w g gc f t i l u A n S a' e' y :=
  ⟨below_mod h.kept hm h.kept.size (Nat.le_of_lt h.cb), h.res.mods (S := fun z => z = gc) (Mods.of_grown hm rfl) (by have := h.cb; omega), h.pk.mods (S := fun z => z = gc) (Mods.of_grown hm rfl) h.ne, (h.rd.other h.cur.1 (rcur_no32 _ _ _) hm (Nat.le_refl _)).wider hm.size, h.cap, h.base, hc, h.ne, h.cb⟩
theorem QR.into (h : QR w g gc f t i l u A n S a e x) : PkIn x x.heap.size (rdPub f t i l u) (hsP A n) := ⟨Rd.nil _ _ _ _, Rd.nil _ _ _ _, Rd.nil _ _ _ _, h.rd, Nat.zero_le _, Nat.zero_le _, Nat.zero_le _, h.cap⟩
theorem QR.none (h : QR w g gc f t i l u A n S a e x) : Below w.heap.size w (putPk x w.heap.size pk0 hs0) ∧ Bk (putPk x w.heap.size pk0 hs0) w.heap.size PkT (pkC pk0 hs0) := ⟨below_put h.kept h.kept.size (Nat.le_refl _) _ _, put_bk h.res _ _⟩
theorem QR.some (h : QR w g gc f t i l u A n S a e x) : Below w.heap.size w (putPk x w.heap.size (rdPub f t i l u) (hsP A n)) ∧ Bk (putPk x w.heap.size (rdPub f t i l u) (hsP A n)) w.heap.size PkT (pkC (rdPub f t i l u) (hsP A n)) ∧
    PkIn (putPk x w.heap.size (rdPub f t i l u) (hsP A n)) (putPk x w.heap.size (rdPub f t i l u) (hsP A n)).heap.size (rdPub f t i l u) (hsP A n) :=
  ⟨below_put h.kept h.kept.size (Nat.le_refl _) _ _, put_bk h.res _ _, Rd.nil _ _ _ _, Rd.nil _ _ _ _, Rd.nil _ _ _ _, (h.rd.other h.res (pk_no32 _ _) (putPk_mods _ _ _ _) (Nat.le_refl _)).wider (putPk_mods _ _ _ _).size, Nat.zero_le _, Nat.zero_le _, Nat.zero_le _, h.cap⟩
end
set_option maxHeartbeats 8000000 in
set_option maxRecDepth 10000 in
theorem refPubRead_any (v f : Int) (s : ByteArray) (w : World) (hs : s.size ≤ 140737488351232) :
    Calls Tryz.prog 35 #[.int .i64 v, .int .i64 f, .string s] w (PkOut (pubR v f s) w) := by
  have HS := Lib.hid hs
  have HB0 := Lib.hid ((Below.refl w.heap.size w).alloc (Nat.le_refl _) (.cells (pkC pk0 hs0) PkT))
  have HR0 := Lib.hid (Bk.fresh w PkT (pkC pk0 hs0))
  have hst := run_stPk HR0.out
  go_enter Tryz.func35, Tryz.ntmps35
  go_wp2_with fail
  refine (refVersion_any v _).mono ?_
  rintro e w1 ⟨rfl, rfl⟩
  cases hk : hdKnown v
  · have HX : Hid (pubR v f s = (pk0, 2)) := Lib.hid (by unfold pubR; rw [if_pos hk])
    clear hk
    go_wp2
    refine bodyPost_ret (results_pk rfl _ rfl (put_bk HR0.out _ _)) rfl ?_
    exact pkOut_bad HX.out (below_put HB0.out HB0.out.size (Nat.le_refl _) _ _)
  have HK := Lib.hid hk
  clear hk
  go_wp2_with fail
  refine (refCheck3_any v f _).mono ?_
  rintro e w1 ⟨rfl, hb⟩
  have HB1 := Lib.hid (HB0.out.trans (hb.mono HB0.out.size)); have HR1 := Lib.hid (HR0.out.below hb HR0.out.lt)
  clear hb hst
  have hst := run_stPk HR1.out
  by_cases hc : hdCheck3 v f = 0
  rotate_left
  · have HX : Hid (pubR v f s = (pk0, 7)) := Lib.hid (by unfold pubR; rw [if_neg (fun x => by rw [HK.out] at x; cases x), if_pos hc])
    have e0 : (hdCheck3 v f != 0) = true := bne_iff_ne.2 hc
    clear hc
    go_wp2
    refine bodyPost_ret (results_pk rfl _ rfl (put_bk HR1.out _ _)) rfl ?_
    exact pkOut_bad HX.out (below_put HB1.out HB1.out.size (Nat.le_refl _) _ _)
  have hF : 0 ≤ f ∧ f < 16 := by
    have h2 : hdFlag3 f = true := by
      have hc' := hc
      unfold hdCheck3 at hc'
      rw [if_neg (fun x => by rw [HK.out] at x; cases x)] at hc'
      cases hh : hdFlag3 f
      · rw [hh, if_pos rfl] at hc'; exact absurd hc' (by decide)
      · rfl
    have := of_decide_eq_true h2
    omega
  have HC := Lib.hid hc
  have e0 : (hdCheck3 v f != 0) = false := by rw [hc]; rfl
  have F0 : 0 ≤ f := hF.1
  have F1 : f < 16 := hF.2
  have hf1 : (f % 2 == 1) = decide (f % 2 = 1) := by by_cases h : f % 2 = 1 <;> simp [h]
  have hbd := fun W => run_bdRd f W
  clear hc hF
  obtain ⟨T, N, E, hU⟩ : ∃ T N E, readU s = (T, N, E) := ⟨_, _, _, rfl⟩
  have HU := Lib.hid hU
  have HUok : Hid (N ≤ s.size ∧ T.size ≤ s.size) := Lib.hid (by
    have h1 : (readU s).2.1 ≤ s.size ∧ (readU s).1.size ≤ s.size := by
      unfold readU readB
      split
      · exact ⟨Nat.zero_le _, Nat.zero_le _⟩
      · split
        · exact ⟨Nat.zero_le _, Nat.zero_le _⟩
        · split
          · exact ⟨Nat.zero_le _, Nat.zero_le _⟩
          · refine ⟨by show 2 + numS s 0 0 2 ≤ s.size; omega, ?_⟩
            show (s.extract _ _).size ≤ _
            rw [ByteArray.size_extract]; omega
    rw [hU] at h1
    exact h1)
  clear hU
  go_wp2_with fail
  refine (refReadU_any s _ (by have := HS.out; omega)).mono ?_
  rintro e w2 ⟨rfl, rfl⟩
  rw [HU.out]
  simp only
  have P0 := Lib.hid (Bk.fresh w1 PkT (pkC (rdPub f ⟨#[]⟩ 0 [] ⟨#[]⟩) (hsP none 0)))
  have HB2 := Lib.hid (HB1.out.alloc HB1.out.size (.cells (pkC (rdPub f ⟨#[]⟩ 0 [] ⟨#[]⟩) (hsP none 0)) PkT)); have HR2 := Lib.hid (HR1.out.alloc (.cells (pkC (rdPub f ⟨#[]⟩ 0 [] ⟨#[]⟩) (hsP none 0)) PkT))
  clear hst
  have hst := run_stPk HR2.out
  by_cases hE : E = 0
  rotate_left
  · have HX : Hid (pubR v f s = (pk0, E)) := Lib.hid (by unfold pubR; rw [if_neg (fun x => by rw [HK.out] at x; cases x), if_neg (fun x => x HC.out), HU.out, if_pos hE])
    have e1 : (E != 0) = true := bne_iff_ne.2 hE
    clear hE
    go_wp2
    refine bodyPost_ret (results_pk rfl _ rfl (put_bk HR2.out _ _)) rfl ?_
    exact pkOut_bad HX.out (below_put HB2.out HB2.out.size (Nat.le_refl _) _ _)
  subst hE
  obtain ⟨X, hX⟩ : ∃ X, s.extract N s.size = X := ⟨_, rfl⟩
  have HRD := Lib.hid (rd_ref HK.out HC.out HU.out hX HUok.out.1)
  have HXS : Hid (X.size ≤ 140737488351232) := Lib.hid (by rw [← hX, ByteArray.size_extract]; have := HS.out; omega)
  have HOK := Lib.hid (rQ_ok (v := v) (f := f) (T := T) (X := X) (by have := HUok.out.2; have := HS.out; omega) HXS.out)
  have n0 : (0 : Int) ≤ (N : Int) := by omega
  have n1 : (N : Int) ≤ (s.size : Int) := by have := HUok.out.1; omega
  have hset : (pkC (rdPub f ⟨#[]⟩ 0 [] ⟨#[]⟩) (hsP none 0)).setIfInBounds 5 (.string T) = pkC (rdPub f T 0 [] ⟨#[]⟩) (hsP none 0) := rfl
  have HSET := Lib.hid hset
  have P1 := Lib.hid (Bk.fresh w1 PkT (pkC (rdPub f T 0 [] ⟨#[]⟩) (hsP none 0)))
  have HB3 := Lib.hid (HB1.out.alloc HB1.out.size (.cells (pkC (rdPub f T 0 [] ⟨#[]⟩) (hsP none 0)) PkT)); have HR3 := Lib.hid (HR1.out.alloc (.cells (pkC (rdPub f T 0 [] ⟨#[]⟩) (hsP none 0)) PkT))
  have HLT : Hid (w.heap.size < w1.heap.size) := Lib.hid HR1.out.lt
  clear hst hset
  go_wp2_with fail
  rw [HSET.out]
  refine (refNew_any X _ (by have := HXS.out; omega)).mono ?_
  rintro e w3 ⟨rfl, hcur, hb⟩
  have hz3 : (w1.alloc (.cells (pkC (rdPub f T 0 [] ⟨#[]⟩) (hsP none 0)) PkT)).heap.size = w1.heap.size + 1 := by simp
  have Q0 : Hid (QR w w1.heap.size (w1.heap.size + 1) f T 0 [] ⟨#[]⟩ none 0 X 0 0 w3) := Lib.hid
    ⟨HB3.out.trans (hb.mono HB3.out.size), HR3.out.below hb HR3.out.lt, P1.out.below hb P1.out.lt, Rd.nil _ _ _ _, Nat.le_refl _, HLT.out, by rw [← hz3]; exact hcur, by omega, by have := HLT.out; omega⟩
  rw [hz3]
  clear hcur hb hz3 hbd
  have q3 : w3.cell? ⟨w1.heap.size, 3, none⟩ = some (.int .i64 (f / 2 % 4)) := Q0.out.pk.cell 3
  generalize w1.heap.size = g at *
  by_cases h0 : f / 2 % 4 = 0
  · have q0 : decide ((0 : Int) < f / 2 % 4) = false := decide_eq_false (by omega)
    have HRN : Hid (rN f X = (0, 0, 0)) := Lib.hid (by unfold rN; rw [if_neg (fun x => x h0)])
    clear h0
    have HRP : Hid (rP v f X = propsC v 3 X 0 0) := Lib.hid (by unfold rP; rw [HRN.out])
    go_wp2_with fail
    refine (refProps_any v 3 (g + 1) 0 X 0 _ Q0.out.cur HXS.out).mono ?_
    rintro e' x1 ⟨A, c, rfl, hlc, hr, hcu, hm⟩
    rw [← HRP.out] at hlc hr hcu ⊢
    have HPLE := Lib.hid (rP_le v f X)
    have HY : Hid (rY v f X = (takeS X (rP v f X).2.1 (rP v f X).2.2 ((X.size - (rP v f X).2.1 : Nat) : Int)).1) := Lib.hid rfl
    have HTE := Lib.hid (take_err (rP_le v f X) (rP v f X).2.2)
    have HQE : Hid (rQ v f T X = rdPub f T (0 : Int) (rP v f X).1 (rY v f X)) := Lib.hid (by unfold rQ; rw [HRN.out]; first | done | rfl)
    have HEE : Hid (rE v f T X = if (rP v f X).2.2 = 0 then pubE v (rQ v f T X) else (rP v f X).2.2) := Lib.hid rfl
    generalize rP v f X = R at *
    obtain ⟨l, a2, e2⟩ := R
    simp only at hlc hr hcu HPLE HY HTE HQE HEE ⊢
    have Q2 := Lib.hid ((Q0.out.turn hcu hm).put hr hlc)
    have Q1 := Lib.hid (Q0.out.turn hcu hm)
    have f24 := Q1.out.pk.free 24
    have p24 := Q1.out.pk.cell 24
    rw [pkC_24] at p24
    clear hlc hr hcu hm q3 q0
    go_wp2_with fail
    refine (refLeft_any (g + 1) a2 X e2 _ Q2.out.cur).mono ?_
    rintro e' x2 ⟨rfl, hb⟩
    have Q3 := Lib.hid (Q2.out.below hb); clear hb f24 p24
    go_wp2_with fail
    refine (refTake_any (g + 1) a2 X e2 _ _ Q3.out.cur).mono ?_
    rintro e' x3 ⟨rfl, hcu, hm⟩
    rw [← HY.out]
    rw [HTE.out] at hcu
    obtain ⟨Y, hYE⟩ : ∃ Y, rY v f X = Y := ⟨_, rfl⟩
    rw [hYE] at HQE ⊢
    have Q4 := Lib.hid (Q3.out.turn hcu hm)
    have Q5 := Lib.hid (Q4.out.set 6 (.string Y) (i' := (0 : Int)) (t' := T) (u' := Y) rfl)
    generalize (takeS X a2 e2 ((X.size - a2 : Nat) : Int)).2.1 = a3 at *
    have f6 := Q4.out.pk.free 6
    have p6 := Q4.out.pk.cell 6
    rw [pkC_6] at p6
    clear hcu hm hYE HY HTE HPLE
    have hl := ld_bk Q5.out.pk
    have HOK2 : Hid (PkOk (rdPub f T (0 : Int) l Y)) := Lib.hid (by rw [← HQE.out]; exact HOK.out)
    go_wp2_with fail
    refine (refPubValid_any v (rdPub f T (0 : Int) l Y) (hsP A c) _ Q5.out.into HOK2.out).mono ?_
    rintro e' x4 ⟨rfl, hb⟩
    have Q6 := Lib.hid (Q5.out.below hb); clear hb hl f6 p6
    go_wp2_with fail
    refine (refFail_any (g + 1) a3 X e2 _ _ Q6.out.cur).mono ?_
    rintro e' x5 ⟨rfl, hcu, hm⟩
    have Q7 := Lib.hid (Q6.out.turn hcu hm)
    clear hcu hm
    obtain ⟨⟨d0, d1, d2⟩, -⟩ := Q7.out.cur.cells
    have HF3 : Hid (rE v f T X = if e2 = 0 then pubE v (rdPub f T (0 : Int) l Y) else e2) := Lib.hid (by rw [HEE.out, HQE.out])
    have hst := run_stPk Q7.out.res
    rw [← HF3.out] at d2
    by_cases hE3 : rE v f T X = 0
    · have HX : Hid (pubR v f s = (rdPub f T (0 : Int) l Y, 0)) := Lib.hid (by rw [HRD.out, if_neg (fun x => x hE3), HQE.out])
      rw [hE3] at d2
      have hl7 := ld_bk Q7.out.pk
      clear hE3
      go_wp2
      refine bodyPost_ret (results_pk rfl _ rfl (put_bk Q7.out.res _ _)) rfl ?_
      exact pkOut_ok HX.out Q7.out.some.2.2 Q7.out.some.1
    · have HX : Hid (pubR v f s = (pk0, rE v f T X)) := Lib.hid (by rw [HRD.out, if_pos hE3])
      generalize rE v f T X = E3 at *
      have e9 : (E3 != 0) = true := bne_iff_ne.2 hE3
      clear hE3
      go_wp2_with fail
      have hst1 : (stPk (.pointer (some ⟨w.heap.size, 0, none⟩)) (pkV pk0 hs0)).run Tryz.prog x5.drew = .ok () (putPk x5.drew w.heap.size pk0 hs0) := run_stPk (Q7.out.res.drewN 1) pk0 hs0
      have d2' : (putPk x5.drew w.heap.size pk0 hs0).cell? ⟨g + 1, 2, none⟩ = some (.int .i64 E3) := by
        have hcb := Q7.out.cb
        have hbb := (Q7.out.cur.1.drewN 1).mods (S := fun z => z = w.heap.size) (Mods.of_grown (putPk_mods (x5.drewN 1) w.heap.size pk0 hs0) rfl) (by omega)
        have := hbb.cell 2
        rw [← HF3.out] at this
        exact this
      clear hst
      go_region_law (fail)
      all_goals
        go_wp2
        refine bodyPost_ret (results_pk rfl _ rfl (put_bk (Q7.out.res.drewN 1) _ _)) rfl ?_
        exact pkOut_bad HX.out (below_put (below_drawn Q7.out.kept 1) (below_drawn Q7.out.kept 1).size (Nat.le_refl _) _ _)
  · have q0 : decide ((0 : Int) < f / 2 % 4) = true := decide_eq_true (by omega)
    have HRN0 : Hid (rN f X = (numS X 0 0 2, (takeS X 0 0 2).2.1, (takeS X 0 0 2).2.2)) := Lib.hid (by unfold rN; rw [if_pos h0])
    clear h0
    go_wp2_with fail
    refine (refNumber_any (g + 1) 0 X 0 2 _ Q0.out.cur (by decide)).mono ?_
    rintro e' w4 ⟨rfl, hcu, hm⟩
    have HNL := Lib.hid (num_two_lt X 0 0 (Nat.zero_le _))
    obtain ⟨m, hmE⟩ : ∃ m, numS X 0 0 2 = m := ⟨_, rfl⟩
    obtain ⟨a1, ha1⟩ : ∃ a1, (takeS X 0 0 2).2.1 = a1 := ⟨_, rfl⟩
    obtain ⟨e1, he1⟩ : ∃ e1, (takeS X 0 0 2).2.2 = e1 := ⟨_, rfl⟩
    rw [ha1, he1] at hcu
    rw [hmE] at HNL ⊢
    have HRN : Hid (rN f X = (m, a1, e1)) := Lib.hid (by rw [HRN0.out, hmE, ha1, he1])
    have hwm : IntKind.i64.wrap (m : Int) = (m : Int) := by rw [IntKind.wrap_i64]; have := HNL.out; omega
    have T0 := Lib.hid (Q0.out.turn hcu hm)
    have T1 := Lib.hid (T0.out.set 4 (.int .i64 m) (i' := (m : Int)) (t' := T) (u' := ⟨#[]⟩) rfl)
    have f4 := T0.out.pk.free 4
    have p4 := T0.out.pk.cell 4
    rw [pkC_4] at p4
    clear hcu hm hmE ha1 he1 q3 q0
    have HRP : Hid (rP v f X = propsC v 3 X a1 e1) := Lib.hid (by unfold rP; rw [HRN.out])
    go_wp2_with fail
    refine (refProps_any v 3 (g + 1) a1 X e1 _ T1.out.cur HXS.out).mono ?_
    rintro e' x1 ⟨A, c, rfl, hlc, hr, hcu, hm⟩
    rw [← HRP.out] at hlc hr hcu ⊢
    have HPLE := Lib.hid (rP_le v f X)
    have HY : Hid (rY v f X = (takeS X (rP v f X).2.1 (rP v f X).2.2 ((X.size - (rP v f X).2.1 : Nat) : Int)).1) := Lib.hid rfl
    have HTE := Lib.hid (take_err (rP_le v f X) (rP v f X).2.2)
    have HQE : Hid (rQ v f T X = rdPub f T (m : Int) (rP v f X).1 (rY v f X)) := Lib.hid (by unfold rQ; rw [HRN.out]; first | done | rfl)
    have HEE : Hid (rE v f T X = if (rP v f X).2.2 = 0 then pubE v (rQ v f T X) else (rP v f X).2.2) := Lib.hid rfl
    generalize rP v f X = R at *
    obtain ⟨l, a2, e2⟩ := R
    simp only at hlc hr hcu HPLE HY HTE HQE HEE ⊢
    have Q2 := Lib.hid ((T1.out.turn hcu hm).put hr hlc)
    have Q1 := Lib.hid (T1.out.turn hcu hm)
    have f24 := Q1.out.pk.free 24
    have p24 := Q1.out.pk.cell 24
    rw [pkC_24] at p24
    clear hlc hr hcu hm f4 p4
    go_wp2_with fail
    refine (refLeft_any (g + 1) a2 X e2 _ Q2.out.cur).mono ?_
    rintro e' x2 ⟨rfl, hb⟩
    have Q3 := Lib.hid (Q2.out.below hb); clear hb f24 p24
    go_wp2_with fail
    refine (refTake_any (g + 1) a2 X e2 _ _ Q3.out.cur).mono ?_
    rintro e' x3 ⟨rfl, hcu, hm⟩
    rw [← HY.out]
    rw [HTE.out] at hcu
    obtain ⟨Y, hYE⟩ : ∃ Y, rY v f X = Y := ⟨_, rfl⟩
    rw [hYE] at HQE ⊢
    have Q4 := Lib.hid (Q3.out.turn hcu hm)
    have Q5 := Lib.hid (Q4.out.set 6 (.string Y) (i' := (m : Int)) (t' := T) (u' := Y) rfl)
    generalize (takeS X a2 e2 ((X.size - a2 : Nat) : Int)).2.1 = a3 at *
    have f6 := Q4.out.pk.free 6
    have p6 := Q4.out.pk.cell 6
    rw [pkC_6] at p6
    clear hcu hm hYE HY HTE HPLE
    have hl := ld_bk Q5.out.pk
    have HOK2 : Hid (PkOk (rdPub f T (m : Int) l Y)) := Lib.hid (by rw [← HQE.out]; exact HOK.out)
    go_wp2_with fail
    refine (refPubValid_any v (rdPub f T (m : Int) l Y) (hsP A c) _ Q5.out.into HOK2.out).mono ?_
    rintro e' x4 ⟨rfl, hb⟩
    have Q6 := Lib.hid (Q5.out.below hb); clear hb hl f6 p6
    go_wp2_with fail
    refine (refFail_any (g + 1) a3 X e2 _ _ Q6.out.cur).mono ?_
    rintro e' x5 ⟨rfl, hcu, hm⟩
    have Q7 := Lib.hid (Q6.out.turn hcu hm)
    clear hcu hm
    obtain ⟨⟨d0, d1, d2⟩, -⟩ := Q7.out.cur.cells
    have HF3 : Hid (rE v f T X = if e2 = 0 then pubE v (rdPub f T (m : Int) l Y) else e2) := Lib.hid (by rw [HEE.out, HQE.out])
    have hst := run_stPk Q7.out.res
    rw [← HF3.out] at d2
    by_cases hE3 : rE v f T X = 0
    · have HX : Hid (pubR v f s = (rdPub f T (m : Int) l Y, 0)) := Lib.hid (by rw [HRD.out, if_neg (fun x => x hE3), HQE.out])
      rw [hE3] at d2
      have hl7 := ld_bk Q7.out.pk
      clear hE3
      go_wp2
      refine bodyPost_ret (results_pk rfl _ rfl (put_bk Q7.out.res _ _)) rfl ?_
      exact pkOut_ok HX.out Q7.out.some.2.2 Q7.out.some.1
    · have HX : Hid (pubR v f s = (pk0, rE v f T X)) := Lib.hid (by rw [HRD.out, if_pos hE3])
      generalize rE v f T X = E3 at *
      have e9 : (E3 != 0) = true := bne_iff_ne.2 hE3
      clear hE3
      go_wp2_with fail
      have hst1 : (stPk (.pointer (some ⟨w.heap.size, 0, none⟩)) (pkV pk0 hs0)).run Tryz.prog x5.drew = .ok () (putPk x5.drew w.heap.size pk0 hs0) := run_stPk (Q7.out.res.drewN 1) pk0 hs0
      have d2' : (putPk x5.drew w.heap.size pk0 hs0).cell? ⟨g + 1, 2, none⟩ = some (.int .i64 E3) := by
        have hcb := Q7.out.cb
        have hbb := (Q7.out.cur.1.drewN 1).mods (S := fun z => z = w.heap.size) (Mods.of_grown (putPk_mods (x5.drewN 1) w.heap.size pk0 hs0) rfl) (by omega)
        have := hbb.cell 2
        rw [← HF3.out] at this
        exact this
      clear hst
      go_region_law (fail)
      all_goals
        go_wp2
        refine bodyPost_ret (results_pk rfl _ rfl (put_bk (Q7.out.res.drewN 1) _ _)) rfl ?_
        exact pkOut_bad HX.out (below_put (below_drawn Q7.out.kept 1) (below_drawn Q7.out.kept 1).size (Nat.le_refl _) _ _)
end Go.Proofs.YtceniaklabiadaaGreat
