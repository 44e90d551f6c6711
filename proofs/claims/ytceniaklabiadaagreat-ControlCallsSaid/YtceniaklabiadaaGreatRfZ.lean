/- Reference 12: plain, Valid, Tail, Body. -/
import Derived.Test.YtceniaklabiadaaGreatRfV
import Derived.Test.YtceniaklabiadaaGreatRfY
import Derived.Test.YtceniaklabiadaaGreatConD
import Derived.Deep.RegionLaw
import Derived.BigRegion
namespace Go.Proofs.YtceniaklabiadaaGreat
open Go.RowKit
attribute [local go_sem ↓] to_ldPk to_bxPk to_bdPk to_alPk to_stPk
attribute [local go_sem] run_bxPk run_bxPk_agg ld_fresh run_alPk run_bd0 run_bdK run_bdKI run_bdKIC run_bdKC run_bdKICP run_stPk_fresh pkC_0 pkC_1 pkC_2 pkC_3 pkC_4 pkC_5 pkC_6 pkC_7 pkC_8 pkC_9 pkC_10 pkC_11 pkC_12 pkC_13 pkC_14 pkC_15 pkC_16 pkC_17 pkC_18 pkC_19 pkC_20 pkC_21 pkC_22 pkC_23 pkC_24

set_option maxHeartbeats 400000 in
set_option maxRecDepth 10000 in
theorem refPlain_any (v k : Int) (w : World) :
    Calls Tryz.prog 83 #[.int .i64 v, .int .i64 k] w fun e w' => e = .returned (.bool (conPl v k)) ∧ w = w' := by
  have HE : Hid (conPl v k = decide (k = 12 ∨ k = 13 ∨ (k = 14 ∧ v = 4))) := Lib.hid rfl
  go_enter Tryz.func83, Tryz.ntmps83
  by_cases h1 : k = 12
  · have e1 : (k == 12) = true := beq_iff_eq.2 h1
    have HX : Hid (conPl v k = true) := Lib.hid (by rw [HE.out]; exact decide_eq_true (.inl h1))
    clear h1
    go_wp2
    go_ret
    exact ⟨by rw [HX.out]; rfl, rfl⟩
  have e1 : (k == 12) = false := beq_eq_false_iff_ne.2 h1
  by_cases h2 : k = 13
  · have e2 : (k == 13) = true := beq_iff_eq.2 h2
    have HX : Hid (conPl v k = true) := Lib.hid (by rw [HE.out]; exact decide_eq_true (.inr (.inl h2)))
    clear h1 h2
    go_wp2
    go_ret
    exact ⟨by rw [HX.out]; rfl, rfl⟩
  have e2 : (k == 13) = false := beq_eq_false_iff_ne.2 h2
  by_cases h3 : k = 14
  · have e3 : (k == 14) = true := beq_iff_eq.2 h3
    by_cases h4 : v = 4
    · have e4 : (v == 4) = true := beq_iff_eq.2 h4
      have HX : Hid (conPl v k = true) := Lib.hid (by rw [HE.out]; exact decide_eq_true (.inr (.inr ⟨h3, h4⟩)))
      clear h1 h2 h3 h4
      go_wp2
      go_ret
      exact ⟨by rw [HX.out]; rfl, rfl⟩
    · have e4 : (v == 4) = false := beq_eq_false_iff_ne.2 h4
      have HX : Hid (conPl v k = false) := Lib.hid (by rw [HE.out]; exact decide_eq_false (by omega))
      clear h1 h2 h3 h4
      go_wp2
      go_ret
      exact ⟨by rw [HX.out]; rfl, rfl⟩
  · have e3 : (k == 14) = false := beq_eq_false_iff_ne.2 h3
    have HX : Hid (conPl v k = false) := Lib.hid (by rw [HE.out]; exact decide_eq_false (by omega))
    clear h1 h2 h3
    go_wp2
    go_ret
    exact ⟨by rw [HX.out]; rfl, rfl⟩

theorem conK_no {v k : Int} (h : ¬ ((12 ≤ k ∧ k ≤ 15) ∧ (v = 4 ∨ v = 5))) : conK v k = 2 := by
  unfold conK
  refine if_pos ?_
  by_cases hv : v = 4 ∨ v = 5
  · exact .inl (decide_eq_false (fun x => h ⟨x, hv⟩))
  · exact .inr hv
theorem conK_auth {v k : Int} (h : k = 15 ∧ v = 4) : conK v k = 8 := by
  obtain ⟨rfl, rfl⟩ := h
  rfl
theorem conK_yes {v k : Int} (h : (12 ≤ k ∧ k ≤ 15) ∧ (v = 4 ∨ v = 5)) (h2 : ¬ (k = 15 ∧ v = 4)) : conK v k = 0 := by
  unfold conK
  have h1 : conIs k = true := decide_eq_true h.1
  rw [if_neg, if_neg h2]
  rintro (x | x)
  · rw [h1] at x; cases x
  · exact x h.2
set_option maxHeartbeats 1000000 in
set_option maxRecDepth 10000 in
theorem refConValid_any (v : Int) (p : Pk) (h : Hs) (w : World) (ip : PkIn w w.heap.size p h) (ok : PkOk p) :
    Calls Tryz.prog 28 #[.int .i64 v, pkV p h] w fun e w' => e = .returned (.int .i64 (conE v p)) ∧ Below w.heap.size w w' := by
  have OK := Lib.hid ok
  have IP := Lib.hid ip
  have S0 := Lib.hid ((St.start w).push ip)
  have HE := Lib.hid (conE_ref v p)
  clear ip ok
  go_enter Tryz.func28, Tryz.ntmps28
  have k0 := S0.out.cell 0 rfl 0
  rw [pkC_0] at k0
  go_wp2_with fail
  refine (refVersion_any v _).mono ?_
  rintro e w1 ⟨rfl, rfl⟩
  cases hk : hdKnown v
  · have HX : Hid (conE v p = 2) := Lib.hid (by have hK : conK v p.kind = 2 := conK_no (fun x => by have h2 := of_decide_eq_false (show decide (v = 4 ∨ v = 5) = false from hk); exact h2 x.2); rw [HE.out, hK]; rfl)
    clear hk
    go_wp2
    go_ret
    exact ⟨by rw [HX.out]; rfl, S0.out.kept⟩
  have hv := of_decide_eq_true (show decide (v = 4 ∨ v = 5) = true from hk)
  by_cases h4 : p.kind < 12
  · have HX : Hid (conE v p = 2) := Lib.hid (by have hK : conK v p.kind = 2 := conK_no (fun x => by omega); rw [HE.out, hK]; rfl)
    clear hk hv
    go_wp2
    go_ret
    exact ⟨by rw [HX.out]; rfl, S0.out.kept⟩
  have d4 : decide (p.kind < (12 : Int)) = false := decide_eq_false h4
  by_cases h7 : 15 < p.kind
  · have HX : Hid (conE v p = 2) := Lib.hid (by have hK : conK v p.kind = 2 := conK_no (fun x => by omega); rw [HE.out, hK]; rfl)
    clear hk h4 hv
    go_wp2
    go_ret
    exact ⟨by rw [HX.out]; rfl, S0.out.kept⟩
  have d7 : decide ((15 : Int) < p.kind) = false := decide_eq_false h7
  by_cases h15 : p.kind = 15
  · have e15 : (p.kind == 15) = true := beq_iff_eq.2 h15
    by_cases hv4 : v = 4
    · have e4 : (v == 4) = true := beq_iff_eq.2 hv4
      have HX : Hid (conE v p = 8) := Lib.hid (by have hK : conK v p.kind = 8 := conK_auth ⟨h15, hv4⟩; rw [HE.out, hK]; rfl)
      clear hk h4 h7 hv h15 hv4
      go_wp2
      go_ret
      exact ⟨by rw [HX.out]; rfl, S0.out.kept⟩
    have e4 : (v == 4) = false := beq_eq_false_iff_ne.2 hv4
    have HK : Hid (conK v p.kind = 0) := Lib.hid (conK_yes ⟨by omega, hv⟩ (fun x => hv4 x.2))
    have HPM := Lib.hid (conPl_may HK.out)
    have HE1 : Hid (conE v p = if p ≠ conQ v p ∨ (conPl v p.kind = false ∧ may p.kind p.code = false) then 2 else rightE v p.kind p.props) := Lib.hid (by rw [HE.out, if_neg (fun x => x HK.out)])
    have S2 : Hid (St w [(w.heap.size, p, h), ((w.heap.size + 1), ackR1 p.kind 0 0 [], hs0)] ((w.alloc (.cells (pkC p h) PkT)).alloc (.cells (pkC (ackR1 p.kind 0 0 []) hs0) PkT))) := Lib.hid (by
      have := S0.out.push (PkIn.R1 (w := w.alloc (.cells (pkC p h) PkT)) (B := (w.alloc (.cells (pkC p h) PkT)).heap.size) (A := Option.none) (n := 0) (l := []) (Rd.nil _ _ _ _) (Nat.zero_le _) p.kind 0 0)
      rw [show (w.alloc (.cells (pkC p h) PkT)).heap.size = w.heap.size + 1 by simp] at this
      exact this)
    have hst0 : ∀ q k, (stPk (.pointer (some ⟨w.heap.size + 1, 0, none⟩)) (pkV q k)).run Tryz.prog ((w.alloc (.cells (pkC p h) PkT)).alloc (.cells (pkC pk0 hs0) PkT)) = .ok () ((w.alloc (.cells (pkC p h) PkT)).alloc (.cells (pkC q k) PkT)) := fun q k => by
      have := run_stPk_fresh (w.alloc (.cells (pkC p h) PkT)) pk0 q hs0 k
      rw [show (w.alloc (.cells (pkC p h) PkT)).heap.size = w.heap.size + 1 by simp] at this
      exact this
    have k2 : ((w.alloc (.cells (pkC p h) PkT)).alloc (.cells (pkC (ackR1 p.kind 0 0 []) hs0) PkT)).cell? ⟨w.heap.size, 0, none⟩ = some (.int .i64 p.kind) := (S2.out.cell 0 rfl 0).trans (pkC_0 _ _)
    clear hk h4 h7 hv h15 hv4 HE
    go_wp2_with fail
    (try rw [ackR1_k])
    refine (refPlain_any v p.kind _).mono ?_
    rintro e w2 ⟨rfl, rfl⟩
    clear k0 k2 hst0
    cases hm : conPl v p.kind
    · have HQ : Hid (conQ v p = ackR1 p.kind 0 p.code p.props) := Lib.hid (by unfold conQ; rw [if_pos (by have := HPM.out; rw [hm] at this; cases e : conMay v p.kind; rw [e] at this; cases this; rfl)])
      have HE2 : Hid (conE v p = if p ≠ ackR1 p.kind 0 p.code p.props ∨ may p.kind p.code = false then 2 else rightE v p.kind p.props) := Lib.hid (by rw [HE1.out, HQ.out, hm]; simp)
      have HPL := Lib.hid hm
      have k4 := S2.out.cell 0 rfl 21
      rw [pkC_21] at k4
      have k5 := S2.out.cell 0 rfl 24
      rw [pkC_24] at k5
      have j4 : ((w.alloc (.cells (pkC p h) PkT)).alloc (.cells (pkC (ackR1 p.kind 0 0 []) hs0) PkT)).cell? ⟨(w.heap.size + 1), 21, none⟩ = some (.int .i64 0) := S2.out.cell 1 rfl 21
      have j5 : ((w.alloc (.cells (pkC p h) PkT)).alloc (.cells (pkC (ackR1 p.kind 0 0 []) hs0) PkT)).cell? ⟨(w.heap.size + 1), 24, none⟩ = some (.slice none 0 0) := S2.out.cell 1 rfl 24
      have f4 := (S2.out.bk 1 rfl).free 21
      have f5 := (S2.out.bk 1 rfl).free 24
      have hne : (w.heap.size == (w.heap.size + 1)) = false := beq_eq_false_iff_ne.2 (by simp)
      clear hm
      generalize (w.heap.size + 1) = g1 at *
      generalize (w.alloc (.cells (pkC p h) PkT)).alloc (.cells (pkC (ackR1 p.kind 0 0 []) hs0) PkT) = W2 at *
      go_wp2_with fail
      go_region
      have S5 := Lib.hid ((S2.out.conQ IP.out (by simpa using hne)).drew)
      have hl0 := S5.out.ld 0 rfl
      have hl1 := S5.out.ld 1 rfl
      clear k4 k5 j4 j5 f4 f5 hne
      generalize ((W2.setCell ⟨g1, 21, none⟩ (.int .i64 p.code)).setCell ⟨g1, 24, none⟩ (.slice h.props.a p.props.length h.props.c)).drew = w5 at *
      go_wp2_with fail
      refine (refSamePk_any p (ackR1 p.kind 0 p.code p.props) h (ackH h) _ (S5.out.into 0 rfl) (S5.out.into 1 rfl) OK.out.len (conQ_len OK.out.len)).mono ?_
      rintro e w6 ⟨rfl, hb⟩
      have S6 := Lib.hid (S5.out.below hb); clear hb hl0 hl1
      by_cases hs : p = ackR1 p.kind 0 p.code p.props
      rotate_left
      · rw [decide_eq_false hs]
        have HX : Hid (conE v p = 2) := Lib.hid (by rw [HE2.out, if_pos (.inl hs)])
        clear hs
        go_wp2
        go_ret
        exact ⟨by rw [HX.out]; rfl, S6.out.kept⟩
      rw [decide_eq_true hs]
      have HSM := Lib.hid hs
      have k6 := S6.out.cell 0 rfl 0
      rw [pkC_0] at k6
      have k7 := S6.out.cell 0 rfl 21
      rw [pkC_21] at k7
      clear hs
      go_wp2_with fail
      refine (refPlain_any v p.kind _).mono ?_
      rintro e w7 ⟨rfl, rfl⟩
      rw [HPL.out]
      go_wp2_with fail
      refine (refMay_any p.kind p.code _).mono ?_
      rintro e w8 ⟨rfl, hb⟩
      have S8 := Lib.hid (S6.out.below hb); clear hb k6 k7
      cases hy : may p.kind p.code
      · have HX : Hid (conE v p = 2) := Lib.hid (by rw [HE2.out, if_pos (.inr hy)])
        clear hy
        go_wp2
        go_ret
        exact ⟨by rw [HX.out]; rfl, S8.out.kept⟩
      have HX : Hid (conE v p = rightE v p.kind p.props) := Lib.hid (by rw [HE2.out, if_neg (fun x => x.elim (fun y => y HSM.out) (fun y => by rw [hy] at y; cases y))])
      clear hy
      have k8 := S8.out.cell 0 rfl 0
      rw [pkC_0] at k8
      have k9 := S8.out.cell 0 rfl 24
      rw [pkC_24] at k9
      go_wp2_with fail
      refine (refRight_any v p.kind p.props _ rfl OK.out.props h.props.a h.props.c _ (S8.out.into 0 rfl).props OK.out.len.2.2.2 (S8.out.into 0 rfl).caps.2.2.2).mono ?_
      rintro e w9 ⟨rfl, hb⟩
      have S9 := Lib.hid (S8.out.below hb); clear hb k8 k9
      go_wp2
      go_ret
      exact ⟨by rw [HX.out]; rfl, S9.out.kept⟩
    · have HQ : Hid (conQ v p = ackR1 p.kind 0 0 []) := Lib.hid (by unfold conQ; rw [if_neg (by have := HPM.out; rw [hm] at this; cases e : conMay v p.kind; decide; rw [e] at this; cases this)])
      have HE2 : Hid (conE v p = if p ≠ ackR1 p.kind 0 0 [] then 2 else rightE v p.kind p.props) := Lib.hid (by rw [HE1.out, HQ.out, hm]; simp)
      have HPL := Lib.hid hm
      have hl0 := S2.out.ld 0 rfl
      have hl1 := S2.out.ld 1 rfl
      clear hm
      generalize (w.heap.size + 1) = g1 at *
      generalize (w.alloc (.cells (pkC p h) PkT)).alloc (.cells (pkC (ackR1 p.kind 0 0 []) hs0) PkT) = W2 at *
      go_wp2_with fail
      refine (refSamePk_any p (ackR1 p.kind 0 0 []) h hs0 _ (S2.out.into 0 rfl) (S2.out.into 1 rfl) OK.out.len ⟨Nat.zero_le _, Nat.zero_le _, Nat.zero_le _, Nat.zero_le _⟩).mono ?_
      rintro e w6 ⟨rfl, hb⟩
      have S6 := Lib.hid (S2.out.below hb); clear hb hl0 hl1
      by_cases hs : p = ackR1 p.kind 0 0 []
      rotate_left
      · rw [decide_eq_false hs]
        have HX : Hid (conE v p = 2) := Lib.hid (by rw [HE2.out, if_pos hs])
        clear hs
        go_wp2
        go_ret
        exact ⟨by rw [HX.out]; rfl, S6.out.kept⟩
      rw [decide_eq_true hs]
      have HX : Hid (conE v p = rightE v p.kind p.props) := Lib.hid (by rw [HE2.out, if_neg (fun x => x hs)])
      have k6 := S6.out.cell 0 rfl 0
      rw [pkC_0] at k6
      have k7 := S6.out.cell 0 rfl 24
      rw [pkC_24] at k7
      clear hs
      go_wp2_with fail
      refine (refPlain_any v p.kind _).mono ?_
      rintro e w7 ⟨rfl, rfl⟩
      rw [HPL.out]
      go_wp2_with fail
      refine (refRight_any v p.kind p.props _ rfl OK.out.props h.props.a h.props.c _ (S6.out.into 0 rfl).props OK.out.len.2.2.2 (S6.out.into 0 rfl).caps.2.2.2).mono ?_
      rintro e w9 ⟨rfl, hb⟩
      have S9 := Lib.hid (S6.out.below hb); clear hb k6 k7
      go_wp2
      go_ret
      exact ⟨by rw [HX.out]; rfl, S9.out.kept⟩
  have e15 : (p.kind == 15) = false := beq_eq_false_iff_ne.2 h15
  have HK : Hid (conK v p.kind = 0) := Lib.hid (conK_yes ⟨by omega, hv⟩ (fun x => h15 x.1))
  have HPM := Lib.hid (conPl_may HK.out)
  have HE1 : Hid (conE v p = if p ≠ conQ v p ∨ (conPl v p.kind = false ∧ may p.kind p.code = false) then 2 else rightE v p.kind p.props) := Lib.hid (by rw [HE.out, if_neg (fun x => x HK.out)])
  have S2 : Hid (St w [(w.heap.size, p, h), ((w.heap.size + 1), ackR1 p.kind 0 0 [], hs0)] ((w.alloc (.cells (pkC p h) PkT)).alloc (.cells (pkC (ackR1 p.kind 0 0 []) hs0) PkT))) := Lib.hid (by
    have := S0.out.push (PkIn.R1 (w := w.alloc (.cells (pkC p h) PkT)) (B := (w.alloc (.cells (pkC p h) PkT)).heap.size) (A := Option.none) (n := 0) (l := []) (Rd.nil _ _ _ _) (Nat.zero_le _) p.kind 0 0)
    rw [show (w.alloc (.cells (pkC p h) PkT)).heap.size = w.heap.size + 1 by simp] at this
    exact this)
  have hst0 : ∀ q k, (stPk (.pointer (some ⟨w.heap.size + 1, 0, none⟩)) (pkV q k)).run Tryz.prog ((w.alloc (.cells (pkC p h) PkT)).alloc (.cells (pkC pk0 hs0) PkT)) = .ok () ((w.alloc (.cells (pkC p h) PkT)).alloc (.cells (pkC q k) PkT)) := fun q k => by
    have := run_stPk_fresh (w.alloc (.cells (pkC p h) PkT)) pk0 q hs0 k
    rw [show (w.alloc (.cells (pkC p h) PkT)).heap.size = w.heap.size + 1 by simp] at this
    exact this
  have k2 : ((w.alloc (.cells (pkC p h) PkT)).alloc (.cells (pkC (ackR1 p.kind 0 0 []) hs0) PkT)).cell? ⟨w.heap.size, 0, none⟩ = some (.int .i64 p.kind) := (S2.out.cell 0 rfl 0).trans (pkC_0 _ _)
  clear hk h4 h7 hv h15 HE
  go_wp2_with fail
  (try rw [ackR1_k])
  refine (refPlain_any v p.kind _).mono ?_
  rintro e w2 ⟨rfl, rfl⟩
  clear k0 k2 hst0
  cases hm : conPl v p.kind
  · have HQ : Hid (conQ v p = ackR1 p.kind 0 p.code p.props) := Lib.hid (by unfold conQ; rw [if_pos (by have := HPM.out; rw [hm] at this; cases e : conMay v p.kind; rw [e] at this; cases this; rfl)])
    have HE2 : Hid (conE v p = if p ≠ ackR1 p.kind 0 p.code p.props ∨ may p.kind p.code = false then 2 else rightE v p.kind p.props) := Lib.hid (by rw [HE1.out, HQ.out, hm]; simp)
    have HPL := Lib.hid hm
    have k4 := S2.out.cell 0 rfl 21
    rw [pkC_21] at k4
    have k5 := S2.out.cell 0 rfl 24
    rw [pkC_24] at k5
    have j4 : ((w.alloc (.cells (pkC p h) PkT)).alloc (.cells (pkC (ackR1 p.kind 0 0 []) hs0) PkT)).cell? ⟨(w.heap.size + 1), 21, none⟩ = some (.int .i64 0) := S2.out.cell 1 rfl 21
    have j5 : ((w.alloc (.cells (pkC p h) PkT)).alloc (.cells (pkC (ackR1 p.kind 0 0 []) hs0) PkT)).cell? ⟨(w.heap.size + 1), 24, none⟩ = some (.slice none 0 0) := S2.out.cell 1 rfl 24
    have f4 := (S2.out.bk 1 rfl).free 21
    have f5 := (S2.out.bk 1 rfl).free 24
    have hne : (w.heap.size == (w.heap.size + 1)) = false := beq_eq_false_iff_ne.2 (by simp)
    clear hm
    generalize (w.heap.size + 1) = g1 at *
    generalize (w.alloc (.cells (pkC p h) PkT)).alloc (.cells (pkC (ackR1 p.kind 0 0 []) hs0) PkT) = W2 at *
    go_wp2_with fail
    go_region
    have S5 := Lib.hid ((S2.out.conQ IP.out (by simpa using hne)).drew)
    have hl0 := S5.out.ld 0 rfl
    have hl1 := S5.out.ld 1 rfl
    clear k4 k5 j4 j5 f4 f5 hne
    generalize ((W2.setCell ⟨g1, 21, none⟩ (.int .i64 p.code)).setCell ⟨g1, 24, none⟩ (.slice h.props.a p.props.length h.props.c)).drew = w5 at *
    go_wp2_with fail
    refine (refSamePk_any p (ackR1 p.kind 0 p.code p.props) h (ackH h) _ (S5.out.into 0 rfl) (S5.out.into 1 rfl) OK.out.len (conQ_len OK.out.len)).mono ?_
    rintro e w6 ⟨rfl, hb⟩
    have S6 := Lib.hid (S5.out.below hb); clear hb hl0 hl1
    by_cases hs : p = ackR1 p.kind 0 p.code p.props
    rotate_left
    · rw [decide_eq_false hs]
      have HX : Hid (conE v p = 2) := Lib.hid (by rw [HE2.out, if_pos (.inl hs)])
      clear hs
      go_wp2
      go_ret
      exact ⟨by rw [HX.out]; rfl, S6.out.kept⟩
    rw [decide_eq_true hs]
    have HSM := Lib.hid hs
    have k6 := S6.out.cell 0 rfl 0
    rw [pkC_0] at k6
    have k7 := S6.out.cell 0 rfl 21
    rw [pkC_21] at k7
    clear hs
    go_wp2_with fail
    refine (refPlain_any v p.kind _).mono ?_
    rintro e w7 ⟨rfl, rfl⟩
    rw [HPL.out]
    go_wp2_with fail
    refine (refMay_any p.kind p.code _).mono ?_
    rintro e w8 ⟨rfl, hb⟩
    have S8 := Lib.hid (S6.out.below hb); clear hb k6 k7
    cases hy : may p.kind p.code
    · have HX : Hid (conE v p = 2) := Lib.hid (by rw [HE2.out, if_pos (.inr hy)])
      clear hy
      go_wp2
      go_ret
      exact ⟨by rw [HX.out]; rfl, S8.out.kept⟩
    have HX : Hid (conE v p = rightE v p.kind p.props) := Lib.hid (by rw [HE2.out, if_neg (fun x => x.elim (fun y => y HSM.out) (fun y => by rw [hy] at y; cases y))])
    clear hy
    have k8 := S8.out.cell 0 rfl 0
    rw [pkC_0] at k8
    have k9 := S8.out.cell 0 rfl 24
    rw [pkC_24] at k9
    go_wp2_with fail
    refine (refRight_any v p.kind p.props _ rfl OK.out.props h.props.a h.props.c _ (S8.out.into 0 rfl).props OK.out.len.2.2.2 (S8.out.into 0 rfl).caps.2.2.2).mono ?_
    rintro e w9 ⟨rfl, hb⟩
    have S9 := Lib.hid (S8.out.below hb); clear hb k8 k9
    go_wp2
    go_ret
    exact ⟨by rw [HX.out]; rfl, S9.out.kept⟩
  · have HQ : Hid (conQ v p = ackR1 p.kind 0 0 []) := Lib.hid (by unfold conQ; rw [if_neg (by have := HPM.out; rw [hm] at this; cases e : conMay v p.kind; decide; rw [e] at this; cases this)])
    have HE2 : Hid (conE v p = if p ≠ ackR1 p.kind 0 0 [] then 2 else rightE v p.kind p.props) := Lib.hid (by rw [HE1.out, HQ.out, hm]; simp)
    have HPL := Lib.hid hm
    have hl0 := S2.out.ld 0 rfl
    have hl1 := S2.out.ld 1 rfl
    clear hm
    generalize (w.heap.size + 1) = g1 at *
    generalize (w.alloc (.cells (pkC p h) PkT)).alloc (.cells (pkC (ackR1 p.kind 0 0 []) hs0) PkT) = W2 at *
    go_wp2_with fail
    refine (refSamePk_any p (ackR1 p.kind 0 0 []) h hs0 _ (S2.out.into 0 rfl) (S2.out.into 1 rfl) OK.out.len ⟨Nat.zero_le _, Nat.zero_le _, Nat.zero_le _, Nat.zero_le _⟩).mono ?_
    rintro e w6 ⟨rfl, hb⟩
    have S6 := Lib.hid (S2.out.below hb); clear hb hl0 hl1
    by_cases hs : p = ackR1 p.kind 0 0 []
    rotate_left
    · rw [decide_eq_false hs]
      have HX : Hid (conE v p = 2) := Lib.hid (by rw [HE2.out, if_pos hs])
      clear hs
      go_wp2
      go_ret
      exact ⟨by rw [HX.out]; rfl, S6.out.kept⟩
    rw [decide_eq_true hs]
    have HX : Hid (conE v p = rightE v p.kind p.props) := Lib.hid (by rw [HE2.out, if_neg (fun x => x hs)])
    have k6 := S6.out.cell 0 rfl 0
    rw [pkC_0] at k6
    have k7 := S6.out.cell 0 rfl 24
    rw [pkC_24] at k7
    clear hs
    go_wp2_with fail
    refine (refPlain_any v p.kind _).mono ?_
    rintro e w7 ⟨rfl, rfl⟩
    rw [HPL.out]
    go_wp2_with fail
    refine (refRight_any v p.kind p.props _ rfl OK.out.props h.props.a h.props.c _ (S6.out.into 0 rfl).props OK.out.len.2.2.2 (S6.out.into 0 rfl).caps.2.2.2).mono ?_
    rintro e w9 ⟨rfl, hb⟩
    have S9 := Lib.hid (S6.out.below hb); clear hb k6 k7
    go_wp2
    go_ret
    exact ⟨by rw [HX.out]; rfl, S9.out.kept⟩

set_option maxHeartbeats 2000000 in
set_option maxRecDepth 10000 in
theorem refConTail_any (c k : Int) (l : List Pr) (n : Nat) (hn : l.length = n) (hg : ∀ p ∈ l, prGood p) (A : Option Addr) (q : Nat) (w : World) (h : Rd w w.heap.size 4 A n (prs l)) (hl : n ≤ 4611686018427387904) (hq : n ≤ q) :
    Calls Tryz.prog 30 #[.int .i64 c, .slice A n q, .int .i64 k] w fun e w' => e = .returned (.string ⟨(tailS c l k).toArray⟩) ∧ Below w.heap.size w w' := by
  have HX := Lib.hid (tailS_ref c k l)
  have H := Lib.hid h; have HG := Lib.hid hg; have HN := Lib.hid hn; have HL := Lib.hid hl; have HQ := Lib.hid hq
  clear h hg hn hl hq
  obtain ⟨Z, hZ⟩ : ∃ Z : ByteArray, (⟨(tailS c l k).toArray⟩ : ByteArray) = Z := ⟨_, rfl⟩
  rw [hZ] at HX ⊢
  clear hZ
  by_cases h1 : c < 0
  · have HY : Hid (Z = ⟨#[]⟩) := Lib.hid (by rw [HX.out, if_pos (.inl h1)])
    go_enter Tryz.func30, Tryz.ntmps30
    go_wp2
    go_ret
    exact ⟨by rw [HY.out]; rfl, Below.refl _ _⟩
  have d1 : decide (c < (0 : Int)) = false := decide_eq_false h1
  by_cases h2 : 255 < c
  · have HY : Hid (Z = ⟨#[]⟩) := Lib.hid (by rw [HX.out, if_pos (.inr (.inl h2))])
    clear h1
    go_enter Tryz.func30, Tryz.ntmps30
    go_wp2
    go_ret
    exact ⟨by rw [HY.out]; rfl, Below.refl _ _⟩
  have d2 : decide ((255 : Int) < c) = false := decide_eq_false h2
  have HC : Hid (0 ≤ c ∧ c < 256) := Lib.hid (by omega)
  go_enter Tryz.func30, Tryz.ntmps30
  go_wp2_with fail
  refine (refValidP_any k l n HN.out HG.out A q _ H.out HL.out HQ.out).mono ?_
  rintro e w1 ⟨rfl, hb⟩
  have HB := Lib.hid hb; clear hb
  by_cases h3 : (bytesS k l).2 = 0
  rotate_left
  · have HY : Hid (Z = ⟨#[]⟩) := Lib.hid (by rw [HX.out, if_pos (.inr (.inr h3))])
    have e3 : ((bytesS k l).2 != 0) = true := bne_iff_ne.2 h3
    clear h1 h2 h3
    go_wp2
    go_ret
    exact ⟨by rw [HY.out]; rfl, HB.out⟩
  have HY : Hid (Z = shortB 5 k c l) := Lib.hid (by rw [HX.out, if_neg (fun x => x.elim (fun y => by omega) (fun y => y.elim (fun z => by omega) (fun z => z h3)))])
  rw [h3]
  clear h1 h2 h3
  go_wp2_with fail
  refine (refShort_any 5 k c l n HN.out HC.out HG.out A q _ ((H.out.below HB.out).wider HB.out.size) HL.out HQ.out).mono ?_
  rintro e w2 ⟨rfl, hb⟩
  have HB2 := Lib.hid (HB.out.trans (hb.mono HB.out.size)); clear hb
  go_wp2
  go_ret
  exact ⟨by rw [HY.out]; rfl, HB2.out⟩

set_option maxHeartbeats 2000000 in
set_option maxRecDepth 10000 in
theorem refConBody_any (v : Int) (p : Pk) (h : Hs) (w : World) (ip : PkIn w w.heap.size p h) (ok : PkOk p) :
    Calls Tryz.prog 24 #[.int .i64 v, pkV p h] w fun e w' => e = .returned (.tuple #[.string ⟨(conB v p).1.toArray⟩, .int .i64 (conB v p).2]) ∧ Below w.heap.size w w' := by
  have OK := Lib.hid ok
  have S0 := Lib.hid ((St.start w).push ip)
  have HE : Hid (conB v p = if conE v p = 0 then (tailS p.code p.props p.kind, 0) else ([], conE v p)) := Lib.hid rfl
  have HP := Lib.hid (fun h1 h2 => conB_plain (v := v) (p := p) h1 h2)
  clear ip ok
  go_enter Tryz.func24, Tryz.ntmps24
  have hl := S0.out.ld 0 rfl
  go_wp2_with fail
  refine (refConValid_any v p h _ (S0.out.into 0 rfl) OK.out).mono ?_
  rintro e w1 ⟨rfl, hb⟩
  have S1 := Lib.hid (S0.out.below hb); clear hb hl
  have k0 := S1.out.cell 0 rfl 0
  rw [pkC_0] at k0
  by_cases he : conE v p = 0
  rotate_left
  · have e0 : (conE v p != 0) = true := bne_iff_ne.2 he
    have HX : Hid (conB v p = ([], conE v p)) := Lib.hid (by rw [HE.out, if_neg he])
    clear he
    go_wp2
    go_ret2
    exact ⟨by rw [HX.out]; rfl, S1.out.kept⟩
  have HX : Hid (conB v p = (tailS p.code p.props p.kind, 0)) := Lib.hid (by rw [HE.out, if_pos he])
  have HEZ := Lib.hid he
  rw [he]
  clear he
  go_wp2_with fail
  refine (refPlain_any v p.kind _).mono ?_
  rintro e w2 ⟨rfl, rfl⟩
  cases hp : conPl v p.kind
  rotate_left
  · have HY := Lib.hid (HP.out HEZ.out hp)
    clear hp
    go_wp2
    go_ret2
    exact ⟨by rw [HY.out]; rfl, S1.out.kept⟩
  clear hp
  have k1 := S1.out.cell 0 rfl 21
  rw [pkC_21] at k1
  have k2 := S1.out.cell 0 rfl 24
  rw [pkC_24] at k2
  go_wp2_with fail
  refine (refConTail_any p.code p.kind p.props _ rfl OK.out.props h.props.a h.props.c _ (S1.out.into 0 rfl).props OK.out.len.2.2.2 (S1.out.into 0 rfl).caps.2.2.2).mono ?_
  rintro e w2 ⟨rfl, hb⟩
  have S2 := Lib.hid (S1.out.below hb); clear hb
  go_wp2
  go_ret2
  exact ⟨by rw [HX.out]; rfl, S2.out.kept⟩
end Go.Proofs.YtceniaklabiadaaGreat
