/- The law SubscribeOptions: its walk. -/
import Derived.Test.YtngnaenbnmajdaaGreatDoorSubJ
import Derived.Test.YtngnaenbnmajdaaGreatDoorFilE
namespace Go.Proofs.YtngnaenbnmajdaaGreatDoor
open Go.RowKit
attribute [local go_sem ↓] to_ldPk to_bxPk to_bdPk to_alPk to_stPk
attribute [local go_sem] run_bxPk run_bxPk_agg ld_fresh run_alPk run_bd0 run_bdK run_bdKI run_bdKIC run_bdKC run_bdKICP run_stPk_fresh pkC_0 pkC_1 pkC_2 pkC_3 pkC_4 pkC_5 pkC_6 pkC_7 pkC_8 pkC_9 pkC_10 pkC_11 pkC_12 pkC_13 pkC_14 pkC_15 pkC_16 pkC_17 pkC_18 pkC_19 pkC_20 pkC_21 pkC_22 pkC_23 pkC_24
def verV (v : Int) : Int := if v % 2 = 0 then 4 else 5
theorem verV_or (v : Int) : verV v = 4 ∨ verV v = 5 := by unfold verV; split <;> simp
theorem tmod_two (v : Int) : (v.tmod 2 = 0) ↔ v % 2 = 0 := by
  rw [← Int.dvd_iff_tmod_eq_zero, Int.dvd_iff_emod_eq_zero]
set_option maxHeartbeats 400000 in
theorem ver_any (v : Int) (w : World) : Calls Tryz.prog 15 #[.int .i64 v] w fun e w' => e = .returned (.int .i64 (verV v)) ∧ w = w' := by
  by_cases h : v % 2 = 0
  · have HV : Hid (verV v = 4) := Lib.hid (if_pos h)
    have e0 : (v.tmod 2 == 0) = true := beq_iff_eq.2 ((tmod_two v).2 h)
    clear h
    go_enter Tryz.func15, Tryz.ntmps15
    go_wp2
    go_ret
    exact ⟨by rw [HV.out]; rfl, rfl⟩
  · have HV : Hid (verV v = 5) := Lib.hid (if_neg h)
    have e0 : (v.tmod 2 == 0) = false := beq_eq_false_iff_ne.2 (fun x => h ((tmod_two v).1 x))
    clear h
    go_enter Tryz.func15, Tryz.ntmps15
    go_wp2
    go_ret
    exact ⟨by rw [HV.out]; rfl, rfl⟩
theorem ask_E {v : Int} (hv : v = 4 ∨ v = 5) {f : Fi} (hf : filterB f.topic = true) : sbE v (askF 9 f) = if optB v 8 f = true then 0 else 2 := by
  have hk : sbKnown v (askF 9 f).kind = true := decide_eq_true ⟨hv, (by decide : (8 : Int) ≤ 8), (by decide : (8 : Int) ≤ 11)⟩
  have hq : askF 9 f = sbQ v (askF 9 f) := rfl
  have hh : sbHave v (askF 9 f) = true := rfl
  have hF : sbFields v (askF 9 f) = true := by
    unfold sbFields
    rw [decide_eq_true hq, hh]
    rcases hv with rfl | rfl
    · rfl
    · rfl
  have hb : (bytesS (askF 9 f).kind (askF 9 f).props).2 = 0 := by rw [show (askF 9 f).props = [] from rfl, bytesS_none]
  have hfi : fiE v (askF 9 f).kind (askF 9 f).filters = if optB v 8 f = true then 0 else 2 := by
    show (if filterB f.topic = false then (10 : Int) else if optB v 8 f = false then 2 else fiE v 8 []) = _
    rw [hf, if_neg (by decide)]
    cases optB v 8 f
    · rfl
    · rfl
  unfold sbE
  rw [show sbArg v (askF 9 f) = true by unfold sbArg; rw [hk, hF]; rfl, if_neg (by decide), if_neg (fun x => x hb), hfi]
  cases optB v 8 f
  · rfl
  · rfl
/-- What the law says is right. -/
def rtN (f : Fi) : Bool := sbLow f.qos && (sbLow f.handling && !(f.noLocal && sharedB f.topic))
def rtO (f : Fi) : Bool := sbLow f.qos && fiPlain f
theorem opt_right {v : Int} (f : Fi) : optB v 8 f = if v = 4 then rtO f else rtN f := by
  unfold optB rtO rtN
  rw [if_neg (by decide)]
  split
  · rw [Bool.and_comm]
  · rw [Bool.and_comm (sharedB f.topic)]
theorem store_next (w : World) (o : Obj) (p q : Pk) (h k : Hs) : (stPk (.pointer (some ⟨w.heap.size + 1, 0, none⟩)) (pkV q k)).run Tryz.prog ((w.alloc o).alloc (.cells (pkC p h) PkT)) = .ok () ((w.alloc o).alloc (.cells (pkC q k) PkT)) := by
  have := run_stPk_fresh (w.alloc o) p q h k
  rwa [show (w.alloc o).heap.size = w.heap.size + 1 by simp] at this
theorem ask_size (v : Int) (f : Fi) : (sbS v (askF 9 f)).length ≤ 131075004 + 5 + f.topic.size := by
  have h1 := fi_size 8 [f]
  have h2 := tail8L_size v 8 []
  have h3 : ft [f] = f.topic.size := by simp [ft]
  rw [h3] at h1
  show (putL (9 : Int).toNat 2 ++ tailL8 v 8 [] ++ [f].flatMap (fiL 8) ++ cdL []).length ≤ _
  unfold cdL
  simp only [List.length_append, List.length_map, putL_len, List.length_nil, List.length_cons] at h1 ⊢
  omega
theorem last_one (X : ByteArray) (M : List UInt8) (b : UInt8) (h : ls X = M ++ [b]) : (1 : Int) ≤ (X.size : Int) := by
  have hs : X.size = M.length + 1 := by rw [← ls_len, h]; simp
  omega
theorem last_at (X : ByteArray) (M : List UInt8) (b : UInt8) (h : ls X = M ++ [b]) (hi : X.size - 1 < X.size) : X[X.size - 1]'hi = b := by
  have hs : X.size = M.length + 1 := by rw [← ls_len, h]; simp
  have e : X.size - 1 = M.length := by omega
  have h1 := ls_at X (X.size - 1) hi
  rw [← h1]
  simp only [h, e]
  exact List.getElem_concat_length rfl _
theorem ask_last (v : Int) (f : Fi) : ∃ (M : List UInt8) (b : UInt8), sbS v (askF 9 f) = M ++ [b] ∧ (b.toNat : Int) = optN f := by
  refine ⟨sbHead v (askF 9 f) ++ ls (framedS f.topic), UInt8.ofNat (optN f).toNat, ?_, ?_⟩
  · show sbHead v (askF 9 f) ++ [f].flatMap (fiL 8) ++ cdL [] = _
    simp [fiL, cdL]
  · have := optN_lt f
    rw [UInt8.toNat_ofNat']
    omega
set_option maxHeartbeats 4000000 in
set_option maxRecDepth 10000 in
theorem subscribeOptions_any (f : Fi) (v : Int) (w : World) (hs : f.topic.size ≤ 140737488351232) :
    Calls Tryz.prog 4 #[.agg #[.string f.topic, .int .i64 f.qos, .bool f.noLocal, .bool f.asPub, .int .i64 f.handling], .int .i64 v] w fun e w' => e = .returned (.bool true) ∧ Below w.heap.size w w' := by
  have HS := Lib.hid hs
  have K0 := Lib.hid (Bk.fresh w 40 (fiCells f))
  have B0 := Lib.hid ((Below.refl w.heap.size w).alloc (Nat.le_refl _) (.cells (fiCells f) 40))
  clear hs
  go_enter Tryz.func4, Tryz.ntmps4
  go_wp2_with fail
  refine (lives11_any _).mono ?_
  rintro e w1 ⟨rfl, hb⟩
  have K1 := Lib.hid (K0.out.below hb K0.out.lt)
  have B1 := Lib.hid (B0.out.trans (hb.mono B0.out.size))
  clear hb
  have c0 := K1.out.cell 0
  simp only [fiCells, List.getElem?_toArray, List.getElem?_cons_zero] at c0
  by_cases hl : 200 < f.topic.size
  · have d1 : (200 : Int) < (f.topic.size : Int) := by omega
    clear hl
    go_wp2
    go_ret
    exact ⟨rfl, B1.out⟩
  have d1 : (f.topic.size : Int) ≤ 200 := by omega
  clear hl
  go_wp2_with fail
  refine (refFilter_any f.topic _ (by have := HS.out; omega)).mono ?_
  rintro e w2 ⟨rfl, hb⟩
  have K2 := Lib.hid (K1.out.below hb K1.out.lt)
  have B2 := Lib.hid (B1.out.trans (hb.mono B1.out.size))
  clear hb c0
  cases hfl : filterB f.topic
  · go_wp2
    go_ret
    exact ⟨rfl, B2.out⟩
  have HF := Lib.hid hfl
  clear hfl
  have c0 := K2.out.cell 0; have c1 := K2.out.cell 1; have c2 := K2.out.cell 2; have c3 := K2.out.cell 3; have c4 := K2.out.cell 4
  simp only [fiCells, List.getElem?_toArray, List.getElem?_cons_succ, List.getElem?_cons_zero] at c0 c1 c2 c3 c4
  go_wp2_with fail
  refine (ver_any v _).mono ?_
  rintro e w3 ⟨rfl, hw3⟩
  subst hw3
  have HV := Lib.hid (verV_or v)
  generalize verV v = V at *
  have hbd := fun A w => run_bdKIF 9 f A w
  have S2 := Lib.hid ((St.start w).below B2.out)
  have IP := askF_in (A := some ⟨w2.heap.size, 0, none⟩) (B := (w2.alloc (.cells #[.string f.topic, .int .i64 f.qos, .bool f.noLocal, .bool f.asPub, .int .i64 f.handling] 40)).heap.size) 9 ((rd_fi1 w2 f).wider (by simp))
  have S3 := Lib.hid ((S2.out.alloc (.cells #[.string f.topic, .int .i64 f.qos, .bool f.noLocal, .bool f.asPub, .int .i64 f.handling] 40)).pushB (g := w2.heap.size + 1) (by simp) IP)
  have K3 := Lib.hid ((K2.out.below ((Below.refl w2.heap.size w2).alloc (Nat.le_refl _) (.cells #[.string f.topic, .int .i64 f.qos, .bool f.noLocal, .bool f.asPub, .int .i64 f.handling] 40)) K2.out.lt).below ((Below.refl _ _).alloc (Nat.le_refl _) (.cells (pkC (askF 9 f) (askH (some ⟨w2.heap.size, 0, none⟩))) PkT)) (Nat.lt_of_lt_of_le K2.out.lt (by simp)))
  have c03 := K3.out.cell 0
  simp only [fiCells, List.getElem?_toArray, List.getElem?_cons_zero] at c03
  clear IP S2
  have hst : ∀ (q : Pk) (k : Hs), (stPk (.pointer (some ⟨w2.heap.size + 1, 0, none⟩)) (pkV q k)).run Tryz.prog ((w2.alloc (.cells #[.string f.topic, .int .i64 f.qos, .bool f.noLocal, .bool f.asPub, .int .i64 f.handling] 40)).alloc (.cells (pkC pk0 hs0) PkT)) = .ok () ((w2.alloc (.cells #[.string f.topic, .int .i64 f.qos, .bool f.noLocal, .bool f.asPub, .int .i64 f.handling] 40)).alloc (.cells (pkC q k) PkT)) :=
    fun q k => store_next w2 _ _ q _ k
  go_wp2_with fail
  refine (refShared_any f.topic _ (by have := HS.out; omega)).mono ?_
  rintro e w4 ⟨⟨sa, sb, rfl⟩, hb⟩
  have S4 := Lib.hid (S3.out.below hb)
  have K4 := Lib.hid (K3.out.below hb K3.out.lt)
  clear hb c0 c1 c2 c3 c4 c03 d1
  have c0 := K4.out.cell 0; have c1 := K4.out.cell 1; have c2 := K4.out.cell 2; have c3 := K4.out.cell 3; have c4 := K4.out.cell 4
  simp only [fiCells, List.getElem?_toArray, List.getElem?_cons_succ, List.getElem?_cons_zero] at c0 c1 c2 c3 c4
  clear hbd
  go_upto_region 8 with fail
  obtain ⟨sh, hsh⟩ : ∃ sh, sharedB f.topic = sh := ⟨_, rfl⟩
  obtain ⟨nl, hnl⟩ : ∃ nl, f.noLocal = nl := ⟨_, rfl⟩
  have HRN : Hid (rtN f = (sbLow f.qos && (sbLow f.handling && !(nl && sh)))) := Lib.hid (by rw [← hsh, ← hnl]; rfl)
  rw [hsh, hnl]
  have HNL := Lib.hid hnl
  go_cut [10] (fun a wx => w4 = wx ∧ a = .bool (rtN f))
  case first =>
    rw [hnl] at c2
    clear hsh hnl
    by_cases a1 : 0 ≤ f.qos
    rotate_left
    · have HX : Hid (rtN f = false) := Lib.hid (by rw [HRN.out, sbLow, decide_eq_false a1]; rfl)
      have a2 : f.qos < 0 := by omega
      clear a1
      go_wp2
      go_meet
      case rel => exact ⟨rfl, by rw [HX.out]⟩
    by_cases a2 : f.qos ≤ 2
    rotate_left
    · have HX : Hid (rtN f = false) := Lib.hid (by rw [HRN.out, sbLow, decide_eq_false (show ¬ f.qos < 3 by omega), Bool.and_false]; rfl)
      have a3 : 2 < f.qos := by omega
      clear a2
      go_wp2
      go_meet
      case rel => exact ⟨rfl, by rw [HX.out]⟩
    have HR2 : Hid (rtN f = (sbLow f.handling && !(nl && sh))) := Lib.hid (by rw [HRN.out, show sbLow f.qos = true by unfold sbLow; rw [decide_eq_true a1, decide_eq_true (show f.qos < 3 by omega)]; rfl, Bool.true_and])
    by_cases b1 : 0 ≤ f.handling
    rotate_left
    · have HX : Hid (rtN f = false) := Lib.hid (by rw [HR2.out, sbLow, decide_eq_false b1]; rfl)
      have b2 : f.handling < 0 := by omega
      clear b1
      go_wp2
      go_meet
      case rel => exact ⟨rfl, by rw [HX.out]⟩
    by_cases b2 : f.handling ≤ 2
    rotate_left
    · have HX : Hid (rtN f = false) := Lib.hid (by rw [HR2.out, sbLow, decide_eq_false (show ¬ f.handling < 3 by omega), Bool.and_false]; rfl)
      have b3 : 2 < f.handling := by omega
      clear b2
      go_wp2
      go_meet
      case rel => exact ⟨rfl, by rw [HX.out]⟩
    have HR3 : Hid (rtN f = !(nl && sh)) := Lib.hid (by rw [HR2.out, show sbLow f.handling = true by unfold sbLow; rw [decide_eq_true b1, decide_eq_true (show f.handling < 3 by omega)]; rfl, Bool.true_and])
    cases nl
    · go_wp2
      go_meet
      case rel => exact ⟨rfl, by rw [HR3.out]; rfl⟩
    · go_wp2
      go_meet
      case rel => exact ⟨rfl, by rw [HR3.out]; rfl⟩
  obtain ⟨rfl, rfl⟩ := hcut
  clear hsh hnl
  go_upto_if 66 with fail
  go_cut [10] (fun a wx => w4 = wx ∧ a = .bool (optB V 8 f))
  case first =>
    have HO : Hid (optB V 8 f = if V = 4 then rtO f else rtN f) := Lib.hid (opt_right f)
    rcases HV.out with h4 | h5
    · subst h4
      have HO2 : Hid (optB 4 8 f = (sbLow f.qos && fiPlain f)) := Lib.hid (by rw [HO.out, if_pos rfl]; rfl)
      have hgt := guard_filter
      have hne := fun W => eql_filter f ⟨f.topic, f.qos, false, false, 0⟩ W
      have HP : Hid (fiPlain f = decide (f = ⟨f.topic, f.qos, false, false, 0⟩)) := Lib.hid rfl
      rw [← HP.out] at hne
      clear HP HO
      generalize fiPlain f = pl at *
      by_cases a1 : 0 ≤ f.qos
      rotate_left
      · have HX : Hid (optB 4 8 f = false) := Lib.hid (by rw [HO2.out, sbLow, decide_eq_false a1]; rfl)
        have a2 : f.qos < 0 := by omega
        clear a1
        go_wp2
        go_meet
        case rel => exact ⟨rfl, by rw [HX.out]⟩
      by_cases a2 : f.qos ≤ 2
      rotate_left
      · have HX : Hid (optB 4 8 f = false) := Lib.hid (by rw [HO2.out, sbLow, decide_eq_false (show ¬ f.qos < 3 by omega), Bool.and_false]; rfl)
        have a3 : 2 < f.qos := by omega
        clear a2
        go_wp2
        go_meet
        case rel => exact ⟨rfl, by rw [HX.out]⟩
      have HO3 : Hid (optB 4 8 f = pl) := Lib.hid (by rw [HO2.out, show sbLow f.qos = true by unfold sbLow; rw [decide_eq_true a1, decide_eq_true (show f.qos < 3 by omega)]; rfl, Bool.true_and])
      cases pl
      · go_wp2
        go_meet
        case rel => exact ⟨rfl, by rw [HO3.out]⟩
      · go_wp2
        go_meet
        case rel => exact ⟨rfl, by rw [HO3.out]⟩
    · subst h5
      go_wp2
      go_meet
      case rel => exact ⟨rfl, by rw [HO.out, if_neg (by decide)]⟩
  obtain ⟨rfl, rfl⟩ := hcut
  clear c0 c1 c2 c3 c4
  have HE : Hid (sbE V (askF 9 f) = if optB V 8 f = true then 0 else 2) := Lib.hid (ask_E HV.out HF.out)
  have HZ : Hid ((sbS V (askF 9 f)).length ≤ 140737488351232 ∧ (sbS V (askF 9 f)).length ≤ 1000000000000) := Lib.hid (by
    have h1 := ask_size V f
    have := HS.out
    omega)
  have l0 := S4.out.ld 0 rfl
  go_wp2_with fail
  refine (sbBody_any V (askF 9 f) _ _ (S4.out.into 0 rfl) (askF_ok 9 HS.out) HZ.out.1).mono ?_
  rintro e w5 ⟨rfl, hb⟩
  have S5 := Lib.hid (S4.out.below hb)
  have K5 := Lib.hid (K4.out.below hb K4.out.lt)
  clear hb l0
  cases ho : optB V 8 f
  · have hB : sbB V (askF 9 f) = (⟨#[]⟩, 2) := by unfold sbB; rw [HE.out, ho]; rfl
    rw [hB]
    clear hB ho
    go_wp2
    go_ret
    exact ⟨rfl, S5.out.kept⟩
  have HE0 : Hid (sbE V (askF 9 f) = 0) := Lib.hid (by rw [HE.out, ho]; rfl)
  have hB : sbB V (askF 9 f) = (⟨(sbS V (askF 9 f)).toArray⟩, 0) := by unfold sbB; rw [if_pos HE0.out]
  obtain ⟨X, hX⟩ : ∃ X : ByteArray, (⟨(sbS V (askF 9 f)).toArray⟩ : ByteArray) = X := ⟨_, rfl⟩
  have HXL : Hid (ls X = sbS V (askF 9 f)) := Lib.hid (by rw [← hX, ls_mk])
  have HXS : Hid (X.size ≤ 1000000000000) := Lib.hid (by rw [← hX, mk_size]; exact HZ.out.2)
  rw [hB, hX]
  clear hB hX ho
  have HR : Hid (sbR V 8 X = (askF 9 f, 0)) := Lib.hid (sbR_front (p := askF 9 f) HE0.out (fun q hq => by cases hq) HXL.out)
  simp only
  go_wp2_with fail
  refine (sbRead_any V 8 X _ HXS.out).mono ?_
  rintro e w6 hO
  rw [HR.out] at hO
  obtain ⟨k5, rfl, hi, hb⟩ := hO
  have S6 := Lib.hid ((S5.out.below hb).push hi)
  have K6 := Lib.hid ((K5.out.below hb K5.out.lt).below ((Below.refl w6.heap.size w6).alloc (Nat.le_refl _) (.cells (pkC (askF 9 f) k5) PkT)) (K5.out.below hb K5.out.lt).lt)
  clear hi hb
  simp only
  go_wp2_with fail
  obtain ⟨b, o, hA, hbo, e0, e1, e2, e3, e4⟩ := ((S6.out.into 1 rfl).filters).atF (i := 0) (show 0 < [f].length by simp)
  have l23 := (S6.out.cell 1 rfl 23).trans (pkC_23 _ _)
  rw [hA] at l23
  obtain ⟨W, hW⟩ : ∃ W, w6.alloc (.cells (pkC (askF 9 f) k5) PkT) = W := ⟨_, rfl⟩
  have HK := Lib.hid S6.out.kept
  rw [hW] at l23 e0 e1 e2 e3 e4 K6 HK
  rw [hW]
  clear hW hA hbo S6
  have g0 := cell_regrown (show W.cell? ⟨b, o, none⟩ = some (.string f.topic) from e0)
  have g1 := cell_regrown (show W.cell? ⟨b, o + 1, none⟩ = some (.int .i64 f.qos) from e1)
  have g2 := cell_regrown (show W.cell? ⟨b, o + 2, none⟩ = some (.bool f.noLocal) from e2)
  have g3 := cell_regrown (show W.cell? ⟨b, o + 3, none⟩ = some (.bool f.asPub) from e3)
  have g4 := cell_regrown (show W.cell? ⟨b, o + 4, none⟩ = some (.int .i64 f.handling) from e4)
  have m0 := cell_regrown (show W.cell? ⟨w.heap.size, 0, none⟩ = some (.string f.topic) from K6.out.cell 0)
  have m1 := cell_regrown (show W.cell? ⟨w.heap.size, 1, none⟩ = some (.int .i64 f.qos) from K6.out.cell 1)
  have m2 := cell_regrown (show W.cell? ⟨w.heap.size, 2, none⟩ = some (.bool f.noLocal) from K6.out.cell 2)
  have m3 := cell_regrown (show W.cell? ⟨w.heap.size, 3, none⟩ = some (.bool f.asPub) from K6.out.cell 3)
  have m4 := cell_regrown (show W.cell? ⟨w.heap.size, 4, none⟩ = some (.int .i64 f.handling) from K6.out.cell 4)
  have m23 := cell_regrown (show W.cell? ⟨w6.heap.size, 23, none⟩ = some (.slice (some ⟨b, o, none⟩) 1 k5.filters.c) from l23)
  have q0 := regrown (W := W) (fun x _ => optN_any f x)
  have hgt := guard_filter
  have hne := fun W => eql_filter f f W
  rw [decide_eq_true rfl] at hne
  have HBQ := Lib.hid (fun d os => HK.out.trans ((below_regrown W d os).mono HK.out.size))
  obtain ⟨M, bl, hM, hbl⟩ := ask_last V f
  have hx1 : (1 : Int) ≤ (X.size : Int) := last_one X M bl (HXL.out.trans hM)
  have hx2 : (X.size : Int) ≤ 1000000000000 := by have := HXS.out; omega
  have hx3 : (X.size : Int) - 1 < (X.size : Int) := by omega
  have hxl := last_at X M bl (HXL.out.trans hM) (by omega)
  have hb2 : (bl.toNat : Int) < 256 := by have := bl.toNat_lt; omega
  have hb1 : (0 : Int) ≤ (bl.toNat : Int) := by omega
  have hbe : ((bl.toNat : Int) == optN f) = true := beq_iff_eq.2 hbl
  clear e0 e1 e2 e3 e4 l23 hM hbl
  refine wp_region_quiet_below (by as_aux_lemma => kernel_rfl) (by as_aux_lemma => kernel_rfl) ?_
  repeat (go_big_quiet_step (first | with_reducible exact q0 _ _))
  refine wpQuiet_nil ?_
  intro _ hw'
  obtain ⟨⟨dq, osq⟩, hw''⟩ := hw'
  subst hw''
  have KF := Lib.hid (HBQ.out dq osq)
  clear q0 HBQ g0 g1 g2 g3 g4 m0 m1 m2 m3 m4 m23
  generalize Sort.grow (redrawn _ dq) osq = wq at *
  go_wp2
  go_ret
  exact ⟨rfl, KF.out⟩
end Go.Proofs.YtngnaenbnmajdaaGreatDoor
