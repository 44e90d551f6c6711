/- A part of what the laws stand on: MqD, MqE, MqF, MsB, MsD, MsP. -/
import Derived.Test.YtbdgkkmbnahgiaaGreatDoorMsG0MqB
namespace Go.Proofs.YtbdgkkmbnahgiaaGreatDoor
open Go.RowKit
attribute [local go_sem ↓] to_ldPk to_bxPk to_bdPk to_alPk to_stPk
attribute [local go_sem] run_bxPk run_bxPk_agg ld_fresh run_alPk run_bd0 run_bdK run_bdKI run_bdKIC run_bdKC run_bdKICP run_stPk_fresh pkC_0 pkC_1 pkC_2 pkC_3 pkC_4 pkC_5 pkC_6 pkC_7 pkC_8 pkC_9 pkC_10 pkC_11 pkC_12 pkC_13 pkC_14 pkC_15 pkC_16 pkC_17 pkC_18 pkC_19 pkC_20 pkC_21 pkC_22 pkC_23 pkC_24
attribute [local go_sem ↓] to_bdDf to_bxDf to_stCh
attribute [local go_sem] run_bdDf run_bxDf
theorem df_any (v : Int) (p : Pk) (h : Hs) (w : World) (ip : PkIn w w.heap.size p h) (ok : PkOk p) (hz : SbFit v p) :
    Calls Tryz.prog (wF p.kind) #[dfV v p h] w fun e w' => e = .returned (.tuple #[.string (chB v p).1, .int .i64 (chB v p).2]) ∧ Below w.heap.size w w' := by
  unfold wF chB
  split
  · exact dfConnect_any v p h w ip ok
  split
  · exact dfPublish_any v p h w ip ok
  split
  · exact dfAck_any v p h w ip ok
  split
  · exact dfSubscribe_any v p h w ip ok (hz ⟨by omega, by omega⟩)
  · exact dfControl_any v p h w ip ok
theorem wr_any (v : Int) (x : Hdr) (s : ByteArray) (w : World) (hs : s.size ≤ 1000000000000) : Calls Tryz.prog (rF x.k) #[wrV v x s] w (PkOutD (chR v x s) w) := by
  unfold rF chR
  split
  · exact wrConnect_any v x s w hs
  split
  · exact wrPublish_any v x s w hs
  split
  · exact wrAck_any v x s w hs
  split
  · exact wrSubscribe_any v x s w hs
  · exact wrControl_any v x s w hs
theorem mq_look {w : World} {r : Nat} (h : IMap .i64 w r chTab) (k : Int) {a b : Value} {is : Bool} (h1 : (lookI chTab k).getD (.agg #[.nilFunc, .nilFunc]) = .agg #[a, b]) (h2 : (lookI chTab k).isSome = is) :
    (Instr.lookup 121 (.map (some r)) (.int .i64 k) true).run Tryz.prog w = .ok (.tuple #[.agg #[a, b], .bool is]) w ∧ (Instr.lookup 121 (.map (some r)) (.int .i64 k) false).run Tryz.prog w = .ok (.agg #[a, b]) w := by
  have hl := mlook_run (P := Tryz.prog) (t := 121) (k := 3) (e := ChT) (z := .agg #[.nilFunc, .nilFunc]) (by kernel_rfl) (by kernel_rfl) (by kernel_rfl) h k
  rw [h1, h2] at hl
  exact ⟨hl.2, hl.1⟩
/-- A body that may be, else nothing. -/
def mqBd (v : Int) (p : Pk) : ByteArray := if mqE v p = 0 then (chB v p).1 else ⟨#[]⟩
set_option maxHeartbeats 2000000 in
set_option maxRecDepth 10000 in
theorem mqBody_any (v : Int) (p : Pk) (h : Hs) (w : World) (ip : PkIn w w.heap.size p h) (ok : PkOk p) (hz : SbFit v p) :
    Calls Tryz.prog 80 #[.int .i64 v, pkV p h] w fun e w' => e = .returned (.tuple #[.string (mqBd v p), .int .i64 (mqE v p)]) ∧ Below w.heap.size w w' := by
  have HE : Hid (mqE v p = if hdKnown v = false then 2 else if hdKinds v p.kind = false then 8 else if chE v p ≠ 0 then chE v p else if 268435455 < (chB v p).1.size then 4 else 0) := Lib.hid rfl
  have HBD : Hid (mqBd v p = if mqE v p = 0 then (chB v p).1 else ⟨#[]⟩) := Lib.hid rfl
  have HOK := Lib.hid ok
  have HZ := Lib.hid hz
  have hb0 := (Below.refl w.heap.size w).alloc (Nat.le_refl _) (.cells (pkC p h) PkT)
  have HB := Lib.hid hb0
  have HIP := Lib.hid (ip.next hb0)
  have HK := Lib.hid (Bk.fresh w PkT (pkC p h))
  clear ip ok hz hb0
  obtain ⟨w0, hw0⟩ : ∃ w0, w.alloc (.cells (pkC p h) PkT) = w0 := ⟨_, rfl⟩
  have HG : Hid (w.heap.size < w0.heap.size) := Lib.hid (by rw [← hw0]; simp)
  rw [hw0] at HB HIP HK
  have hbx : (bxPk (pkV p h)).run Tryz.prog w = .ok (.pointer (some ⟨w.heap.size, 0, none⟩)) w0 := by rw [← hw0]; exact run_bxPk p h w
  clear hw0
  go_enter Tryz.func80, Tryz.ntmps80
  go_upto_region 1 with fail
  go_cut [15] (fun a wx => w0 = wx ∧ a = .bool (!hdKnown v))
  case first =>
    by_cases h4 : v = 4
    · have HX : Hid (hdKnown v = true) := Lib.hid (decide_eq_true (.inl h4))
      have e4 : (v != 4) = false := by simp [h4]
      clear h4
      go_wp2
      go_meet
      case rel => exact ⟨rfl, by rw [HX.out]; rfl⟩
    · have e4 : (v != 4) = true := bne_iff_ne.2 h4
      by_cases h5 : v = 5
      · have HX : Hid (hdKnown v = true) := Lib.hid (decide_eq_true (.inr h5))
        have e5 : (v != 5) = false := by simp [h5]
        clear h4 h5
        go_wp2
        go_meet
        case rel => exact ⟨rfl, by rw [HX.out]; rfl⟩
      · have HX : Hid (hdKnown v = false) := Lib.hid (decide_eq_false (by omega))
        have e5 : (v != 5) = true := bne_iff_ne.2 h5
        clear h4 h5
        go_wp2
        go_meet
        case rel => exact ⟨rfl, by rw [HX.out]; rfl⟩
  obtain ⟨rfl, rfl⟩ := hcut
  cases hk : hdKnown v
  · have HX : Hid (mqE v p = 2) := Lib.hid (by rw [HE.out, if_pos hk])
    have HY : Hid (mqBd v p = ⟨#[]⟩) := Lib.hid (by rw [HBD.out, HX.out]; rfl)
    clear hk
    go_wp2
    go_ret2
    exact ⟨by rw [HX.out, HY.out]; rfl, HB.out⟩
  have HE1 : Hid (mqE v p = if hdKinds v p.kind = false then 8 else if chE v p ≠ 0 then chE v p else if 268435455 < (chB v p).1.size then 4 else 0) := Lib.hid (by rw [HE.out, if_neg (fun x => by rw [hk] at x; cases x)])
  have HKN := Lib.hid hk
  obtain ⟨ca, cb, hl1, hl2, hl3, hl4, hl5⟩ := look_ch p.kind
  have HL3 := Lib.hid hl3
  have HLK := Lib.hid (fun (W : World) (r : Nat) (hT : IMap .i64 W r chTab) => mq_look hT p.kind hl1 hl2)
  have HST := Lib.hid (fun (W : World) => run_stCh_at W (n := W.heap.size) rfl .nilFunc .nilFunc hl4 hl5)
  have HSB := Lib.hid (fun (W : World) (g : Nat) (hb : Bk W g ChT #[.nilFunc, .nilFunc]) => run_stCh hb hl4 hl5)
  have c0 := (HK.out.cell 0).trans (pkC_0 p h)
  clear hk HE hl1 hl2 hl3 hl4 hl5
  go_upto_region 3 with fail
  go_cut [6, 7] (fun a b wx => ∃ g, a = .pointer (some ⟨g, 0, none⟩) ∧ b = .bool (chIn p.kind) ∧ Bk wx g ChT #[ca, cb] ∧ Below w0.heap.size w0 wx)
  case first =>
    have cA : (w0.alloc (.cells #[.nilFunc, .nilFunc] ChT)).cell? ⟨w.heap.size, 0, none⟩ = some (.int .i64 p.kind) := ((HK.out.alloc _).cell 0).trans (pkC_0 p h)
    go_region_law ((first | (go_simp; go_at_call 89; refine (chapters_any w0.drew).mono ?_; rintro e w2 ⟨r, rfl, hT, hb⟩; have hlk := (HLK.out w2 r hT).1; have hlkA := (HLK.out _ r (hT.alloc (.cells #[.nilFunc, .nilFunc] ChT))).1; have hstA := HST.out w2; have hB : Below w0.heap.size w0 w2 := (below_drawn (Below.refl w0.heap.size w0) 1).trans hb; have c2 : w2.cell? ⟨w.heap.size, 0, none⟩ = some (.int .i64 p.kind) := ((HK.out.below hB HG.out).cell 0).trans (pkC_0 p h); have c2A : (w2.alloc (.cells #[.nilFunc, .nilFunc] ChT)).cell? ⟨w.heap.size, 0, none⟩ = some (.int .i64 p.kind) := (((HK.out.below hB HG.out).alloc _).cell 0).trans (pkC_0 p h)) | (go_simp; go_at_call 89; refine (chapters_any (w0.alloc (.cells #[.nilFunc, .nilFunc] ChT)).drew).mono ?_; rintro e w2 ⟨r, rfl, hT, hb⟩; have hlk := (HLK.out w2 r hT).1; have hA : Below w0.heap.size w0 (w0.alloc (.cells #[.nilFunc, .nilFunc] ChT)).drew := below_drawn ((Below.refl w0.heap.size w0).alloc (Nat.le_refl _) (.cells #[.nilFunc, .nilFunc] ChT)) 1; have hB : Below w0.heap.size w0 w2 := hA.trans (hb.mono hA.size); have hK2 : Bk w2 w0.heap.size ChT #[.nilFunc, .nilFunc] := ((Bk.fresh w0 ChT #[.nilFunc, .nilFunc]).drewN 1).below hb (by show w0.heap.size < (w0.alloc _).heap.size; simp); have hP : Bk (w2.setCells w0.heap.size 0 [ca, cb]) w0.heap.size ChT #[ca, cb] := setCells_bk [ca, cb] 0 hK2; have hQ : Below w0.heap.size w0 (w2.setCells w0.heap.size 0 [ca, cb]) := (hB.setCell (Nat.le_refl _) _).setCell (Nat.le_refl _) _; have hstA := HSB.out w2 w0.heap.size hK2; have c2 : w2.cell? ⟨w.heap.size, 0, none⟩ = some (.int .i64 p.kind) := ((HK.out.below hB HG.out).cell 0).trans (pkC_0 p h))))
    all_goals
      go_wp2
      go_meet
      case rel =>
        first
          | with_reducible exact ⟨_, rfl, rfl, Bk.fresh w2 ChT #[ca, cb], hB.alloc hB.size _⟩
          | with_reducible exact ⟨_, rfl, rfl, hP, hQ⟩
  obtain ⟨g, rfl, rfl, hkc, hbx2⟩ := hcut
  obtain ⟨wx, hwx⟩ : ∃ x, x = wc := ⟨_, rfl⟩
  subst hwx
  have HB1 := Lib.hid (HB.out.trans (hbx2.mono HB.out.size))
  have HK1 := Lib.hid (HK.out.below hbx2 HG.out)
  have HIP1 := Lib.hid (HIP.out.next hbx2)
  have HKC := Lib.hid hkc
  clear hbx2 hkc c0 HB HK HIP HLK HST HSB hbx
  have c0 := (HK1.out.cell 0).trans (pkC_0 p h)
  have HKI : Hid (hdKinds v p.kind = (chIn p.kind && !(decide (p.kind = 15) && decide (v = 4)))) := Lib.hid (by
    have := of_decide_eq_true (show decide (v = 4 ∨ v = 5) = true from HKN.out)
    unfold hdKinds chIn
    rw [Bool.eq_iff_iff]
    simp only [Bool.and_eq_true, Bool.not_eq_true', Bool.and_eq_false_iff, decide_eq_true_eq, decide_eq_false_iff_not]
    omega)
  obtain ⟨is, his⟩ : ∃ is, chIn p.kind = is := ⟨_, rfl⟩
  rw [his] at HKI HL3 ⊢
  have HIS := Lib.hid his
  clear his
  go_upto_region 4 with fail
  go_cut [33] (fun a wy => wx = wy ∧ a = .bool (!hdKinds v p.kind))
  case first =>
    cases is
    · have HX : Hid (hdKinds v p.kind = false) := Lib.hid (by rw [HKI.out]; rfl)
      go_wp2
      go_meet
      case rel => exact ⟨rfl, by rw [HX.out]; rfl⟩
    by_cases k15 : p.kind = 15
    rotate_left
    · have HX : Hid (hdKinds v p.kind = true) := Lib.hid (by rw [HKI.out, decide_eq_false k15]; rfl)
      have e15 : (p.kind == 15) = false := beq_eq_false_iff_ne.2 k15
      clear k15
      go_wp2
      go_meet
      case rel => exact ⟨rfl, by rw [HX.out]; rfl⟩
    have e15 : (p.kind == 15) = true := beq_iff_eq.2 k15
    by_cases v4 : v = 4
    · have HX : Hid (hdKinds v p.kind = false) := Lib.hid (by rw [HKI.out, decide_eq_true k15, decide_eq_true v4]; rfl)
      have e4 : (v == 4) = true := beq_iff_eq.2 v4
      clear k15 v4
      go_wp2
      go_meet
      case rel => exact ⟨rfl, by rw [HX.out]; rfl⟩
    · have HX : Hid (hdKinds v p.kind = true) := Lib.hid (by rw [HKI.out, decide_eq_true k15, decide_eq_false v4]; rfl)
      have e4 : (v == 4) = false := beq_eq_false_iff_ne.2 v4
      clear k15 v4
      go_wp2
      go_meet
      case rel => exact ⟨rfl, by rw [HX.out]; rfl⟩
  obtain ⟨rfl, rfl⟩ := hcut
  cases hkd : hdKinds v p.kind
  · have HX : Hid (mqE v p = 8) := Lib.hid (by rw [HE1.out, if_pos hkd])
    have HY : Hid (mqBd v p = ⟨#[]⟩) := Lib.hid (by rw [HBD.out, HX.out]; rfl)
    clear hkd
    go_wp2
    go_ret2
    exact ⟨by rw [HX.out, HY.out]; rfl, HB1.out⟩
  have hin : is = true := by
    have := HKI.out
    rw [hkd] at this
    cases is
    · cases this
    · rfl
  obtain ⟨rfl, rfl⟩ := HL3.out hin
  have HE2 : Hid (mqE v p = if chE v p ≠ 0 then chE v p else if 268435455 < (chB v p).1.size then 4 else 0) := Lib.hid (by rw [HE1.out, if_neg (fun x => by rw [hkd] at x; cases x)])
  have HDF := Lib.hid (fun W ip => df_any v p h W ip HOK.out HZ.out)
  have d0 := HKC.out.cell 0
  have l0 := ld_bk HK1.out
  have en := fun args W => enter_wF (k := p.kind) args W
  simp only [List.getElem?_toArray, List.getElem?_cons_zero, mqFn] at d0
  generalize wF p.kind = WF at *
  clear hkd HKI HE1 HL3 HKC HIS
  subst hin
  go_wp2_with fail
  refine (HDF.out _ HIP1.out).mono ?_
  rintro e w3 ⟨rfl, hb⟩
  have HB3 := Lib.hid (HB1.out.trans (hb.mono HB1.out.size))
  clear hb HDF c0 d0 l0 en
  by_cases hc : chE v p = 0
  rotate_left
  · have HX : Hid (mqE v p = chE v p) := Lib.hid (by rw [HE2.out, if_pos hc])
    have HY : Hid (mqBd v p = ⟨#[]⟩) := Lib.hid (by rw [HBD.out, HX.out, if_neg hc])
    rw [chB_bad hc]
    generalize chE v p = x at *
    have e0 : (x != 0) = true := bne_iff_ne.2 hc
    clear hc
    go_wp2
    go_ret2
    exact ⟨by rw [HX.out, HY.out]; rfl, HB3.out⟩
  have h2 := chB_ok hc
  have HE3 : Hid (mqE v p = if 268435455 < (chB v p).1.size then 4 else 0) := Lib.hid (by rw [HE2.out, if_neg (fun x => x hc)])
  rw [h2]
  obtain ⟨X, hX⟩ : ∃ X, (chB v p).1 = X := ⟨_, rfl⟩
  rw [hX] at HE3 HBD ⊢
  clear h2 hc hX HE2
  by_cases hs : 268435455 < X.size
  · have HX : Hid (mqE v p = 4) := Lib.hid (by rw [HE3.out, if_pos hs])
    have HY : Hid (mqBd v p = ⟨#[]⟩) := Lib.hid (by rw [HBD.out, HX.out]; rfl)
    have d1 : (268435455 : Int) < (X.size : Int) := by omega
    clear hs
    go_wp2
    go_ret2
    exact ⟨by rw [HX.out, HY.out]; rfl, HB3.out⟩
  · have HX : Hid (mqE v p = 0) := Lib.hid (by rw [HE3.out, if_neg hs])
    have HY : Hid (mqBd v p = X) := Lib.hid (by rw [HBD.out, HX.out]; rfl)
    have d1 : (X.size : Int) ≤ 268435455 := by omega
    clear hs
    go_wp2
    go_ret2
    exact ⟨by rw [HX.out, HY.out]; rfl, HB3.out⟩
end Go.Proofs.YtbdgkkmbnahgiaaGreatDoor

namespace Go.Proofs.YtbdgkkmbnahgiaaGreatDoor
open Go.RowKit
attribute [local go_sem ↓] to_ldPk to_bxPk to_bdPk to_alPk to_stPk
attribute [local go_sem] run_bxPk run_bxPk_agg ld_fresh run_alPk run_bd0 run_bdK run_bdKI run_bdKIC run_bdKC run_bdKICP run_stPk_fresh pkC_0 pkC_1 pkC_2 pkC_3 pkC_4 pkC_5 pkC_6 pkC_7 pkC_8 pkC_9 pkC_10 pkC_11 pkC_12 pkC_13 pkC_14 pkC_15 pkC_16 pkC_17 pkC_18 pkC_19 pkC_20 pkC_21 pkC_22 pkC_23 pkC_24
set_option maxHeartbeats 1000000 in
set_option maxRecDepth 10000 in
theorem mqBytes_any (v : Int) (p : Pk) (h : Hs) (w : World) (ip : PkIn w w.heap.size p h) (ok : PkOk p) (hz : SbFit v p) :
    Calls Tryz.prog 20 #[.int .i64 v, pkV p h] w fun e w' => e = .returned (.tuple #[.string (mqB v p).1, .int .i64 (mqB v p).2]) ∧ Below w.heap.size w w' := by
  have hb0 := (Below.refl w.heap.size w).alloc (Nat.le_refl _) (.cells (pkC p h) PkT)
  have HB := Lib.hid hb0
  have HK := Lib.hid (Bk.fresh w PkT (pkC p h))
  have HBD := Lib.hid (mqBody_any v p h _ (ip.next hb0) ok hz)
  clear ip ok hz hb0
  go_enter Tryz.func20, Tryz.ntmps20
  go_wp2_with fail
  refine HBD.out.mono ?_
  rintro e w1 ⟨rfl, hb⟩
  have HB1 := Lib.hid (HB.out.trans (hb.mono HB.out.size))
  have HK1 := Lib.hid (HK.out.below hb HK.out.lt)
  clear hb HBD HB HK
  by_cases hE : mqE v p = 0
  rotate_left
  · have HX : Hid (mqB v p = (⟨#[]⟩, mqE v p)) := Lib.hid (if_neg hE)
    generalize mqE v p = x at *
    have e0 : (x != 0) = true := bne_iff_ne.2 hE
    clear hE
    go_wp2
    go_ret2
    exact ⟨by rw [HX.out]; rfl, HB1.out⟩
  obtain ⟨h1, h2, h3, h4⟩ := mqE_ok hE
  obtain ⟨h5, h6⟩ := ch_flags h1 h2 h3
  have HX : Hid (mqB v p = (mqS v p, 0)) := Lib.hid (if_pos hE)
  have HBD : mqBd v p = (chB v p).1 := if_pos hE
  have HHB : Hid (hdB v p.kind (mqF p) (chB v p).1.size = (hdS p.kind (mqF p) (chB v p).1.size, 0)) := Lib.hid (if_pos h6)
  have HS : Hid (mqS v p = ⟨(hdS p.kind (mqF p) (chB v p).1.size).toArray⟩ ++ (chB v p).1) := Lib.hid rfl
  have HT := Lib.hid (hdS_two p.kind (mqF p) (chB v p).1.size)
  have HHD := Lib.hid (fun W => hdBytes_any v p.kind (mqF p) (chB v p).1.size W h4)
  simp only [hdrV, HHB.out] at HHD
  have l1 := ld_bk HK1.out
  rw [hE, HBD]
  have HFL := Lib.hid (fun W => hdFlags_any v p h W)
  rw [h5] at HFL
  obtain ⟨X, hX⟩ : ∃ X, (chB v p).1 = X := ⟨_, rfl⟩
  rw [hX] at HHD HS HT h4 ⊢
  obtain ⟨F, hF⟩ : ∃ F, mqF p = F := ⟨_, rfl⟩
  rw [hF] at HHD HS HT HFL
  obtain ⟨Y, hY⟩ : ∃ Y, hdS p.kind F X.size = Y := ⟨_, rfl⟩
  rw [hY] at HHD HS HT
  have HX4 := Lib.hid h4
  clear HHB h1 h2 h3 h5 h6 HBD hX hF hY hE h4
  go_wp2_with fail
  refine (HFL.out _).mono ?_
  rintro e w2 ⟨rfl, hb⟩
  have HB2 := Lib.hid (HB1.out.trans (hb.mono HB1.out.size))
  have HK2 := Lib.hid (HK1.out.below hb HK1.out.lt)
  clear hb l1 HFL
  have c0 := (HK2.out.cell 0).trans (pkC_0 p h)
  go_wp2_with fail
  refine (HHD.out _).mono ?_
  rintro e w3 ⟨rfl, hb⟩
  have HB3 := Lib.hid (HB2.out.trans (hb.mono HB2.out.size))
  have hsm : ¬ (9223372036854775807 < Y.length + X.size) := by have := HT.out; have := HX4.out; omega
  clear hb HHD c0
  go_wp2
  go_ret2
  exact ⟨by rw [HX.out, HS.out]; rfl, HB3.out⟩
set_option maxHeartbeats 400000 in
set_option maxRecDepth 10000 in
theorem mqSize_any (v : Int) (p : Pk) (h : Hs) (w : World) (ip : PkIn w w.heap.size p h) (ok : PkOk p) (hz : SbFit v p) :
    Calls Tryz.prog 23 #[.int .i64 v, pkV p h] w fun e w' => e = .returned (.tuple #[.int .i64 ((mqB v p).1.size : Nat), .int .i64 (mqB v p).2]) ∧ Below w.heap.size w w' := by
  have hb0 := (Below.refl w.heap.size w).alloc (Nat.le_refl _) (.cells (pkC p h) PkT)
  have HB := Lib.hid hb0
  have HBD := Lib.hid (mqBytes_any v p h _ (ip.next hb0) ok hz)
  clear ip ok hz hb0
  go_enter Tryz.func23, Tryz.ntmps23
  go_wp2_with fail
  refine HBD.out.mono ?_
  rintro e w1 ⟨rfl, hb⟩
  have HB1 := Lib.hid (HB.out.trans (hb.mono HB.out.size))
  clear hb
  go_wp2
  go_ret2
  exact ⟨rfl, HB1.out⟩
end Go.Proofs.YtbdgkkmbnahgiaaGreatDoor

namespace Go.Proofs.YtbdgkkmbnahgiaaGreatDoor
open Go.RowKit
attribute [local go_sem ↓] to_ldPk to_bxPk to_bdPk to_alPk to_stPk
attribute [local go_sem] run_bxPk run_bxPk_agg ld_fresh run_alPk run_bd0 run_bdK run_bdKI run_bdKIC run_bdKC run_bdKICP run_stPk_fresh pkC_0 pkC_1 pkC_2 pkC_3 pkC_4 pkC_5 pkC_6 pkC_7 pkC_8 pkC_9 pkC_10 pkC_11 pkC_12 pkC_13 pkC_14 pkC_15 pkC_16 pkC_17 pkC_18 pkC_19 pkC_20 pkC_21 pkC_22 pkC_23 pkC_24
def bdWr (v : Array (Nat × Value)) : Sem Value := Instr.build WrT v
theorem to_bdWr (v : Array (Nat × Value)) : Instr.build WrT v = bdWr v := rfl
theorem run_bdWr (v k f : Int) (n : Nat) (t : ByteArray) (w : World) : (bdWr #[(0, .int .i64 v), (1, .agg #[.int .i64 k, .int .i64 f, .int .i64 n]), (2, .string t)]).run Tryz.prog w = .ok (wrV v ⟨k, f, n⟩ t) w := by kernel_rfl
theorem run_chF (a b : FuncId) (w : World) : (Instr.field ChT (.agg #[.func (.func a) #[] #[], .func (.func b) #[] #[]]) 1).run Tryz.prog w = .ok (.func (.func b) #[] #[]) w := by kernel_rfl
attribute [local go_sem ↓] to_bdWr run_chF
attribute [local go_sem] run_bdWr
theorem results_pk3 {fn : Func} {p u u' : Tmp} (hr : fn.results = #[.cell p PkT, .tmp u, .tmp u']) (tmps : Array Value) {w : World} {g : Nat} {q : Pk} {h : Hs} (hp : tmps.getD p undef = .pointer (some ⟨g, 0, none⟩)) (hb : Bk w g PkT (pkC q h)) :
    (results fn tmps).run Tryz.prog w = .ok (.tuple #[pkV q h, tmps.getD u undef, tmps.getD u' undef]) w := by
  rw [results_cell2 hr, hp]
  have hl := lv_bk hb
  generalize pkV q h = V at hl ⊢
  exact then_ok _ (⟨g, 0, none⟩ : Addr) w _ rfl |>.trans (then_ok _ V w _ hl)
/-- What a reading of a packet, with its size, leaves. -/
def PkOut3 (r : Pk × Nat × Int) (w : World) (e : Ending) (w' : World) : Prop := ∃ h, e = .returned (.tuple #[pkV r.1 h, .int .i64 (r.2.1 : Nat), .int .i64 r.2.2]) ∧ PkIn w' w'.heap.size r.1 h ∧ Below w.heap.size w w' ∧ PkFresh w r.1 h
theorem pkOut3_bad {r : Pk × Nat × Int} {x : Int} {w w' : World} (h : r = (pk0, 0, x)) (hb : Below w.heap.size w w') : PkOut3 r w (.returned (.tuple #[pkV pk0 hs0, .int .i64 0, .int .i64 x])) w' := by
  subst h
  exact ⟨hs0, rfl, pk0_in _ _, hb, .inl rfl⟩
theorem pkOut3_ok {r : Pk × Nat × Int} {p : Pk} {n : Nat} {h : Hs} {w w' : World} (hr : r = (p, n, 0)) (hi : PkIn w' w'.heap.size p h) (hb : Below w.heap.size w w') (hf : PkFresh w p h) : PkOut3 r w (.returned (.tuple #[pkV p h, .int .i64 n, .int .i64 0])) w' := by
  subst hr
  exact ⟨h, rfl, hi, hb, hf⟩
set_option maxHeartbeats 2000000 in
set_option maxRecDepth 10000 in
theorem mqRead_any (v : Int) (s : ByteArray) (w : World) (hs : s.size ≤ 1000000000000) : Calls Tryz.prog 25 #[.int .i64 v, .string s] w (PkOut3 (mqR v s) w) := by
  have HE : Hid (mqR v s = if (hdR v s).2.2 ≠ 0 then (pk0, 0, (hdR v s).2.2)
    else if s.size < (hdR v s).2.1 + (hdR v s).1.n then (pk0, 0, 3)
    else if (chR v (hdR v s).1 (s.extract (hdR v s).2.1 ((hdR v s).2.1 + (hdR v s).1.n))).2 = 0 then ((chR v (hdR v s).1 (s.extract (hdR v s).2.1 ((hdR v s).2.1 + (hdR v s).1.n))).1, (hdR v s).2.1 + (hdR v s).1.n, 0)
    else (pk0, 0, if (chR v (hdR v s).1 (s.extract (hdR v s).2.1 ((hdR v s).2.1 + (hdR v s).1.n))).2 = 3 then 5 else (chR v (hdR v s).1 (s.extract (hdR v s).2.1 ((hdR v s).2.1 + (hdR v s).1.n))).2)) := Lib.hid rfl
  have HS := Lib.hid hs
  have HB := Lib.hid ((Below.refl w.heap.size w).alloc (Nat.le_refl _) (.cells (pkC pk0 hs0) PkT))
  have HK := Lib.hid (Bk.fresh w PkT (pkC pk0 hs0))
  have HHD := Lib.hid (fun W => hdRead_any v s W (by omega))
  have HBK : Hid ((hdR v s).2.2 = 0 → hdKinds v (hdR v s).1.k = true ∧ (hdR v s).1.n ≤ 268435455 ∧ (hdR v s).2.1 ≤ s.size) := Lib.hid (fun h0 => by
    obtain ⟨b1, b2, b3, b4, b5⟩ := hdR_back (v := v) (s := s) (h := (hdR v s).1) (a := (hdR v s).2.1) (by rw [← h0])
    exact ⟨(hdChk_ok.1 b1).2.1, b2, b5⟩)
  clear hs
  obtain ⟨⟨⟨k, f, n⟩, a, x⟩, hr⟩ : ∃ r, hdR v s = r := ⟨_, rfl⟩
  rw [hr] at HE HHD HBK
  simp only [hdrV] at HE HHD HBK
  clear hr
  go_enter Tryz.func25, Tryz.ntmps25
  go_wp2_with fail
  refine (HHD.out _).mono ?_
  rintro e w1 ⟨rfl, hb⟩
  have HB1 := Lib.hid (HB.out.trans (hb.mono HB.out.size))
  have HK1 := Lib.hid (HK.out.below hb HK.out.lt)
  clear hb HHD HB HK
  obtain ⟨y, hy⟩ : ∃ y, w1.alloc (.cells #[.int .i64 k, .int .i64 f, .int .i64 n] 112) = y := ⟨_, rfl⟩
  have HB2 : Hid (Below w.heap.size w y) := Lib.hid (by rw [← hy]; exact HB1.out.alloc HB1.out.size _)
  have HK2 : Hid (Bk y w.heap.size PkT (pkC pk0 hs0)) := Lib.hid (by rw [← hy]; exact HK1.out.alloc _)
  obtain ⟨gh, hgh⟩ : ∃ gh, w1.heap.size = gh := ⟨_, rfl⟩
  have HH : Hid (Bk y gh 112 #[.int .i64 k, .int .i64 f, .int .i64 n]) := Lib.hid (by rw [← hy, ← hgh]; exact Bk.fresh w1 _ _)
  go_upto_region 2 with fail

  have HGH : Hid (w.heap.size < gh) := Lib.hid (by rw [← hgh]; exact HK1.out.lt)
  clear hy hgh HB1 HK1
  clear w1
  have hst := run_stPk HK2.out pk0 hs0
  have HBD : Hid (Below w.heap.size w (putPk y w.heap.size pk0 hs0)) := Lib.hid (below_put HB2.out HB2.out.size (Nat.le_refl _) pk0 hs0)
  have HKP := Lib.hid (put_bk HK2.out pk0 hs0)
  by_cases hx : x = 0
  rotate_left
  · have HX : Hid (mqR v s = (pk0, 0, x)) := Lib.hid (by rw [HE.out, if_pos hx])
    have e0 : (x != 0) = true := bne_iff_ne.2 hx
    clear hx
    go_wp2
    refine bodyPost_ret (results_pk3 rfl _ rfl HKP.out) rfl ?_
    exact pkOut3_bad HX.out HBD.out
  obtain ⟨b1, b2, b3⟩ := HBK.out hx
  have HKD := Lib.hid b1
  have HE1 : Hid (mqR v s = if s.size < a + n then (pk0, 0, 3) else if (chR v ⟨k, f, n⟩ (s.extract a (a + n))).2 = 0 then ((chR v ⟨k, f, n⟩ (s.extract a (a + n))).1, a + n, 0)
    else (pk0, 0, if (chR v ⟨k, f, n⟩ (s.extract a (a + n))).2 = 3 then 5 else (chR v ⟨k, f, n⟩ (s.extract a (a + n))).2)) := Lib.hid (by rw [HE.out, if_neg (fun z => z hx)])
  subst hx
  have HN := Lib.hid b2; have HA := Lib.hid b3
  have hsz := HS.out
  have c0 := HH.out.cell 0; have c1 := HH.out.cell 1; have c2 := HH.out.cell 2
  simp only [List.getElem?_toArray, List.getElem?_cons_succ, List.getElem?_cons_zero] at c0 c1 c2
  clear HE HBK b1
  by_cases hlt : s.size < a + n
  · have HX : Hid (mqR v s = (pk0, 0, 3)) := Lib.hid (by rw [HE1.out, if_pos hlt])
    have d1 : (s.size : Int) - (a : Int) < (n : Int) := by omega
    have d2 : -9223372036854775808 ≤ (s.size : Int) - (a : Int) := by omega
    have d3 : (s.size : Int) - (a : Int) ≤ 9223372036854775807 := by omega
    clear hlt
    go_wp2
    refine bodyPost_ret (results_pk3 rfl _ rfl HKP.out) rfl ?_
    exact pkOut3_bad HX.out HBD.out
  have HE2 : Hid (mqR v s = if (chR v ⟨k, f, n⟩ (s.extract a (a + n))).2 = 0 then ((chR v ⟨k, f, n⟩ (s.extract a (a + n))).1, a + n, 0)
    else (pk0, 0, if (chR v ⟨k, f, n⟩ (s.extract a (a + n))).2 = 3 then 5 else (chR v ⟨k, f, n⟩ (s.extract a (a + n))).2)) := Lib.hid (by rw [HE1.out, if_neg hlt])
  have d1 : (n : Int) ≤ (s.size : Int) - (a : Int) := by omega
  have HEND : Hid (a + n ≤ s.size) := Lib.hid (by omega)
  have d2 : -9223372036854775808 ≤ (s.size : Int) - (a : Int) := by omega
  have d3 : (s.size : Int) - (a : Int) ≤ 9223372036854775807 := by omega
  have hsu : wrap64 ((s.size : Int) - (a : Int)) = (s.size : Int) - (a : Int) := by unfold wrap64; omega
  have had : wrap64 ((a : Int) + (n : Int)) = ((a + n : Nat) : Int) := by unfold wrap64; omega
  have dle : decide ((s.size : Int) - (a : Int) < (n : Int)) = false := decide_eq_false (by omega)
  have v1 : (0 : Int) ≤ (a : Int) := by omega
  have v2 : (a : Int) ≤ ((a + n : Nat) : Int) := by omega
  have v3 : ((a + n : Nat) : Int) ≤ (s.size : Int) := by omega
  clear hlt HE1
  go_upto_region 7 with fail
  obtain ⟨q, hq⟩ : ∃ q, a + n = q := ⟨_, rfl⟩
  rw [show (a : Int) + (n : Int) = (q : Int) by omega]
  rw [hq] at HE2 HEND v2 v3
  clear d1 d2 d3 hsu had dle hsz hst hq
  obtain ⟨T, hT⟩ : ∃ T, s.extract a q = T := ⟨_, rfl⟩
  rw [hT] at HE2
  have HTS : Hid (T.size ≤ 1000000000000) := Lib.hid (by rw [← hT, ByteArray.size_extract]; have := HS.out; omega)
  have HWR := Lib.hid (fun W => wr_any v ⟨k, f, n⟩ T W HTS.out)
  obtain ⟨R, hR⟩ : ∃ R, chR v ⟨k, f, n⟩ T = R := ⟨_, rfl⟩
  rw [hR] at HE2 HWR
  obtain ⟨ca, cb, hl1, hl2, hl3, hl4, hl5⟩ := look_ch k
  have hin : chIn k = true := by
    have := of_decide_eq_true (show decide (1 ≤ k ∧ (k ≤ 14 ∨ (k = 15 ∧ v = 5))) = true from HKD.out)
    exact decide_eq_true (by omega)
  obtain ⟨rfl, rfl⟩ := hl3 hin
  have HLK := Lib.hid (fun (W : World) (r : Nat) (hT : IMap .i64 W r chTab) => (mq_look hT k hl1 hl2).2)
  have en := fun args W => enter_rF (k := k) args W
  simp only [mqFn] at HLK
  clear hl1 hl2 hl3 hl4 hl5 hin hR
  generalize rF k = RF at *
  go_cut [6] (fun z wx => ∃ hh, z = .int .i64 R.2 ∧ Bk wx w.heap.size PkT (pkC R.1 hh) ∧ PkIn wx wx.heap.size R.1 hh ∧ Below w.heap.size w wx ∧ PkFresh y R.1 hh)
  case first =>
    go_region_law ((first | (go_simp; go_at_call 89; refine (chapters_any y.drew).mono ?_; rintro e w2 ⟨r, rfl, hMT, hb⟩; have hlk := HLK.out w2 r hMT; have hB : Below y.heap.size y w2 := (below_drawn (Below.refl y.heap.size y) 1).trans hb; have hH2 := HH.out.below hB HH.out.lt; have hK2 := HK2.out.below hB HK2.out.lt; have k0 := hH2.cell 0; have k1 := hH2.cell 1; have k2 := hH2.cell 2; (simp only [List.getElem?_toArray, List.getElem?_cons_succ, List.getElem?_cons_zero] at k0 k1 k2)) | (go_simp; refine (HWR.out _).mono ?_; rintro e w3 ⟨hh, rfl, hi3, hb3, hf3⟩; have hK3 := hK2.below hb3 hK2.lt; have hst3 := run_stPk hK3 R.1 hh)))
    all_goals
      go_wp2
      go_meet
      case rel =>
        have hB3 : Below w.heap.size w w3 := HB2.out.trans ((hB.trans (hb3.mono hB.size)).mono HB2.out.size)
        exact ⟨hh, rfl, put_bk hK3 R.1 hh, hi3.put hK3 (putPk_mods _ _ _ _) hf3 (Nat.lt_of_lt_of_le HK2.out.lt hB.size), below_put hB3 hB3.size (Nat.le_refl _) R.1 hh, hf3.mono hB.size⟩
  obtain ⟨hh, rfl, hkx, hix, hbx, hfx⟩ := hcut
  obtain ⟨wx, hwx⟩ : ∃ x, x = wc := ⟨_, rfl⟩
  subst hwx
  have KX := Lib.hid hkx; have IX := Lib.hid hix; have BX := Lib.hid hbx; have FX := Lib.hid hfx
  have lX := ld_bk hkx
  have HYL := Lib.hid HK2.out.lt
  have hsX := run_stPk hkx R.1 hh
  have hsZ := run_stPk hkx pk0 hs0
  clear hkx hix hbx hfx c0 c1 c2 en HLK HWR HH HK2 HB2 HBD HKP v1 v2 v3 b2 b3
  obtain ⟨P, E⟩ := R
  dsimp only at HE2 KX IX BX FX lX hsX hsZ ⊢
  by_cases hE : E = 0
  · have HX : Hid (mqR v s = (P, q, 0)) := Lib.hid (by rw [HE2.out, if_pos hE])
    subst hE
    go_wp2
    refine bodyPost_ret (results_pk3 rfl _ rfl (put_bk KX.out P hh)) rfl ?_
    exact pkOut3_ok HX.out (IX.out.put KX.out (putPk_mods _ _ _ _) FX.out HYL.out) (below_put BX.out BX.out.size (Nat.le_refl _) _ _) (FX.out.mono (Nat.le_of_lt HYL.out))
  · have HX0 : Hid (mqR v s = (pk0, 0, if E = 3 then 5 else E)) := Lib.hid (by rw [HE2.out, if_neg hE])
    have e0 : (E == 0) = false := beq_eq_false_iff_ne.2 hE
    have hb : Below w.heap.size w (putPk wx w.heap.size pk0 hs0) := below_put BX.out BX.out.size (Nat.le_refl _) _ _
    have hk := put_bk KX.out pk0 hs0
    have HBX := Lib.hid hb; have HKX := Lib.hid hk
    clear hb hk
    by_cases h3 : E = 3
    · have HX : Hid (mqR v s = (pk0, 0, 5)) := Lib.hid (by rw [HX0.out, if_pos h3])
      have e3 : (E == 3) = true := beq_iff_eq.2 h3
      clear h3 hE
      go_wp2
      refine bodyPost_ret (results_pk3 rfl _ rfl HKX.out) rfl ?_
      exact pkOut3_bad HX.out HBX.out
    · have HX : Hid (mqR v s = (pk0, 0, E)) := Lib.hid (by rw [HX0.out, if_neg h3])
      have e3 : (E == 3) = false := beq_eq_false_iff_ne.2 h3
      clear h3 hE
      go_wp2
      refine bodyPost_ret (results_pk3 rfl _ rfl HKX.out) rfl ?_
      exact pkOut3_bad HX.out HBX.out
end Go.Proofs.YtbdgkkmbnahgiaaGreatDoor

namespace Go.Proofs.YtbdgkkmbnahgiaaGreatDoor
open Go.RowKit
attribute [local go_sem ↓] to_ldPk to_bxPk to_bdPk to_alPk to_stPk
attribute [local go_sem] run_bxPk run_bxPk_agg ld_fresh run_alPk run_bd0 run_bdK run_bdKI run_bdKIC run_bdKC run_bdKICP run_stPk_fresh pkC_0 pkC_1 pkC_2 pkC_3 pkC_4 pkC_5 pkC_6 pkC_7 pkC_8 pkC_9 pkC_10 pkC_11 pkC_12 pkC_13 pkC_14 pkC_15 pkC_16 pkC_17 pkC_18 pkC_19 pkC_20 pkC_21 pkC_22 pkC_23 pkC_24
abbrev SmT : TypeId := 127
/-- A stream's cells. -/
def smC (v most : Int) (K : Option Addr) (n c a k : Nat) (e : Int) : Array Value := #[.int .i64 v, .int .i64 most, .slice K n c, .int .i64 a, .int .i64 k, .int .i64 e]
def hdC (k f n : Int) : Array Value := #[.int .i64 k, .int .i64 f, .int .i64 n]
def alHd (b : Bool) (v : Value) : Sem Value := Instr.alloc 112 b v
def stHd (a v : Value) : Sem Unit := Instr.storeAt 112 a v
theorem to_alHd (b : Bool) (v : Value) : Instr.alloc 112 b v = alHd b v := rfl
theorem to_stHd (a v : Value) : Instr.storeAt 112 a v = stHd a v := rfl
theorem run_alHd (w : World) : (alHd true (.tuple #[])).run Tryz.prog w = .ok (.pointer (some ⟨w.heap.size, 0, none⟩)) (w.alloc (.cells (hdC 0 0 0) 112)) := by kernel_rfl
theorem info_hd : (Tryz.prog.info? 112).map (·.size) = some 3 := by kernel_rfl
theorem there_hd {w : World} {g : Nat} {k f n : Int} (hb : Bk w g 112 (hdC k f n)) : w.there g 0 3 := fun j hj => by
  rw [Nat.zero_add, hb.cell, hb.free]
  refine ⟨?_, rfl⟩
  rw [Array.getElem?_eq_getElem (by exact hj)]
  rfl
def putHd (w : World) (g : Nat) (k f n : Int) : World := w.setCells g 0 (hdC k f n).toList
theorem run_stHd {w : World} {g : Nat} {k0 f0 n0 : Int} (hb : Bk w g 112 (hdC k0 f0 n0)) (k f n : Int) : (stHd (.pointer (some ⟨g, 0, none⟩)) (.agg #[.int .i64 k, .int .i64 f, .int .i64 n])).run Tryz.prog w = .ok () (putHd w g k f n) := by
  unfold stHd
  exact run_storeAt_mid w g 0 112 (hdC k f n) (there_hd hb) info_hd (by simp [hdC, Value.oneCell'])
theorem putHd_bk {w : World} {g : Nat} {k0 f0 n0 : Int} (hb : Bk w g 112 (hdC k0 f0 n0)) (k f n : Int) : Bk (putHd w g k f n) g 112 (hdC k f n) := ((hb.put 0 (.int .i64 k)).put 1 (.int .i64 f)).put 2 (.int .i64 n)
theorem putHd_fresh (w : World) (k0 f0 n0 k f n : Int) : putHd (w.alloc (.cells (hdC k0 f0 n0) 112)) w.heap.size k f n = w.alloc (.cells (hdC k f n) 112) := by
  unfold putHd
  rw [setCells_fresh, putA_all (cs := hdC k0 f0 n0) (ds := hdC k f n) rfl]
theorem run_stHd_fresh (w : World) (k f n : Int) : (stHd (.pointer (some ⟨w.heap.size, 0, none⟩)) (.agg #[.int .i64 k, .int .i64 f, .int .i64 n])).run Tryz.prog (w.alloc (.cells (hdC 0 0 0) 112)) = .ok () (w.alloc (.cells (hdC k f n) 112)) := by
  rw [run_stHd (Bk.fresh w 112 (hdC 0 0 0)), putHd_fresh]
attribute [local go_sem ↓] to_alHd to_stHd
attribute [local go_sem] run_alHd run_stHd_fresh
def ZRel (w : World) (h : Hdr) (a : Nat) (x : Int) (pz az ez : Value) (wx : World) : Prop := ∃ g, pz = .pointer (some ⟨g, 0, none⟩) ∧ az = .int .i64 a ∧ ez = .int .i64 x ∧ Bk wx g 112 (hdC h.k h.f h.n) ∧ Below w.heap.size w wx
theorem zRel_early {w w3 : World} (h : Hdr) (a : Nat) (x : Int) (hb : Below (w.alloc (.cells (hdC 0 0 0) 112)).drew.heap.size (w.alloc (.cells (hdC 0 0 0) 112)).drew w3) :
    (stHd (.pointer (some ⟨w.heap.size, 0, none⟩)) (.agg #[.int .i64 h.k, .int .i64 h.f, .int .i64 h.n])).run Tryz.prog w3 = .ok () (putHd w3 w.heap.size h.k h.f h.n) ∧ ZRel w h a x (.pointer (some ⟨w.heap.size, 0, none⟩)) (.int .i64 a) (.int .i64 x) (putHd w3 w.heap.size h.k h.f h.n) := by
  have hb0 : Below w.heap.size w (w.alloc (.cells (hdC 0 0 0) 112)).drew := below_drawn ((Below.refl w.heap.size w).alloc (Nat.le_refl _) _) 1
  have h1 := hb0.trans (hb.mono hb0.size)
  have h0 : Bk (w.alloc (.cells (hdC 0 0 0) 112)).drew w.heap.size 112 (hdC 0 0 0) := (Bk.fresh w _ _).drewN 1
  have hk := h0.below hb h0.lt
  exact ⟨run_stHd hk _ _ _, w.heap.size, rfl, rfl, rfl, putHd_bk hk _ _ _, ((h1.setCell (Nat.le_refl _) _).setCell (Nat.le_refl _) _).setCell (Nat.le_refl _) _⟩
theorem zRel_late {w w3 : World} (h : Hdr) (a : Nat) (x : Int) (hb : Below w.drew.heap.size w.drew w3) :
    ZRel w h a x (.pointer (some ⟨w3.heap.size, 0, none⟩)) (.int .i64 a) (.int .i64 x) (w3.alloc (.cells (hdC h.k h.f h.n) 112)) :=
  ⟨w3.heap.size, rfl, rfl, rfl, Bk.fresh _ _ _, ((below_drawn (Below.refl w.heap.size w) 1).trans hb).alloc hb.size _⟩
set_option maxHeartbeats 2000000 in
set_option maxRecDepth 10000 in
theorem smSize_any (v most : Int) (g : Nat) (K : Option Addr) (n c a k : Nat) (e : Int) (t : ByteArray) (w0 w : World) (hb : Bk w g SmT (smC v most K n c a k e)) (hk : Kp w0 w K n c (ls t)) (ht : t.size ≤ 1000000000000) :
    Calls Tryz.prog 98 #[.pointer (some ⟨g, 0, none⟩)] w fun e' w' => e' = .returned (.tuple #[.int .i64 ((smZ v t).1 : Nat), .int .i64 (smZ v t).2]) ∧ Below w.heap.size w w' := by
  have HT := Lib.hid ht; have HB := Lib.hid hb; have HKP := Lib.hid hk
  have HL : Hid (t.size = n) := Lib.hid (by rw [← ls_len]; exact hk.len)
  have HE : Hid (smZ v t = if (hdR v (t.extract 0 (min t.size 5))).2.2 ≠ 0 then (0, (hdR v (t.extract 0 (min t.size 5))).2.2)
    else ((hdR v (t.extract 0 (min t.size 5))).2.1 + (hdR v (t.extract 0 (min t.size 5))).1.n, 0)) := Lib.hid rfl
  obtain ⟨m, hm⟩ : ∃ m, min t.size 5 = m := ⟨_, rfl⟩
  rw [hm] at HE
  have HMN : Hid (m ≤ n ∧ m ≤ 5 ∧ (m = n ∨ m = 5)) := Lib.hid (by have := HL.out; omega)
  have HX : Hid (∀ W, Below w.heap.size w W → (convert 80 9 (.slice K m c)).run Tryz.prog W = .ok (.string (t.extract 0 m)) W) := Lib.hid (fun W hW => by
    have h1 := ((HKP.out.below hW).rd).cut_to HMN.out.1
    rw [Nat.mul_one, bys_take] at h1
    have h2 := conv_rd (P := Tryz.prog) 80 9 U8 Tryz.underlying80 Tryz.underlying5 Tryz.underlying9 c h1
    rw [h2]
    congr 2
    apply ls_ext
    rw [ls_mk]
    have := extract_ls t 0 m
    rw [Nat.zero_add, List.drop_zero] at this
    exact this.symm)
  have HHD := Lib.hid (fun W => hdRead_any v (t.extract 0 m) W (by rw [ByteArray.size_extract]; have := HMN.out; omega))
  clear hb hk ht hm
  have HLE : Hid ((hdR v (t.extract 0 m)).2.2 = 0 → (hdR v (t.extract 0 m)).1.n ≤ 268435455 ∧ (hdR v (t.extract 0 m)).2.1 ≤ 5) := Lib.hid (fun h0 => by
    obtain ⟨b1, b2, b3, b4, b5⟩ := hdR_back (v := v) (s := t.extract 0 m) (h := (hdR v (t.extract 0 m)).1) (a := (hdR v (t.extract 0 m)).2.1) (by rw [← h0])
    rw [ByteArray.size_extract] at b5
    have := HMN.out
    exact ⟨b2, by omega⟩)
  obtain ⟨⟨⟨hk, hf, hn⟩, ha, hx⟩, hr⟩ : ∃ r, hdR v (t.extract 0 m) = r := ⟨_, rfl⟩
  rw [hr] at HE HHD HLE
  dsimp only at HLE
  simp only [hdrV] at HE HHD
  clear hr
  have HBD : Hid (Below w.heap.size w w.drew) := Lib.hid (below_drawn (Below.refl w.heap.size w) 1)
  have HBA : Hid (Below w.heap.size w (w.alloc (.cells (hdC 0 0 0) 112)).drew) := Lib.hid (below_drawn ((Below.refl w.heap.size w).alloc (Nat.le_refl _) _) 1)
  have HSB : Hid (∀ W, Below w.heap.size w W → W.cell? ⟨g, 0, none⟩ = some (.int .i64 v) ∧ W.cell? ⟨g, 2, none⟩ = some (.slice K n c) ∧ (convert 80 9 (.slice K m c)).run Tryz.prog W = .ok (.string (t.extract 0 m)) W) := Lib.hid (fun W hW => ⟨(HB.out.below hW HB.out.lt).cell 0, (HB.out.below hW HB.out.lt).cell 2, HX.out W hW⟩)
  have hsl := fun W => run_to (P := Tryz.prog) (t := 80) (e := U8) (s := 1) Tryz.underlying80 (fun W => by kernel_rfl) K n c m (Nat.le_trans HMN.out.1 HKP.out.cap) W
  have hmin : min (n : Int) 5 = (m : Int) := by have := HMN.out; omega
  go_enter Tryz.func98, Tryz.ntmps98
  go_wp2_with fail
  go_cut [4, 5, 6] (fun pz az ez wx => ZRel w ⟨hk, hf, hn⟩ ha hx pz az ez wx)
  case first =>
    --REGION
    refine wp_region_D (fun w' => w'.cell? ⟨g, 0, none⟩ = some (.int .i64 v) ∧ w'.cell? ⟨g, 2, none⟩ = some (.slice K n c) ∧ (convert 80 9 (.slice K m c)).run Tryz.prog w' = .ok (.string (t.extract 0 m)) w') [] (by kernel_rfl) ?_
    have HS := HSB.out w.drew HBD.out
    refine anyD_pick (i := 0) (v := ?va0) [] rfl (Or.inl ⟨by rfl, ?ha0⟩) HS ?ra0
    case ha0 => intro w' hSw; (try dsimp only at hSw); obtain ⟨s0, s2, s3⟩ := hSw; go_simp; try with_reducible rfl
    (try simp only [Act.put]); (try simp only [List.setIfInBounds_toArray]); (try simp only [List.set_cons_succ]); (try simp only [List.set_cons_zero])
    refine anyD_pick (i := 1) (v := ?va1) [] rfl (Or.inl ⟨by rfl, ?ha1⟩) HS ?ra1
    case ha1 => intro w' hSw; (try dsimp only at hSw); obtain ⟨s0, s2, s3⟩ := hSw; go_simp; try with_reducible rfl
    (try simp only [Act.put]); (try simp only [List.setIfInBounds_toArray]); (try simp only [List.set_cons_succ]); (try simp only [List.set_cons_zero])
    refine anyD_pick (i := 2) (v := ?va2) [] rfl (Or.inl ⟨by rfl, ?ha2⟩) HS ?ra2
    case ha2 => intro w' hSw; (try dsimp only at hSw); obtain ⟨s0, s2, s3⟩ := hSw; go_simp; try with_reducible rfl
    (try simp only [Act.put]); (try simp only [List.setIfInBounds_toArray]); (try simp only [List.set_cons_succ]); (try simp only [List.set_cons_zero])
    refine anyD_pick (i := 3) (v := ?va3) [] rfl (Or.inl ⟨by rfl, ?ha3⟩) HS ?ra3
    case ha3 => intro w' hSw; (try dsimp only at hSw); obtain ⟨s0, s2, s3⟩ := hSw; go_simp; try with_reducible rfl
    (try simp only [Act.put]); (try simp only [List.setIfInBounds_toArray]); (try simp only [List.set_cons_succ]); (try simp only [List.set_cons_zero])
    refine anyD_pick (i := 4) (v := ?va4) [] rfl (Or.inl ⟨by rfl, ?ha4⟩) HS ?ra4
    case ha4 => intro w' hSw; (try dsimp only at hSw); obtain ⟨s0, s2, s3⟩ := hSw; go_simp; try with_reducible rfl
    (try simp only [Act.put]); (try simp only [List.setIfInBounds_toArray]); (try simp only [List.set_cons_succ]); (try simp only [List.set_cons_zero])
    refine anyD_pick (i := 5) (v := ?va5) [] rfl (Or.inl ⟨by rfl, ?ha5⟩) HS ?ra5
    case ha5 => intro w' hSw; (try dsimp only at hSw); obtain ⟨s0, s2, s3⟩ := hSw; go_simp; try with_reducible rfl
    (try simp only [Act.put]); (try simp only [List.setIfInBounds_toArray]); (try simp only [List.set_cons_succ]); (try simp only [List.set_cons_zero])
    refine anyD_pick (i := 6) (v := ?va6) [] rfl (Or.inl ⟨by rfl, ?ha6⟩) HS ?ra6
    case ha6 => intro w' hSw; (try dsimp only at hSw); obtain ⟨s0, s2, s3⟩ := hSw; go_simp; try with_reducible rfl
    (try simp only [Act.put]); (try simp only [List.setIfInBounds_toArray]); (try simp only [List.set_cons_succ]); (try simp only [List.set_cons_zero])
    refine anyD_pick (i := 7) (v := ?va7) [] rfl (Or.inl ⟨by rfl, ?ha7⟩) HS ?ra7
    case ha7 => intro w' hSw; (try dsimp only at hSw); obtain ⟨s0, s2, s3⟩ := hSw; go_simp; try with_reducible rfl
    (try simp only [Act.put]); (try simp only [List.setIfInBounds_toArray]); (try simp only [List.set_cons_succ]); (try simp only [List.set_cons_zero])
    refine anyD_pick (i := 8) (v := ?va8) [] rfl (Or.inl ⟨by rfl, ?ha8⟩) HS ?ra8
    case ha8 => intro w' hSw; (try dsimp only at hSw); obtain ⟨s0, s2, s3⟩ := hSw; go_simp; try with_reducible rfl
    (try simp only [Act.put]); (try simp only [List.setIfInBounds_toArray]); (try simp only [List.set_cons_succ]); (try simp only [List.set_cons_zero])
    refine anyD_pick (i := 9) (v := ?va9) [] rfl (Or.inl ⟨by rfl, ?ha9⟩) HS ?ra9
    case ha9 => intro w' hSw; (try dsimp only at hSw); obtain ⟨s0, s2, s3⟩ := hSw; go_simp; try with_reducible rfl
    (try simp only [Act.put]); (try simp only [List.setIfInBounds_toArray]); (try simp only [List.set_cons_succ]); (try simp only [List.set_cons_zero])
    refine anyD_pick (i := 10) (v := ?va10) [] rfl (Or.inl ⟨by rfl, ?ha10⟩) HS ?ra10
    case ha10 => intro w' hSw; (try dsimp only at hSw); obtain ⟨s0, s2, s3⟩ := hSw; go_simp; try with_reducible rfl
    (try simp only [Act.put]); (try simp only [List.setIfInBounds_toArray]); (try simp only [List.set_cons_succ]); (try simp only [List.set_cons_zero])
    refine anyD_pick (i := 11) (v := ?va11) [] rfl (Or.inl ⟨by rfl, ?ha11⟩) HS ?ra11
    case ha11 => intro w' hSw; (try dsimp only at hSw); obtain ⟨s0, s2, s3⟩ := hSw; go_simp; try with_reducible rfl
    (try simp only [Act.put]); (try simp only [List.setIfInBounds_toArray]); (try simp only [List.set_cons_succ]); (try simp only [List.set_cons_zero])
    refine anyD_pick (i := 12) (v := ?va12) [] rfl (Or.inl ⟨by rfl, ?ha12⟩) HS ?ra12
    case ha12 => intro w' hSw; (try dsimp only at hSw); obtain ⟨s0, s2, s3⟩ := hSw; go_simp; try with_reducible rfl
    (try simp only [Act.put]); (try simp only [List.setIfInBounds_toArray]); (try simp only [List.set_cons_succ]); (try simp only [List.set_cons_zero])
    refine anyD_pick (i := 13) (v := ?va13) [] rfl (Or.inl ⟨by rfl, ?ha13⟩) HS ?ra13
    case ha13 => intro w' hSw; (try dsimp only at hSw); obtain ⟨s0, s2, s3⟩ := hSw; go_simp; try with_reducible rfl
    (try simp only [Act.put]); (try simp only [List.setIfInBounds_toArray]); (try simp only [List.set_cons_succ]); (try simp only [List.set_cons_zero])
    refine anyD_pick (i := 14) (v := ?va14) [] rfl (Or.inl ⟨by rfl, ?ha14⟩) HS ?ra14
    case ha14 => intro w' hSw; (try dsimp only at hSw); obtain ⟨s0, s2, s3⟩ := hSw; go_simp; try with_reducible rfl
    (try simp only [Act.put]); (try simp only [List.setIfInBounds_toArray]); (try simp only [List.set_cons_succ]); (try simp only [List.set_cons_zero])
    refine anyD_pick (i := 15) (v := ?va15) [] rfl (Or.inl ⟨by rfl, ?ha15⟩) HS ?ra15
    case ha15 => intro w' hSw; (try dsimp only at hSw); obtain ⟨s0, s2, s3⟩ := hSw; go_simp; try with_reducible rfl
    (try simp only [Act.put]); (try simp only [List.setIfInBounds_toArray]); (try simp only [List.set_cons_succ]); (try simp only [List.set_cons_zero])
    refine anyD_ready (rs := [16, 21]) (by kernel_rfl) (by simp) (AllD.cons rfl (fun K hK => ?mx) (AllD.cons rfl (fun K hK => ?my) AllD.nil))
    case mx =>
      go_simp
      go_at_call 88
      refine (HHD.out _).mono ?_
      rintro e' w3 ⟨rfl, hb3⟩
      have B3 := Lib.hid (HBD.out.trans (hb3.mono HBD.out.size))
      have R3 := Lib.hid (zRel_late ⟨hk, hf, hn⟩ ha hx hb3)
      clear hb3 HS
      have HS := HSB.out w3 B3.out
      go_simp
      refine hK.out _ _ (fun _ => HS) ?_
      clear hK K
      (try simp only [Act.put]); (try simp only [List.setIfInBounds_toArray]); (try simp only [List.set_cons_succ]); (try simp only [List.set_cons_zero])
      refine anyD_pick (i := 17) (v := ?vb17) [] rfl (Or.inl ⟨by rfl, ?hb17⟩) HS ?rb17
      case hb17 => intro w' hSw; (try dsimp only at hSw); obtain ⟨s0, s2, s3⟩ := hSw; go_simp; try with_reducible rfl
      (try simp only [Act.put]); (try simp only [List.setIfInBounds_toArray]); (try simp only [List.set_cons_succ]); (try simp only [List.set_cons_zero])
      refine anyD_pick (i := 18) (v := ?vb18) [] rfl (Or.inl ⟨by rfl, ?hb18⟩) HS ?rb18
      case hb18 => intro w' hSw; (try dsimp only at hSw); obtain ⟨s0, s2, s3⟩ := hSw; go_simp; try with_reducible rfl
      (try simp only [Act.put]); (try simp only [List.setIfInBounds_toArray]); (try simp only [List.set_cons_succ]); (try simp only [List.set_cons_zero])
      refine anyD_pick (i := 19) (v := ?vb19) [] rfl (Or.inl ⟨by rfl, ?hb19⟩) HS ?rb19
      case hb19 => intro w' hSw; (try dsimp only at hSw); obtain ⟨s0, s2, s3⟩ := hSw; go_simp; try with_reducible rfl
      (try simp only [Act.put]); (try simp only [List.setIfInBounds_toArray]); (try simp only [List.set_cons_succ]); (try simp only [List.set_cons_zero])
      refine anyD_pick (i := 20) (v := ?vb20) [] rfl (Or.inl ⟨by rfl, ?hb20⟩) HS ?rb20
      case hb20 => intro w' hSw; (try dsimp only at hSw); obtain ⟨s0, s2, s3⟩ := hSw; go_simp; try with_reducible rfl
      (try simp only [Act.put]); (try simp only [List.setIfInBounds_toArray]); (try simp only [List.set_cons_succ]); (try simp only [List.set_cons_zero])
      refine anyD_one 21 rfl (fun K hK => ?_)
      go_simp
      clear HS
      have HS := HSB.out _ (B3.out.alloc B3.out.size (.cells (hdC 0 0 0) 112))
      refine hK.out _ _ (fun _ => HS) ?_
      clear hK K
      (try simp only [Act.put]); (try simp only [List.setIfInBounds_toArray]); (try simp only [List.set_cons_succ]); (try simp only [List.set_cons_zero])
      refine anyD_one 22 rfl (fun K hK => ?_)
      go_simp
      clear HS
      have HS := HSB.out _ (B3.out.alloc B3.out.size (.cells (hdC hk hf hn) 112))
      refine hK.out _ _ (fun _ => HS) ?_
      clear hK K
      (try simp only [Act.put]); (try simp only [List.setIfInBounds_toArray]); (try simp only [List.set_cons_succ]); (try simp only [List.set_cons_zero])
      refine anyD_one 23 rfl (fun K hK => ?_)
      go_simp
      refine hK.out _ _ (fun _ => HS) ?_
      clear hK K
      (try simp only [Act.put]); (try simp only [List.setIfInBounds_toArray]); (try simp only [List.set_cons_succ]); (try simp only [List.set_cons_zero])
      refine anyD_one 24 rfl (fun K hK => ?_)
      go_simp
      refine hK.out _ _ (fun _ => HS) ?_
      clear hK K
      (try simp only [Act.put]); (try simp only [List.setIfInBounds_toArray]); (try simp only [List.set_cons_succ]); (try simp only [List.set_cons_zero])
      refine anyD_done (by kernel_rfl) ?_ _
      go_wp2
      go_meet
      case rel => exact R3.out
    case my =>
      go_simp
      clear HS
      have HS := HSB.out _ HBA.out
      refine hK.out _ _ (fun _ => HS) ?_
      clear hK K
      (try simp only [Act.put]); (try simp only [List.setIfInBounds_toArray]); (try simp only [List.set_cons_succ]); (try simp only [List.set_cons_zero])
      refine anyD_one 16 rfl (fun K hK => ?_)
      go_simp
      go_at_call 88
      refine (HHD.out _).mono ?_
      rintro e' w3 ⟨rfl, hb3⟩
      have B3 := Lib.hid (HBA.out.trans (hb3.mono HBA.out.size))
      have R3 := Lib.hid (zRel_early ⟨hk, hf, hn⟩ ha hx hb3)
      clear hb3 HS
      have HS := HSB.out w3 B3.out
      go_simp
      refine hK.out _ _ (fun _ => HS) ?_
      clear hK K
      (try simp only [Act.put]); (try simp only [List.setIfInBounds_toArray]); (try simp only [List.set_cons_succ]); (try simp only [List.set_cons_zero])
      refine anyD_pick (i := 17) (v := ?vd17) [] rfl (Or.inl ⟨by rfl, ?hd17⟩) HS ?rd17
      case hd17 => intro w' hSw; (try dsimp only at hSw); obtain ⟨s0, s2, s3⟩ := hSw; go_simp; try with_reducible rfl
      (try simp only [Act.put]); (try simp only [List.setIfInBounds_toArray]); (try simp only [List.set_cons_succ]); (try simp only [List.set_cons_zero])
      refine anyD_pick (i := 18) (v := ?vd18) [] rfl (Or.inl ⟨by rfl, ?hd18⟩) HS ?rd18
      case hd18 => intro w' hSw; (try dsimp only at hSw); obtain ⟨s0, s2, s3⟩ := hSw; go_simp; try with_reducible rfl
      (try simp only [Act.put]); (try simp only [List.setIfInBounds_toArray]); (try simp only [List.set_cons_succ]); (try simp only [List.set_cons_zero])
      refine anyD_pick (i := 19) (v := ?vd19) [] rfl (Or.inl ⟨by rfl, ?hd19⟩) HS ?rd19
      case hd19 => intro w' hSw; (try dsimp only at hSw); obtain ⟨s0, s2, s3⟩ := hSw; go_simp; try with_reducible rfl
      (try simp only [Act.put]); (try simp only [List.setIfInBounds_toArray]); (try simp only [List.set_cons_succ]); (try simp only [List.set_cons_zero])
      refine anyD_pick (i := 20) (v := ?vd20) [] rfl (Or.inl ⟨by rfl, ?hd20⟩) HS ?rd20
      case hd20 => intro w' hSw; (try dsimp only at hSw); obtain ⟨s0, s2, s3⟩ := hSw; go_simp; try with_reducible rfl
      (try simp only [Act.put]); (try simp only [List.setIfInBounds_toArray]); (try simp only [List.set_cons_succ]); (try simp only [List.set_cons_zero])
      refine anyD_one 22 rfl (fun K hK => ?_)
      have hst := R3.out.1
      go_simp
      clear HS hst
      have HS := HSB.out _ (((B3.out.setCell (p := ⟨w.heap.size, 0, none⟩) (Nat.le_refl _) (.int .i64 hk)).setCell (p := ⟨w.heap.size, 1, none⟩) (Nat.le_refl _) (.int .i64 hf)).setCell (p := ⟨w.heap.size, 2, none⟩) (Nat.le_refl _) (.int .i64 hn))
      refine hK.out _ _ (fun _ => HS) ?_
      clear hK K
      (try simp only [Act.put]); (try simp only [List.setIfInBounds_toArray]); (try simp only [List.set_cons_succ]); (try simp only [List.set_cons_zero])
      refine anyD_one 23 rfl (fun K hK => ?_)
      go_simp
      refine hK.out _ _ (fun _ => HS) ?_
      clear hK K
      (try simp only [Act.put]); (try simp only [List.setIfInBounds_toArray]); (try simp only [List.set_cons_succ]); (try simp only [List.set_cons_zero])
      refine anyD_one 24 rfl (fun K hK => ?_)
      go_simp
      refine hK.out _ _ (fun _ => HS) ?_
      clear hK K
      (try simp only [Act.put]); (try simp only [List.setIfInBounds_toArray]); (try simp only [List.set_cons_succ]); (try simp only [List.set_cons_zero])
      refine anyD_done (by kernel_rfl) ?_ _
      go_wp2
      go_meet
      case rel => exact R3.out.2
    --END
  obtain ⟨gh, rfl, rfl, rfl, hkx, hbx⟩ := hcut
  have KX := Lib.hid hkx; have BX := Lib.hid hbx
  have x2 : wc.cell? ⟨gh, 2, none⟩ = some (.int .i64 hn) := hkx.cell 2
  clear hkx hbx hsl hmin HHD HX HSB HBD HBA
  by_cases h0 : hx = 0
  rotate_left
  · have HZ : Hid (smZ v t = (0, hx)) := Lib.hid (by rw [HE.out, if_pos h0])
    have e0 : (hx != 0) = true := bne_iff_ne.2 h0
    clear h0
    go_wp2
    go_ret2
    exact ⟨by rw [HZ.out]; rfl, BX.out⟩
  · have HZ : Hid (smZ v t = (ha + hn, 0)) := Lib.hid (by rw [HE.out, if_neg (fun x => x h0)])
    subst h0
    have d1 : (ha : Int) + (hn : Int) ≤ 9223372036854775807 := by have := HLE.out (by first | rfl | trivial); omega
    have d2 : -9223372036854775808 ≤ (ha : Int) + (hn : Int) := by omega
    go_wp2
    go_ret2
    refine ⟨?_, BX.out⟩
    rw [HZ.out]
    simp
end Go.Proofs.YtbdgkkmbnahgiaaGreatDoor

namespace Go.Proofs.YtbdgkkmbnahgiaaGreatDoor
open Go.RowKit
attribute [local go_sem ↓] to_ldPk to_bxPk to_bdPk to_alPk to_stPk
attribute [local go_sem] run_bxPk run_bxPk_agg ld_fresh run_alPk run_bd0 run_bdK run_bdKI run_bdKIC run_bdKC run_bdKICP run_stPk_fresh pkC_0 pkC_1 pkC_2 pkC_3 pkC_4 pkC_5 pkC_6 pkC_7 pkC_8 pkC_9 pkC_10 pkC_11 pkC_12 pkC_13 pkC_14 pkC_15 pkC_16 pkC_17 pkC_18 pkC_19 pkC_20 pkC_21 pkC_22 pkC_23 pkC_24
set_option maxHeartbeats 1000000 in
set_option maxRecDepth 10000 in
theorem smDrop_any (v most : Int) (g : Nat) (K : Option Addr) (n c a k z : Nat) (e : Int) (w : World) (hb : Bk w g SmT (smC v most K n c a k e)) (hz : z ≤ n) (hc : n ≤ c) (ha : a ≤ 1000000000000) (hk : k ≤ 1000000000000) (hn : n ≤ 1000000000000) :
    Calls Tryz.prog 96 #[.pointer (some ⟨g, 0, none⟩), .int .i64 z] w fun e' w' => e' = .returned (.tuple #[]) ∧ Bk w' g SmT (smC v most (cutA K n z 1) (n - z) (n - z) (a + z) (k + 1) e) ∧ w.grownBy w' (some g) := by
  have HB := Lib.hid hb
  have hsl := fun W => run_cut3 (P := Tryz.prog) (t := 80) (e := U8) (s := 1) Tryz.underlying80 (fun W => by kernel_rfl) K n c z hz hc W
  have h1 : wrap64 ((a : Int) + (z : Int)) = ((a + z : Nat) : Int) := by unfold wrap64; omega
  have h2 : wrap64 ((k : Int) + 1) = ((k + 1 : Nat) : Int) := by unfold wrap64; omega
  have d1 : (a : Int) + (z : Int) ≤ 9223372036854775807 := by omega
  have d2 : (k : Int) + 1 ≤ 9223372036854775807 := by omega
  have c2 : w.cell? ⟨g, 2, none⟩ = some (.slice K n c) := HB.out.cell 2
  have c3 : w.cell? ⟨g, 3, none⟩ = some (.int .i64 a) := HB.out.cell 3
  have c4 : w.cell? ⟨g, 4, none⟩ = some (.int .i64 k) := HB.out.cell 4
  have f2 := HB.out.free 2; have f3 := HB.out.free 3; have f4 := HB.out.free 4
  clear hb hz hc ha hk hn
  obtain ⟨K', hK'⟩ : ∃ K', cutA K n z 1 = K' := ⟨_, rfl⟩
  obtain ⟨n', hn'⟩ : ∃ n', n - z = n' := ⟨_, rfl⟩
  rw [hK', hn'] at hsl
  rw [hK', hn']
  clear hK' hn'
  go_enter Tryz.func96, Tryz.ntmps96
  go_wp2
  go_end0
  exact ⟨rfl, ((HB.out.put 2 (.slice K' n' n')).put 3 (.int .i64 ((a + z : Nat) : Int))).put 4 (.int .i64 ((k + 1 : Nat) : Int)), ((mod_set w g 2 _).trans (mod_set _ g 3 _)).trans (mod_set _ g 4 _)⟩
set_option maxHeartbeats 400000 in
set_option maxRecDepth 10000 in
theorem smKept_any (v most : Int) (g : Nat) (K : Option Addr) (n c a k : Nat) (e : Int) (w : World) (hb : Bk w g SmT (smC v most K n c a k e)) :
    Calls Tryz.prog 39 #[.pointer (some ⟨g, 0, none⟩)] w fun e' w' => e' = .returned (.int .i64 n) ∧ w = w' := by
  have c2 : w.cell? ⟨g, 2, none⟩ = some (.slice K n c) := hb.cell 2
  clear hb
  go_enter Tryz.func39, Tryz.ntmps39
  go_wp2
  go_ret
  exact ⟨rfl, rfl⟩
set_option maxHeartbeats 400000 in
set_option maxRecDepth 10000 in
theorem smAt_any (v most : Int) (g : Nat) (K : Option Addr) (n c a k : Nat) (e : Int) (w : World) (hb : Bk w g SmT (smC v most K n c a k e)) :
    Calls Tryz.prog 38 #[.pointer (some ⟨g, 0, none⟩)] w fun e' w' => e' = .returned (.int .i64 a) ∧ w = w' := by
  have c3 : w.cell? ⟨g, 3, none⟩ = some (.int .i64 a) := hb.cell 3
  clear hb
  go_enter Tryz.func38, Tryz.ntmps38
  go_wp2
  go_ret
  exact ⟨rfl, rfl⟩
set_option maxHeartbeats 400000 in
set_option maxRecDepth 10000 in
theorem smErr_any (v most : Int) (g : Nat) (K : Option Addr) (n c a k : Nat) (e : Int) (w : World) (hb : Bk w g SmT (smC v most K n c a k e)) :
    Calls Tryz.prog 37 #[.pointer (some ⟨g, 0, none⟩)] w fun e' w' => e' = .returned (.int .i64 e) ∧ w = w' := by
  have c5 : w.cell? ⟨g, 5, none⟩ = some (.int .i64 e) := hb.cell 5
  clear hb
  go_enter Tryz.func37, Tryz.ntmps37
  go_wp2
  go_ret
  exact ⟨rfl, rfl⟩
/-- How many bytes lack. -/
def smNeed (v : Int) (t : ByteArray) (e : Int) : Int := if e ≠ 0 then 0 else if (smZ v t).2 ≠ 0 then 1 else ((smZ v t).1 : Int) - (t.size : Int)
end Go.Proofs.YtbdgkkmbnahgiaaGreatDoor

namespace Go.Proofs.YtbdgkkmbnahgiaaGreatDoor
open Go.RowKit

theorem rv_more : ∀ (l m : List UInt8) (n k : Nat), (rv l n k).2.2 ≠ 3 → rv (l ++ m) n k = rv l n k
  | [], m, n, k, h => absurd rfl h
  | b :: l, m, n, k, h => by
    rw [List.cons_append, rv, rv]
    rw [rv] at h
    split
    · rename_i hb
      rw [if_pos hb] at h
      split
      · rfl
      · rename_i hk
        rw [if_neg hk] at h
        exact rv_more l m _ _ h
    · rfl
theorem rv_short : ∀ (l : List UInt8) (n k : Nat), k ≤ 3 → (rv l n k).2.2 = 3 → l.length + k ≤ 3
  | [], n, k, hk, _ => by simpa using hk
  | b :: l, n, k, hk, h => by
    rw [rv] at h
    split at h
    · split at h
      · simp at h
      · have := rv_short l _ (k + 1) (by omega) h
        rw [List.length_cons]
        omega
    · split at h
      · simp at h
      · simp at h
theorem hdR_more {v : Int} {s u : ByteArray} (h : (hdR v s).2.2 ≠ 3) : hdR v (s ++ u) = hdR v s := by
  unfold hdR at h ⊢
  by_cases hk : hdKnown v = false
  · simp only [if_pos hk]
  by_cases hz : s.size = 0
  · rw [if_neg hk, if_pos hz] at h
    exact absurd rfl h
  have hz' : (s ++ u).size ≠ 0 := by rw [ByteArray.size_append]; omega
  have hb : hdByte (s ++ u) = hdByte s := by
    unfold hdByte
    rw [ls_app]
    cases hl : ls s with
    | nil => exact absurd (by rw [← ls_len, hl]; rfl) hz
    | cons x l => rfl
  have hr : ls ((s ++ u).extract 1 (s ++ u).size) = ls (s.extract 1 s.size) ++ ls u := by
    rw [hd_rest_ls, hd_rest_ls, ls_app, List.drop_append_of_le_length (by rw [ls_len]; omega)]
  rw [if_neg hk, if_neg hz] at h
  rw [if_neg hk, if_neg hz', if_neg hk, if_neg hz, hb, hr]
  by_cases hc : hdChk v (hdByte s / 16 : Nat) (hdByte s % 16 : Nat) ≠ 0
  · rw [if_pos hc, if_pos hc]
  rw [if_neg hc] at h
  rw [if_neg hc, if_neg hc]
  have hrv : (readV (ls (s.extract 1 s.size))).2.2 ≠ 3 := by
    intro e
    rw [if_pos (by rw [e]; decide)] at h
    exact h e
  rw [show readV (ls (s.extract 1 s.size) ++ ls u) = readV (ls (s.extract 1 s.size)) from rv_more _ (ls u) 0 0 hrv]
theorem hdChk_ne3 (v k f : Int) : hdChk v k f ≠ 3 := by
  unfold hdChk
  cases hdKnown v <;> cases hdKinds v k <;> cases hdFlagged k f <;> simp
theorem hdR_short {v : Int} {s : ByteArray} (h : (hdR v s).2.2 = 3) : s.size ≤ 4 := by
  unfold hdR at h
  split at h
  · simp at h
  split at h
  · omega
  split at h
  · exact absurd h (hdChk_ne3 _ _ _)
  split at h
  · have := rv_short _ 0 0 (by omega) h
    rw [hd_rest_ls, List.length_drop, ls_len] at this
    omega
  · simp at h
theorem hdR_five (v : Int) (t : ByteArray) : hdR v (t.extract 0 (min t.size 5)) = hdR v t := by
  by_cases h : t.size ≤ 5
  · congr 1
    apply ls_ext
    rw [ls_front, List.take_of_length_le (by rw [ls_len]; omega)]
  · have e3 : (hdR v (t.extract 0 5)).2.2 ≠ 3 := fun e => by
      have := hdR_short e
      rw [ByteArray.size_extract] at this
      omega
    have hs : t.extract 0 5 ++ t.extract 5 t.size = t := ls_ext (by rw [ls_app, ls_front, ls_back, List.take_append_drop])
    have := hdR_more (u := t.extract 5 t.size) e3
    rw [hs] at this
    rw [show min t.size 5 = 5 by omega, this]
theorem hdR_ext {v : Int} {t : ByteArray} (h : (hdR v t).2.2 = 0) {z : Nat} (hz : (hdR v t).2.1 ≤ z) : hdR v (t.extract 0 z) = hdR v t := by
  obtain ⟨b1, b2, b3, b4, b5⟩ := hdR_back (v := v) (s := t) (h := (hdR v t).1) (a := (hdR v t).2.1) (by rw [← h])
  have := hdR_front b1 b2 (s := t.extract 0 z) (R := ((ls t).drop (hdR v t).2.1).take (z - (hdR v t).2.1)) (by
    rw [ls_front]
    conv => lhs; rw [b3]
    rw [List.take_append, List.take_of_length_le (by omega), ← b4])
  rw [this, ← b4, ← h]
/-- How many bytes the packet has that bytes begin with, as the header says. -/
def hdZ (v : Int) (t : ByteArray) : Nat := (hdR v t).2.1 + (hdR v t).1.n
theorem smZ_of (v : Int) (t : ByteArray) : smZ v t = if (hdR v t).2.2 ≠ 0 then (0, (hdR v t).2.2) else (hdZ v t, 0) := by
  unfold smZ
  rw [hdR_five]
  rfl
theorem smN_of (v most : Int) (t : ByteArray) : smN v most t = if (hdR v t).2.2 ≠ 0 then (pk0, 0, (hdR v t).2.2) else if most < (hdZ v t : Nat) then (pk0, 0, 4) else if t.size < hdZ v t then (pk0, 0, 3) else mqR v (t.extract 0 (hdZ v t)) := by
  unfold smN
  rw [smZ_of]
  by_cases h : (hdR v t).2.2 ≠ 0
  · rw [if_pos h, if_pos h]
    exact (if_pos h).symm
  · rw [if_neg h, if_neg h]
    exact if_neg (fun x => x rfl)
theorem mqR_full {v : Int} {t : ByteArray} (h : (hdR v t).2.2 = 0) (hs : hdZ v t ≤ t.size) : (mqR v (t.extract 0 (hdZ v t))).2.2 ≠ 3 ∧ ((mqR v (t.extract 0 (hdZ v t))).2.2 = 0 → (mqR v (t.extract 0 (hdZ v t))).2.1 = hdZ v t) := by
  have e := hdR_ext h (z := hdZ v t) (Nat.le_add_right _ _)
  have hz : (t.extract 0 (hdZ v t)).size = hdZ v t := by rw [ByteArray.size_extract]; omega
  unfold mqR
  rw [e, if_neg (fun x => x h), if_neg (by rw [hz]; exact Nat.lt_irrefl _)]
  generalize chR v (hdR v t).1 ((t.extract 0 (hdZ v t)).extract (hdR v t).2.1 ((hdR v t).2.1 + (hdR v t).1.n)) = r
  split
  · exact ⟨by simp, fun _ => rfl⟩
  · rename_i h0
    refine ⟨?_, fun h1 => ?_⟩
    · dsimp only
      split
      · decide
      · assumption
    · dsimp only at h1
      split at h1
      · cases h1
      · exact absurd h1 h0
theorem smN_short {v most : Int} {t : ByteArray} (h : (smN v most t).2.2 = 3) : (hdR v t).2.2 = 3 ∨ ((hdR v t).2.2 = 0 ∧ (hdZ v t : Int) ≤ most ∧ t.size < hdZ v t) := by
  rw [smN_of] at h
  split at h
  · exact .inl h
  rename_i h1
  have h1 := Classical.not_not.1 h1
  split at h
  · simp at h
  rename_i h2
  split at h
  · rename_i h3
    exact .inr ⟨h1, by omega, h3⟩
  · rename_i h3
    exact absurd h (mqR_full h1 (by omega)).1
theorem smN_three {v most : Int} {t : ByteArray} (h : (hdR v t).2.2 = 3 ∨ ((hdR v t).2.2 = 0 ∧ (hdZ v t : Int) ≤ most ∧ t.size < hdZ v t)) : (smN v most t).2.2 = 3 := by
  rw [smN_of]
  rcases h with h | ⟨h1, h2, h3⟩
  · rw [if_pos (by rw [h]; decide)]
    exact h
  · rw [if_neg (fun x => x h1), if_neg (by omega), if_pos h3]
theorem smN_more {v most : Int} {t u : ByteArray} (h : (smN v most t).2.2 ≠ 3) : smN v most (t ++ u) = smN v most t := by
  have he : (hdR v t).2.2 ≠ 3 := fun e => h (smN_three (.inl e))
  have hh := hdR_more (u := u) he
  have hz : hdZ v (t ++ u) = hdZ v t := by unfold hdZ; rw [hh]
  rw [smN_of v most t] at h
  rw [smN_of, smN_of, hz, hh]
  by_cases h1 : (hdR v t).2.2 ≠ 0
  · rw [if_pos h1, if_pos h1]
  rw [if_neg h1] at h
  rw [if_neg h1, if_neg h1]
  by_cases h2 : most < (hdZ v t : Nat)
  · rw [if_pos h2, if_pos h2]
  rw [if_neg h2] at h
  rw [if_neg h2, if_neg h2]
  by_cases h3 : t.size < hdZ v t
  · rw [if_pos h3] at h
    exact absurd rfl h
  rw [if_neg h3, if_neg (by rw [ByteArray.size_append]; omega)]
  congr 1
  apply ls_ext
  rw [ls_front, ls_front, ls_app, List.take_append_of_le_length (by rw [ls_len]; omega)]
theorem smF_eq (v most : Int) : ∀ (f f' : Nat) (t : ByteArray) (a k : Nat) (l : List Pk), t.size < f → t.size < f' → smF v most f t a k l = smF v most f' t a k l
  | 0, _, _, _, _, _, h, _ => absurd h (by omega)
  | _ + 1, 0, _, _, _, _, _, h => absurd h (by omega)
  | f + 1, f' + 1, t, a, k, l, h, h' => by
    rw [smF_step, smF_step]
    split
    · rename_i h0
      have := smN_step h0
      exact smF_eq v most f f' _ _ _ _ (by rw [ByteArray.size_extract]; omega) (by rw [ByteArray.size_extract]; omega)
    · rfl
/-- What a feed leaves. -/
def smG (v most : Int) (t : ByteArray) (a k : Nat) (l : List Pk) : List Pk × ByteArray × Nat × Nat × Int := smF v most (t.size + 1) t a k l
theorem smG_step (v most : Int) (t : ByteArray) (a k : Nat) (l : List Pk) : smG v most t a k l =
    if (smN v most t).2.2 = 0 then smG v most (t.extract (smN v most t).2.1 t.size) (a + (smN v most t).2.1) (k + 1) (l ++ [(smN v most t).1])
    else if (smN v most t).2.2 = 3 then (l, t, a, k, 0)
    else (l, ⟨#[]⟩, a, k, (smN v most t).2.2) := by
  unfold smG
  rw [smF_step]
  split
  · rename_i h0
    have := smN_step h0
    exact smF_eq v most _ _ _ _ _ _ (by rw [ByteArray.size_extract]; omega) (Nat.lt_succ_self _)
  · rfl
theorem smG_acc (v most : Int) : ∀ (N : Nat) (t : ByteArray) (a k : Nat) (l : List Pk), t.size ≤ N → smG v most t a k l =
    (l ++ (smG v most t 0 0 []).1, (smG v most t 0 0 []).2.1, a + (smG v most t 0 0 []).2.2.1, k + (smG v most t 0 0 []).2.2.2.1, (smG v most t 0 0 []).2.2.2.2)
  | N, t, a, k, l, hN => by
    rw [smG_step v most t a k l, smG_step v most t 0 0 []]
    split
    · rename_i h0
      have h1 := smN_step h0
      have hx : (t.extract (smN v most t).2.1 t.size).size = t.size - (smN v most t).2.1 := by rw [ByteArray.size_extract]; omega
      match N, hN with
      | 0, hN => omega
      | N + 1, hN =>
        rw [smG_acc v most N _ (a + (smN v most t).2.1) (k + 1) (l ++ [(smN v most t).1]) (by omega), smG_acc v most N _ (0 + (smN v most t).2.1) (0 + 1) ([] ++ [(smN v most t).1]) (by omega)]
        simp only [List.append_assoc, List.nil_append, Nat.zero_add, Nat.add_assoc]
    · split
      · simp
      · simp
theorem smG_app (v most : Int) (u : ByteArray) : ∀ (N : Nat) (t : ByteArray) (a k : Nat) (l : List Pk), t.size ≤ N → smG v most (t ++ u) a k l =
    if (smG v most t a k l).2.2.2.2 = 0 then smG v most ((smG v most t a k l).2.1 ++ u) (smG v most t a k l).2.2.1 (smG v most t a k l).2.2.2.1 (smG v most t a k l).1 else smG v most t a k l
  | N, t, a, k, l, hN => by
    by_cases h0 : (smN v most t).2.2 = 0
    · have e : smN v most (t ++ u) = smN v most t := smN_more (by rw [h0]; decide)
      have h1 := smN_step h0
      have hx : (t.extract (smN v most t).2.1 t.size).size = t.size - (smN v most t).2.1 := by rw [ByteArray.size_extract]; omega
      have hc : (t ++ u).extract (smN v most t).2.1 (t ++ u).size = t.extract (smN v most t).2.1 t.size ++ u := ls_ext (by
        rw [ls_back, ls_app, ls_app, ls_back, List.drop_append_of_le_length (by rw [ls_len]; exact h1.2)])
      rw [smG_step v most (t ++ u), e, if_pos h0, smG_step v most t a k l, if_pos h0, hc]
      match N, hN with
      | 0, hN => omega
      | N + 1, hN => exact smG_app v most u N _ _ _ _ (by omega)
    · by_cases h3 : (smN v most t).2.2 = 3
      · rw [smG_step v most t a k l, if_neg h0, if_pos h3]
        exact (if_pos rfl).symm
      · have e := smN_more (u := u) h3
        rw [smG_step v most (t ++ u), e, if_neg h0, if_neg h3, smG_step v most t a k l, if_neg h0, if_neg h3]
        exact (if_neg h0).symm
theorem smG_end (v most : Int) : ∀ (N : Nat) (t : ByteArray) (a k : Nat) (l : List Pk), t.size ≤ N →
    ((smG v most t a k l).2.2.2.2 = 0 → (smN v most (smG v most t a k l).2.1).2.2 = 3) ∧ ((smG v most t a k l).2.2.2.2 ≠ 0 → (smG v most t a k l).2.1 = ⟨#[]⟩) ∧
    (smG v most t a k l).2.2.2.1 + l.length = k + (smG v most t a k l).1.length ∧ (smG v most t a k l).2.2.1 + (smG v most t a k l).2.1.size ≤ a + t.size ∧ (smG v most t a k l).2.2.2.1 ≤ k + t.size ∧ (smG v most t a k l).2.2.2.2 ≠ 3
  | N, t, a, k, l, hN => by
    rw [smG_step]
    split
    · rename_i h0
      have h1 := smN_step h0
      have hx : (t.extract (smN v most t).2.1 t.size).size = t.size - (smN v most t).2.1 := by rw [ByteArray.size_extract]; omega
      match N, hN with
      | 0, hN => omega
      | N + 1, hN =>
        obtain ⟨i1, i2, i3, i4, i5, i6⟩ := smG_end v most N (t.extract (smN v most t).2.1 t.size) (a + (smN v most t).2.1) (k + 1) (l ++ [(smN v most t).1]) (by omega)
        rw [List.length_append, List.length_singleton] at i3
        exact ⟨i1, i2, by omega, by omega, by omega, i6⟩
    · rename_i h0
      split
      · rename_i h3
        exact ⟨fun _ => h3, fun h => absurd rfl h, rfl, Nat.le_refl _, Nat.le_add_right _ _, by simp⟩
      · rename_i h3
        exact ⟨fun h => absurd h h0, fun _ => rfl, rfl, by show a + 0 ≤ a + t.size; omega, Nat.le_add_right _ _, h3⟩
theorem smG_wait {v most : Int} {t : ByteArray} (h : (smN v most t).2.2 = 3) (a k : Nat) (l : List Pk) : smG v most t a k l = (l, t, a, k, 0) := by
  rw [smG_step, if_neg (by rw [h]; decide), if_pos h]
theorem smG_none {v most : Int} (hv : hdKnown v = true) (a k : Nat) (l : List Pk) : smG v most ⟨#[]⟩ a k l = (l, ⟨#[]⟩, a, k, 0) := by
  refine smG_wait (smN_three (.inl ?_)) a k l
  unfold hdR
  rw [if_neg (by rw [hv]; decide), if_pos (show (⟨#[]⟩ : ByteArray).size = 0 from rfl)]
theorem smNeed_of (v : Int) (t : ByteArray) : smNeed v t 0 = if (hdR v t).2.2 ≠ 0 then 1 else (hdZ v t : Int) - (t.size : Int) := by
  unfold smNeed
  rw [if_neg (fun x => x rfl), smZ_of]
  by_cases h : (hdR v t).2.2 ≠ 0
  · rw [if_pos h, if_pos h]
    exact (if_pos h).symm
  · rw [if_neg h, if_neg h]
    exact if_neg (fun x => x rfl)
/-- What lacks lies from 1 on, up to the limit. -/
theorem smNeed_range {v most : Int} {t : ByteArray} (h : (smN v most t).2.2 = 3) (hm : 16 ≤ most) : 1 ≤ smNeed v t 0 ∧ smNeed v t 0 ≤ most ∧ (t.size : Int) ≤ most - 1 := by
  rw [smNeed_of]
  rcases smN_short h with h1 | ⟨h1, h2, h3⟩
  · rw [if_pos (by rw [h1]; decide)]
    have := hdR_short h1
    omega
  · rw [if_neg (fun x => x h1)]
    omega
end Go.Proofs.YtbdgkkmbnahgiaaGreatDoor

