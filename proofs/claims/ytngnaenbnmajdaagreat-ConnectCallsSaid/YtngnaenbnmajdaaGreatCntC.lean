/- connect: the walk of Valid. -/
import Derived.Test.YtngnaenbnmajdaaGreatCntB
namespace Go.Proofs.YtngnaenbnmajdaaGreat
open Go.RowKit
attribute [local go_sem ↓] to_ldPk to_bxPk to_bdPk to_alPk to_stPk
attribute [local go_sem] run_bxPk run_bxPk_agg ld_fresh run_alPk run_bd0 run_bdK run_bdKI run_bdKIC run_bdKC run_bdKICP run_stPk_fresh pkC_0 pkC_1 pkC_2 pkC_3 pkC_4 pkC_5 pkC_6 pkC_7 pkC_8 pkC_9 pkC_10 pkC_11 pkC_12 pkC_13 pkC_14 pkC_15 pkC_16 pkC_17 pkC_18 pkC_19 pkC_20 pkC_21 pkC_22 pkC_23 pkC_24
def cntArg (v : Int) (p : Pk) : Bool := hdKnown v && (cntOurs p.kind && (decide (p = cntQ p) && cntRng v p))
def cntE (v : Int) (p : Pk) : Int :=
  if cntArg v p = false then 2
  else if validB p.client = false ∨ validB p.user = false then 6
  else if p.hasWill = true ∧ nameB p.will.topic = false then 10
  else if 65535 < p.will.payload.size ∨ 65535 < p.pass.size then 2
  else if (bytesS p.kind p.props).2 ≠ 0 then (bytesS p.kind p.props).2
  else (bytesS 16 p.will.props).2
set_option maxHeartbeats 8000000 in
set_option maxRecDepth 10000 in
theorem cntValid_any (v : Int) (p : Pk) (h : Hs) (w : World) (ip : PkIn w w.heap.size p h) (ok : PkOk p) :
    Calls Tryz.prog 12 #[.int .i64 v, pkV p h] w fun e w' => e = .returned (.int .i64 (cntE v p)) ∧ Below w.heap.size w w' := by
  have OK := Lib.hid ok
  have S0 := Lib.hid ((St.start w).push ip)
  have HE : Hid (cntE v p = if cntArg v p = false then 2
    else if validB p.client = false ∨ validB p.user = false then 6
    else if p.hasWill = true ∧ nameB p.will.topic = false then 10
    else if 65535 < p.will.payload.size ∨ 65535 < p.pass.size then 2
    else if (bytesS p.kind p.props).2 ≠ 0 then (bytesS p.kind p.props).2
    else (bytesS 16 p.will.props).2) := Lib.hid rfl
  have HA : Hid (cntArg v p = (hdKnown v && (cntOurs p.kind && (decide (p = cntQ p) && cntRng v p)))) := Lib.hid rfl
  have k0 := S0.out.cell 0 rfl
  have l0 := S0.out.ld 0 rfl
  clear ip ok
  go_enter Tryz.func12, Tryz.ntmps12
  go_wp2_with fail
  refine (cntKnown_any v _).mono ?_
  rintro e w1 ⟨rfl, rfl⟩
  cases hk : hdKnown v
  · have HX : Hid (cntE v p = 2) := Lib.hid (by rw [HE.out, if_pos (by rw [HA.out, hk]; rfl)])
    clear hk
    go_wp2
    go_ret
    exact ⟨by rw [HX.out]; rfl, S0.out.kept⟩
  have HA1 : Hid (cntArg v p = (cntOurs p.kind && (decide (p = cntQ p) && cntRng v p))) := Lib.hid (by rw [HA.out, hk, Bool.true_and])
  clear hk
  go_wp2_with fail
  refine (cntOurs_any p.kind _).mono ?_
  rintro e w1 ⟨rfl, rfl⟩
  cases hk : cntOurs p.kind
  · have HX : Hid (cntE v p = 2) := Lib.hid (by rw [HE.out, if_pos (by rw [HA1.out, hk]; rfl)])
    clear hk
    go_wp2
    go_ret
    exact ⟨by rw [HX.out]; rfl, S0.out.kept⟩
  have HA2 : Hid (cntArg v p = (decide (p = cntQ p) && cntRng v p)) := Lib.hid (by rw [HA1.out, hk, Bool.true_and])
  clear hk
  go_wp2_with fail
  refine (alone_any p h _ (S0.out.into 0 rfl) OK.out).mono ?_
  rintro e w1 ⟨rfl, hb⟩
  have S1 := Lib.hid (S0.out.below hb); clear hb k0 l0
  have k0 := S1.out.cell 0 rfl
  have l0 := S1.out.ld 0 rfl
  by_cases hs : p = cntQ p
  rotate_left
  · rw [decide_eq_false hs]
    have HX : Hid (cntE v p = 2) := Lib.hid (by rw [HE.out, if_pos (by rw [HA2.out, decide_eq_false hs]; rfl)])
    clear hs
    go_wp2
    go_ret
    exact ⟨by rw [HX.out]; rfl, S1.out.kept⟩
  rw [decide_eq_true hs]
  have HA3 : Hid (cntArg v p = cntRng v p) := Lib.hid (by rw [HA2.out, decide_eq_true hs, Bool.true_and])
  clear hs
  go_wp2_with fail
  refine (cntRng_any v p h _ (S1.out.into 0 rfl) OK.out).mono ?_
  rintro e w2 ⟨rfl, hb⟩
  have S2 := Lib.hid (S1.out.below hb); clear hb k0 l0
  have k0 := S2.out.cell 0 rfl
  cases hr : cntRng v p
  · have HX : Hid (cntE v p = 2) := Lib.hid (by rw [HE.out, if_pos (by rw [HA3.out, hr])])
    clear hr
    go_wp2
    go_ret
    exact ⟨by rw [HX.out]; rfl, S2.out.kept⟩
  have HE1 : Hid (cntE v p = if validB p.client = false ∨ validB p.user = false then 6
    else if p.hasWill = true ∧ nameB p.will.topic = false then 10
    else if 65535 < p.will.payload.size ∨ 65535 < p.pass.size then 2
    else if (bytesS p.kind p.props).2 ≠ 0 then (bytesS p.kind p.props).2
    else (bytesS 16 p.will.props).2) := Lib.hid (by rw [HE.out, if_neg (by rw [HA3.out, hr]; decide)])
  clear hr
  go_wp2_with fail
  refine (valid_any p.client _ (by have := OK.out.texts; omega)).mono ?_
  rintro e w3 ⟨rfl, hb⟩
  have S3 := Lib.hid (S2.out.below hb); clear hb k0
  have k0 := S3.out.cell 0 rfl
  cases hc : validB p.client
  · have HX : Hid (cntE v p = 6) := Lib.hid (by rw [HE1.out, if_pos (.inl hc)])
    clear hc
    go_wp2
    go_ret
    exact ⟨by rw [HX.out]; rfl, S3.out.kept⟩
  go_wp2_with fail
  refine (valid_any p.user _ (by have := OK.out.texts; omega)).mono ?_
  rintro e w4 ⟨rfl, hb⟩
  have S4 := Lib.hid (S3.out.below hb); clear hb k0
  have k0 := S4.out.cell 0 rfl
  cases hu : validB p.user
  · have HX : Hid (cntE v p = 6) := Lib.hid (by rw [HE1.out, if_pos (.inr hu)])
    clear hc hu
    go_wp2
    go_ret
    exact ⟨by rw [HX.out]; rfl, S4.out.kept⟩
  have HE2 : Hid (cntE v p = if p.hasWill = true ∧ nameB p.will.topic = false then 10
    else if 65535 < p.will.payload.size ∨ 65535 < p.pass.size then 2
    else if (bytesS p.kind p.props).2 ≠ 0 then (bytesS p.kind p.props).2
    else (bytesS 16 p.will.props).2) := Lib.hid (by rw [HE1.out, if_neg (fun y => y.elim (fun z => by rw [hc] at z; cases z) (fun z => by rw [hu] at z; cases z))])
  clear hc hu
  obtain ⟨hw, hhw⟩ : ∃ b, p.hasWill = b := ⟨_, rfl⟩
  cases hw
  · have HE3 : Hid (cntE v p = if 65535 < p.will.payload.size ∨ 65535 < p.pass.size then 2
      else if (bytesS p.kind p.props).2 ≠ 0 then (bytesS p.kind p.props).2
      else (bytesS 16 p.will.props).2) := Lib.hid (by rw [HE2.out, if_neg (fun y => by rw [hhw] at y; cases y.1)])
    have S5 := S4
    by_cases hy : 65535 < p.will.payload.size
    · have d1 : (65535 : Int) < (p.will.payload.size : Int) := by omega
      have HX : Hid (cntE v p = 2) := Lib.hid (by rw [HE3.out, if_pos (.inl hy)])
      clear hy
      go_wp2
      go_ret
      exact ⟨by rw [HX.out]; rfl, S5.out.kept⟩
    have d1 : (p.will.payload.size : Int) ≤ 65535 := by omega
    by_cases hz : 65535 < p.pass.size
    · have d2 : (65535 : Int) < (p.pass.size : Int) := by omega
      have HX : Hid (cntE v p = 2) := Lib.hid (by rw [HE3.out, if_pos (.inr hz)])
      clear hy hz
      go_wp2
      go_ret
      exact ⟨by rw [HX.out]; rfl, S5.out.kept⟩
    have d2 : (p.pass.size : Int) ≤ 65535 := by omega
    have HE4 : Hid (cntE v p = if (bytesS p.kind p.props).2 ≠ 0 then (bytesS p.kind p.props).2 else (bytesS 16 p.will.props).2) := Lib.hid (by rw [HE3.out, if_neg (fun y => y.elim hy hz)])
    clear hy hz
    go_wp2_with fail
    refine (validP_n p.kind p.props _ rfl OK.out.props h.props.a h.props.c _ (S5.out.into 0 rfl).props OK.out.len.2.2.2).mono ?_
    rintro e w6 ⟨rfl, hb⟩
    have S6 := Lib.hid (S5.out.below hb); clear hb k0
    have k0 := S6.out.cell 0 rfl
    by_cases hp : (bytesS p.kind p.props).2 = 0
    rotate_left
    · have e0 : ((bytesS p.kind p.props).2 != 0) = true := bne_iff_ne.2 hp
      have HX : Hid (cntE v p = (bytesS p.kind p.props).2) := Lib.hid (by rw [HE4.out, if_pos hp])
      clear hp
      go_wp2
      go_ret
      exact ⟨by rw [HX.out]; rfl, S6.out.kept⟩
    rw [hp]
    have HX : Hid (cntE v p = (bytesS 16 p.will.props).2) := Lib.hid (by rw [HE4.out, if_neg (fun y => y hp)])
    clear hp
    go_wp2_with fail
    refine (validP_n 16 p.will.props _ rfl OK.out.wp h.wp.a h.wp.c _ (S6.out.into 0 rfl).wp OK.out.len.1).mono ?_
    rintro e w7 ⟨rfl, hb⟩
    have S7 := Lib.hid (S6.out.below hb); clear hb k0
    go_wp2
    go_ret
    exact ⟨by rw [HX.out]; rfl, S7.out.kept⟩
  · go_wp2_with fail
    refine (name_any p.will.topic _ (by have := OK.out.texts; omega)).mono ?_
    rintro e w5 ⟨rfl, hb⟩
    have S5 := Lib.hid (S4.out.below hb); clear hb k0
    have k0 := S5.out.cell 0 rfl
    cases hn : nameB p.will.topic
    · have HX : Hid (cntE v p = 10) := Lib.hid (by rw [HE2.out, if_pos ⟨hhw, hn⟩])
      clear hn
      go_wp2
      go_ret
      exact ⟨by rw [HX.out]; rfl, S5.out.kept⟩
    have HE3 : Hid (cntE v p = if 65535 < p.will.payload.size ∨ 65535 < p.pass.size then 2
      else if (bytesS p.kind p.props).2 ≠ 0 then (bytesS p.kind p.props).2
      else (bytesS 16 p.will.props).2) := Lib.hid (by rw [HE2.out, if_neg (fun y => by rw [hn] at y; cases y.2)])
    clear hn
    by_cases hy : 65535 < p.will.payload.size
    · have d1 : (65535 : Int) < (p.will.payload.size : Int) := by omega
      have HX : Hid (cntE v p = 2) := Lib.hid (by rw [HE3.out, if_pos (.inl hy)])
      clear hy
      go_wp2
      go_ret
      exact ⟨by rw [HX.out]; rfl, S5.out.kept⟩
    have d1 : (p.will.payload.size : Int) ≤ 65535 := by omega
    by_cases hz : 65535 < p.pass.size
    · have d2 : (65535 : Int) < (p.pass.size : Int) := by omega
      have HX : Hid (cntE v p = 2) := Lib.hid (by rw [HE3.out, if_pos (.inr hz)])
      clear hy hz
      go_wp2
      go_ret
      exact ⟨by rw [HX.out]; rfl, S5.out.kept⟩
    have d2 : (p.pass.size : Int) ≤ 65535 := by omega
    have HE4 : Hid (cntE v p = if (bytesS p.kind p.props).2 ≠ 0 then (bytesS p.kind p.props).2 else (bytesS 16 p.will.props).2) := Lib.hid (by rw [HE3.out, if_neg (fun y => y.elim hy hz)])
    clear hy hz
    go_wp2_with fail
    refine (validP_n p.kind p.props _ rfl OK.out.props h.props.a h.props.c _ (S5.out.into 0 rfl).props OK.out.len.2.2.2).mono ?_
    rintro e w6 ⟨rfl, hb⟩
    have S6 := Lib.hid (S5.out.below hb); clear hb k0
    have k0 := S6.out.cell 0 rfl
    by_cases hp : (bytesS p.kind p.props).2 = 0
    rotate_left
    · have e0 : ((bytesS p.kind p.props).2 != 0) = true := bne_iff_ne.2 hp
      have HX : Hid (cntE v p = (bytesS p.kind p.props).2) := Lib.hid (by rw [HE4.out, if_pos hp])
      clear hp
      go_wp2
      go_ret
      exact ⟨by rw [HX.out]; rfl, S6.out.kept⟩
    rw [hp]
    have HX : Hid (cntE v p = (bytesS 16 p.will.props).2) := Lib.hid (by rw [HE4.out, if_neg (fun y => y hp)])
    clear hp
    go_wp2_with fail
    refine (validP_n 16 p.will.props _ rfl OK.out.wp h.wp.a h.wp.c _ (S6.out.into 0 rfl).wp OK.out.len.1).mono ?_
    rintro e w7 ⟨rfl, hb⟩
    have S7 := Lib.hid (S6.out.below hb); clear hb k0
    go_wp2
    go_ret
    exact ⟨by rw [HX.out]; rfl, S7.out.kept⟩
end Go.Proofs.YtngnaenbnmajdaaGreat
