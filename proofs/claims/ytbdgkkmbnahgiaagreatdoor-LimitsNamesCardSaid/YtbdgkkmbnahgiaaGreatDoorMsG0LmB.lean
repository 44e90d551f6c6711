/- A part of what the laws stand on: LmB, LmS, MsJ, MsI, MsK, LimA, LimB. -/
import Derived.Test.YtbdgkkmbnahgiaaGreatDoorMsG0MsE
import Derived.Shelf.Sort.Plain
import Derived.Shelf.SlicesE.DeleteFunc
import Derived.Sort.OwnSortedInts
import Derived.Shelf.Slices.In.SortNone
namespace Go.Proofs.YtbdgkkmbnahgiaaGreatDoor
open Go.RowKit
attribute [local go_sem ↓] to_ldPk to_bxPk to_bdPk to_alPk to_stPk
attribute [local go_sem] run_bxPk run_bxPk_agg ld_fresh run_alPk run_bd0 run_bdK run_bdKI run_bdKIC run_bdKC run_bdKICP run_stPk_fresh pkC_0 pkC_1 pkC_2 pkC_3 pkC_4 pkC_5 pkC_6 pkC_7 pkC_8 pkC_9 pkC_10 pkC_11 pkC_12 pkC_13 pkC_14 pkC_15 pkC_16 pkC_17 pkC_18 pkC_19 pkC_20 pkC_21 pkC_22 pkC_23 pkC_24
attribute [local go_sem ↓] to_bsPk
attribute [local go_sem] run_bsPk
set_option maxHeartbeats 1000000 in
set_option maxRecDepth 10000 in
theorem lmCheck_any (mp md : Int) (w : World) : Calls Tryz.prog 45 #[limV mp md] w fun e w' => e = .returned (.int .i64 (lmC mp md)) ∧ Below w.heap.size w w' := by
  have HE : Hid (lmOk mp md = decide (16 ≤ mp ∧ mp ≤ 1048576 ∧ 0 ≤ md ∧ md ≤ 32)) := Lib.hid rfl
  have HB := Lib.hid ((Below.refl w.heap.size w).alloc (Nat.le_refl _) (.cells #[.int .i64 mp, .int .i64 md] 54))
  have HK := Lib.hid (Bk.fresh w 54 #[.int .i64 mp, .int .i64 md])
  have c0 : (w.alloc (.cells #[.int .i64 mp, .int .i64 md] 54)).cell? ⟨w.heap.size, 0, none⟩ = some (.int .i64 mp) := HK.out.cell 0
  have c1 : (w.alloc (.cells #[.int .i64 mp, .int .i64 md] 54)).cell? ⟨w.heap.size, 1, none⟩ = some (.int .i64 md) := HK.out.cell 1
  unfold limV
  by_cases hl : 16 ≤ mp ∧ mp ≤ 1048576 ∧ 0 ≤ md ∧ md ≤ 32
  · have HX : Hid (lmC mp md = 0) := Lib.hid (lmC_ok (by rw [HE.out, decide_eq_true hl]))
    obtain ⟨h3, h4, h5, h6⟩ := hl
    clear HE
    go_enter Tryz.func45, Tryz.ntmps45
    go_wp2
    go_ret
    exact ⟨by rw [HX.out]; rfl, HB.out⟩
  · have HX : Hid (lmC mp md = 2) := Lib.hid (lmC_bad (by rw [HE.out, decide_eq_false hl]; decide))
    have h3 : (mp < 16 ∨ (16 ≤ mp ∧ 1048576 < mp) ∨ (16 ≤ mp ∧ mp ≤ 1048576)) := by omega
    have h4 : (md < 0 ∨ (0 ≤ md ∧ 32 < md) ∨ (0 ≤ md ∧ md ≤ 32)) := by omega
    rcases h3 with h3 | ⟨h3, h3'⟩ | ⟨h3, h3'⟩ <;> rcases h4 with h4 | ⟨h4, h4'⟩ | ⟨h4, h4'⟩
    all_goals first
      | exact absurd (And.intro h3 (And.intro h3' (And.intro h4 h4'))) hl
      | (clear hl HE
         try have e4 : decide (md ≤ 32) = false := decide_eq_false (by omega)
         try have e3 : decide (mp ≤ 1048576) = false := decide_eq_false (by omega)
         go_enter Tryz.func45, Tryz.ntmps45
         go_wp2
         go_ret
         exact ⟨by rw [HX.out]; rfl, HB.out⟩)
set_option maxRecDepth 10000 in
theorem lmGreatest_any (w : World) : Calls Tryz.prog 46 #[] w fun e w' => e = .returned (limV 1048576 32) ∧ Below w.heap.size w w' := by
  have HB := Lib.hid ((Below.refl w.heap.size w).alloc (Nat.le_refl _) (.cells #[.int .i64 1048576, .int .i64 32] 54))
  have HK := Lib.hid (Bk.fresh w 54 #[.int .i64 1048576, .int .i64 32])
  go_enter Tryz.func46, Tryz.ntmps46
  go_wp2
  refine bodyPost_ret (results_lim rfl _ rfl HK.out) rfl ?_
  exact ⟨rfl, HB.out⟩
theorem hdR_small {v : Int} {s : ByteArray} (h : (hdR v s).2.2 = 0) : (hdR v s).1.n ≤ 268435455 ∧ (hdR v s).2.1 ≤ s.size := by
  obtain ⟨b1, b2, b3, b4, b5⟩ := hdR_back (v := v) (s := s) (h := (hdR v s).1) (a := (hdR v s).2.1) (by rw [← h])
  exact ⟨b2, b5⟩
set_option maxHeartbeats 2000000 in
set_option maxRecDepth 10000 in
theorem lmFirst_any (v mp : Int) (s : ByteArray) (w : World) (hm : 16 ≤ mp ∧ mp ≤ 1048576) (hs : s.size ≤ 1000000000000) : Calls Tryz.prog 99 #[.int .i64 v, .int .i64 mp, .string s] w (PkOut3 (smN v mp s) w) := by
  have HE : Hid (smN v mp s = if (hdR v s).2.2 ≠ 0 then (pk0, 0, (hdR v s).2.2) else if mp < ((hdR v s).2.1 + (hdR v s).1.n : Nat) then (pk0, 0, 4) else mqR v s) := Lib.hid (smN_first v mp s)
  have HS := Lib.hid hs; have HM := Lib.hid hm
  have HB := Lib.hid ((Below.refl w.heap.size w).alloc (Nat.le_refl _) (.cells (pkC pk0 hs0) PkT))
  have HK := Lib.hid (Bk.fresh w PkT (pkC pk0 hs0))
  have HHD := Lib.hid (fun W => hdRead_any v s W (by omega))
  have HBK := Lib.hid (hdR_small (v := v) (s := s))
  have HRD := Lib.hid (fun W => mqRead_any v s W hs)
  clear hs hm
  obtain ⟨R, hR⟩ : ∃ R, mqR v s = R := ⟨_, rfl⟩
  rw [hR] at HE HRD
  clear hR
  obtain ⟨⟨⟨k, f, n⟩, a, x⟩, hr⟩ : ∃ r, hdR v s = r := ⟨_, rfl⟩
  rw [hr] at HE HHD HBK
  simp only [hdrV] at HE HHD HBK
  clear hr
  go_enter Tryz.func99, Tryz.ntmps99
  go_wp2_with fail
  refine (HHD.out _).mono ?_
  rintro e w1 ⟨rfl, hb⟩
  have HB1 := Lib.hid (HB.out.trans (hb.mono HB.out.size))
  have HK1 := Lib.hid (HK.out.below hb HK.out.lt)
  clear hb HHD HB HK
  obtain ⟨y, hy⟩ : ∃ y, w1.alloc (.cells #[.int .i64 k, .int .i64 f, .int .i64 n] 112) = y := ⟨_, rfl⟩
  have HB2 : Hid (Below w.heap.size w y) := Lib.hid (by rw [← hy]; exact HB1.out.alloc HB1.out.size _)
  have HK2 : Hid (Bk y w.heap.size PkT (pkC pk0 hs0)) := Lib.hid (by rw [← hy]; exact HK1.out.alloc _)
  obtain ⟨gh, hgh⟩ : ∃ gh, w1.heap.size = gh := ⟨_, rfl⟩
  have HH : Hid (Bk y gh 112 #[.int .i64 k, .int .i64 f, .int .i64 n]) := Lib.hid (by rw [← hy, ← hgh]; exact Bk.fresh w1 _ _)
  go_upto_region 2 with fail
  clear hy hgh HB1 HK1
  clear w1
  have hst := run_stPk HK2.out pk0 hs0
  have HBD : Hid (Below w.heap.size w (putPk y w.heap.size pk0 hs0)) := Lib.hid (below_put HB2.out HB2.out.size (Nat.le_refl _) pk0 hs0)
  have HKP := Lib.hid (put_bk HK2.out pk0 hs0)
  by_cases hx : x = 0
  rotate_left
  · have HX : Hid (smN v mp s = (pk0, 0, x)) := Lib.hid (by rw [HE.out, if_pos hx])
    have e0 : (x != 0) = true := bne_iff_ne.2 hx
    clear hx
    go_wp2
    refine bodyPost_ret (results_pk3 rfl _ rfl HKP.out) rfl ?_
    exact pkOut3_bad HX.out HBD.out
  obtain ⟨b2, b3⟩ := HBK.out hx
  have HE1 : Hid (smN v mp s = if mp < (a + n : Nat) then (pk0, 0, 4) else R) := Lib.hid (by rw [HE.out, if_neg (fun z => z hx)])
  subst hx
  have hsz := HS.out; have hmm := HM.out
  have c0 := HH.out.cell 0; have c1 := HH.out.cell 1; have c2 := HH.out.cell 2
  simp only [List.getElem?_toArray, List.getElem?_cons_succ, List.getElem?_cons_zero] at c0 c1 c2
  have hsu : wrap64 (mp - (a : Int)) = mp - (a : Int) := by unfold wrap64; omega
  clear HE HBK
  by_cases hlt : mp < ((a + n : Nat) : Int)
  · have HX : Hid (smN v mp s = (pk0, 0, 4)) := Lib.hid (by rw [HE1.out, if_pos hlt])
    have d1 : decide (mp - (a : Int) < (n : Int)) = true := decide_eq_true (by omega)
    have d2 : mp - (a : Int) < (n : Int) := by omega
    have d3 : -9223372036854775808 ≤ mp - (a : Int) := by omega
    have d4 : mp - (a : Int) ≤ 9223372036854775807 := by omega
    clear hlt
    go_wp2
    refine bodyPost_ret (results_pk3 rfl _ rfl HKP.out) rfl ?_
    exact pkOut3_bad HX.out HBD.out
  have HX : Hid (smN v mp s = R) := Lib.hid (by rw [HE1.out, if_neg hlt])
  have d1 : decide (mp - (a : Int) < (n : Int)) = false := decide_eq_false (by omega)
  have d2 : (n : Int) ≤ mp - (a : Int) := by omega
  have d3 : -9223372036854775808 ≤ mp - (a : Int) := by omega
  have d4 : mp - (a : Int) ≤ 9223372036854775807 := by omega
  clear hlt HE1 hst HKP HBD
  go_wp2_with fail
  refine (HRD.out _).mono ?_
  rintro e w3 ⟨hh, rfl, hi3, hb3, hf3⟩
  have HB3 := Lib.hid (HB2.out.trans (hb3.mono HB2.out.size))
  have HK3 := Lib.hid (HK2.out.below hb3 HK2.out.lt)
  have hst := run_stPk HK3.out R.1 hh
  have I3 := Lib.hid hi3; have F3 := Lib.hid hf3; have HYL := Lib.hid HK2.out.lt
  clear hi3 hf3 hb3 c0 c1 c2 hsu d1 d2 d3 d4 hsz hmm b2 b3
  go_wp2
  refine bodyPost_ret (results_pk3 rfl _ rfl (put_bk HK3.out R.1 hh)) rfl ?_
  rw [HX.out]
  exact ⟨hh, rfl, I3.out.put HK3.out (putPk_mods _ _ _ _) F3.out HYL.out, below_put HB3.out HB3.out.size (Nat.le_refl _) R.1 hh, F3.out.mono (Nat.le_of_lt HYL.out)⟩
end Go.Proofs.YtbdgkkmbnahgiaaGreatDoor

namespace Go.Proofs.YtbdgkkmbnahgiaaGreatDoor
open Go.RowKit
attribute [local go_sem ↓] to_ldPk to_bxPk to_bdPk to_alPk to_stPk
attribute [local go_sem] run_bxPk run_bxPk_agg ld_fresh run_alPk run_bd0 run_bdK run_bdKI run_bdKIC run_bdKC run_bdKICP run_stPk_fresh pkC_0 pkC_1 pkC_2 pkC_3 pkC_4 pkC_5 pkC_6 pkC_7 pkC_8 pkC_9 pkC_10 pkC_11 pkC_12 pkC_13 pkC_14 pkC_15 pkC_16 pkC_17 pkC_18 pkC_19 pkC_20 pkC_21 pkC_22 pkC_23 pkC_24
attribute [local go_sem ↓] to_bsPk
attribute [local go_sem] run_bsPk
def SpRel (y : World) (R : Pk × Nat × Int) (pz nz ez : Value) (wx : World) : Prop := ∃ hh g, pz = .pointer (some ⟨g, 0, none⟩) ∧ nz = .int .i64 (R.2.1 : Nat) ∧ ez = .int .i64 R.2.2 ∧ y.heap.size ≤ g ∧ Bk wx g PkT (pkC R.1 hh) ∧ PkIn wx wx.heap.size R.1 hh ∧ Below y.heap.size y wx ∧ PkFresh y R.1 hh
theorem spRel_early {y w3 : World} {R : Pk × Nat × Int} {hh : Hs} (hi : PkIn w3 w3.heap.size R.1 hh) (hb : Below (y.alloc (.cells (pkC pk0 hs0) PkT)).drew.heap.size (y.alloc (.cells (pkC pk0 hs0) PkT)).drew w3) (hf : PkFresh (y.alloc (.cells (pkC pk0 hs0) PkT)).drew R.1 hh) :
    (stPk (.pointer (some ⟨y.heap.size, 0, none⟩)) (pkV R.1 hh)).run Tryz.prog w3 = .ok () (putPk w3 y.heap.size R.1 hh) ∧ SpRel y R (.pointer (some ⟨y.heap.size, 0, none⟩)) (.int .i64 (R.2.1 : Nat)) (.int .i64 R.2.2) (putPk w3 y.heap.size R.1 hh) := by
  have hk0 : Bk (y.alloc (.cells (pkC pk0 hs0) PkT)).drew y.heap.size PkT (pkC pk0 hs0) := (Bk.fresh y PkT (pkC pk0 hs0)).drewN 1
  have hk := hk0.below hb hk0.lt
  have hb0 : Below y.heap.size y (y.alloc (.cells (pkC pk0 hs0) PkT)).drew := below_drawn ((Below.refl y.heap.size y).alloc (Nat.le_refl _) (.cells (pkC pk0 hs0) PkT)) 1
  exact ⟨run_stPk hk R.1 hh, hh, y.heap.size, rfl, rfl, rfl, Nat.le_refl _, put_bk hk R.1 hh, hi.put hk (putPk_mods _ _ _ _) hf hk0.lt, below_put (hb0.trans (hb.mono hb0.size)) (Nat.le_trans hb0.size hb.size) (Nat.le_refl _) R.1 hh, hf.mono hb0.size⟩
theorem spRel_late {y w3 : World} {R : Pk × Nat × Int} {hh : Hs} (hi : PkIn w3 w3.heap.size R.1 hh) (hb : Below y.drew.heap.size y.drew w3) (hf : PkFresh y.drew R.1 hh) :
    SpRel y R (.pointer (some ⟨w3.heap.size, 0, none⟩)) (.int .i64 (R.2.1 : Nat)) (.int .i64 R.2.2) (w3.alloc (.cells (pkC R.1 hh) PkT)) :=
  ⟨hh, w3.heap.size, rfl, rfl, rfl, hb.size, Bk.fresh _ _ _, hi.next ((Below.refl _ _).alloc (Nat.le_refl _) _), ((below_drawn (Below.refl y.heap.size y) 1).trans hb).alloc hb.size _, hf⟩
theorem lmS_bad {v mp md : Int} (h : ¬ smOk v mp md = true) (s : ByteArray) : lmS v mp md s = ([], 0, 2) := if_neg h
theorem lmS_ok {v mp md : Int} (h : smOk v mp md = true) (s : ByteArray) : lmS v mp md s = ((smG v mp s 0 0 []).1, (smG v mp s 0 0 []).2.2.1, (smG v mp s 0 0 []).2.2.2.2) := if_pos h
theorem RowI.wide2 {w0 w' x : World} {A : Option Addr} {n c : Nat} {L : List (Pk × Hs)} (h : RowI w0 x A n c L) (hb : w'.heap.size ≤ w0.heap.size) : RowI w' x A n c L := by
  refine ⟨⟨h.row.len, ?_⟩, h.ins, h.apart⟩
  rcases h.row.lies with h1 | ⟨g, M, h1, h2, h3⟩
  · exact .inl h1
  · exact .inr ⟨g, M, h1, Nat.le_trans hb h2, h3⟩
/-- What stands while a text is split. -/
def SpL (w1 : World) (v mp : Int) (s : ByteArray) (RES : List Pk × Nat × Int) (lv zv : Value) (wr : World) : Prop := ∃ (A : Option Addr) (n c : Nat) (L : List (Pk × Hs)) (a : Nat), lv = .slice A n c ∧ zv = .int .i64 a ∧ RowI w1 wr A n c L ∧ Below w1.heap.size w1 wr ∧ n ≤ a ∧ a ≤ s.size ∧ RES = ((smG v mp (s.extract a s.size) a n (L.map Prod.fst)).1, (smG v mp (s.extract a s.size) a n (L.map Prod.fst)).2.2.1, (smG v mp (s.extract a s.size) a n (L.map Prod.fst)).2.2.2.2)
set_option maxHeartbeats 4000000 in
set_option maxRecDepth 10000 in
theorem lmSplit_any (v mp md : Int) (s : ByteArray) (w : World) (hs : s.size ≤ 10000000000) : Calls Tryz.prog 44 #[.int .i64 v, limV mp md, .string s] w (AllOut (lmS v mp md s) w) := by
  have HS := Lib.hid hs
  have HB := Lib.hid ((Below.refl w.heap.size w).alloc (Nat.le_refl _) (.cells #[.int .i64 mp, .int .i64 md] 54))
  have HK := Lib.hid (Bk.fresh w 54 #[.int .i64 mp, .int .i64 md])
  have HCK := Lib.hid (lmCheck_any mp md)
  have HKN : Hid (hdKnown v = decide (v = 4 ∨ v = 5)) := Lib.hid rfl
  obtain ⟨RES, hRES⟩ : ∃ R, lmS v mp md s = R := ⟨_, rfl⟩
  rw [hRES]
  have HRS := Lib.hid hRES
  unfold limV at *
  clear hs hRES
  go_enter Tryz.func44, Tryz.ntmps44
  go_upto_region 1 with fail
  go_cut [22] (fun z wx => z = .bool (!smOk v mp md) ∧ Below w.heap.size w wx ∧ Bk wx w.heap.size 54 #[.int .i64 mp, .int .i64 md])
  case first =>
    have hld : (w.alloc (.cells #[.int .i64 mp, .int .i64 md] 54)).cell? ⟨w.heap.size, 0, none⟩ = some (.int .i64 mp) := HK.out.cell 0
    have hld1 : (w.alloc (.cells #[.int .i64 mp, .int .i64 md] 54)).cell? ⟨w.heap.size, 1, none⟩ = some (.int .i64 md) := HK.out.cell 1
    go_wp2_with fail
    refine (HCK.out _).mono ?_
    rintro e w1 ⟨rfl, hb⟩
    have HB1 := Lib.hid (HB.out.trans (hb.mono HB.out.size))
    have HK1 := Lib.hid (HK.out.below hb HK.out.lt)
    clear hb hld hld1
    by_cases hl : lmOk mp md = true
    rotate_left
    · have HX : Hid (smOk v mp md = false) := Lib.hid (by rw [smOk_of, Bool.eq_false_iff.2 hl, Bool.and_false])
      rw [lmC_bad hl]
      clear hl
      go_wp2
      go_meet
      case rel => exact ⟨by rw [HX.out]; rfl, HB1.out, HK1.out⟩
    rw [lmC_ok hl]
    by_cases h4 : v = 4
    · have HX : Hid (smOk v mp md = true) := Lib.hid (by rw [smOk_of, hl, HKN.out, h4]; rfl)
      have e4 : (v != 4) = false := by rw [h4]; rfl
      clear hl h4
      go_wp2
      go_meet
      case rel => exact ⟨by rw [HX.out]; rfl, HB1.out, HK1.out⟩
    have e4 : (v != 4) = true := bne_iff_ne.2 h4
    by_cases h5 : v = 5
    · have HX : Hid (smOk v mp md = true) := Lib.hid (by rw [smOk_of, hl, HKN.out, h5]; rfl)
      have e5 : (v != 5) = false := by rw [h5]; rfl
      clear hl h4 h5
      go_wp2
      go_meet
      case rel => exact ⟨by rw [HX.out]; rfl, HB1.out, HK1.out⟩
    · have HX : Hid (smOk v mp md = false) := Lib.hid (by rw [smOk_of, hl, HKN.out, decide_eq_false (by omega)]; rfl)
      have e5 : (v != 5) = true := bne_iff_ne.2 h5
      clear hl h4 h5
      go_wp2
      go_meet
      case rel => exact ⟨by rw [HX.out]; rfl, HB1.out, HK1.out⟩
  obtain ⟨rfl, hb1, hk1⟩ := hcut
  obtain ⟨w1, hw1⟩ : ∃ x, x = wc := ⟨_, rfl⟩
  subst hw1
  have HB1 := Lib.hid hb1; have HK1 := Lib.hid hk1
  clear hb1 hk1 HB HK HCK HKN
  by_cases hok : smOk v mp md = true
  rotate_left
  · have HX : Hid (RES = ([], 0, 2)) := Lib.hid (by rw [← HRS.out]; exact lmS_bad hok s)
    have HR0 : Hid (RowI w w1 none 0 0 []) := Lib.hid (RowI.start w w1)
    rw [Bool.eq_false_iff.2 hok]
    clear hok
    go_wp2
    go_ret3
    exact allOut_of HR0.out HB1.out (a := 0) HX.out.symm (Nat.zero_le _)
  have HRES0 := lmS_ok hok s
  have HM : Hid (16 ≤ mp ∧ mp ≤ 1048576) := Lib.hid (by
    rw [smOk_of, Bool.and_eq_true] at hok
    have := of_decide_eq_true hok.2
    omega)
  rw [HRS.out] at HRES0
  have HRES : Hid (RES = ((smG v mp (s.extract 0 s.size) 0 0 []).1, (smG v mp (s.extract 0 s.size) 0 0 []).2.2.1, (smG v mp (s.extract 0 s.size) 0 0 []).2.2.2.2)) := Lib.hid (by
    rw [show s.extract 0 s.size = s from ls_ext (by rw [ls_back]; rfl)]
    exact HRES0)
  have HRD := Lib.hid (fun (a : Nat) W => lmFirst_any v mp (s.extract a s.size) W HM.out (by rw [ByteArray.size_extract]; have := HS.out; omega))
  rw [hok]
  clear HRES0 hok
  go_wp2
  go_loopw [6, 7] (fun lv zv wr => SpL w1 v mp s RES lv zv wr) (fun _ zv _ => s.size + 1 - (intOf zv).toNat)
  case atStart => exact ⟨none, 0, 0, [], 0, rfl, rfl, RowI.start w1 w1, Below.refl _ _, Nat.le_refl _, Nat.zero_le _, HRES.out⟩
  case round =>
    obtain ⟨A, n, c, L, a, rfl, rfl, hI, hB, h1, h2, hF⟩ := hrel
    have I0 := Lib.hid hI; have B0 := Lib.hid hB; have HN := Lib.hid h1; have HA := Lib.hid h2
    obtain ⟨⟨P, q, E⟩, hR⟩ : ∃ R, smN v mp (s.extract a s.size) = R := ⟨_, rfl⟩
    have HST := Lib.hid (sp_step hF hR)
    have HCL := Lib.hid (HRD.out a)
    rw [hR] at HCL
    have HKL := Lib.hid (HK1.out.below hB HK1.out.lt)
    clear hI hB h1 h2 hF hR
    have b1 : (0 : Int) ≤ (a : Int) := by omega
    have b2 : (a : Int) ≤ (s.size : Int) := by have := HA.out; omega
    have c0 := HKL.out.cell 0
    have a0 := (HKL.out.alloc (.cells (pkC pk0 hs0) PkT)).cell 0
    simp only [List.getElem?_toArray, List.getElem?_cons_zero] at c0 a0
    go_upto_region 3 with fail
    go_cut [9, 10, 11] (fun pz nz ez wx => SpRel wr (P, q, E) pz nz ez wx)
    case first =>
      go_region_law ((go_simp; go_at_call 99; refine (HCL.out _).mono ?_; rintro e w3 ⟨hh, rfl, hi3, hb3, hf3⟩; (first | (have hst3 := by (with_reducible exact (spRel_early hi3 hb3 hf3).1)) | skip); (first | (have hr3 := by (with_reducible exact (spRel_early hi3 hb3 hf3).2)) | (have hr3 := by (with_reducible exact spRel_late hi3 hb3 hf3)))))
      all_goals
        go_wp2
        go_meet
        case rel => with_reducible exact hr3
    obtain ⟨hh, g, rfl, rfl, rfl, hg, hkx, hix, hbx, hfx⟩ := hcut
    obtain ⟨wx, hwx⟩ : ∃ x, x = wc := ⟨_, rfl⟩
    subst hwx
    have KX := Lib.hid hkx; have IX := Lib.hid hix; have FX := Lib.hid hfx
    have I1 := Lib.hid (I0.out.below hbx)
    have B1 := Lib.hid (B0.out.trans (hbx.mono B0.out.size))
    have hld : (ldPk (.pointer (some ⟨g, 0, none⟩))).run Tryz.prog wx = .ok (pkV P hh) wx := ld_bk hkx
    have HNB : Hid (n ≤ 10000000000) := Lib.hid (by have := HN.out; have := HA.out; have := HS.out; omega)
    clear hg hkx hix hbx hfx c0 a0 b1 b2 HCL HKL
    dsimp only at IX FX
    by_cases h3 : E = 3
    · have HX := Lib.hid (HST.out.1 h3)
      subst h3
      go_wp2
      go_ret3
      exact allOut_of (I1.out.wide2 HB1.out.size) (HB1.out.trans (B1.out.mono HB1.out.size)) HX.out.symm HNB.out
    by_cases h0 : E = 0
    rotate_left
    · have HX := Lib.hid (HST.out.2.1 h0 h3)
      have e3 : (E == 3) = false := beq_eq_false_iff_ne.2 h3
      have e0 : (E != 0) = true := bne_iff_ne.2 h0
      clear h3 h0 HST
      go_wp2
      go_ret3
      exact allOut_of (I1.out.wide2 HB1.out.size) (HB1.out.trans (B1.out.mono HB1.out.size)) HX.out.symm HNB.out
    subst h0
    obtain ⟨hq, hF2⟩ := HST.out.2.2 rfl
    have HQ : Hid (2 ≤ q ∧ a + q ≤ s.size) := Lib.hid (by have := HA.out; omega)
    have HF2 : Hid (RES = ((smG v mp (s.extract (a + q) s.size) (a + q) (n + 1) ((L ++ [(P, hh)]).map Prod.fst)).1, (smG v mp (s.extract (a + q) s.size) (a + q) (n + 1) ((L ++ [(P, hh)]).map Prod.fst)).2.2.1, (smG v mp (s.extract (a + q) s.size) (a + q) (n + 1) ((L ++ [(P, hh)]).map Prod.fst)).2.2.2.2)) := Lib.hid (by
      rw [List.map_append]
      exact hF2)
    have I3 := Lib.hid (I1.out.below ((Below.refl _ _).alloc (Nat.le_refl _) (.cells (pkC P hh) PkT)))
    have B3 := Lib.hid (B1.out.alloc B1.out.size (.cells (pkC P hh) PkT))
    have P3 := Lib.hid (IX.out.next ((Below.refl _ _).alloc (Nat.le_refl _) (.cells (pkC P hh) PkT)))
    have R3 := Lib.hid (rd_pk1 wx P hh (g := wx.heap.size) rfl)
    have hadd : wrap64 ((a : Int) + (q : Int)) = ((a + q : Nat) : Int) := by have := HS.out; have := HQ.out; unfold wrap64; omega
    have HNB1 : Hid (n + 1 ≤ 100000000000) := Lib.hid (by have := HNB.out; omega)
    clear h3 HST hq hF2
    go_upto_region 9 with (at_builtin; refine wpList_appK rfl (.tmp 43) (.tmp 45) rfl (w0 := w1) (A := A) (n := n) (c := c) (L := L) rfl I3.out.row B3.out.size _ [(P, hh)] 1 1 _ rfl rfl (by decide) R3.out HNB1.out ?_; intro g' c' w3 hrow hgr hat hlt)
    have I4 := Lib.hid (I3.out.more hrow hgr hat (fun x hx => by rw [List.mem_singleton.1 hx]; exact P3.out) (fun x hx g o e => by rw [List.mem_singleton.1 hx]; exact FX.out.apart (I0.out.row.block e).2))
    have B4 := Lib.hid (below_app B3.out hgr B3.out.size (fun g hg => (I3.out.row.own hg).1))
    clear hrow hgr hat hlt I3 B3 P3 R3 hld
    go_wp2
    go_roundw
    case rel => exact ⟨some ⟨g', 0, none⟩, n + 1, c', L ++ [(P, hh)], a + q, rfl, (by first | rw [hadd] | rw [Int.natCast_add]), I4.out, B4.out, by have := HN.out; have := HQ.out; omega, HQ.out.2, HF2.out⟩
    case measure =>
      first | rw [hadd] | rw [← Int.natCast_add]
      simp only [intOf, Int.toNat_natCast]
      have := HQ.out
      omega
end Go.Proofs.YtbdgkkmbnahgiaaGreatDoor

namespace Go.Proofs.YtbdgkkmbnahgiaaGreatDoor
open Go.RowKit
def sxv (l : List ByteArray) : List Value := l.map Value.string
theorem Rd.atS {w : World} {B n : Nat} {A : Option Addr} {l : List ByteArray} (h : Rd w B 1 A n (sxv l)) {i : Nat} (hi : i < n) : ∃ b o z, A = some ⟨b, o, none⟩ ∧ b < B ∧ l[i]? = some z ∧ w.cell? ⟨b, o + i, none⟩ = some (.string z) := by
  obtain ⟨b, o, u, e, hb, hu, hc⟩ := h.at1 hi
  have hl : i < l.length := by have := h.len; simp [sxv] at this; omega
  refine ⟨b, o, l[i], e, hb, List.getElem?_eq_getElem hl, ?_⟩
  have : u = .string l[i] := by simpa [sxv, hl] using hu.symm
  rw [← this]; exact hc
end Go.Proofs.YtbdgkkmbnahgiaaGreatDoor

namespace Go.Proofs.YtbdgkkmbnahgiaaGreatDoor
open Go.RowKit
attribute [local go_sem ↓] to_ldPk to_bxPk to_bdPk to_alPk to_stPk
attribute [local go_sem] run_bxPk run_bxPk_agg ld_fresh run_alPk run_bd0 run_bdK run_bdKI run_bdKIC run_bdKC run_bdKICP run_stPk_fresh pkC_0 pkC_1 pkC_2 pkC_3 pkC_4 pkC_5 pkC_6 pkC_7 pkC_8 pkC_9 pkC_10 pkC_11 pkC_12 pkC_13 pkC_14 pkC_15 pkC_16 pkC_17 pkC_18 pkC_19 pkC_20 pkC_21 pkC_22 pkC_23 pkC_24
theorem smOk_ver {v mp md : Int} (h : smOk v mp md = true) : hdKnown v = true := by
  unfold smOk at h
  simp only [Bool.and_eq_true] at h
  exact h.1
end Go.Proofs.YtbdgkkmbnahgiaaGreatDoor

namespace Go.Proofs.YtbdgkkmbnahgiaaGreatDoor
open Go.RowKit
attribute [local go_sem ↓] to_ldPk to_bxPk to_bdPk to_alPk to_stPk
attribute [local go_sem] run_bxPk run_bxPk_agg ld_fresh run_alPk run_bd0 run_bdK run_bdKI run_bdKIC run_bdKC run_bdKICP run_stPk_fresh pkC_0 pkC_1 pkC_2 pkC_3 pkC_4 pkC_5 pkC_6 pkC_7 pkC_8 pkC_9 pkC_10 pkC_11 pkC_12 pkC_13 pkC_14 pkC_15 pkC_16 pkC_17 pkC_18 pkC_19 pkC_20 pkC_21 pkC_22 pkC_23 pkC_24
theorem smG_okP {v most : Int} : ∀ (N : Nat) (t : ByteArray) (a k : Nat) (l : List Pk), t.size ≤ N → N ≤ 1000000000000 → (∀ p ∈ l, PkOk p) → ∀ p ∈ (smG v most t a k l).1, PkOk p
  | N, t, a, k, l, hN, hb, hl => by
    rw [smG_step]
    split
    · rename_i h0
      have h1 := smN_step h0
      have hx : (t.extract (smN v most t).2.1 t.size).size = t.size - (smN v most t).2.1 := by rw [ByteArray.size_extract]; omega
      match N, hN, hb with
      | 0, hN, _ => omega
      | N + 1, hN, hb =>
        refine smG_okP N _ _ _ _ (by omega) (by omega) ?_
        intro p hp
        rcases List.mem_append.1 hp with hp | hp
        · exact hl p hp
        · rw [List.mem_singleton.1 hp]
          exact smN_ok (by omega)
    · split
      · exact hl
      · exact hl
theorem run_appK0 (A : Option Addr) (n c : Nat) (hn : n ≤ c) (X : Option Addr) (cx : Nat) (ty : TypeId) (w : World) :
    (Builtin.append_ #[48, 48] ty #[.slice A n c, .slice X 0 cx]).run Tryz.prog w = .ok (.slice A n c) w := by
  obtain ⟨i, hi, hz, hsize, hby⟩ := info_parts info_row
  have ht := Tryz.underlying48
  cases X <;> cases A <;> simp [Builtin.append_, run_underlying ht, sizeOf, typeInfo, hi, Builtin.lenOf, Builtin.firstCells, hn, loadCells, loadCellsFrom, storeCells]
theorem wpList_appR {w : World} {ops : Array Oper} {rest : List Oper} {o : Oper} {a : Act} {Q : Exit → Act → World → Prop} (hgd : o.guard = none) (s x : Operand)
    (ho : o.op = .call { callee := .builtin .append, args := #[s, x], argTypes := #[48, 48] })
    {w0 : World} {A : Option Addr} {n c : Nat} {L : List (Pk × Hs)} (hs : a.eval s = .slice A n c) (hr : RowI w0 w A n c L) (h0 : w0.heap.size ≤ w.heap.size) (X : Option Addr) (N : List (Pk × Hs)) (m cx : Nat) (hx : a.eval x = .slice X m cx) (hsr : RdK w X m N) (hap : ∀ y ∈ N, ∀ g o, A = some ⟨g, o, none⟩ → Apart g y) (hb : n + m ≤ 100000000000)
    (h : ∀ A' c' w', RowI w0 w' A' (n + m) c' (L ++ N) → w.grownBy w' (Value.slice A n c).ownBlock → wpList Tryz.prog ops Q rest (a.put o.dst (.slice A' (n + m) c')) w') : wpList Tryz.prog ops Q (o :: rest) a w := by
  rcases Nat.eq_zero_or_pos m with rfl | hm
  · obtain rfl : N = [] := List.eq_nil_of_length_eq_zero hsr.len
    refine wpList_plain hgd fun _ hK => ?_
    unfold Oper.wp execOp
    simp only [ho, resolve, invoke, builtin, Sem.run_bind, Sem.run_pure, Result.andThen_ok, List.map_toArray, List.map_cons, List.map_nil, hs, hx, run_appK0 A n c hr.row.cap X cx]
    exact hK _ _ (h A c w (by rw [List.append_nil]; exact hr) (World.grownBy.refl w _))
  · obtain ⟨X', rfl, -⟩ := hsr.rd.addr (by
      intro e
      have h1 := pks_len N
      have h2 := hsr.len
      rw [e] at h1
      simp at h1
      omega)
    exact wpList_appK hgd s x ho hs hr.row h0 X' N m cx _ hx hsr.len hm hsr.rd hb fun g c' w' h1 h2 h3 _ => h _ _ _ (hr.more h1 h2 h3 hsr.ins hap) h2
/-- What stands while a text's parts are fed to a stream, another one having been fed the whole: all but the row of all packets. -/
structure SCut (w wb : World) (v most md : Int) (ga gb gl : Nat) (R : List Pk × ByteArray × Nat × Nat × Int) (A1 : Option Addr) (m1 cm1 : Nat) (L1 : List (Pk × Hs)) (cv : Value) (C : List ByteArray) (t : ByteArray) (a k : Nat) (e : Int) (x : World) : Prop where
  sa : ∃ K n c, Bk x ga SmT (smC v most K n c R.2.2.1 R.2.2.2.1 R.2.2.2.2) ∧ Kp w x K n c (ls R.2.1) ∧ (∀ i, (Value.slice K n c).ownBlock = some i → i < wb.heap.size)
  one : RowI w x A1 m1 cm1 L1
  onelt : ∀ g o, A1 = some ⟨g, o, none⟩ → g < wb.heap.size
  ap0 : ∀ y ∈ L1, ∀ g, wb.heap.size ≤ g → Apart g y
  ap1 : ∀ y ∈ L1, Apart gb y
  sb : ∃ K n c, Bk x gb SmT (smC v most K n c a k e) ∧ Kp wb x K n c (ls t)
  lim : Bk x gl 54 #[.int .i64 most, .int .i64 md]
  chunks : x.ownsRow w.heap.size 9 1 cv C.length (sxv C)
  low : Below w.heap.size w x
  base : w.heap.size ≤ wb.heap.size ∧ wb.heap.size ≤ x.heap.size ∧ w.heap.size ≤ gb ∧ ga < wb.heap.size ∧ ga ≠ gb
section
variable {w wb : World} {v most md : Int} {ga gb gl : Nat} {R : List Pk × ByteArray × Nat × Nat × Int} {A1 : Option Addr} {m1 cm1 : Nat} {L1 : List (Pk × Hs)} {cv : Value} {C : List ByteArray} {t : ByteArray} {a k : Nat} {e : Int} {x y : World}
theorem SCut.below (s : SCut w wb v most md ga gb gl R A1 m1 cm1 L1 cv C t a k e x) (hb : Below x.heap.size x y) : SCut w wb v most md ga gb gl R A1 m1 cm1 L1 cv C t a k e y := by
  obtain ⟨K, n, c, h1, h2, h3⟩ := s.sa
  obtain ⟨K', n', c', h4, h5⟩ := s.sb
  obtain ⟨b1, b2, b3⟩ := s.base
  exact ⟨⟨K, n, c, h1.below hb h1.lt, h2.below hb, h3⟩, s.one.below hb, s.onelt, s.ap0, s.ap1, ⟨K', n', c', h4.below hb h4.lt, h5.below hb⟩, s.lim.below hb s.lim.lt, own_below s.chunks hb, s.low.trans (hb.mono s.low.size), b1, Nat.le_trans b2 hb.size, b3⟩
theorem own_fed (h : x.ownsRow w.heap.size 9 1 cv C.length (sxv C)) {K : Option Addr} {n c : Nat} {u : List UInt8} {cs : Array Value} (h4 : Bk x gb SmT cs) (h5 : Kp wb x K n c u) (hm : Mods (FS gb (Value.slice K n c).ownBlock) x y) : y.ownsRow w.heap.size 9 1 cv C.length (sxv C) := by
  refine own_mods h hm fun g hg hf => hf.elim (fun e => own_ne h h4 (by decide) (by rw [hg, e])) (fun e => ?_)
  rcases h5.lies with ⟨rfl, -⟩ | ⟨q, o, M, rfl, -, h6, -⟩
  · cases e
  · simp only [Value.ownBlock, Option.some.injEq] at e
    subst e
    exact own_ne h h6 (by decide) hg
/-- A chunk is fed. -/
theorem SCut.fed (s : SCut w wb v most md ga gb gl R A1 m1 cm1 L1 cv C t a k e x) {K' : Option Addr} {n' c' : Nat} (h4 : Bk x gb SmT (smC v most K' n' c' a k e)) (h5 : Kp wb x K' n' c' (ls t)) {r : List Pk × ByteArray × Nat × Nat × Int} {A2 : Option Addr} {m2 cm2 : Nat} {L2 : List (Pk × Hs)} {K2 : Option Addr} {n2 c2 : Nat}
    (F : FO wb x gb (Value.slice K' n' c').ownBlock v most r y A2 m2 cm2 L2 K2 n2 c2) : SCut w wb v most md ga gb gl R A1 m1 cm1 L1 cv C r.2.1 r.2.2.1 r.2.2.2.1 r.2.2.2.2 y := by
  obtain ⟨K, n, c, h1, h2, h3⟩ := s.sa
  obtain ⟨b1, b2, b3, b4, b5⟩ := s.base
  refine ⟨⟨K, n, c, h1.fed (by decide) b5 h5 F.mods, h2.fed h4 (fun i hi e => ?_) F.mods h5, h3⟩, s.one.fed h4 h5 F.mods s.ap1, s.onelt, s.ap0, s.ap1, ⟨K2, n2, c2, F.bk, F.kp⟩, s.lim.fed (by decide) (s.lim.ne h4 (by decide)) h5 F.mods, own_fed s.chunks h4 h5 F.mods, fed_below s.low b3 s.low.size h5 b1 F.mods, b1, Nat.le_trans b2 F.mods.size, b3, b4, b5⟩
  have := (h5.own e).1
  have := h3 i hi
  omega
/-- The row of all packets grows. -/
theorem SCut.app (s : SCut w wb v most md ga gb gl R A1 m1 cm1 L1 cv C t a k e x) {A : Option Addr} {m cm : Nat} {L : List (Pk × Hs)} (hr : RowI wb x A m cm L) (hm : x.grownBy y (Value.slice A m cm).ownBlock) : SCut w wb v most md ga gb gl R A1 m1 cm1 L1 cv C t a k e y := by
  obtain ⟨K, n, c, h1, h2, h3⟩ := s.sa
  obtain ⟨K', n', c', h4, h5⟩ := s.sb
  obtain ⟨b1, b2, b3⟩ := s.base
  have hM : Mods (fun i => (Value.slice A m cm).ownBlock = some i) x y := (Mods.refl x).app hm (fun i e => .inl e)
  refine ⟨⟨K, n, c, hr.row.bk hm h1 (by decide), h2.row hr.row hm, h3⟩, ⟨s.one.row.other hm fun g hg e => ?_, fun z hz => hr.row.keep hm (s.one.ins z hz) fun g o e => s.ap0 z hz g (hr.row.block e).1, s.one.apart⟩, s.onelt, s.ap0, s.ap1, ⟨K', n', c', hr.row.bk hm h4 (by decide), h5.row hr.row hm⟩, hr.row.bk hm s.lim (by decide), own_mods s.chunks hM fun g hg e => ?_, below_app s.low hm s.low.size (fun q hq => Nat.le_trans b1 (hr.row.own hq).1), b1, Nat.le_trans b2 hm.size, b3⟩
  · have := s.onelt g 0 hg
    have := (hr.row.own e).1
    omega
  · rcases hr.row.lies with ⟨rfl, -⟩ | ⟨q, M, rfl, -, h6, -⟩
    · cases e
    · simp only [Value.ownBlock, Option.some.injEq] at e
      subst e
      exact own_ne s.chunks h6 (by decide) hg
end
theorem RowI.wider {w0 w' x : World} {A : Option Addr} {n c : Nat} {L : List (Pk × Hs)} (h : RowI w0 x A n c L) (hb : w'.heap.size ≤ w0.heap.size) : RowI w' x A n c L := by
  refine ⟨⟨h.row.len, ?_⟩, h.ins, h.apart⟩
  rcases h.row.lies with h1 | ⟨g, M, h1, h2, h3⟩
  · exact .inl h1
  · exact .inr ⟨g, M, h1, Nat.le_trans hb h2, h3⟩
theorem RdK.none (x : World) : RdK x none 0 [] := ⟨Rd.nil _ _ _ _, by simp⟩
theorem strs_rd {w : World} {base : Nat} {c : Nat} {A : Option Addr} {n : Nat} {xs : List Value} (h : w.ownsRow base 9 1 (.slice A n c) n xs) : Rd w w.heap.size 1 A n xs := by
  obtain ⟨A', c', he, hc, hr⟩ := own_rd h
  cases he
  exact hr
theorem kept_short {v most : Int} (hm : 16 ≤ most) {T t : ByteArray} {a k : Nat} {l : List Pk} {e : Int} (h : smG v most T 0 0 [] = (l, t, a, k, e)) : (t.size : Int) ≤ most - 1 ∧ k = l.length ∧ t.size ≤ T.size ∧ a ≤ T.size ∧ k ≤ T.size := by
  obtain ⟨e1, e2, e3, e4, e5, e6⟩ := smG_end v most _ T 0 0 [] (Nat.le_refl _)
  rw [h] at e1 e2 e3 e4 e5
  dsimp only [List.length_nil] at e1 e2 e3 e4 e5
  refine ⟨?_, by omega, by omega, by omega, by omega⟩
  by_cases he : e = 0
  · exact (smNeed_range (e1 he) hm).2.2
  · rw [e2 he]
    show ((0 : Nat) : Int) ≤ most - 1
    omega
theorem joinT_mem {l : List ByteArray} {x : ByteArray} (h : x ∈ l) : x.size ≤ (joinT l).size := by
  obtain ⟨a, b, rfl⟩ := List.append_of_mem h
  rw [← ls_len, ← ls_len, joinT_ls, List.flatMap_append, List.flatMap_cons]
  simp only [List.length_append]
  omega
theorem joinT_step {l : List ByteArray} {i : Nat} {x : ByteArray} (h : l[i]? = some x) : joinT (l.take (i + 1)) = joinT (l.take i) ++ x := by
  obtain ⟨hi, rfl⟩ := List.getElem?_eq_some_iff.1 h
  rw [List.take_succ_eq_append_getElem hi, joinT_snoc]
theorem smOk_most {v mp md : Int} (h : smOk v mp md = true) : 16 ≤ mp ∧ mp ≤ 1048576 := by
  unfold smOk at h
  simp only [Bool.and_eq_true, decide_eq_true_eq] at h
  omega
end Go.Proofs.YtbdgkkmbnahgiaaGreatDoor

namespace Go.Proofs.YtbdgkkmbnahgiaaGreatDoor
open Go.RowKit Go.Shelf
open Go.Sort hiding Below
def lays189_ren : Ren := ⟨fun | 125 => 217 | 128 => 296 | 129 => 297 | 189 => 155 | 215 => 353 | 216 => 293 | 257 => 216 | 294 => 287 | 295 => 288 | 296 => 289 | 297 => 290 | 298 => 291 | 299 => 292 | 300 => 294 | 301 => 295 | 328 => 348 | 329 => 349 | 330 => 350 | 331 => 351 | 332 => 352 | 343 => 375 | n => n, fun | 0 => 0 | 3 => 3 | 4 => 4 | 5 => 5 | 9 => 9 | 28 => 26 | 46 => 103 | 51 => 100 | 53 => 82 | 131 => 220 | 182 => 240 | 183 => 241 | 218 => 273 | 222 => 277 | 228 => 300 | 229 => 284 | n => n, fun n => n⟩
theorem lays189 : Lays.n189 Tryz.prog lays189_ren where
  mixed := by kernel_rfl
  f125 := Tryz.func217.trans (congrArg some (by kernel_rfl))
  f128 := Tryz.func296.trans (congrArg some (by kernel_rfl))
  f129 := Tryz.func297.trans (congrArg some (by kernel_rfl))
  f189 := Tryz.func155.trans (congrArg some (by kernel_rfl))
  f215 := Tryz.func353.trans (congrArg some (by kernel_rfl))
  f216 := Tryz.func293.trans (congrArg some (by kernel_rfl))
  f257 := Tryz.func216.trans (congrArg some (by kernel_rfl))
  f294 := Tryz.func287.trans (congrArg some (by kernel_rfl))
  f295 := Tryz.func288.trans (congrArg some (by kernel_rfl))
  f296 := Tryz.func289.trans (congrArg some (by kernel_rfl))
  f297 := Tryz.func290.trans (congrArg some (by kernel_rfl))
  f298 := Tryz.func291.trans (congrArg some (by kernel_rfl))
  f299 := Tryz.func292.trans (congrArg some (by kernel_rfl))
  f300 := Tryz.func294.trans (congrArg some (by kernel_rfl))
  f301 := Tryz.func295.trans (congrArg some (by kernel_rfl))
  f328 := Tryz.func348.trans (congrArg some (by kernel_rfl))
  f329 := Tryz.func349.trans (congrArg some (by kernel_rfl))
  f330 := Tryz.func350.trans (congrArg some (by kernel_rfl))
  f331 := Tryz.func351.trans (congrArg some (by kernel_rfl))
  f332 := Tryz.func352.trans (congrArg some (by kernel_rfl))
  f343 := Tryz.func375.trans (congrArg some (by kernel_rfl))
  t0 := Tryz.underlying0
  a0 := Tryz.isAgg0
  z0 := Tryz.sizeOf0
  v0 := Tryz.zeroValue0
  t3 := Tryz.underlying3
  a3 := Tryz.isAgg3
  z3 := Tryz.sizeOf3
  v3 := Tryz.zeroValue3
  t4 := Tryz.underlying4
  a4 := Tryz.isAgg4
  z4 := Tryz.sizeOf4
  v4 := Tryz.zeroValue4
  t5 := Tryz.underlying5
  a5 := Tryz.isAgg5
  z5 := Tryz.sizeOf5
  v5 := Tryz.zeroValue5
  t9 := Tryz.underlying9
  a9 := Tryz.isAgg9
  z9 := Tryz.sizeOf9
  v9 := Tryz.zeroValue9
  t28 := Tryz.underlying26
  a28 := Tryz.isAgg26
  z28 := Tryz.sizeOf26
  v28 := Tryz.zeroValue26
  t46 := Tryz.underlying103
  a46 := Tryz.isAgg103
  z46 := Tryz.sizeOf103
  v46 := Tryz.zeroValue103
  t51 := Tryz.underlying100
  a51 := Tryz.isAgg100
  z51 := Tryz.sizeOf100
  v51 := Tryz.zeroValue100
  t53 := Tryz.underlying82
  a53 := Tryz.isAgg82
  z53 := Tryz.sizeOf82
  v53 := Tryz.zeroValue82
  t131 := Tryz.underlying220
  a131 := Tryz.isAgg220
  z131 := Tryz.sizeOf220
  v131 := Tryz.zeroValue220
  t182 := Tryz.underlying240
  a182 := Tryz.isAgg240
  z182 := Tryz.sizeOf240
  v182 := Tryz.zeroValue240
  t183 := Tryz.underlying241
  a183 := Tryz.isAgg241
  z183 := Tryz.sizeOf241
  v183 := Tryz.zeroValue241
  t218 := Tryz.underlying273
  a218 := Tryz.isAgg273
  z218 := Tryz.sizeOf273
  v218 := Tryz.zeroValue273
  t222 := Tryz.underlying277
  a222 := Tryz.isAgg277
  z222 := Tryz.sizeOf277
  v222 := Tryz.zeroValue277
  t228 := Tryz.underlying300
  a228 := Tryz.isAgg300
  z228 := Tryz.sizeOf300
  v228 := Tryz.zeroValue300
  t229 := Tryz.underlying284
  a229 := Tryz.isAgg284
  z229 := Tryz.sizeOf284
  v229 := Tryz.zeroValue284
def laysH10_ren : Ren := ⟨fun | 6 => 215 | 10 => 152 | n => n, fun | 0 => 0 | 3 => 3 | 4 => 4 | 22 => 26 | 23 => 3 | 25 => 104 | n => n, fun n => n⟩
theorem laysH10 : SlLaysH.n10 Tryz.prog laysH10_ren where
  mixed := by kernel_rfl
  f6 := ⟨Tryz.f215.name, by kernel_rfl, Tryz.func215.trans (congrArg some (by kernel_rfl))⟩
  f10 := ⟨Tryz.f152.name, by kernel_rfl, Tryz.func152.trans (congrArg some (by kernel_rfl))⟩
  t0 := Tryz.underlying0
  a0 := Tryz.isAgg0
  z0 := Tryz.sizeOf0
  v0 := Tryz.zeroValue0
  t3 := Tryz.underlying3
  a3 := Tryz.isAgg3
  z3 := Tryz.sizeOf3
  v3 := Tryz.zeroValue3
  t4 := Tryz.underlying4
  a4 := Tryz.isAgg4
  z4 := Tryz.sizeOf4
  v4 := Tryz.zeroValue4
  t22 := Tryz.underlying26
  a22 := Tryz.isAgg26
  z22 := Tryz.sizeOf26
  v22 := Tryz.zeroValue26
  a23 := Tryz.isAgg3
  z23 := Tryz.sizeOf3
  t25 := Tryz.underlying104
  a25 := Tryz.isAgg104
  z25 := Tryz.sizeOf104
  v25 := Tryz.zeroValue104
theorem lim_info_int : (Tryz.prog.info? 3).map (fun i => (i.zero, i.size, i.bytes)) = some (some (.int .i64 0), 1, 8) := by kernel_rfl
theorem lim_info_str : (Tryz.prog.info? 9).map (fun i => (i.zero, i.size, i.bytes)) = some (some (.string ⟨#[]⟩), 1, 16) := by kernel_rfl
theorem lim_one (l : List Int) : ∀ u ∈ iv l, u.oneCell' = true := by
  intro u hu
  obtain ⟨z, -, rfl⟩ := List.mem_map.1 hu
  rfl
/-- slices.Clone at ints: nil stays nil. -/
theorem cloneN_any (n c : Nat) (w : World) : Calls Tryz.prog 153 #[.slice none n c] w fun e w' => e = .returned (.slice none 0 0) ∧ w = w' := by
  have q22 : ∀ (w : World) (a : Option Addr) (n c n' c' : Nat), (binOp .eql 26 (.slice a n c) (.slice none n' c')).run Tryz.prog w = .ok (.bool a.isNone) w := fun w a n c n' c' => Lib.run_eql_slice_nil w _ _ a n c n' c' Tryz.underlying26
  go_enter Tryz.func153, Tryz.ntmps153
  go_wp2
  go_ret
  exact ⟨rfl, rfl⟩
set_option maxHeartbeats 400000 in
set_option maxRecDepth 10000 in
theorem cloneS_any (ad : Addr) (l : List Int) (c : Nat) (w : World) (h : Rd w w.heap.size 1 (some ad) l.length (iv l)) (hl : l.length ≤ 1000000) :
    Calls Tryz.prog 153 #[.slice (some ad) l.length c] w fun e w' => ∃ v, e = .returned v ∧ w'.ownsRow w.heap.size 3 1 v l.length (iv l) ∧ Below w.heap.size w w' ∧ v ≠ .slice none 0 0 := by
  have H := Lib.hid h; clear h
  have q22 : ∀ (w : World) (a : Option Addr) (n c n' c' : Nat), (binOp .eql 26 (.slice a n c) (.slice none n' c')).run Tryz.prog w = .ok (.bool a.isNone) w := fun w a n c n' c' => Lib.run_eql_slice_nil w _ _ a n c n' c' Tryz.underlying26
  go_enter Tryz.func153, Tryz.ntmps153
  go_wp2_with (at_builtin; refine wpList_app _ rfl (.tmp 5) (.tmp 6) 26 rfl w.heap.size 3 _ 1 8 Tryz.underlying26 lim_info_int rfl (by decide) (.slice (some ⟨w.heap.size, 0, none⟩) 0 0) 0 [] rfl (own_empty w w.heap.size _ 1 (Nat.le_refl _)) _ _ _ _ (iv l) rfl (H.out.alloc (Nat.le_refl _) _) (lim_one _) (by unfold maxLen; omega) (by omega) (by simp) ?_; intro v' w3 hown3 hg3 hat3)
  go_ret
  refine ⟨v', rfl, by simpa using hown3, below_app ((Below.refl _ _).alloc (Nat.le_refl _) _) hg3 (by simp) (fun g hg => ?_), ?_⟩
  · have : w.heap.size = g := by simpa [Value.ownBlock] using hg
    omega
  · rintro rfl
    simp [Value.ownBlock] at hat3
set_option maxHeartbeats 400000 in
/-- The places that are struck: those without the text. -/
theorem strike_any (n : Nat) (z : Int) (B : Nat) (w : World) (hc : w.cell? ⟨B, 0, none⟩ = some (.int .i64 n)) :
    FnGives Tryz.prog 154 #[.pointer (some ⟨B, 0, none⟩)] #[.int .i64 z] (.bool (!plIn n z)) w := by
  show Calls Tryz.prog 154 #[.int .i64 z, .pointer (some ⟨B, 0, none⟩)] w _
  have HX : Hid (plIn n z = (decide (0 ≤ z) && decide (z ≤ (n : Int)))) := Lib.hid rfl
  by_cases h0 : z < 0
  · have HY : Hid (plIn n z = false) := Lib.hid (by rw [HX.out, decide_eq_false (by omega)]; rfl)
    go_enter Tryz.func154, Tryz.ntmps154
    go_wp2
    go_ret
    exact ⟨by rw [HY.out]; rfl, 0, rfl⟩
  · have h0' : 0 ≤ z := by omega
    by_cases h1 : (n : Int) < z
    · have HY : Hid (plIn n z = false) := Lib.hid (by rw [HX.out, decide_eq_false (show ¬ z ≤ (n : Int) by omega), Bool.and_false])
      go_enter Tryz.func154, Tryz.ntmps154
      go_wp2
      go_ret
      exact ⟨by rw [HY.out]; rfl, 0, rfl⟩
    · have h1' : z ≤ (n : Int) := by omega
      have HY : Hid (plIn n z = true) := Lib.hid (by rw [HX.out, decide_eq_true h0', decide_eq_true h1']; rfl)
      clear h0 h1
      go_enter Tryz.func154, Tryz.ntmps154
      go_wp2
      go_ret
      refine ⟨?_, 0, rfl⟩
      rw [HY.out]
      simp; omega
set_option maxHeartbeats 400000 in
theorem idxN_any (f : Value) (c : Nat) (w : World) : Calls Tryz.prog 215 #[.slice none 0 c, f] w fun e w' => e = .returned (.int .i64 (-1)) ∧ w = w' := by
  go_enter Tryz.func215, Tryz.ntmps215
  go_wp2
  go_loopw [8] (fun i wr => i = .int .i64 0 ∧ w = wr) (fun i _ => 0)
  case atStart => exact ⟨rfl, rfl⟩
  case round =>
    obtain ⟨rfl, rfl⟩ := hrel
    go_wp2
    go_ret
    exact ⟨rfl, rfl⟩
set_option maxHeartbeats 400000 in
theorem delN_any (f : Value) (c : Nat) (w : World) : Calls Tryz.prog 152 #[.slice none 0 c, f] w fun e w' => e = .returned (.slice none 0 c) ∧ w = w' := by
  go_enter Tryz.func152, Tryz.ntmps152
  go_wp2_with fail
  refine (idxN_any f c _).mono ?_
  rintro e w1 ⟨rfl, rfl⟩
  go_wp2
  go_ret
  exact ⟨rfl, rfl⟩
/-- Below, behind a row of ints rewritten in a block of the call's own. -/
theorem below_row {B g n : Nat} {a w : World} {os : Array Obj} (d : Array Int) (h : Below B a w) (hB : B ≤ w.heap.size) (hg : B ≤ g) : Below B a (grow (putRow (Value.int .i64) (Sort.ahead w n) g 0 d) os) :=
  h.grown (grownBy_sortedI d) hB (fun k hk => by cases hk; exact hg)
theorem row_plain {w : World} {g n : Nat} (d : Array Int) : putRow (Value.int .i64) (Sort.ahead w n) g 0 d = grow (putRow (Value.int .i64) (Sort.ahead w n) g 0 d) #[] := (grow_empty _).symm
theorem holds_front {w : World} {g : Nat} {l m : List Int} (h : Holds (Value.int .i64) w g 0 (l ++ m).toArray) : Holds (Value.int .i64) w g 0 l.toArray := fun j hj => by
  have hj' : j < l.length := by simpa using hj
  have := h j (by simp; omega)
  have e : (l ++ m).toArray[j]! = l.toArray[j]! := by
    rw [getElem!_pos (l ++ m).toArray j (by simp; omega), getElem!_pos l.toArray j hj]
    simp [List.getElem_append_left hj']
  rwa [e] at this
theorem sort_ints (blk cap : Nat) (zs : List Int) (w : World) (hH : Holds (Value.int .i64) w blk 0 zs.toArray) (hblk : blk < w.heap.size) (hsz : zs.length < 4611686018427387904) :
    Calls Tryz.prog 155 #[.slice (some ⟨blk, 0, none⟩) zs.length cap] w fun e w' =>
      e = .returned (.tuple #[]) ∧ ∃ n os, w' = grow (putRow (Value.int .i64) (Sort.ahead w n) blk 0 (zs.mergeSort fun x y => decide (x ≤ y)).toArray) os := Any.slices_Sort_int lays189 blk 0 cap zs w hH hblk hsz
set_option maxHeartbeats 400000 in
/-- slices.DeleteFunc at the places: what is left lies in front. -/
theorem del_ints (n blk cap B : Nat) (l : List Int) (w : World) (hB : w.cell? ⟨B, 0, none⟩ = some (.int .i64 n)) (hBlt : B < w.heap.size) (hne : B ≠ blk) (hH : Holds (Value.int .i64) w blk 0 l.toArray) (hl : l.length ≤ 1000000) (hc : l.length ≤ cap) :
    Calls Tryz.prog 152 #[.slice (some ⟨blk, 0, none⟩) l.length cap, .func (.func 154) #[] #[.pointer (some ⟨B, 0, none⟩)]] w fun e w' =>
      e = .returned (.slice (some ⟨blk, 0, none⟩) (l.filter (plIn n)).length cap) ∧ ∃ q, w' = putRow (Value.int .i64) (Sort.ahead w q) blk 0 (l.filter (plIn n) ++ List.replicate (l.length - (l.filter (plIn n)).length) 0).toArray := by
  have eg : ∀ args w, (callFunc 154 args).run Tryz.prog w = .ok (.enter 154 args) w := enters_of Tryz.func154 (by kernel_rfl) rfl
  have h := AnyE.slices_DeleteFunc laysH10 (Value.int .i64) (fun _ => rfl) (fun z => !plIn n z) 154 #[.pointer (some ⟨B, 0, none⟩)] eg 0 Tryz.zeroValue3 blk 0 cap l.toArray w
    (fun W x hb => strike_any n x B W ((hb.cell (p := ⟨B, 0, none⟩) hBlt).trans hB))
    (fun m os dk x _ => strike_any n x B _ (by
      unfold sortWorld
      rw [cell?_grow _ _ _ (by show B < (putRow _ _ _ _ _).heap.size; rw [size_putRow]; exact hBlt), cell?_putRow_other _ _ blk 0 _ _ (Or.inl hne)]
      exact hB)) hH (by simp; omega) (by simpa using hc)
  have e1 : (l.toArray.toList.filter fun x => !(fun z => !plIn n z) x) = l.filter (plIn n) := by simp
  rw [e1] at h
  simp only [List.size_toArray] at h
  exact h
set_option maxHeartbeats 1000000 in
set_option maxRecDepth 10000 in
theorem places_any (n : Nat) (A : Option Addr) (l : List Int) (c : Nat) (w : World) (hr : Rd w w.heap.size 1 A l.length (iv l)) (hl : l.length ≤ 1000000) :
    Calls Tryz.prog 100 #[.int .i64 n, .slice A l.length c] w fun e w' => ∃ A' c', e = .returned (.slice A' (plL n l).length c') ∧ Rd w' w'.heap.size 1 A' (plL n l).length (iv (plL n l)) ∧ Below w.heap.size w w' := by
  have HR := Lib.hid hr
  have HB := Lib.hid ((Below.refl w.heap.size w).alloc (Nat.le_refl _) (.cells #[.int .i64 n] 3))
  have HC := Lib.hid (Bk.fresh w 3 #[.int .i64 n])
  clear hr
  have HS : Hid (plL n l = ((l.filter (plIn n)).mergeSort fun x y => decide (x ≤ y))) := Lib.hid rfl
  have HQ : Hid (plL n [] = []) := Lib.hid (plL_is (List.Perm.refl _) List.Pairwise.nil)
  rcases A with _ | ad
  · have hn : l = [] := by
      rcases HR.out.2 with h0 | ⟨b, o, h, _⟩
      · simpa [iv] using h0
      · cases h
    subst hn
    go_enter Tryz.func100, Tryz.ntmps100
    go_wp2_with fail
    refine (cloneN_any _ _ _).mono ?_
    rintro e w1 ⟨rfl, rfl⟩
    go_wp2_with fail
    refine (delN_any _ _ _).mono ?_
    rintro e w1 ⟨rfl, rfl⟩
    go_wp2_with fail
    refine (Any.slices_Sort_int_none lays189 none 0 _).mono ?_
    rintro e w1 ⟨rfl, rfl⟩
    go_wp2
    go_ret
    rw [HQ.out]
    exact ⟨none, 0, rfl, Rd.nil _ _ _ _, HB.out⟩
  · go_enter Tryz.func100, Tryz.ntmps100
    go_wp2_with fail
    refine (cloneS_any ad l c _ (HR.out.alloc (Nat.le_refl _) _ |>.wider (by simp)) hl).mono ?_
    rintro e w1 ⟨v, rfl, hown, hb, hne⟩
    rcases hown.2 with ⟨h0, _⟩ | ⟨g, cap, cur, rfl, hg1, hg2, hg3, hg4, hg5, hg6⟩
    · exact absurd h0 hne
    have HB1 := Lib.hid (HB.out.trans (hb.mono HB.out.size))
    have hC1 := HC.out.below hb HC.out.lt
    have HH : Hid (Holds (Value.int .i64) w1 g 0 l.toArray) := Lib.hid (holds_of_blockI hg2 (by simpa [iv] using hg6))
    have HG := Lib.hid hg2
    have hgl : g < w1.heap.size := (Array.getElem?_eq_some_iff.1 hg2).1
    have hgw0 : w.heap.size + 1 ≤ g := by simpa using hg1
    have hgw : w.heap.size < g := hgw0
    have HD := Lib.hid (del_ints n g cap w.heap.size l w1 (hC1.cell 0) hC1.lt (by omega) HH.out hl hg3)
    have HK := Lib.hid (And.intro hg3 (And.intro hg4 hg5))
    clear hown hb hne hg2 hg6 hC1 hg3 hg4 hg5
    go_wp2_with fail
    refine HD.out.mono ?_
    rintro e w2 ⟨rfl, q, hw2⟩
    have hfl : (l.filter (plIn n)).length ≤ l.length := List.length_filter_le _ _
    have H2 : w2.heap[g]? = some (.cells (putCells (Value.int .i64) 0 (l.filter (plIn n) ++ List.replicate (l.length - (l.filter (plIn n)).length) 0).toArray cur) 3 (0, 0)) := by
      have := heap_sortedI (n := q) (os := #[]) (l.filter (plIn n) ++ List.replicate (l.length - (l.filter (plIn n)).length) 0).toArray HG.out
      rw [grow_empty] at this
      rw [hw2]
      exact this
    have HH2 : Hid (Holds (Value.int .i64) w2 g 0 (l.filter (plIn n)).toArray) := Lib.hid (by
      rw [hw2]
      exact holds_front (holds_putRow _ _ g 0 l.toArray _ (holds_ahead _ _ q g 0 _ HH.out) (by simp; omega)))
    have HB2 : Hid (Below w.heap.size w w2) := Lib.hid (by
      rw [hw2, row_plain]
      exact below_row _ HB1.out HB1.out.size (by omega))
    have hg2 : g < w2.heap.size := (Array.getElem?_eq_some_iff.1 H2).1
    have HG2 := Lib.hid H2
    have HFL := Lib.hid hfl
    clear H2 hw2 hfl
    go_wp2_with fail
    refine (sort_ints g cap (l.filter (plIn n)) w2 HH2.out hg2 (by have := HFL.out; omega)).mono ?_
    rintro e w3 ⟨rfl, n3, os, hw3⟩
    have HO := Lib.hid (ownsRow_sortedI (n := n3) (os := os) (base := w.heap.size) (ss := l.filter (plIn n)) (ts := plL n l) (plL_len n l) (by omega) HG2.out (by have := HFL.out; have := HK.out.1; omega) HK.out.2.1 (by simpa [putCells] using HK.out.2.2))
    rw [← HS.out] at hw3
    have HO3 : Hid (w3.ownsRow w.heap.size 3 1 (.slice (some ⟨g, 0, none⟩) (l.filter (plIn n)).length cap) (l.filter (plIn n)).length (iv (plL n l))) := Lib.hid (by rw [hw3]; exact HO.out)
    have HB3 : Hid (Below w.heap.size w w3) := Lib.hid (by
      rw [hw3]
      exact below_row _ HB2.out HB2.out.size (by omega))
    have HPL := Lib.hid (plL_len n l)
    clear hw3
    go_wp2
    go_ret
    obtain ⟨A', c', he, hc, hr⟩ := own_rd HO3.out
    cases he
    rw [← HPL.out] at hr ⊢
    exact ⟨_, _, rfl, hr, HB3.out⟩

set_option maxHeartbeats 2000000 in
set_option maxRecDepth 10000 in
theorem chunks_any (s : ByteArray) (A : Option Addr) (l : List Int) (c : Nat) (w : World) (hr : Rd w w.heap.size 1 A l.length (iv l)) (hl : l.length ≤ 1000000) (hs : s.size ≤ 140737488351232) :
    Calls Tryz.prog 49 #[.string s, .slice A l.length c] w fun e w' => ∃ v, e = .returned v ∧ w'.ownsRow w.heap.size 9 1 v (lkL s (plL s.size l)).length (txv (lkL s (plL s.size l))) ∧ Below w.heap.size w w' := by
  have HR := Lib.hid hr; have HS := Lib.hid hs
  have HPL := Lib.hid (places_any s.size A l c w hr hl)
  have HOK := Lib.hid (plL_ok s.size l)
  have HLL : Hid ((plL s.size l).length ≤ 1000000) := Lib.hid (Nat.le_trans (plL_short s.size l) hl)
  clear hr hs hl
  generalize plL s.size l = L at *
  go_enter Tryz.func49, Tryz.ntmps49
  go_wp2_with fail
  refine HPL.out.mono ?_
  rintro e w1 ⟨A', c', rfl, hr1, hb1⟩
  have HR1 := Lib.hid hr1; have HB1 := Lib.hid hb1
  clear hr1 hb1 HPL
  go_wp2
  go_loopw [5, 6, 14] (fun o f i wr => ∃ k : Nat, k ≤ L.length ∧ i = .int .i64 k ∧ f = .int .i64 (lkA L k) ∧ wr.ownsRow w1.heap.size 9 1 o k (txv ((List.range k).map (lkS s L))) ∧ Below w1.heap.size w1 wr) (fun _ _ i _ => L.length - (intOf i).toNat)
  case atStart => exact ⟨0, by omega, rfl, by rw [lkA_zero]; rfl, World.ownsRow_nil _ _ _ _, Below.refl _ _⟩
  case round =>
    obtain ⟨k, hk, rfl, rfl, hown, hbel⟩ := hrel
    have HO := Lib.hid hown; have HB := Lib.hid hbel
    have hsz := hbel.size
    have HD := HLL.out
    clear hown
    by_cases hlt : k < L.length
    · obtain ⟨bA, oA, z, rfl, hb, hz, hc⟩ := (HR1.out.below hbel).atI hlt
      have hzL : L[k] = z := by rw [List.getElem?_eq_getElem hlt] at hz; exact Option.some.inj hz
      have h1 := HOK.out.at hlt
      rw [hzL] at h1
      have h2 := HOK.out.le hk
      rw [lkZ_lt hlt] at h2
      have HX : Hid (lkS s L k = s.extract (lkA L k) (lkA L (k + 1))) := Lib.hid (by unfold lkS; rw [lkZ_lt hlt])
      have HZ := Lib.hid hz
      obtain ⟨a, ha⟩ : ∃ a, lkA L k = a := ⟨_, rfl⟩
      obtain ⟨q, hq⟩ : ∃ q, lkA L (k + 1) = q := ⟨_, rfl⟩
      have HQ := Lib.hid hq
      rw [hq] at h1 h2 HX
      rw [ha] at h2 HX ⊢
      obtain ⟨h1, h3⟩ := h1
      subst h1
      have c1 : (0 : Int) ≤ (a : Int) := by omega
      have c2 : (a : Int) ≤ (q : Int) := by omega
      have c3 : (q : Int) ≤ (s.size : Int) := by omega
      have b1 : (0 : Int) ≤ (k : Int) := by omega
      have b2 : (k : Int) < (L.length : Int) := by omega
      have HT : Hid (txv ((List.range (k + 1)).map (lkS s L)) = txv ((List.range k).map (lkS s L)) ++ [.string (s.extract a q)]) := Lib.hid (by rw [lkL_take, txv_snoc, HX.out])
      clear hz hzL h2 h3 hq ha
      go_wp2_with (at_builtin; refine wpList_app _ rfl (.tmp 18) (.tmp 23) 55 rfl w1.heap.size 9 (.string ⟨#[]⟩) 1 16 Tryz.underlying55 lim_info_str rfl (by decide) u5 _ _ rfl (HO.out.alloc _) _ _ 1 1 [.string (s.extract a q)] rfl (Rd.lit _ _ _ rfl (Nat.lt_succ_self _) rfl) (txv_one [s.extract a q]) (by unfold maxLen; omega) (by omega) (by simp; omega) ?_; intro v' w3 hown3 hg3 hat3)
      have R : w3.ownsRow w1.heap.size 9 1 v' (k + 1) (txv ((List.range (k + 1)).map (lkS s L))) ∧ Below w1.heap.size w1 w3 := by
        refine ⟨by rw [HT.out]; exact hown3, ?_⟩
        exact below_app (HB.out.alloc (by omega) _) hg3 (by simp; omega) (fun g hg => (own_block HO.out g hg).1)
      clear hown3 hg3 hat3
      go_wp2
      go_roundw
      case rel => exact ⟨k + 1, by omega, by go_num, by rw [HQ.out], R.1, R.2⟩
      case measure => simp [intOf]; omega
    · obtain rfl : k = L.length := by omega
      have h2 := HOK.out.le (Nat.le_refl _)
      rw [lkZ_end (Nat.lt_irrefl _)] at h2
      have HX : Hid (lkS s L L.length = s.extract (lkA L L.length) s.size) := Lib.hid (by unfold lkS; rw [lkZ_end (Nat.lt_irrefl _)])
      obtain ⟨a, ha⟩ : ∃ a, lkA L L.length = a := ⟨_, rfl⟩
      rw [ha] at h2 HX ⊢
      have c1 : (0 : Int) ≤ (a : Int) := by omega
      have c2 : (a : Int) ≤ (s.size : Int) := by omega
      have HT : Hid (txv (lkL s L) = txv ((List.range L.length).map (lkS s L)) ++ [.string (s.extract a s.size)]) := Lib.hid (by unfold lkL; rw [lkL_take, txv_snoc, HX.out])
      clear h2 ha
      go_wp2_with (at_builtin; refine wpList_app _ rfl (.tmp 27) (.tmp 31) 55 rfl w1.heap.size 9 (.string ⟨#[]⟩) 1 16 Tryz.underlying55 lim_info_str rfl (by decide) u5 _ _ rfl (HO.out.alloc _) _ _ 1 1 [.string (s.extract a s.size)] rfl (Rd.lit _ _ _ rfl (Nat.lt_succ_self _) rfl) (txv_one [s.extract a s.size]) (by unfold maxLen; omega) (by omega) (by simp; omega) ?_; intro v' w3 hown3 hg3 hat3)
      have R : w3.ownsRow w.heap.size 9 1 v' (lkL s L).length (txv (lkL s L)) ∧ Below w.heap.size w w3 := by
        rw [HT.out, lkL_len]
        refine ⟨own_wider hown3 HB1.out.size, HB1.out.trans ((below_app (HB.out.alloc (by omega) _) hg3 (by simp; omega) (fun g hg => (own_block HO.out g hg).1)).mono HB1.out.size)⟩
      clear hown3 hg3 hat3
      go_wp2
      go_ret
      exact ⟨v', rfl, R.1, R.2⟩
end Go.Proofs.YtbdgkkmbnahgiaaGreatDoor

namespace Go.Proofs.YtbdgkkmbnahgiaaGreatDoor
open Go.RowKit

set_option maxHeartbeats 400000 in
set_option maxRecDepth 10000 in
theorem sameT_any (A A' : Option Addr) (n m c c' : Nat) (l l' : List ByteArray) (w : World) (hl : Rd w w.heap.size 1 A n (txv l)) (hm : Rd w w.heap.size 1 A' m (txv l')) (hn : n ≤ 9223372036854775807) (hn' : m ≤ 9223372036854775807) (he : l = l') :
    Calls Tryz.prog 48 #[.slice A n c, .slice A' m c'] w fun e w' => e = .returned (.bool true) ∧ Below w.heap.size w w' := by
  subst he
  have e1 : l.length = n := by have := hl.len; simp [txv] at this; omega
  have e2 : l.length = m := by have := hm.len; simp [txv] at this; omega
  obtain rfl : n = m := by omega
  have E1 := Lib.hid e1; clear e1 e2
  go_enter Tryz.func48, Tryz.ntmps48
  go_wp2
  go_loopw [5] (fun i wr => ∃ k : Nat, k ≤ n ∧ i = .int .i64 k ∧ Below w.heap.size w wr) (fun i _ => n - (intOf i).toNat)
  case atStart => exact ⟨0, by omega, rfl, Below.refl _ _⟩
  case round =>
    obtain ⟨k, hk, rfl, hbel⟩ := hrel
    by_cases hlt : k < n
    · obtain ⟨bA, oA, z, rfl, hb, hz, hc⟩ := (hl.below hbel).atT hlt
      obtain ⟨bA', oA', z', rfl, hb', hz', hc'⟩ := (hm.below hbel).atT hlt
      obtain rfl : z = z' := by rw [hz] at hz'; exact Option.some.inj hz'
      clear hz hz' hl hm
      have b1 : (0 : Int) ≤ (k : Int) := by omega
      have b2 : (k : Int) < (n : Int) := by omega
      go_wp2
      go_quiet (fail)
      go_wp2
      go_roundw
      case rel => exact ⟨k + 1, by omega, by go_num, below_drawn hbel _⟩
      case measure => simp [intOf]; omega
    · go_wp2
      go_ret
      exact ⟨rfl, hbel⟩
theorem rd_lives (W : World) : Rd (W.alloc (.cells #[.int .i64 2, .int .i64 0] 3)) (W.alloc (.cells #[.int .i64 2, .int .i64 0] 3)).heap.size 1 (some ⟨W.heap.size, 0, none⟩) 2 (iv [2, 0]) :=
  Rd.lit W _ _ rfl (by simp) rfl
set_option maxHeartbeats 400000 in
set_option maxRecDepth 10000 in
theorem lives15_any (w : World) : Calls Tryz.prog 43 #[] w fun e w' => e = .returned (.bool true) ∧ Below w.heap.size w w' := by
  have HB := Lib.hid ((Below.refl w.heap.size w).alloc (Nat.le_refl _) (.cells #[.int .i64 2, .int .i64 0] 3))
  have HC := Lib.hid (chunks_any ⟨#[97, 98, 99]⟩ (some ⟨w.heap.size, 0, none⟩) [2, 0] 2 _ (rd_lives w) (by decide) (by decide))
  rw [show (⟨#[97, 98, 99]⟩ : ByteArray).size = 3 from rfl, example_lim] at HC
  go_enter Tryz.func43, Tryz.ntmps43
  go_wp2_with fail
  refine HC.out.mono ?_
  rintro e w1 ⟨v, rfl, hown, hb⟩
  obtain ⟨A1, c1, rfl, -, hr⟩ := own_rd hown
  have HR := Lib.hid hr
  have HB1 := Lib.hid (HB.out.trans (hb.mono HB.out.size))
  clear hr hown hb
  go_wp2_with fail
  refine (sameT_any A1 _ _ 3 c1 _ [⟨#[]⟩, ⟨#[97, 98]⟩, ⟨#[99]⟩] [⟨#[]⟩, ⟨#[97, 98]⟩, ⟨#[99]⟩] _ (HR.out.alloc (Nat.le_refl _) _ |>.wider (by simp)) (Rd.lit _ _ _ rfl (by simp) rfl) (by decide) (by decide) rfl).mono ?_
  rintro e w2 ⟨rfl, hb⟩
  have HB2 := Lib.hid ((HB1.out.alloc HB1.out.size _).trans (hb.mono (HB1.out.alloc HB1.out.size _).size))
  clear hb
  go_wp2
  go_ret
  exact ⟨rfl, HB2.out⟩
end Go.Proofs.YtbdgkkmbnahgiaaGreatDoor

