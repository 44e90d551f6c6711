/- A part of what the laws stand on: LmC, Laid, OpenI, OpenL, LmF, MqN, LmD. -/
import Derived.Test.YtbdgkkmbnahgiaaGreatDoorMsG0LmB
import Derived.Test.YtbdgkkmbnahgiaaGreatDoorCards
import Derived.Test.YtbdgkkmbnahgiaaGreatDoorTie
import Derived.ChangeVars
import Derived.LaidLaws
import Derived.LaidHandle
import Derived.SevenTiedAt
namespace Go.Proofs.YtbdgkkmbnahgiaaGreatDoor
open Go.RowKit
attribute [local go_sem ↓] to_ldPk to_bxPk to_bdPk to_alPk to_stPk
attribute [local go_sem] run_bxPk run_bxPk_agg ld_fresh run_alPk run_bd0 run_bdK run_bdKI run_bdKIC run_bdKC run_bdKICP run_stPk_fresh pkC_0 pkC_1 pkC_2 pkC_3 pkC_4 pkC_5 pkC_6 pkC_7 pkC_8 pkC_9 pkC_10 pkC_11 pkC_12 pkC_13 pkC_14 pkC_15 pkC_16 pkC_17 pkC_18 pkC_19 pkC_20 pkC_21 pkC_22 pkC_23 pkC_24
/-- What stands while the chunks are fed: all but the row of all packets. -/
structure SLm (w wb : World) (v most : Int) (gb : Nat) (cv : Value) (C : List ByteArray) (t : ByteArray) (a k : Nat) (e : Int) (x : World) : Prop where
  sb : ∃ K n c, Bk x gb SmT (smC v most K n c a k e) ∧ Kp wb x K n c (ls t)
  chunks : x.ownsRow w.heap.size 9 1 cv C.length (sxv C)
  low : Below w.heap.size w x
  base : w.heap.size ≤ wb.heap.size ∧ wb.heap.size ≤ x.heap.size ∧ w.heap.size ≤ gb
section
variable {w wb : World} {v most : Int} {gb : Nat} {cv : Value} {C : List ByteArray} {t : ByteArray} {a k : Nat} {e : Int} {x y : World}
theorem SLm.below (s : SLm w wb v most gb cv C t a k e x) (hb : Below x.heap.size x y) : SLm w wb v most gb cv C t a k e y := by
  obtain ⟨K, n, c, h1, h2⟩ := s.sb
  obtain ⟨b1, b2, b3⟩ := s.base
  exact ⟨⟨K, n, c, h1.below hb h1.lt, h2.below hb⟩, own_below s.chunks hb, s.low.trans (hb.mono s.low.size), b1, Nat.le_trans b2 hb.size, b3⟩
/-- A chunk is fed. -/
theorem SLm.fed (s : SLm w wb v most gb cv C t a k e x) {K' : Option Addr} {n' c' : Nat} (h4 : Bk x gb SmT (smC v most K' n' c' a k e)) (h5 : Kp wb x K' n' c' (ls t)) {r : List Pk × ByteArray × Nat × Nat × Int} {A2 : Option Addr} {m2 cm2 : Nat} {L2 : List (Pk × Hs)} {K2 : Option Addr} {n2 c2 : Nat}
    (F : FO wb x gb (Value.slice K' n' c').ownBlock v most r y A2 m2 cm2 L2 K2 n2 c2) : SLm w wb v most gb cv C r.2.1 r.2.2.1 r.2.2.2.1 r.2.2.2.2 y := by
  obtain ⟨b1, b2, b3⟩ := s.base
  exact ⟨⟨K2, n2, c2, F.bk, F.kp⟩, own_fed s.chunks h4 h5 F.mods, fed_below s.low b3 s.low.size h5 b1 F.mods, b1, Nat.le_trans b2 F.mods.size, b3⟩
/-- The row of all packets grows. -/
theorem SLm.app (s : SLm w wb v most gb cv C t a k e x) {A : Option Addr} {m cm : Nat} {L : List (Pk × Hs)} (hr : RowI wb x A m cm L) (hm : x.grownBy y (Value.slice A m cm).ownBlock) : SLm w wb v most gb cv C t a k e y := by
  obtain ⟨K', n', c', h4, h5⟩ := s.sb
  obtain ⟨b1, b2, b3⟩ := s.base
  have hM : Mods (fun i => (Value.slice A m cm).ownBlock = some i) x y := (Mods.refl x).app hm (fun i e => .inl e)
  refine ⟨⟨K', n', c', hr.row.bk hm h4 (by decide), h5.row hr.row hm⟩, own_mods s.chunks hM fun g hg e => ?_, below_app s.low hm s.low.size (fun q hq => Nat.le_trans b1 (hr.row.own hq).1), b1, Nat.le_trans b2 hm.size, b3⟩
  rcases hr.row.lies with ⟨rfl, -⟩ | ⟨q, M, rfl, -, h6, -⟩
  · cases e
  · simp only [Value.ownBlock, Option.some.injEq] at e
    subst e
    exact own_ne s.chunks h6 (by decide) hg
end
/-- A chunk is fed to the stream, whether it is well or not. -/
theorem lm_feed {w wb x : World} {v mp : Int} {gb : Nat} {cv : Value} {C : List ByteArray} {t u T : ByteArray} {a k : Nat} {e : Int} {A : Option Addr} {m cm : Nat} {L : List (Pk × Hs)}
    (s : SLm w wb v mp gb cv C t a k e x) (hr : RowI wb x A m cm L) (hap : ∀ y ∈ L, Apart gb y) (hres : smG v mp T 0 0 [] = (L.map Prod.fst, t, a, k, e)) (hm : 16 ≤ mp) (hT : T.size ≤ 1000000) (hu : u.size ≤ 1000000) :
    Calls Tryz.prog 35 #[.pointer (some ⟨gb, 0, none⟩), .string u] x fun e' y => ∃ A2 m2 cm2 L2 t2 a2 k2 e2, e' = .returned (.tuple #[.slice A2 m2 cm2, .int .i64 e2]) ∧ SLm w wb v mp gb cv C t2 a2 k2 e2 y ∧ RowI wb y A m cm L ∧ RdK y A2 m2 L2 ∧ (∀ z ∈ L2, Apart gb z) ∧ (∀ z ∈ L2, ∀ g o, A = some ⟨g, o, none⟩ → Apart g z) ∧
      smG v mp (T ++ u) 0 0 [] = ((L ++ L2).map Prod.fst, t2, a2, k2, e2) := by
  obtain ⟨k1, k2, k3, k4, k5⟩ := kept_short hm hres
  obtain ⟨K, n, c, h4, h5⟩ := s.sb
  have hn : n = t.size := by rw [← ls_len]; exact h5.len.symm
  by_cases he : e = 0
  · subst he
    refine (smFeed_any v mp gb K n c a k t u wb x h4 h5 s.base.2.1 (by omega) (by omega)).mono ?_
    rintro e' y ⟨A2, m2, cm2, L2, K2, n2, c2, rfl, F⟩
    refine ⟨A2, m2, cm2, L2, _, _, _, _, rfl, s.fed h4 h5 F, hr.fed h4 h5 F.mods hap, F.row.read, fun z hz => F.fresh z hz gb h4.lt, fun z hz g o e => F.fresh z hz g (hr.row.block e).2, ?_⟩
    rw [fed_well hres, List.map_append, F.map]
  · refine (smFeed_err v mp gb K n c a k e he u x h4).mono ?_
    rintro e' y ⟨rfl, hb⟩
    refine ⟨none, 0, 0, [], t, a, k, e, rfl, s.below hb, hr.below hb, RdK.none _, by simp, by simp, ?_⟩
    rw [fed_ill hres he, List.append_nil]
set_option maxHeartbeats 16000000 in
set_option maxRecDepth 10000 in
theorem limitsStream_any (v mp md : Int) (s : ByteArray) (Ai : Option Addr) (l : List Int) (ci : Nat) (w : World) (hr : Rd w w.heap.size 1 Ai l.length (iv l)) :
    Calls Tryz.prog 9 #[.int .i64 v, limV mp md, .string s, .slice Ai l.length ci] w fun e w' => e = .returned (.bool true) ∧ Below w.heap.size w w' := by
  have HR := Lib.hid hr
  have HB0 := Lib.hid ((Below.refl w.heap.size w).alloc (Nat.le_refl _) (.cells #[.int .i64 mp, .int .i64 md] 54))
  have HK0 := Lib.hid (Bk.fresh w 54 #[.int .i64 mp, .int .i64 md])
  clear hr
  unfold limV
  go_enter Tryz.func9, Tryz.ntmps9
  go_wp2_with fail
  refine (lives15_any _).mono ?_
  rintro e w1 ⟨rfl, hb⟩
  have HB1 := Lib.hid (HB0.out.trans (hb.mono HB0.out.size)); have HK1 := Lib.hid (HK0.out.below hb HK0.out.lt)
  clear hb HB0 HK0
  by_cases h1 : 3000 < s.size
  · have d1 : (3000 : Int) < (s.size : Int) := by omega
    clear h1
    go_wp2
    go_ret
    exact ⟨rfl, HB1.out⟩
  have d1 : (s.size : Int) ≤ 3000 := by omega
  have HS : Hid (s.size ≤ 3000) := Lib.hid (by omega)
  clear h1
  by_cases h1 : 60 < l.length
  · have d2 : (60 : Int) < (l.length : Int) := by omega
    clear h1
    go_wp2
    go_ret
    exact ⟨rfl, HB1.out⟩
  have d2 : (l.length : Int) ≤ 60 := by omega
  have HL : Hid (l.length ≤ 60) := Lib.hid (by omega)
  clear h1
  have c0 : w1.cell? ⟨w.heap.size, 0, none⟩ = some (.int .i64 mp) := HK1.out.cell 0
  have c1 : w1.cell? ⟨w.heap.size, 1, none⟩ = some (.int .i64 md) := HK1.out.cell 1
  go_wp2_with fail
  refine (lmSplit_any v mp md s _ (by have := HS.out; omega)).mono ?_
  rintro e w2 ⟨A1, n1, cc1, L1, rfl, hr1, hm1, hb, -, -⟩
  have HB2 := Lib.hid (HB1.out.trans (hb.mono HB1.out.size)); have HK2 := Lib.hid (HK1.out.below hb HK1.out.lt)
  have HW1 := Lib.hid hr1; have HM1 := Lib.hid hm1
  clear c0 c1 hb hr1 hm1 HB1 HK1
  obtain ⟨⟨pl, at0, ee⟩, hS⟩ : ∃ r, lmS v mp md s = r := ⟨_, rfl⟩
  have HSS := Lib.hid hS
  rw [hS] at HM1 ⊢
  clear hS
  dsimp only at HM1 ⊢
  have c0 : w2.cell? ⟨w.heap.size, 0, none⟩ = some (.int .i64 mp) := HK2.out.cell 0
  have c1 : w2.cell? ⟨w.heap.size, 1, none⟩ = some (.int .i64 md) := HK2.out.cell 1
  go_wp2_with fail
  refine (smNew_any v mp md _).mono ?_
  rintro e w3 ⟨hb, h⟩
  have HB3 := Lib.hid (HB2.out.trans (hb.mono HB2.out.size))
  by_cases hok : smOk v mp md = true
  rotate_left
  · rw [if_neg hok] at h
    subst h
    have hx := HSS.out
    rw [lmS_bad hok] at hx
    simp only [Prod.mk.injEq] at hx
    obtain ⟨rfl, rfl, rfl⟩ := hx
    have hn : n1 = 0 := by
      have := HW1.out.len
      rw [List.map_eq_nil_iff.1 HM1.out] at this
      exact this.symm
    subst hn
    clear hok hb c0 c1 HSS
    go_wp2
    go_ret
    exact ⟨rfl, HB3.out⟩
  rw [if_pos hok] at h
  obtain ⟨gb, rfl, hgb, bkb⟩ := h
  have HV := Lib.hid (smOk_ver hok); have HM := Lib.hid (smOk_most hok)
  have hx := HSS.out
  rw [lmS_ok hok] at hx
  have HSX := Lib.hid hx
  have HGB := Lib.hid hgb; have BB3 := Lib.hid bkb
  have HZ3 := Lib.hid hb
  clear hok hb hgb bkb c0 c1 hx HSS HK2
  have HR3 := Lib.hid ((HR.out.below HB3.out).wider HB3.out.size)
  go_wp2_with fail
  refine (chunks_any s Ai l ci _ HR3.out (by have := HL.out; omega) (by have := HS.out; omega)).mono ?_
  rintro e w4 ⟨cv, rfl, hown, hb⟩
  obtain ⟨C, hC⟩ : ∃ C, lkL s (plL s.size l) = C := ⟨_, rfl⟩
  have HJ : Hid (joinT C = s) := Lib.hid (by rw [← hC]; exact joinT_lk (plL_ok s.size l))
  have HCN : Hid (C.length ≤ 61) := Lib.hid (by rw [← hC, lkL_len]; have := plL_short s.size l; have := HL.out; omega)
  rw [hC] at hown
  obtain ⟨Ac, cc, rfl, -, -⟩ := own_rd hown
  have HO4 := Lib.hid (own_wider hown HZ3.out.size)
  have SB4 : Hid (SLm w2 w4 v mp gb (.slice Ac C.length cc) C ⟨#[]⟩ 0 0 0 w4) := Lib.hid ⟨⟨none, 0, 0, BB3.out.below hb BB3.out.lt, Kp.none _ _⟩, HO4.out, HZ3.out.trans (hb.mono HZ3.out.size), Nat.le_trans HZ3.out.size hb.size, Nat.le_refl _, HGB.out⟩
  have HOKR := Lib.hid (smG_okP (v := v) (most := mp) s.size s 0 0 [] (Nat.le_refl _) (by have := HS.out; omega) (by simp))
  clear hown hb hC HO4 HZ3 HR3 HR BB3 HB3 HGB
  go_wp2
  go_loopw [14, 16] (fun mv zv wr => ∃ (i : Nat) (t : ByteArray) (a k : Nat) (e : Int) (A : Option Addr) (m cm : Nat) (L : List (Pk × Hs)), i ≤ C.length ∧ zv = .int .i64 i ∧ mv = .slice A m cm ∧ SLm w2 w4 v mp gb (.slice Ac C.length cc) C t a k e wr ∧ RowI w4 wr A m cm L ∧ (∀ y ∈ L, Apart gb y) ∧ smG v mp (joinT (C.take i)) 0 0 [] = (L.map Prod.fst, t, a, k, e)) (fun _ zv _ => C.length - (intOf zv).toNat)
  case atStart => exact ⟨0, ⟨#[]⟩, 0, 0, 0, none, 0, 0, [], Nat.zero_le _, rfl, rfl, SB4.out, RowI.start _ _, by simp, smG_none HV.out 0 0 []⟩
  case round =>
    obtain ⟨i, t, a, k, e, A, m, cm, L, hi, rfl, rfl, hS, hrow, hap, hres⟩ := hrel
    have S0 := Lib.hid hS; have ROW := Lib.hid hrow; have AP := Lib.hid hap; have RES := Lib.hid hres; have HI := Lib.hid hi
    have HTT : Hid ((joinT (C.take i)).size ≤ 3000) := Lib.hid (Nat.le_trans (joinT_take_le C i) (by rw [HJ.out]; exact HS.out))
    have KS := Lib.hid (kept_short HM.out.1 hres)
    clear hS hrow hap hres
    by_cases hlt : i < C.length
    · obtain ⟨b, o, u, rfl, hb1, hu, hcu⟩ := (strs_rd S0.out.chunks).atS hlt
      have HU : Hid (u.size ≤ 3000) := Lib.hid (Nat.le_trans (joinT_mem (List.mem_of_getElem? hu)) (by rw [HJ.out]; exact HS.out))
      have HST := Lib.hid (joinT_step hu)
      have b1 : (0 : Int) ≤ (i : Int) := by omega
      have b2 : (i : Int) < (C.length : Int) := by omega
      have hi1 : wrap64 ((i : Int) + 1) = ((i + 1 : Nat) : Int) := by have := HCN.out; unfold wrap64; omega
      have HILT := Lib.hid hlt
      have CF := Lib.hid (lm_feed (T := joinT (C.take i)) (u := u) S0.out ROW.out AP.out RES.out HM.out.1 (by have := HTT.out; omega) (by have := HU.out; omega))
      rw [← HST.out] at CF
      clear hlt hu hb1
      go_wp2_with fail
      refine CF.out.mono ?_
      rintro e' x2 ⟨A2, m2, cm2, L2, t2, a2, k2, e2, rfl, hS1, hrow1, hrd2, ap2, apr, hres1⟩
      have S1 := Lib.hid hS1; have ROW1 := Lib.hid hrow1; have RD2 := Lib.hid hrd2; have AP2 := Lib.hid ap2; have APR := Lib.hid apr; have RES1 := Lib.hid hres1
      have HNB : Hid (m + m2 ≤ 100000000000) := Lib.hid (by
        obtain ⟨q1, q2, q3, q4, q5⟩ := kept_short HM.out.1 hres1
        have h7 := ROW.out.row.len
        have h8 := hrd2.len
        have h9 : (joinT (C.take (i + 1))).size ≤ 3000 := Nat.le_trans (joinT_take_le C (i + 1)) (by rw [HJ.out]; exact HS.out)
        rw [List.length_map, List.length_append] at q2
        omega)
      clear hS1 hrow1 hrd2 ap2 apr hres1 CF hcu
      go_upto_region 13 with (at_builtin; refine wpList_appR rfl (.tmp 78) (.tmp 79) rfl (w0 := w4) (A := A) (n := m) (c := cm) (L := L) rfl ROW1.out S1.out.base.2.1 A2 L2 m2 cm2 rfl RD2.out APR.out HNB.out ?_; intro A' c' x3 hrow hgr)
      have S2 := Lib.hid (S1.out.app ROW1.out hgr)
      have ROW2 := Lib.hid hrow
      have AP3 : Hid (∀ y ∈ L ++ L2, Apart gb y) := Lib.hid (fun y hy => (List.mem_append.1 hy).elim (AP.out y) (AP2.out y))
      clear hrow hgr S1 ROW1 RD2 S0 ROW
      go_wp2
      go_roundw
      case rel => exact ⟨i + 1, t2, a2, k2, e2, A', m + m2, c', L ++ L2, HILT.out, by rw [hi1], rfl, S2.out, ROW2.out, AP3.out, RES1.out⟩
      case measure => rw [hi1]; simp only [intOf, Int.toNat_natCast]; have := HILT.out; omega
    · obtain rfl : i = C.length := by omega
      have HREQ : smG v mp s 0 0 [] = (L.map Prod.fst, t, a, k, e) := by
        have := RES.out
        rw [List.take_length, HJ.out] at this
        exact this
      have hx := HSX.out
      rw [HREQ] at hx
      simp only [Prod.mk.injEq] at hx
      obtain ⟨hx1, rfl, rfl⟩ := hx
      have HSM : Hid (L.map Prod.fst = L1.map Prod.fst) := Lib.hid (by rw [HM1.out, hx1])
      have OM : Hid (∀ x ∈ L, PkLen x.1) := Lib.hid (fun x hx => (HOKR.out x.1 (by rw [HREQ]; exact List.mem_map_of_mem hx)).len)
      have OL : Hid (∀ x ∈ L1, PkLen x.1) := Lib.hid (fun x hx => (HOKR.out x.1 (by rw [HREQ]; show x.1 ∈ L.map Prod.fst; rw [HSM.out]; exact List.mem_map_of_mem hx)).len)
      have HLL : Hid (L.length ≤ 3000 ∧ L1.length = L.length) := Lib.hid ⟨by
        have h1 := KS.out.2.1
        have h2 := KS.out.2.2.2.2
        have := HTT.out
        rw [List.length_map] at h1
        omega, by have := congrArg List.length HSM.out; simpa using this.symm⟩
      have CS := Lib.hid (samePks_any A A1 m n1 cm cc1 L L1 wr ROW.out.read (HW1.out.below S0.out.low) OM.out OL.out (by have := ROW.out.row.len; have := HLL.out; omega) (by have := HW1.out.len; have := HLL.out; omega))
      rw [decide_eq_true HSM.out] at CS
      have HKZ : Hid (e = 0 → a + t.size = s.size) := Lib.hid (fun h => by
        have := smG_sum v mp s.size s 0 0 [] (Nat.le_refl _)
        rw [HREQ] at this
        have := this h
        dsimp only at this
        omega)
      have b2 : (C.length : Int) ≤ (C.length : Int) := Int.le_refl _
      have HA : Hid (a ≤ 3000) := Lib.hid (by have := KS.out.2.2.2.1; have := HTT.out; omega)
      clear hlt RES HOKR KS hx1 HSX HREQ
      go_wp2_with fail
      refine CS.out.mono ?_
      rintro e' x2 ⟨rfl, hb⟩
      have S1 := Lib.hid (S0.out.below hb)
      clear hb CS S0 ROW
      obtain ⟨Kb, nb, cb, hb1, hb2⟩ := S1.out.sb
      have HN : Hid (nb = t.size) := Lib.hid (by rw [← ls_len]; exact hb2.len.symm)
      have HBB := Lib.hid hb1
      clear hb1 hb2
      have HBE := Lib.hid (HB2.out.trans (S1.out.low.mono HB2.out.size))
      go_wp2_with fail
      refine (smErr_any v mp gb Kb nb cb a k e _ HBB.out).mono ?_
      rintro e' x3 ⟨rfl, rfl⟩
      go_wp2_with fail
      refine (smAt_any v mp gb Kb nb cb a k e _ HBB.out).mono ?_
      rintro e' x3 ⟨rfl, rfl⟩
      by_cases he : e = 0
      rotate_left
      · have e0 : (e != 0) = true := bne_iff_ne.2 he
        clear he
        go_wp2
        go_ret
        exact ⟨rfl, HBE.out⟩
      have hsz : a + nb = s.size := by have := HKZ.out he; have := HN.out; omega
      have hsub : wrap64 ((s.size : Int) - (a : Int)) = (nb : Int) := by have := HS.out; unfold wrap64; omega
      have hsub2 : IntKind.i64.wrap ((s.size : Int) - (a : Int)) = (nb : Int) := by have := HS.out; rw [IntKind.wrap_i64]; omega
      subst he
      clear hsz HKZ
      go_wp2_with fail
      refine (smKept_any v mp gb Kb nb cb a k 0 _ HBB.out).mono ?_
      rintro e' x3 ⟨rfl, rfl⟩
      go_wp2
      go_ret
      exact ⟨by simp, HBE.out⟩
end Go.Proofs.YtbdgkkmbnahgiaaGreatDoor

namespace Go.Proofs.YtbdgkkmbnahgiaaGreatDoor
open Go.ChangeShapes Go.WideShapes Go.ChangeAt Go.RowKit
def layCells (c : Array Value) : Obj → Obj
  | .cells _ t frozen => .cells c t frozen
  | o => o
def firstCells : Array Value := (Go.Pinned.utf8FirstZ.map fun (n : Nat) => Value.int .u8 n).toArray
def rangeCells : Array Value := #[.int .u8 128, .int .u8 191, .int .u8 160, .int .u8 191, .int .u8 128, .int .u8 159, .int .u8 144, .int .u8 191, .int .u8 128, .int .u8 143,
  .int .u8 0, .int .u8 0, .int .u8 0, .int .u8 0, .int .u8 0, .int .u8 0, .int .u8 0, .int .u8 0, .int .u8 0, .int .u8 0, .int .u8 0, .int .u8 0, .int .u8 0, .int .u8 0, .int .u8 0, .int .u8 0, .int .u8 0, .int .u8 0, .int .u8 0, .int .u8 0, .int .u8 0, .int .u8 0]
noncomputable def laidWorld (os : Os) : World :=
  { World.holding Tryz.prog os ⟨#[], #[], []⟩ with heap := ((World.holding Tryz.prog os ⟨#[], #[], []⟩).heap.modify 1 (layCells firstCells)).modify 2 (layCells rangeCells) }
theorem laid_met (os : Os) (args : Array Value) : laidMetH Tryz.prog [("unicode/utf8.acceptRanges", Rows.laid_unicode_utf8_acceptRanges), ("unicode/utf8.first", Rows.laid_unicode_utf8_first)] ((laidWorld os).forCall (fun _ _ => 0) ⟨#[], args, []⟩).memory :=
  laidMetH_of_parts (laidMet_of_run' 8 (by kernel_rfl) (by kernel_rfl)) (by kernel_rfl)
end Go.Proofs.YtbdgkkmbnahgiaaGreatDoor

namespace Go.Proofs.YtbdgkkmbnahgiaaGreatDoor.OI
open Go.Proofs.YtbdgkkmbnahgiaaGreatDoor
open Go.ChangeShapes Go.WideShapes Go.ChangeAt Go.RowKit Go.Deep

section
variable {H : Type} {enc : TypeId × Value → H} {P : Program} {w : World} {base : Nat} {spare : Nat → Bool} {held : Bool}

/-- All that a datum weighs is within the reach. -/
def Sized (P : Program) (t : TypeId) (d : DataW H) : Prop := ∀ z ∈ d.weights P t, z ≤ reachBytes

theorem weightsAll_mem {e : TypeId} : ∀ {ds : List (DataW H)} {d : DataW H}, d ∈ ds → ∀ z ∈ d.weights P e, z ∈ DataW.weightsAll P e ds
  | [], _, h, _, _ => by simp at h
  | x :: ds, d, h, z, hz => by
    unfold DataW.weightsAll
    rcases List.mem_cons.1 h with rfl | h
    · exact List.mem_append.2 (.inl hz)
    · exact List.mem_append.2 (.inr (weightsAll_mem h z hz))
theorem Sized.elem {t e : TypeId} {l r : List (DataW H)} (ht : P.underlying t = some (.slice e)) (h : Sized P t (.slice l r)) {d : DataW H} (hd : d ∈ l) : Sized P e d := fun z hz => h z (by
  simp only [DataW.weights, ht]
  exact List.mem_cons_of_mem _ (List.mem_append.2 (.inl (weightsAll_mem hd z hz))))
theorem Sized.len {t e : TypeId} {l r : List (DataW H)} (ht : P.underlying t = some (.slice e)) (h : Sized P t (.slice l r)) : l.length * P.bytesOf e ≤ reachBytes := by
  have := h ((l.length + r.length) * P.bytesOf e) (by simp [DataW.weights, ht])
  exact Nat.le_trans (Nat.mul_le_mul_right _ (by omega)) this
theorem Sized.str {t : TypeId} {s : List UInt8} (h : Sized P t (.lit (.string s) : DataW H)) : s.length ≤ reachBytes := h _ (by simp [DataW.weights])
theorem sized_at {ts : List TypeId} {ds : List (DataW H)} (h : (DataW.weightsEach P ts ds).all (· ≤ reachBytes) = true) {j : Nat} {t : TypeId} {d : DataW H} (ht : ts[j]? = some t) (hd : ds[j]? = some d) : Sized P t d := fun z hz => by
  have := List.all_eq_true.1 h _ (DataW.weights_mem_each ht hd z hz)
  simpa using this
theorem flat_len {X : Type} {k : Nat} {C : X → List Value} (hk : ∀ x, (C x).length = k) : ∀ l : List X, (l.flatMap C).length = l.length * k
  | [] => by simp
  | x :: l => by
    rw [List.flatMap_cons, List.length_append, hk, flat_len hk l, List.length_cons, Nat.add_mul]; omega
theorem flat_at {X : Type} {k : Nat} {C : X → List Value} (hk : ∀ x, (C x).length = k) : ∀ (l : List X) (i r : Nat) (h : i < l.length), r < k → (l.flatMap C)[i * k + r]? = (C l[i])[r]?
  | x :: l, 0, r, _, hr => by
    rw [Nat.zero_mul, Nat.zero_add, List.flatMap_cons, List.getElem?_append_left (by rw [hk]; exact hr)]
    rfl
  | x :: l, i + 1, r, h, hr => by
    have ih := flat_at hk l i r (by simpa using h) hr
    rw [List.flatMap_cons, List.getElem?_append_right (by rw [hk, Nat.add_mul]; omega), hk]
    rw [show (i + 1) * k + r - k = i * k + r by rw [Nat.add_mul]; omega]
    exact ih

/-- A slice, its elements known each by itself, as a list that is read. -/
theorem open_rows {X : Type} [Inhabited X] {k : Nat} (C : X → List Value) (hk : ∀ x, (C x).length = k) (hk0 : 0 < k) {t e : TypeId} (ht : P.underlying t = some (.slice e)) (hc : P.cellsOf e = k) (good : X → Prop)
    (hel : ∀ (n : Nat) (cs : List Value) (D : DataW H) (Pl : List MemPlace), DataW.trod enc P w base spare held n e cs = some (D, Pl) → Sized P e D → (∀ x ∈ Pl, x.block < w.heap.size) → ∃ x, cs = C x ∧ good x)
    {fuel : Nat} {cs : List Value} {d : DataW H} {ps : List MemPlace} (h : DataW.trod enc P w base spare held fuel t cs = some (d, ps)) (hs : Sized P t d) (hlt : ∀ x ∈ ps, x.block < w.heap.size) :
    ∃ (A : Option Addr) (l : List X) (c : Nat), cs = [.slice A l.length c] ∧ Rd w w.heap.size k A l.length (l.flatMap C) ∧ (∀ x ∈ l, good x) ∧ l.length * P.bytesOf e ≤ reachBytes ∧ l.length ≤ c ∧ c ≤ maxLen := by
  rcases open_slice ht h with ⟨rfl, _⟩ | ⟨a, len, cap, m, n, D, Pl, rfl, _, hl, hm, hmm, hx, hi⟩
  · exact ⟨none, [], 0, rfl, Rd.nil _ _ _ _, by simp, by simp, Nat.le_refl _, by unfold maxLen; omega⟩
  · simp only [Prod.mk.injEq] at hx
    obtain ⟨rfl, rfl⟩ := hx
    have hlm : len ≤ m := by rw [hmm]; split <;> omega
    have each : ∀ i, i < len → ∃ x, good x ∧ ∀ r u, (C x)[r]? = some u → w.cell? (a.add (i * k + r)) = some u := by
      intro i hilen
      obtain ⟨cs', h1, h2⟩ := hi i (by omega)
      obtain ⟨x, rfl, hg⟩ := hel n cs' _ _ h2 (hs.elem ht (List.mem_map.2 ⟨i, List.mem_range.2 hilen, rfl⟩)) (fun y hy => hlt y (List.mem_append.2 (.inr (List.mem_flatMap.2 ⟨i, List.mem_range.2 (by omega), hy⟩))))
      refine ⟨x, hg, fun r u hu => ?_⟩
      rw [hc] at h1
      obtain ⟨_, h3, h4⟩ := World.cells?_some h1
      have hr : r < k := by
        rcases Nat.lt_or_ge r k with h | h
        · exact h
        · rw [List.getElem?_eq_none (by rw [hk]; exact h)] at hu; cases hu
      have := h4 r hr
      rw [add_add] at this
      rw [this, hu]
    obtain ⟨f, hf⟩ := choose_lt each
    have hlen : ((List.range len).map f).length = len := by simp
    refine ⟨some a, (List.range len).map f, cap, by rw [hlen], ?_, ?_, ?_, by omega, hm⟩
    · by_cases h0 : len = 0
      · subst h0; exact Rd.nil _ _ _ _
      · rw [hlen]
        refine Rd.of_addr (by rw [flat_len hk, hlen]) ?_ ?_
        · have hrow : (MemPlace.cell a.block a.off) ∈ MemPlace.row a (m * P.cellsOf e) := by
            refine MemPlace.mem_row.2 ⟨0, ?_, by simp⟩
            rw [hc]
            exact Nat.mul_pos (by omega) hk0
          exact hlt _ (List.mem_append.2 (.inl hrow))
        · intro j u hu
          have hj : j < len * k := by
            rcases Nat.lt_or_ge j (len * k) with h | h
            · exact h
            · rw [List.getElem?_eq_none (by rw [flat_len hk, hlen]; exact h)] at hu; cases hu
          have hi1 : j / k < len := Nat.div_lt_of_lt_mul (by rw [Nat.mul_comm]; exact hj)
          have hr1 : j % k < k := Nat.mod_lt _ hk0
          have e : j = j / k * k + j % k := by rw [Nat.mul_comm]; exact (Nat.div_add_mod j k).symm
          rw [e, flat_at hk _ _ _ (by rw [hlen]; exact hi1) hr1] at hu
          rw [e]
          exact (hf _ hi1).2 _ _ (by simpa using hu)
    · intro x hx
      obtain ⟨i, hi2, rfl⟩ := List.mem_map.1 hx
      exact (hf i (List.mem_range.1 hi2)).1
    · have := hs.len ht
      simpa using this

end
section
variable {H : Type} {enc : TypeId × Value → H} {w : World} {base : Nat} {spare : Nat → Bool} {held : Bool}
theorem flat_one {X : Type} (c : X → Value) (l : List X) : l.flatMap (fun z => [c z]) = l.map c := by
  induction l with
  | nil => rfl
  | cons z l ih => simp only [List.flatMap_cons, ih]; rfl
set_option maxRecDepth 100000 in
theorem open_intsV {r : Reach} {b0 : Nat} {v : Value} {d : DataW H} {ps : List MemPlace} (hval : Value.okWide Tryz.prog w r b0 26 v) (hd : DataW.Trod enc Tryz.prog w base spare held 26 v d ps) (hs : Sized Tryz.prog 26 d) (hlt : ∀ x ∈ ps, x.block < w.heap.size) :
    ∃ (A : Option Addr) (l : List Int) (c : Nat), v = .slice A l.length c ∧ Rd w w.heap.size 1 A l.length (iv l) ∧ (∀ z ∈ l, (Lit.int .i64 z).wf = true) ∧ l.length ≤ 140737488351232 ∧ l.length ≤ c ∧ c ≤ maxLen := by
  obtain ⟨a, len, cap, rfl⟩ := okWide_slice Tryz.underlying26 hval
  obtain ⟨fuel, hf⟩ := hd
  obtain ⟨A, l, c, h1, h2, h3, h4, h5, h6⟩ := open_rows (X := Int) (k := 1) (fun z => [Value.int .i64 z]) (fun _ => rfl) (by omega) Tryz.underlying26 (by kernel_rfl) (fun z => (Lit.int .i64 z).wf = true)
    (fun n cs D Pl h hs _ => by obtain ⟨z, rfl, _, hw⟩ := DataW.trod_int Tryz.underlying3 h; exact ⟨z, rfl, hw⟩) hf hs hlt
  rw [flat_one] at h2
  simp [Value.cells] at h1
  obtain ⟨rfl, rfl, rfl⟩ := h1
  refine ⟨a, l, cap, rfl, h2, h3, ?_, h5, h6⟩
  have hb : Tryz.prog.bytesOf 3 = 8 := by kernel_rfl
  rw [hb, reachBytes] at h4
  omega
end
end Go.Proofs.YtbdgkkmbnahgiaaGreatDoor.OI

namespace Go.Proofs.YtbdgkkmbnahgiaaGreatDoor
open Go.ChangeShapes Go.WideShapes Go.ChangeAt Go.RowKit Go.Deep
set_option maxRecDepth 100000

section
variable {H : Type} {enc : TypeId × Value → H} {w : World} {base : Nat} {spare : Nat → Bool} {held : Bool}
theorem open_lim {n : Nat} {cs : List Value} {D : DataW H} {Pl : List MemPlace} (h : DataW.trod enc Tryz.prog w base spare held n 54 cs = some (D, Pl)) : ∃ a b : Int, cs = [.int .i64 a, .int .i64 b] := by
  obtain ⟨xs, n', rfl, hx, hlen, hxl, hf⟩ := DataW.trod_struct Tryz.underlying54 h
  simp only [Prod.mk.injEq] at hx
  obtain ⟨rfl, rfl⟩ := hx
  have hc4 : Tryz.prog.cellsOf 54 = 2 := by kernel_rfl
  rw [hc4] at hlen
  match cs, hlen with
  | [c0, c1], _ =>
    match xs, hxl with
    | [y0, y1], _ =>
      have h0 := field_at hf 0 (t := 3) (o := 0) (k := 1) (by kernel_rfl)
      have h1 := field_at hf 1 (t := 3) (o := 1) (k := 1) (by kernel_rfl)
      obtain ⟨z0, e0, rfl, _⟩ := DataW.trod_int Tryz.underlying3 h0
      obtain ⟨z1, e1, rfl, _⟩ := DataW.trod_int Tryz.underlying3 h1
      simp only [List.drop_zero, List.drop_succ_cons, List.take_succ_cons, List.take_zero, List.cons.injEq, and_true] at e0 e1
      subst e0 e1
      exact ⟨z0, z1, rfl⟩
theorem open_limitsV {r : Reach} {b0 : Nat} {v : Value} {d : DataW H} {ps : List MemPlace} (hval : Value.okWide Tryz.prog w r b0 54 v) (hd : DataW.Trod enc Tryz.prog w base spare held 54 v d ps) :
    ∃ a b : Int, v = .agg #[.int .i64 a, .int .i64 b] := by
  have hv : ∃ cs, v = .agg cs := by
    simp only [Value.okWide, show Tryz.prog.underlying 54 = _ from Tryz.underlying54] at hval
    obtain ⟨cs, h, _⟩ := hval
    exact ⟨cs, h⟩
  obtain ⟨cs, rfl⟩ := hv
  obtain ⟨fuel, hf⟩ := hd
  obtain ⟨a, b, h1⟩ := open_lim hf
  refine ⟨a, b, ?_⟩
  have h1 : cs.toList = (#[.int .i64 a, .int .i64 b] : Array Value).toList := h1
  rw [Array.toList_inj.1 h1]
end
end Go.Proofs.YtbdgkkmbnahgiaaGreatDoor

namespace Go.Proofs.YtbdgkkmbnahgiaaGreatDoor
open Go.RowKit
attribute [local go_sem ↓] to_ldPk to_bxPk to_bdPk to_alPk to_stPk
attribute [local go_sem] run_bxPk run_bxPk_agg ld_fresh run_alPk run_bd0 run_bdK run_bdKI run_bdKIC run_bdKC run_bdKICP run_stPk_fresh pkC_0 pkC_1 pkC_2 pkC_3 pkC_4 pkC_5 pkC_6 pkC_7 pkC_8 pkC_9 pkC_10 pkC_11 pkC_12 pkC_13 pkC_14 pkC_15 pkC_16 pkC_17 pkC_18 pkC_19 pkC_20 pkC_21 pkC_22 pkC_23 pkC_24
attribute [local go_sem ↓] to_bsPk
attribute [local go_sem] run_bsPk
set_option maxHeartbeats 1000000 in
set_option maxRecDepth 10000 in
theorem lmFits_any (v mp md : Int) (p : Pk) (h : Hs) (w : World) (ip : PkIn w w.heap.size p h) (ok : PkOk p) (hz : SbFit v p) :
    Calls Tryz.prog 47 #[.int .i64 v, limV mp md, pkV p h] w fun e w' => e = .returned (.bool (lmFit v mp md p)) ∧ Below w.heap.size w w' := by
  have HE : Hid (lmFit v mp md p = (lmOk mp md && (decide ((mqB v p).2 = 0) && decide (((mqB v p).1.size : Int) ≤ mp)))) := Lib.hid rfl
  have b0 := (Below.refl w.heap.size w).alloc (Nat.le_refl _) (.cells #[.int .i64 mp, .int .i64 md] 54)
  have k0 := Bk.fresh w 54 #[.int .i64 mp, .int .i64 md]
  have S0 := Lib.hid (((St.start w).below b0).push (ip.next b0))
  have HK := Lib.hid (k0.alloc (.cells (pkC p h) PkT))
  rw [show (w.alloc (.cells #[.int .i64 mp, .int .i64 md] 54)).heap.size = w.heap.size + 1 by simp] at S0
  have HCK := Lib.hid (lmCheck_any mp md)
  have OK := Lib.hid ok; have HZ := Lib.hid hz
  unfold limV at *
  clear b0 k0 ip ok hz
  have c0 := HK.out.cell 0
  have c1 := HK.out.cell 1
  simp only [List.getElem?_toArray, List.getElem?_cons_succ, List.getElem?_cons_zero] at c0 c1
  go_enter Tryz.func47, Tryz.ntmps47
  go_wp2_with fail
  refine (HCK.out _).mono ?_
  rintro e w1 ⟨rfl, hb⟩
  have S1 := Lib.hid (S0.out.below hb); have HK1 := Lib.hid (HK.out.below hb HK.out.lt)
  clear hb c0 c1 HCK S0 HK
  by_cases hl : lmOk mp md = true
  rotate_left
  · have HX : Hid (lmFit v mp md p = false) := Lib.hid (by rw [HE.out, Bool.eq_false_iff.2 hl, Bool.false_and])
    rw [lmC_bad hl]
    clear hl
    go_wp2
    go_ret
    exact ⟨by rw [HX.out]; rfl, S1.out.kept⟩
  have HE1 : Hid (lmFit v mp md p = (decide ((mqB v p).2 = 0) && decide (((mqB v p).1.size : Int) ≤ mp))) := Lib.hid (by rw [HE.out, hl, Bool.true_and])
  rw [lmC_ok hl]
  clear hl HE
  have hld := S1.out.ld 0 rfl
  go_wp2_with fail
  refine (mqSize_any v p h _ (S1.out.into 0 rfl) OK.out HZ.out).mono ?_
  rintro e w2 ⟨rfl, hb⟩
  have S2 := Lib.hid (S1.out.below hb); have HK2 := Lib.hid (HK1.out.below hb HK1.out.lt)
  clear hb hld S1 HK1
  generalize (mqB v p).2 = E at *
  generalize (mqB v p).1.size = z at *
  have c0 := HK2.out.cell 0
  simp only [List.getElem?_toArray, List.getElem?_cons_zero] at c0
  by_cases hE : E = 0
  · have HX : Hid (lmFit v mp md p = decide ((z : Int) ≤ mp)) := Lib.hid (by rw [HE1.out, decide_eq_true hE, Bool.true_and])
    subst hE
    clear HE1
    go_wp2
    go_ret
    exact ⟨by rw [HX.out]; rfl, S2.out.kept⟩
  · have HX : Hid (lmFit v mp md p = false) := Lib.hid (by rw [HE1.out, decide_eq_false hE, Bool.false_and])
    have e0 : (E == 0) = false := beq_eq_false_iff_ne.2 hE
    clear HE1 hE
    go_wp2
    go_ret
    exact ⟨by rw [HX.out]; rfl, S2.out.kept⟩
end Go.Proofs.YtbdgkkmbnahgiaaGreatDoor

namespace Go.Proofs.YtbdgkkmbnahgiaaGreatDoor
open Go.RowKit
attribute [local go_sem ↓] to_ldPk to_bxPk to_bdPk to_alPk to_stPk
attribute [local go_sem] run_bxPk run_bxPk_agg ld_fresh run_alPk run_bd0 run_bdK run_bdKI run_bdKIC run_bdKC run_bdKICP run_stPk_fresh pkC_0 pkC_1 pkC_2 pkC_3 pkC_4 pkC_5 pkC_6 pkC_7 pkC_8 pkC_9 pkC_10 pkC_11 pkC_12 pkC_13 pkC_14 pkC_15 pkC_16 pkC_17 pkC_18 pkC_19 pkC_20 pkC_21 pkC_22 pkC_23 pkC_24
theorem run_bd13 (k q i : Int) (t y : ByteArray) (w : World) : (bdPk #[(0, .int .i64 k), (3, .int .i64 q), (4, .int .i64 i), (5, .string t), (6, .string y)]).run Tryz.prog w = .ok (pkV { pk0 with kind := k, qos := q, id := i, topic := t, payload := y } hs0) w := by kernel_rfl
attribute [local go_sem] run_bd13
theorem bare_in (w : World) (B : Nat) {p : Pk} (h1 : p.will.props = []) (h2 : p.codes = []) (h3 : p.filters = []) (h4 : p.props = []) : PkIn w B p hs0 := by
  refine ⟨?_, ?_, ?_, ?_, ?_⟩
  · rw [h1]; exact Rd.nil _ _ _ _
  · rw [h2]; exact Rd.nil _ _ _ _
  · rw [h3]; exact Rd.nil _ _ _ _
  · rw [h4]; exact Rd.nil _ _ _ _
  · rw [h1, h2, h3, h4]; exact ⟨Nat.zero_le _, Nat.zero_le _, Nat.zero_le _, Nat.zero_le _⟩
theorem bare_ok {p : Pk} (h1 : p.will.props = []) (h2 : p.codes = []) (h3 : p.filters = []) (h4 : p.props = []) (ht : p.topic.size ≤ 140737488351232 ∧ p.payload.size ≤ 140737488351232 ∧ p.client.size ≤ 140737488351232 ∧ p.user.size ≤ 140737488351232 ∧ p.pass.size ≤ 140737488351232 ∧ p.will.topic.size ≤ 140737488351232 ∧ p.will.payload.size ≤ 140737488351232) : PkOk p := by
  refine ⟨?_, ?_, ?_, ht, ?_⟩
  · rw [h1]; simp
  · rw [h4]; simp
  · rw [h3]; simp
  · rw [h1, h2, h3, h4]; exact ⟨Nat.zero_le _, Nat.zero_le _, Nat.zero_le _, Nat.zero_le _⟩
end Go.Proofs.YtbdgkkmbnahgiaaGreatDoor

namespace Go.Proofs.YtbdgkkmbnahgiaaGreatDoor
open Go.RowKit
attribute [local go_sem ↓] to_ldPk to_bxPk to_bdPk to_alPk to_stPk
attribute [local go_sem] run_bxPk run_bxPk_agg ld_fresh run_alPk run_bd0 run_bdK run_bdKI run_bdKIC run_bdKC run_bdKICP run_stPk_fresh pkC_0 pkC_1 pkC_2 pkC_3 pkC_4 pkC_5 pkC_6 pkC_7 pkC_8 pkC_9 pkC_10 pkC_11 pkC_12 pkC_13 pkC_14 pkC_15 pkC_16 pkC_17 pkC_18 pkC_19 pkC_20 pkC_21 pkC_22 pkC_23 pkC_24
def pub15 : Pk := { pk0 with kind := 3, topic := ⟨#[97]⟩, payload := ⟨#[48, 49, 50, 51, 52, 53, 54, 55, 56, 57, 97, 98]⟩ }
theorem run_bd15 (k : Int) (t y : ByteArray) (w : World) : (bdPk #[(0, .int .i64 k), (5, .string t), (6, .string y)]).run Tryz.prog w = .ok (pkV { pk0 with kind := k, topic := t, payload := y } hs0) w := by kernel_rfl
def bdLm (v : Array (Nat × Value)) : Sem Value := Instr.build 54 v
theorem to_bdLm (v : Array (Nat × Value)) : Instr.build 54 v = bdLm v := rfl
theorem run_bdLm0 (w : World) : (bdLm #[]).run Tryz.prog w = .ok (.agg #[.int .i64 0, .int .i64 0]) w := by kernel_rfl
theorem run_bdLm1 (a : Int) (w : World) : (bdLm #[(0, .int .i64 a)]).run Tryz.prog w = .ok (.agg #[.int .i64 a, .int .i64 0]) w := by kernel_rfl
theorem run_bdLm2 (a b : Int) (w : World) : (bdLm #[(0, .int .i64 a), (1, .int .i64 b)]).run Tryz.prog w = .ok (.agg #[.int .i64 a, .int .i64 b]) w := by kernel_rfl
attribute [local go_sem ↓] to_bdLm
attribute [local go_sem] run_bd15 run_bdLm0 run_bdLm1 run_bdLm2
theorem exl_1 : lmS 4 16 0 ⟨#[192, 0, 208, 0, 192]⟩ = ([{ pk0 with kind := 12 }, { pk0 with kind := 13 }], 4, 0) := by decide +kernel
theorem exl_2 : lmS 4 16 0 ⟨#[192, 0, 48, 15]⟩ = ([{ pk0 with kind := 12 }], 2, 4) := by decide +kernel
theorem exl_3 : lmS 4 0 0 ⟨#[]⟩ = ([], 0, 2) := by decide +kernel
theorem exl_4 : lmS 9 16 0 ⟨#[]⟩ = ([], 0, 2) := by decide +kernel
theorem exl_5 : lmFit 4 16 0 { pk0 with kind := 12 } = true := by decide +kernel
theorem exl_6 : lmFit 4 16 0 pub15 = false := by decide +kernel
theorem exl_7 : lmFit 4 16 0 pk0 = false := by decide +kernel
theorem exl_8 : lkL ⟨#[97, 98, 99]⟩ (plL 3 [9, -1]) = [⟨#[97, 98, 99]⟩] := by
  rw [show plL 3 [9, -1] = [] from plL_is (List.Perm.refl _) (by decide)]
  decide +kernel
theorem exl_9 : lkL ⟨#[97, 98, 99]⟩ (plL 3 [1, 1]) = [⟨#[97]⟩, ⟨#[]⟩, ⟨#[98, 99]⟩] := by
  rw [show plL 3 [1, 1] = [1, 1] from plL_is (List.Perm.refl _) (by decide)]
  decide +kernel
theorem map_len {L : List (Pk × Hs)} {l : List Pk} (h : L.map Prod.fst = l) {n : Nat} (hn : L.length = n) : n = l.length := by
  rw [← h, List.length_map, hn]
theorem rd_ints (W : World) (a b : Int) : Rd (W.alloc (.cells #[.int .i64 a, .int .i64 b] 3)) (W.alloc (.cells #[.int .i64 a, .int .i64 b] 3)).heap.size 1 (some ⟨W.heap.size, 0, none⟩) 2 (iv [a, b]) :=
  Rd.lit W _ _ rfl (by simp) rfl
set_option maxHeartbeats 8000000 in
set_option maxRecDepth 10000 in
theorem limitsNames_any (w : World) : Calls Tryz.prog 6 #[] w fun e w' => e = .returned (.bool true) ∧ Below w.heap.size w w' := by
  have C1 := Lib.hid (fun W => lmSplit_any 4 16 0 ⟨#[192, 0, 208, 0, 192]⟩ W (by decide))
  have C2 := Lib.hid (fun W => lmSplit_any 4 16 0 ⟨#[192, 0, 48, 15]⟩ W (by decide))
  have C3 := Lib.hid (fun W => lmSplit_any 4 0 0 ⟨#[]⟩ W (by decide))
  have C4 := Lib.hid (fun W => lmSplit_any 9 16 0 ⟨#[]⟩ W (by decide))
  have tx : ∀ (k : Int), PkOk { pk0 with kind := k } := fun k => bare_ok rfl rfl rfl rfl ⟨Nat.zero_le _, Nat.zero_le _, Nat.zero_le _, Nat.zero_le _, Nat.zero_le _, Nat.zero_le _, Nat.zero_le _⟩
  have C5 := Lib.hid (fun W => lmFits_any 4 16 0 { pk0 with kind := 12 } hs0 W (bare_in W _ rfl rfl rfl rfl) (tx 12) (fun hk => absurd hk (by decide)))
  have C6 := Lib.hid (fun W => lmFits_any 4 16 0 pub15 hs0 W (bare_in W _ rfl rfl rfl rfl) (bare_ok rfl rfl rfl rfl ⟨by decide, by decide, by decide, by decide, by decide, by decide, by decide⟩) (fun hk => absurd hk (by decide)))
  have C7 := Lib.hid (fun W => lmFits_any 4 16 0 pk0 hs0 W (bare_in W _ rfl rfl rfl rfl) (tx 0) (fun hk => absurd hk (by decide)))
  have C8 := Lib.hid (fun (W : World) => chunks_any ⟨#[97, 98, 99]⟩ (some ⟨W.heap.size, 0, none⟩) [9, -1] 2 _ (rd_ints W 9 (-1)) (by decide) (by decide))
  have C9 := Lib.hid (fun (W : World) => chunks_any ⟨#[97, 98, 99]⟩ (some ⟨W.heap.size, 0, none⟩) [1, 1] 2 _ (rd_ints W 1 1) (by decide) (by decide))
  rw [exl_1] at C1
  rw [exl_2] at C2
  rw [exl_3] at C3
  rw [exl_4] at C4
  rw [exl_5] at C5
  rw [exl_6] at C6
  rw [exl_7] at C7
  rw [show (⟨#[97, 98, 99]⟩ : ByteArray).size = 3 from rfl, exl_8] at C8
  rw [show (⟨#[97, 98, 99]⟩ : ByteArray).size = 3 from rfl, exl_9] at C9
  have HB0 := Lib.hid (Below.refl w.heap.size w)
  have K0 := Lib.hid lmGreatest_any
  have K1 := Lib.hid lmCheck_any
  unfold limV at C1 C2 C3 C4 C5 C6 C7 K0 K1
  clear tx
  go_enter Tryz.func6, Tryz.ntmps6
  go_wp2_with fail
  refine (lives15_any _).mono ?_
  rintro e w1 ⟨rfl, hb⟩
  have HB1 := Lib.hid (HB0.out.trans (hb.mono HB0.out.size)); clear hb HB0
  have HL := Lib.hid (Bk.fresh w1 54 #[.int .i64 16, .int .i64 0])
  have HB2 := Lib.hid (HB1.out.alloc HB1.out.size (.cells #[.int .i64 16, .int .i64 0] 54))
  clear HB1
  go_upto_region 4 with fail
  obtain ⟨x, hx⟩ : ∃ x, w1.alloc (.cells #[.int .i64 16, .int .i64 0] 54) = x := ⟨_, rfl⟩
  obtain ⟨gl, hgl⟩ : ∃ gl, w1.heap.size = gl := ⟨_, rfl⟩
  rw [hx, hgl] at HL
  rw [hx] at HB2
  rw [hx, hgl]
  clear hx hgl
  clear w1
  have hl0 := HL.out.cell 0; have hl1 := HL.out.cell 1
  simp only [List.getElem?_toArray, List.getElem?_cons_succ, List.getElem?_cons_zero] at hl0 hl1
  go_wp2_with fail
  refine (C1.out _).mono ?_
  rintro e x1 ⟨A1, n1, c1, L1, rfl, hr1, hm1, hb, -, -⟩
  obtain rfl : n1 = 2 := map_len hm1 hr1.len
  have HB3 := Lib.hid (HB2.out.trans (hb.mono HB2.out.size)); have HL3 := Lib.hid (HL.out.below hb HL.out.lt)
  clear hb hr1 hm1 HB2 HL hl0 hl1
  have hl0 := HL3.out.cell 0; have hl1 := HL3.out.cell 1
  simp only [List.getElem?_toArray, List.getElem?_cons_succ, List.getElem?_cons_zero] at hl0 hl1
  dsimp only
  go_wp2_with fail
  refine (C2.out _).mono ?_
  rintro e x2 ⟨A2, n2, c2, L2, rfl, hr2, hm2, hb, -, -⟩
  obtain rfl : n2 = 1 := map_len hm2 hr2.len
  have HB4 := Lib.hid (HB3.out.trans (hb.mono HB3.out.size)); have HL4 := Lib.hid (HL3.out.below hb HL3.out.lt)
  clear hb hr2 hm2 HB3 HL3 hl0 hl1
  have hl0 := HL4.out.cell 0; have hl1 := HL4.out.cell 1
  simp only [List.getElem?_toArray, List.getElem?_cons_succ, List.getElem?_cons_zero] at hl0 hl1
  dsimp only
  go_wp2_with fail
  refine (C3.out _).mono ?_
  rintro e x3 ⟨A3, n3, c3, L3, rfl, -, -, hb, -, -⟩
  have HB5 := Lib.hid (HB4.out.trans (hb.mono HB4.out.size)); have HL5 := Lib.hid (HL4.out.below hb HL4.out.lt)
  clear hb HB4 HL4 hl0 hl1
  have hl0 := HL5.out.cell 0; have hl1 := HL5.out.cell 1
  simp only [List.getElem?_toArray, List.getElem?_cons_succ, List.getElem?_cons_zero] at hl0 hl1
  dsimp only
  go_wp2_with fail
  refine (C4.out _).mono ?_
  rintro e x4 ⟨A4, n4, c4, L4, rfl, -, -, hb, -, -⟩
  have HB6 := Lib.hid (HB5.out.trans (hb.mono HB5.out.size)); have HL6 := Lib.hid (HL5.out.below hb HL5.out.lt)
  clear hb HB5 HL5 hl0 hl1
  dsimp only
  go_wp2_with fail
  refine (K0.out _).mono ?_
  rintro e x5 ⟨rfl, hb⟩
  have HB7 := Lib.hid (HB6.out.trans (hb.mono HB6.out.size)); have HL7 := Lib.hid (HL6.out.below hb HL6.out.lt)
  clear hb HB6 HL6
  go_wp2_with fail
  refine (K1.out 1048576 32 _).mono ?_
  rintro e x6 ⟨rfl, hb⟩
  have HB8 := Lib.hid (HB7.out.trans (hb.mono HB7.out.size)); have HL8 := Lib.hid (HL7.out.below hb HL7.out.lt)
  clear hb HB7 HL7
  rw [show lmC 1048576 32 = 0 by decide]
  go_wp2_with fail
  refine (K0.out _).mono ?_
  rintro e x7 ⟨rfl, hb⟩
  have HB9 := Lib.hid (HB8.out.trans (hb.mono HB8.out.size)); have HL9 := Lib.hid (HL8.out.below hb HL8.out.lt)
  clear hb HB8 HL8
  go_wp2_with fail
  refine (K1.out 1048577 0 _).mono ?_
  rintro e x8 ⟨rfl, hb⟩
  have HB10 := Lib.hid (HB9.out.trans (hb.mono HB9.out.size)); have HL10 := Lib.hid (HL9.out.below hb HL9.out.lt)
  clear hb HB9 HL9
  rw [show lmC 1048577 0 = 2 by decide]
  go_wp2_with fail
  refine (K1.out 16 (-1) _).mono ?_
  rintro e x9 ⟨rfl, hb⟩
  have HB11 := Lib.hid (HB10.out.trans (hb.mono HB10.out.size)); have HL11 := Lib.hid (HL10.out.below hb HL10.out.lt)
  clear hb HB10 HL10
  rw [show lmC 16 (-1) = 2 by decide]
  have hl0 := HL11.out.cell 0; have hl1 := HL11.out.cell 1
  simp only [List.getElem?_toArray, List.getElem?_cons_succ, List.getElem?_cons_zero] at hl0 hl1
  go_wp2_with fail
  refine (C5.out _).mono ?_
  rintro e x10 ⟨rfl, hb⟩
  have HB12 := Lib.hid (HB11.out.trans (hb.mono HB11.out.size)); have HL12 := Lib.hid (HL11.out.below hb HL11.out.lt)
  clear hb HB11 HL11 hl0 hl1
  have hl0 := HL12.out.cell 0; have hl1 := HL12.out.cell 1
  simp only [List.getElem?_toArray, List.getElem?_cons_succ, List.getElem?_cons_zero] at hl0 hl1
  go_wp2_with fail
  refine (C6.out _).mono ?_
  rintro e x11 ⟨rfl, hb⟩
  have HB13 := Lib.hid (HB12.out.trans (hb.mono HB12.out.size)); have HL13 := Lib.hid (HL12.out.below hb HL12.out.lt)
  clear hb HB12 HL12 hl0 hl1
  have hl0 := HL13.out.cell 0; have hl1 := HL13.out.cell 1
  simp only [List.getElem?_toArray, List.getElem?_cons_succ, List.getElem?_cons_zero] at hl0 hl1
  go_wp2_with fail
  refine (C7.out _).mono ?_
  rintro e x12 ⟨rfl, hb⟩
  have HB14 := Lib.hid (HB13.out.trans (hb.mono HB13.out.size))
  clear hb HB13 HL13 hl0 hl1
  go_wp2_with fail
  refine (C8.out _).mono ?_
  rintro e x13 ⟨v13, rfl, hown, hb⟩
  have b0 := HB14.out.alloc HB14.out.size (.cells #[.int .i64 9, .int .i64 (-1)] 3)
  have HB15 := Lib.hid (b0.trans (hb.mono b0.size))
  obtain ⟨A13, c13, rfl, -, hr⟩ := own_rd hown
  have HR13 := Lib.hid hr
  clear hown hb b0 hr
  go_wp2_with fail
  refine (sameT_any A13 _ _ 1 c13 _ [⟨#[97, 98, 99]⟩] [⟨#[97, 98, 99]⟩] _ (HR13.out.alloc (Nat.le_refl _) _ |>.wider (by simp)) (Rd.lit _ _ _ rfl (by simp) rfl) (by decide) (by decide) rfl).mono ?_
  rintro e x14 ⟨rfl, hb⟩
  have b0 := HB15.out.alloc HB15.out.size (.cells #[.string ⟨#[97, 98, 99]⟩] 9)
  have HB16 := Lib.hid (b0.trans (hb.mono b0.size))
  clear hb b0
  go_wp2_with fail
  refine (C9.out _).mono ?_
  rintro e x15 ⟨v15, rfl, hown, hb⟩
  have b0 := HB16.out.alloc HB16.out.size (.cells #[.int .i64 1, .int .i64 1] 3)
  have HB17 := Lib.hid (b0.trans (hb.mono b0.size))
  obtain ⟨A15, c15, rfl, -, hr⟩ := own_rd hown
  have HR15 := Lib.hid hr
  clear hown hb b0 hr
  go_wp2_with fail
  refine (sameT_any A15 _ _ 3 c15 _ [⟨#[97]⟩, ⟨#[]⟩, ⟨#[98, 99]⟩] [⟨#[97]⟩, ⟨#[]⟩, ⟨#[98, 99]⟩] _ (HR15.out.alloc (Nat.le_refl _) _ |>.wider (by simp)) (Rd.lit _ _ _ rfl (by simp) rfl) (by decide) (by decide) rfl).mono ?_
  rintro e x16 ⟨rfl, hb⟩
  have b0 := HB17.out.alloc HB17.out.size (.cells #[.string ⟨#[97]⟩, .string ⟨#[]⟩, .string ⟨#[98, 99]⟩] 9)
  have HB18 := Lib.hid (b0.trans (hb.mono b0.size))
  clear hb b0
  go_wp2
  go_ret
  exact ⟨rfl, HB18.out⟩
end Go.Proofs.YtbdgkkmbnahgiaaGreatDoor

