/- Reference 05: Read. -/
import Derived.Test.YtpcaffimahapjaaGreatRfK
import Derived.Deep.RegionLaw
namespace Go.Proofs.YtpcaffimahapjaaGreat
open Go.RowKit
def szOf : Value → Nat
  | .string s => s.size
  | _ => 0
theorem readP_walk {kind : Int} {s T : ByteArray} {N K : Nat} (hr : readV (ls s) = (N, K, 0)) (hl : K + N ≤ s.size) (hT : s.extract K (K + N) = T) {r : List Pr × Int} (h : listS kind T = r) : readP kind s = if r.2 ≠ 0 then ([], 0, r.2) else (r.1, K + N, 0) := by
  subst hT h
  unfold readP
  rw [hr]
  rw [if_neg (by simp), if_neg (by simp only; omega)]
theorem out_rd {w : World} {base n : Nat} {v : Value} {l : List Pr} (h : w.ownsRow base 24 4 v n (prs l)) : ∃ A c, v = .slice A n c ∧ n ≤ c ∧ Rd w w.heap.size 4 A n (prs l) := own_rd h
set_option maxHeartbeats 8000000 in
set_option maxRecDepth 10000 in
theorem refReadP_any (kind : Int) (s : ByteArray) (w : World) (hs : s.size ≤ 140737488351232) :
    Calls Tryz.prog 19 #[.int .i64 kind, .string s] w (ReadOut (readP kind s) w) := by
  obtain ⟨N, K, F, hR⟩ : ∃ N K F, readV (ls s) = (N, K, F) := ⟨_, _, _, rfl⟩
  have HR := Lib.hid hR
  by_cases hF : F = 0
  rotate_left
  · have HX : Hid (readP kind s = ([], 0, F)) := Lib.hid (by unfold readP; rw [hR, if_pos hF])
    have e0 : (F != 0) = true := bne_iff_ne.2 hF
    clear hR hF
    go_enter Tryz.func19, Tryz.ntmps19
    go_wp2_with fail
    refine (ref2Read_any s _ (by omega)).mono ?_
    rintro e w1 ⟨rfl, rfl⟩
    rw [HR.out]
    simp only
    go_wp2
    go_ret3
    exact readOut_bad HX.out (Below.refl _ _)
  subst hF
  have hNK : N ≤ 268435455 ∧ K ≤ 4 := by
    obtain ⟨-, h2, h3⟩ := readV_back hR
    refine ⟨h3, ?_⟩
    rw [h2, varL_len]
    split; omega; split; omega; split; omega; omega
  by_cases hl : K + N ≤ s.size
  rotate_left
  · have HX : Hid (readP kind s = ([], 0, 3)) := Lib.hid (by unfold readP; rw [hR, if_neg (by simp), if_pos (by simp only; omega)])
    have w0 : IntKind.i64.wrap ((s.size : Int) - (K : Int)) = (s.size : Int) - (K : Int) := by rw [IntKind.wrap_i64]; omega
    have d0 : decide ((s.size : Int) - (K : Int) < (N : Int)) = true := decide_eq_true (by omega)
    clear hR hl hNK
    go_enter Tryz.func19, Tryz.ntmps19
    go_wp2_with fail
    refine (ref2Read_any s _ (by omega)).mono ?_
    rintro e w1 ⟨rfl, rfl⟩
    rw [HR.out]
    simp only
    go_wp2
    go_ret3
    exact readOut_bad HX.out (Below.refl _ _)
  obtain ⟨T, hT⟩ : ∃ T, s.extract K (K + N) = T := ⟨_, rfl⟩
  have hTs : T.size ≤ 140737488351232 := by rw [← hT, ByteArray.size_extract]; omega
  have HW := Lib.hid (fun r => readP_walk (kind := kind) (r := r) hR hl hT)
  have HTS := Lib.hid hTs
  have HKN : Hid (((K + N : Nat) : Int) = (K : Int) + (N : Int)) := Lib.hid (by omega)
  have w0 : IntKind.i64.wrap ((s.size : Int) - (K : Int)) = (s.size : Int) - (K : Int) := by rw [IntKind.wrap_i64]; omega
  have w2 : IntKind.i64.wrap ((K : Int) + (N : Int)) = (K : Int) + (N : Int) := by rw [IntKind.wrap_i64]; omega
  have d0 : decide ((s.size : Int) - (K : Int) < (N : Int)) = false := decide_eq_false (by omega)
  have i1 : (0 : Int) ≤ (K : Int) := by omega
  have i2 : (K : Int) ≤ (K : Int) + (N : Int) := by omega
  have i3 : (K : Int) + (N : Int) ≤ (s.size : Int) := by omega
  have hcut : s.extract K (K + N) = T := hT
  have i4 : ((K : Int) + (N : Int)).toNat = K + N := by omega
  have HT0 : Hid (T.extract 0 T.size = T) := Lib.hid (by simp)
  clear hR hl hNK hT hTs
  go_enter Tryz.func19, Tryz.ntmps19
  go_wp2_with fail
  refine (ref2Read_any s _ (by omega)).mono ?_
  rintro e w1 ⟨rfl, rfl⟩
  rw [HR.out]
  simp only
  go_wp2
  go_loopw [10, 11] (fun out left wr => ∃ (m a : Nat) (o : List Pr), LAt kind T m a o ∧ left = .string (T.extract a T.size) ∧ wr.ownsRow w.heap.size 24 4 out o.length (prs o) ∧ Below w.heap.size w wr) (fun _ left _ => szOf left)
  case atStart => exact ⟨T.size + 1, 0, [], LAt.start kind T, by rw [HT0.out], World.ownsRow_nil _ _ _ _, Below.refl _ _⟩
  case round =>
    obtain ⟨m, a, o, hat, rfl, hown, hbel⟩ := hrel
    have HA := Lib.hid hat; have HO := Lib.hid hown; have HB := Lib.hid hbel
    clear hat hown hbel
    by_cases hlt : a < T.size
    rotate_left
    · obtain ⟨A, c, rfl, hc, hrd⟩ := out_rd HO.out
      have HRD := Lib.hid hrd; have HC := Lib.hid hc
      have HX := Lib.hid (HW.out _ (HA.out.done hlt))
      have he : (T.extract a T.size).toList.isEmpty = true := by rw [emptyB_iff]; exact decide_eq_true (by rw [ByteArray.size_extract]; omega)
      have HL := Lib.hid HA.out.len
      clear hrd hc hlt hcut
      generalize T.extract a T.size = X at *
      cases hlo : loneL o
      · rw [hlo] at HX
        have HLO := Lib.hid hlo; clear hlo
        go_wp2_with fail
        refine (refLone_any o o.length rfl A c _ HRD.out (by have := HL.out; omega)).mono ?_
        rintro e w3 ⟨rfl, hb⟩
        rw [HLO.out]
        have HB1 := Lib.hid (HB.out.trans (hb.mono HB.out.size)); have HRD1 := Lib.hid ((HRD.out.below hb).wider hb.size); clear hb
        go_wp2
        go_ret3
        exact ⟨A, c, by rw [HX.out]; simp only [HKN.out]; rfl, by rw [HX.out]; exact HC.out, by rw [HX.out]; exact HRD1.out, HB1.out⟩
      · rw [hlo] at HX
        have HLO := Lib.hid hlo; clear hlo
        go_wp2_with fail
        refine (refLone_any o o.length rfl A c _ HRD.out (by have := HL.out; omega)).mono ?_
        rintro e w3 ⟨rfl, hb⟩
        rw [HLO.out]
        have HB1 := Lib.hid (HB.out.trans (hb.mono HB.out.size)); clear hb
        go_wp2
        go_ret3
        exact readOut_bad HX.out HB1.out
    obtain ⟨X, hX⟩ : ∃ X, T.extract a T.size = X := ⟨_, rfl⟩
    have hxs : X.size = T.size - a := by rw [← hX, ByteArray.size_extract]; omega
    have hx0 : 0 < X.size := by omega
    have HCU : Hid (∀ k, X.extract k X.size = T.extract (a + k) T.size) := Lib.hid (fun k => by
      rw [hxs, ← hX, ex_ex (by omega), show a + (T.size - a) = T.size by omega])
    obtain ⟨b0, hb0⟩ : ∃ b0, X[0] = b0 := ⟨_, rfl⟩
    have HB0 := Lib.hid (show X[0] = b0 from hb0)
    have HID : Hid (idAt T a = b0.toNat) := Lib.hid (id_head hlt (by rw [hX]; exact hx0) (by subst hX; exact hb0))
    obtain ⟨sh, hsh⟩ : ∃ sh, shapeOf (b0.toNat : Int) = sh := ⟨_, rfl⟩
    have RN := Lib.hid (show Rnd kind T m a o b0 sh from ⟨HA.out, hlt, HID.out, hsh⟩)
    have HSH := Lib.hid hsh
    have hne : X.toList.isEmpty = false := by rw [emptyB_iff]; exact decide_eq_false (by omega)
    have hx0' : (0 : Int) < (X.size : Int) := by omega
    have HXT : Hid (X.size ≤ 140737488351232) := Lib.hid (by have := HTS.out; omega)
    have hw0 : IntKind.i64.wrap (b0.toNat : Int) = (b0.toNat : Int) := by rw [IntKind.wrap_i64]; have := b0.toNat_lt; omega
    have HVA := Lib.hid (valS_at (t := X) (a := 1) hx0 sh)
    have HVO := Lib.hid (valS_ok (t := X) (a := 1) HXT.out sh)
    have HXE := Lib.hid hX
    have HX0 := Lib.hid hx0
    rw [hX]
    clear hsh hlt hxs hX hcut
    cases hmay : mayP kind (b0.toNat : Int)
    · have HX := Lib.hid (HW.out _ (RN.out.no hmay))
      have HM := Lib.hid hmay; clear hmay
      go_wp2_with fail
      refine (refMayP_any kind (b0.toNat : Int) _).mono ?_
      rintro e w3 ⟨rfl, hb⟩
      rw [HM.out]
      have HB1 := Lib.hid (HB.out.trans (hb.mono HB.out.size)); clear hb
      go_wp2
      go_ret3
      exact readOut_bad HX.out HB1.out
    have HM := Lib.hid hmay; clear hmay
    have HS17 := Lib.hid (shape_of_has (id := (b0.toNat : Int)) rfl (show hasR _ kind = true from HM.out))
    go_wp2_with fail
    refine (refMayP_any kind (b0.toNat : Int) _).mono ?_
    rintro e w3 ⟨rfl, hb⟩
    rw [HM.out]
    have HB1 := Lib.hid (HB.out.trans (hb.mono HB.out.size)); have HO1 := Lib.hid (own_below HO.out hb); clear hb
    go_wp2_with fail
    refine (refNext_any X b0 HX0.out HB0.out sh HSH.out (by rw [← HSH.out]; exact HS17.out.1) (by rw [← HSH.out]; exact HS17.out.2) _ (by have := HXT.out; omega)).mono ?_
    rintro e w4 ⟨P, k, rfl, hok, hb⟩
    have HB2 := Lib.hid (HB1.out.trans (hb.mono HB1.out.size)); have HO2 := Lib.hid (own_below HO1.out hb)
    have HOK := Lib.hid hok
    clear hb hok
    by_cases herr : (valS sh X 1).err = 0
    rotate_left
    · have hx := HW.out _ (RN.out.err HM.out (by rw [HXE.out]; exact herr))
      rw [HXE.out, if_pos herr] at hx
      have HX := Lib.hid hx
      obtain ⟨E, hE⟩ : ∃ E, (valS sh X 1).err = E := ⟨_, rfl⟩
      rw [hE] at herr HX ⊢
      have e0 : (E == 0) = false := beq_eq_false_iff_ne.2 herr
      have e1 : (E != 0) = true := bne_iff_ne.2 herr
      have HB3 := Lib.hid (HB2.out.alloc HB2.out.size (.cells #[.int .i64 P.id, .int .u32 P.n, .string P.text, .string P.value] 24))
      clear herr hx hE HOK
      unfold Pr.val
      go_wp2
      go_ret3
      exact readOut_bad HX.out HB3.out
    obtain ⟨rfl, rfl⟩ := HOK.out herr
    obtain ⟨vn, vt, vv, va, hV⟩ : ∃ vn vt vv va, valS sh X 1 = ⟨vn, vt, vv, va, 0⟩ := ⟨_, _, _, _, by rw [← herr]⟩
    have RQ : Hid (rdQ sh b0 (T.extract a T.size) = ⟨b0.toNat, vn, vt, vv⟩) := Lib.hid (by rw [HXE.out]; unfold rdQ; rw [hV])
    have HERR : Hid ((valS sh (T.extract a T.size) 1).err = 0) := Lib.hid (by rw [HXE.out]; exact herr)
    have HAT : Hid ((valS sh (T.extract a T.size) 1).at_ = va) := Lib.hid (by rw [HXE.out, hV])
    rw [hV] at HVA HVO ⊢
    clear hV herr HOK
    simp only at HVA HVO ⊢
    have HPOK : Hid (Pr.Ok ⟨b0.toNat, vn, vt, vv⟩) := Lib.hid (prGood_ok HVO.out)
    have HP3 := Lib.hid (Bk.fresh w4 24 #[.int .i64 (b0.toNat : Int), .int .u32 vn, .string vt, .string vv])
    have HB3 := Lib.hid (HB2.out.alloc HB2.out.size (.cells #[.int .i64 (b0.toNat : Int), .int .u32 vn, .string vt, .string vv] 24))
    have HO3 := Lib.hid (HO2.out.alloc (.cells #[.int .i64 (b0.toNat : Int), .int .u32 vn, .string vt, .string vv] 24))
    unfold Pr.val
    by_cases hck : checkE (ruleOf (b0.toNat : Int)) kind ⟨b0.toNat, vn, vt, vv⟩ = 0
    rotate_left
    · have hx := HW.out _ (RN.out.bad HM.out HERR.out RQ.out hck)
      simp only at hx
      rw [if_pos hck] at hx
      have HX := Lib.hid hx
      obtain ⟨E, hE⟩ : ∃ E, checkE (ruleOf (b0.toNat : Int)) kind ⟨b0.toNat, vn, vt, vv⟩ = E := ⟨_, rfl⟩
      rw [hE] at hck HX
      have HE := Lib.hid hE
      have e0 : (E == 0) = false := beq_eq_false_iff_ne.2 hck
      have e1 : (E != 0) = true := bne_iff_ne.2 hck
      clear hck hx hE
      go_wp2_with fail
      refine (refCheckP_any kind ⟨b0.toNat, vn, vt, vv⟩ HPOK.out _).mono ?_
      rintro e w5 ⟨rfl, hb⟩
      rw [HE.out]
      have HB4 := Lib.hid (HB3.out.trans (hb.mono HB3.out.size)); clear hb
      go_wp2
      go_ret3
      exact readOut_bad HX.out HB4.out
    have HCK := Lib.hid hck; clear hck
    go_wp2_with fail
    refine (refCheckP_any kind ⟨b0.toNat, vn, vt, vv⟩ HPOK.out _).mono ?_
    rintro e w5 ⟨rfl, hb⟩
    rw [HCK.out]
    have HB4 := Lib.hid (HB3.out.trans (hb.mono HB3.out.size)); have HO4 := Lib.hid (own_below HO3.out hb); have HP4 := Lib.hid (HP3.out.below hb HP3.out.lt); clear hb
    obtain ⟨⟨c0, c1, c2, c3⟩, f0, f1, f2, f3⟩ := HP4.out.four
    obtain ⟨A, c, rfl, hc, hrd⟩ := out_rd HO4.out
    have HRD := Lib.hid hrd; have HC := Lib.hid hc; have HLEN := Lib.hid HA.out.len
    clear hrd hc
    cases htw : twB kind o (b0.toNat : Int)
    rotate_left
    · have hx := HW.out _ (RN.out.twice HM.out HERR.out RQ.out HCK.out htw)
      have HX := Lib.hid hx
      have HTW := Lib.hid htw
      clear hx htw
      go_wp2_with fail
      refine (refTwice_any kind (b0.toNat : Int) o o.length rfl A c _ HRD.out (by have := HLEN.out; omega)).mono ?_
      rintro e w6 ⟨rfl, hb⟩
      rw [HTW.out]
      have HB5 := Lib.hid (HB4.out.trans (hb.mono HB4.out.size)); clear hb
      go_wp2
      go_ret3
      exact readOut_bad HX.out HB5.out
    have HREST := Lib.hid (RN.out.rest HM.out HERR.out RQ.out HCK.out htw)
    have HTW := Lib.hid htw
    clear htw
    go_wp2_with fail
    refine (refTwice_any kind (b0.toNat : Int) o o.length rfl A c _ HRD.out (by have := HLEN.out; omega)).mono ?_
    rintro e w6 ⟨rfl, hb⟩
    rw [HTW.out]
    have HB5 := Lib.hid (HB4.out.trans (hb.mono HB4.out.size)); have HO5 := Lib.hid (own_below HO4.out hb); have HP5 := Lib.hid (HP4.out.below hb HP4.out.lt); clear hb c0 c1 c2 c3 f0 f1 f2 f3
    obtain ⟨⟨c0, c1, c2, c3⟩, f0, f1, f2, f3⟩ := HP5.out.four
    by_cases hfull : o.length = 1000
    · have hx := HW.out _ (HREST.out.1 hfull)
      have HX := Lib.hid hx
      have dF : decide ((1000 : Int) ≤ (o.length : Int)) = true := decide_eq_true (by omega)
      clear hx hfull
      go_wp2
      go_ret3
      exact readOut_bad HX.out HB5.out
    obtain ⟨m', hm'⟩ := HREST.out.2 hfull
    rw [HAT.out] at hm'
    have HNX := Lib.hid hm'
    have dF : decide ((1000 : Int) ≤ (o.length : Int)) = false := decide_eq_false (by have := HLEN.out; omega)
    have HLT : Hid (o.length < 1000) := Lib.hid (by have := HLEN.out; omega)
    have v1 : (0 : Int) ≤ (va : Int) := by omega
    have v2 : (va : Int) ≤ (X.size : Int) := by have := HVA.out.2; omega
    have HQ : Hid (∀ g, (Value.slice A o.length c).ownBlock = some g → w.heap.size ≤ g) := Lib.hid (fun g hg => (own_block HO5.out g hg).1)
    clear hm' hfull HREST
    go_wp2_with fail
    go_region_law ((refine step_app (by rfl) _ _ _ (by rfl) w.heap.size 24 _ 4 48 Tryz.underlying25 info_prop rfl (by decide) (.slice A o.length c) _ _ (by rfl) (by first | exact own_drewN (HO5.out.alloc _) 1 | exact (own_drewN HO5.out 1).alloc _) _ _ 1 1 (prs [⟨b0.toNat, vn, vt, vv⟩]) (by rfl) (by first | exact (Rd.one4 w6 ⟨b0.toNat, vn, vt, vv⟩).drewN 1 | exact Rd.one4 _ ⟨b0.toNat, vn, vt, vv⟩) (prs_one _) (by have := HLT.out; unfold maxLen; omega) (by have := HLT.out; omega) (by have := HB5.out.size; simp; omega) ?_; intro v' w7 hown7 hg7 hat7))
    have hb7 : Below w.heap.size w w7 := by
      first
        | exact below_app (below_drawn (HB5.out.alloc HB5.out.size _) 1) hg7 (below_drawn (HB5.out.alloc HB5.out.size _) 1).size HQ.out
        | exact below_app ((below_drawn HB5.out 1).alloc (below_drawn HB5.out 1).size _) hg7 ((below_drawn HB5.out 1).alloc (below_drawn HB5.out 1).size _).size HQ.out
    have HB7 := Lib.hid hb7
    have HO7 := Lib.hid hown7
    have HXS : Hid (szOf (.string (T.extract (a + va) T.size)) < X.size) := Lib.hid (by
      have h1 := HVA.out.1
      have h2 := HX0.out
      show (T.extract (a + va) T.size).size < X.size
      rw [← HXE.out, ByteArray.size_extract, ByteArray.size_extract]
      rw [← HXE.out, ByteArray.size_extract] at h2
      omega)
    clear hb7 hown7 hg7 hat7 c0 c1 c2 c3 f0 f1 f2 f3
    go_wp2
    go_roundw
    case rel =>
      have hrel : ∃ (m a : Nat) (o : List Pr), LAt kind T m a o ∧ (Value.string (X.extract va X.size)) = .string (T.extract a T.size) ∧ w7.ownsRow w.heap.size 24 4 v' o.length (prs o) ∧ Below w.heap.size w w7 :=
        ⟨m', a + va, o ++ [⟨b0.toNat, vn, vt, vv⟩], HNX.out, by rw [HCU.out], by rw [prs_append, List.length_append]; exact HO7.out, HB7.out⟩
      (repeat apply Exists.intro)
      exact ⟨hrel, rfl⟩
    case measure =>
      rw [HCU.out]
      exact HXS.out
end Go.Proofs.YtpcaffimahapjaaGreat
