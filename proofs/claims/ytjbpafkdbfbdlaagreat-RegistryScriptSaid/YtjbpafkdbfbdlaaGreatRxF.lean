/-
  The reference's registry, walked: Predefine, Clear.
-/
import Derived.Test.YtjbpafkdbfbdlaaGreatRxE

namespace Go.Proofs.YtjbpafkdbfbdlaaGreat
open Go.RowKit Go.Maps Go.WideShapes
set_option maxRecDepth 10000 in
set_option maxHeartbeats 4000000 in
theorem xpre_any {w : World} {F : Nat → Prop} {gr K : Nat} {L : Rg} (h : RfSt w F gr L K) (c n : ByteArray) (i : Int) (hn : n.size ≤ 4611686018427387904) (hK : K < 1000000) :
    Calls Tryz.prog 10 #[.pointer (some ⟨gr, 0, none⟩), .string c, .string n, .int .i64 i] w fun e w' => e = .returned (.int .i64 (rfPre L c n i).1) ∧ RfTo w w.heap.size F gr (rfPre L c n i).2 (K + 1) w' := by
  have cN := refName_any n w hn
  have ct := xtop_any h c (by omega)
  have hT : (rgT L c).length ≤ K := h.top_len c
  have H := Lib.hid h
  have HP : Hid (rfPre L c n i = if nameB n = false then ((10 : Int), L) else if i < 1 ∨ 65534 < i then ((2 : Int), L) else
    if (rgT L c).any (fun t => decide ((t.id : Int) = i ∧ t.name = n ∧ t.fixed = true)) = true then ((0 : Int), L) else
    if (rgT L c).any (fun t => decide ((t.id : Int) = i ∨ t.name = n)) = true then ((16 : Int), L) else
    ((0 : Int), rgSet L c (tpIns ⟨i.toNat, n, true⟩ (rgT L c)))) := Lib.hid rfl
  clear h
  go_enter Tryz.func10, Tryz.ntmps10
  go_wp2_with fail
  refine cN.mono ?_
  rintro e w0 ⟨rfl, rfl⟩
  clear cN
  cases hv : nameB n with
  | false =>
    have HR := Lib.hid HP.out
    rw [hv, if_pos rfl] at HR
    clear hv
    go_wp2
    go_ret
    rw [HR.out]
    exact ⟨rfl, H.out.to (Below.refl _ _) (by omega)⟩
  | true =>
    have HQ := HP
    rw [hv, if_neg (by simp)] at HQ
    clear hv HP
    by_cases hi : i < 1 ∨ 65534 < i
    · have HR := HQ
      rw [if_pos hi] at HR
      by_cases h1 : i < 1
      · clear hi
        go_wp2
        go_ret
        rw [HR.out]
        exact ⟨rfl, H.out.to (Below.refl _ _) (by omega)⟩
      · have h2 : 65534 < i := by omega
        clear hi
        go_wp2
        go_ret
        rw [HR.out]
        exact ⟨rfl, H.out.to (Below.refl _ _) (by omega)⟩
    · have HR := HQ
      rw [if_neg hi] at HR
      obtain ⟨m, rfl⟩ : ∃ m : Nat, i = (m : Int) := ⟨i.toNat, by omega⟩
      have h1 : ¬ (m : Int) < 1 := by omega
      have h2 : ¬ (65534 : Int) < (m : Int) := by omega
      rw [Int.toNat_natCast] at HR
      clear hi HQ
      generalize rgT L c = T at ct hT HR
      have hnn : (T.length : Int) ≤ 1000000 := by omega
      have HT := Lib.hid hT
      have HKK := Lib.hid hK
      clear hT hK
      go_wp2_with fail
      refine ct.mono ?_
      rintro e w1 ⟨v, rfl, ho, hb⟩
      obtain ⟨A, cp, rfl, -, hrd⟩ := own_rd ho
      obtain ⟨W, hW⟩ : ∃ W, w1.alloc (.cells #[.int .i64 (m : Int), .string n, .bool true] 44) = W := ⟨_, rfl⟩
      have hX : Bk W w1.heap.size 44 #[.int .i64 (m : Int), .string n, .bool true] := by rw [← hW]; exact Bk.fresh w1 _ _
      have hB1 : Below w1.heap.size w1 W := by rw [← hW]; exact (Below.refl _ w1).alloc (Nat.le_refl _) _
      have HRD := Lib.hid ((hrd.below hB1).wider hB1.size)
      have HB := Lib.hid (hb.trans (hB1.mono hb.size))
      have hx := hX.three.1
      have HX := Lib.hid hX
      clear ct ho hrd hb hX hB1
      generalize hN : T.length = z at hnn HRD
      have HN := Lib.hid hN
      clear hN
      go_wp2
      clear hW
      go_loopw [11] (fun s wr => ∃ k : Nat, s = .int .i64 (k : Int) ∧ k ≤ z ∧ Hid ((T.any fun t => decide ((t.id : Int) = (m : Int) ∧ t.name = n ∧ t.fixed = true)) = (T.drop k).any fun t => decide ((t.id : Int) = (m : Int) ∧ t.name = n ∧ t.fixed = true)) ∧ Below W.heap.size W wr) (fun s _ => z - (intOf s).toNat)
      case atStart => exact ⟨0, rfl, Nat.zero_le _, Lib.hid rfl, Below.refl _ _⟩
      case round =>
        obtain ⟨k, rfl, hk, HK, hbx⟩ := hrel
        have b0 : (0 : Int) ≤ (k : Int) := by omega
        have HB1 := Lib.hid hbx
        have hx1 := (HX.out.below hbx HX.out.lt).three.1
        clear hbx
        by_cases hlt : k < z
        · have hlt' : k < T.length := by rw [HN.out]; exact hlt
          obtain ⟨bA, oA, rfl, hb, e0, e1, e2⟩ := ((show Rd W W.heap.size 3 A T.length (tpCs T) by rw [HN.out]; exact HRD.out).below HB1.out).atP hlt'
          have hst := any_drop (p := fun t => decide ((t.id : Int) = (m : Int) ∧ t.name = n ∧ t.fixed = true)) hlt'
          generalize T[k] = x at e0 e1 e2 hst
          have b1 : (k : Int) < (z : Int) := by omega
          have hne := fun W' => eql_tp x ⟨m, n, true⟩ W'
          have hd : decide (x = ⟨m, n, true⟩) = decide ((x.id : Int) = (m : Int) ∧ x.name = n ∧ x.fixed = true) := by
            rw [decide_eq_decide, tp_eq_iff]
            exact ⟨fun ⟨a, b, c⟩ => ⟨by have : x.id = m := a; omega, b, c⟩, fun ⟨a, b, c⟩ => ⟨by show x.id = m; omega, b, c⟩⟩
          rw [hd] at hne
          obtain ⟨b, hbb⟩ : ∃ b, decide ((x.id : Int) = (m : Int) ∧ x.name = n ∧ x.fixed = true) = b := ⟨_, rfl⟩
          (try simp only at hst)
          rw [hbb] at hne hst
          clear hd hbb hlt'
          have HK' := Lib.hid (HK.out.trans hst)
          clear hst
          cases b with
          | true =>
            have HR2 : Hid (rfPre L c n (m : Int) = ((0 : Int), L)) := Lib.hid (by rw [HR.out, if_pos (by rw [HK'.out, Bool.true_or])])
            go_wp2
            go_region
            go_wp2
            go_ret
            rw [HR2.out]
            exact ⟨rfl, H.out.to (below_drawn (HB.out.trans (HB1.out.mono HB.out.size)) _) (by omega)⟩
          | false =>
            have HK2 : Hid ((T.any fun t => decide ((t.id : Int) = (m : Int) ∧ t.name = n ∧ t.fixed = true)) = (T.drop (k + 1)).any fun t => decide ((t.id : Int) = (m : Int) ∧ t.name = n ∧ t.fixed = true)) := Lib.hid (by rw [HK'.out, Bool.false_or])
            go_wp2
            go_region
            go_wp2
            exact ⟨⟨k + 1, by simp, by omega, HK2, below_drawn HB1.out _⟩, by simp [intOf]; omega⟩
        · have b2 : ¬ (k : Int) < (z : Int) := by omega
          have hkz : k = T.length := by have := HN.out; omega
          have HR2 : Hid (rfPre L c n (m : Int) = if (T.any fun t => decide ((t.id : Int) = (m : Int) ∨ t.name = n)) = true then ((16 : Int), L) else ((0 : Int), rgSet L c (tpIns ⟨m, n, true⟩ T))) := Lib.hid (by rw [HR.out, if_neg (by rw [HK.out, hkz, List.drop_length]; simp)])
          clear hkz HK HR hx
          go_wp2
          go_loopw [12] (fun s wx => ∃ k : Nat, s = .int .i64 (k : Int) ∧ k ≤ z ∧ Hid ((T.any fun t => decide ((t.id : Int) = (m : Int) ∨ t.name = n)) = (T.drop k).any fun t => decide ((t.id : Int) = (m : Int) ∨ t.name = n)) ∧ wr = wx) (fun s _ => z - (intOf s).toNat)
          case atStart => exact ⟨0, rfl, Nat.zero_le _, Lib.hid rfl, rfl⟩
          case round =>
            obtain ⟨j, rfl, hj, HJ, rfl⟩ := hrel
            have c0 : (0 : Int) ≤ (j : Int) := by omega
            by_cases hlt : j < z
            · have hlt' : j < T.length := by rw [HN.out]; exact hlt
              obtain ⟨bA, oA, rfl, hb, e0, e1, e2⟩ := ((show Rd W W.heap.size 3 A T.length (tpCs T) by rw [HN.out]; exact HRD.out).below HB1.out).atP hlt'
              have hst := any_drop (p := fun t => decide ((t.id : Int) = (m : Int) ∨ t.name = n)) hlt'
              generalize T[j] = x at e0 e1 e2 hst
              have b1 : (j : Int) < (z : Int) := by omega
              (try simp only at hst)
              have HJ' := Lib.hid (HJ.out.trans hst)
              clear hst hlt'
              by_cases h5 : (x.id : Int) = (m : Int)
              · have HR3 : Hid (rfPre L c n (m : Int) = ((16 : Int), L)) := Lib.hid (by rw [HR2.out, if_pos (by rw [HJ'.out, decide_eq_true (Or.inl h5), Bool.true_or])])
                have h5b : ((x.id : Int) == (m : Int)) = true := by simp [h5]
                clear h5
                go_wp2
                go_ret
                rw [HR3.out]
                exact ⟨rfl, H.out.to (HB.out.trans (HB1.out.mono HB.out.size)) (by omega)⟩
              · have h5b : ((x.id : Int) == (m : Int)) = false := beq_eq_false_iff_ne.2 h5
                by_cases h6 : x.name = n
                · have HR3 : Hid (rfPre L c n (m : Int) = ((16 : Int), L)) := Lib.hid (by rw [HR2.out, if_pos (by rw [HJ'.out, decide_eq_true (Or.inr h6), Bool.true_or])])
                  have h6b : (x.name.toList == n.toList) = true := by simp [h6]
                  clear h5 h6
                  go_wp2
                  go_ret
                  rw [HR3.out]
                  exact ⟨rfl, H.out.to (HB.out.trans (HB1.out.mono HB.out.size)) (by omega)⟩
                · have HJ2 : Hid ((T.any fun t => decide ((t.id : Int) = (m : Int) ∨ t.name = n)) = (T.drop (j + 1)).any fun t => decide ((t.id : Int) = (m : Int) ∨ t.name = n)) := Lib.hid (by rw [HJ'.out, decide_eq_false (fun h => h.elim h5 h6), Bool.false_or])
                  have h6b : (x.name.toList == n.toList) = false := by simp [tp_toList, h6]
                  clear h5 h6
                  go_wp2
                  exact ⟨⟨j + 1, by simp, by omega, HJ2, trivial⟩, by simp [intOf]; omega⟩
            · have b3 : ¬ (j : Int) < (z : Int) := by omega
              have hjz : j = T.length := by have := HN.out; omega
              have HR3 : Hid (rfPre L c n (m : Int) = ((0 : Int), rgSet L c (tpIns ⟨m, n, true⟩ T))) := Lib.hid (by rw [HR2.out, if_neg (by rw [HJ.out, hjz, List.drop_length]; simp)])
              have hx2 := (HX.out.below HB1.out HX.out.lt).three.1
              have HB2 := Lib.hid (HB.out.trans (HB1.out.mono HB.out.size))
              have k1 := xput_any A cp T ⟨m, n, true⟩ wr (by rw [HN.out]; exact (HRD.out.below HB1.out).wider HB1.out.size) (by have := HT.out; have := HKK.out; omega)
              rw [HN.out] at k1
              clear hjz
              go_wp2_with fail
              refine k1.mono ?_
              rintro e w2 ⟨v2, rfl, ho2, hb2⟩
              obtain ⟨A2, cp2, rfl, hc2, hrd2⟩ := own_rd ho2
              have HB3 := Lib.hid (HB2.out.trans (hb2.mono HB2.out.size))
              have k2 := xset_any (B := w.heap.size) (H.out.below HB3.out) c A2 cp2 (tpIns ⟨m, n, true⟩ T) hrd2 hc2 HB3.out.size (fun q hq => Nat.le_trans HB2.out.size (own_from ho2 q hq)) (by rw [tpIns_length]; have := HT.out; omega) HKK.out
              clear k1 ho2 hb2 hrd2
              go_wp2_with fail
              refine k2.mono ?_
              rintro e w3 ⟨rfl, h3⟩
              have H3 := Lib.hid (RfTo.front HB3.out h3)
              clear k2 h3
              go_wp2
              go_ret
              rw [HR3.out]
              exact ⟨rfl, H3.out⟩
/-- The state of Clear's loop. -/
def ClS (W : World) (T : List Tp) (s6 s7 : Value) (x : World) : Prop :=
  ∃ (k : Nat) (A : Option Addr) (cp : Nat), s7 = .int .i64 (k : Int) ∧ s6 = .slice A ((T.take k).filter (·.fixed)).length cp ∧ k ≤ T.length ∧ PuI W ((T.take k).filter (·.fixed)) (.slice A ((T.take k).filter (·.fixed)).length cp) x
theorem rgSet_all {L : Rg} (h : RgOk L) (c : ByteArray) : rgSet L c (rgT L c) = L := by
  by_cases hn : rgT L c = []
  · rw [hn]
    unfold rgSet
    rw [if_pos rfl]
    exact kvDel_none ((rgT_nil h).1 hn)
  · exact rgSet_same h hn
set_option maxRecDepth 10000 in
set_option maxHeartbeats 4000000 in
theorem xclr_any {w : World} {F : Nat → Prop} {gr K : Nat} {L : Rg} (h : RfSt w F gr L K) (hok : RgOk L) (c : ByteArray) (hK : K < 1000000) :
    Calls Tryz.prog 12 #[.pointer (some ⟨gr, 0, none⟩), .string c] w fun e w' => e = .returned (.int .i64 (rfClr L c).1) ∧ RfTo w w.heap.size F gr (rfClr L c).2 (K + 1) w' := by
  have ct := xtop_any h c (by omega)
  have hT : (rgT L c).length ≤ K := h.top_len c
  have H := Lib.hid h
  have HSM := Lib.hid (rgSet_all hok c)
  have HP : Hid (rfClr L c = (((rgT L c).length - ((rgT L c).filter (·.fixed)).length : Int), rgSet L c ((rgT L c).filter (·.fixed)))) := Lib.hid rfl
  clear h hok
  generalize rgT L c = T at ct hT HP HSM
  have hnn : (T.length : Int) ≤ 1000000 := by omega
  have HT := Lib.hid hT
  have HKK := Lib.hid hK
  clear hT hK
  go_enter Tryz.func12, Tryz.ntmps12
  go_wp2_with fail
  refine ct.mono ?_
  rintro e w1 ⟨v, rfl, ho, hb⟩
  obtain ⟨A, cp, rfl, -, hrd⟩ := own_rd ho
  have HRD := Lib.hid hrd
  have HB := Lib.hid hb
  have HS : Hid (ClS w1 T (.slice none 0 0) (.int .i64 (0 : Nat)) w1) := Lib.hid ⟨0, none, 0, rfl, rfl, Nat.zero_le _, PuI.start w1⟩
  clear ct ho hrd hb
  generalize hN : T.length = m at hnn HRD
  have HN := Lib.hid hN
  clear hN
  go_wp2
  go_loopw [6, 7] (fun s6 s7 wr => Hid (ClS w1 T s6 s7 wr)) (fun _ s7 _ => m - (intOf s7).toNat)
  case atStart => exact HS
  case round =>
    clear HS
    obtain ⟨k, A5, c5, rfl, rfl, hk, hI⟩ := hrel.out
    rw [HN.out] at hk
    have b0 : (0 : Int) ≤ (k : Int) := by omega
    have HI := Lib.hid hI
    have hol : ((T.take k).filter (·.fixed)).length ≤ m := Nat.le_trans (List.length_filter_le _ _) (by rw [List.length_take]; have := HN.out; omega)
    have HOL := Lib.hid hol
    clear hrel hI
    by_cases hlt : k < m
    · have hlt' : k < T.length := by rw [HN.out]; exact hlt
      have b1 : (k : Int) < (m : Int) := by omega
      obtain ⟨bA, oA, rfl, hb, e0, e1, e2⟩ := ((show Rd w1 w1.heap.size 3 A T.length (tpCs T) by rw [HN.out]; exact HRD.out).below HI.out.below).atP hlt'
      have hft := filter_take hlt'
      generalize T[k] = x at e0 e1 e2 hft
      cases hfx : x.fixed with
      | true =>
        rw [hfx] at e2
        rw [if_pos hfx] at hft
        have HFT := Lib.hid hft
        have HFX := Lib.hid hfx
        generalize (T.take k).filter (·.fixed) = out at HI HFT HOL hol
        clear hft hfx hlt'
        go_wp2_with (at_builtin; go_loud (refine wpList_app _ rfl (.tmp 22) (.tmp 27) 45 rfl w1.heap.size 44 _ 3 32 Tryz.underlying45 info_tp rfl (by decide) _ out.length _ rfl (HI.out.alloc _).row _ _ 1 1 [.int .i64 (x.id : Int), .string x.name, .bool true] rfl (Rd.lit _ _ _ rfl (Nat.lt_succ_self _) rfl) (by intro u hu; simp at hu; rcases hu with rfl | rfl | rfl <;> rfl) (by have := HOL.out; unfold maxLen; omega) (by have := HOL.out; omega) (HI.out.alloc _).below.size ?_); intro v1 w2 hown1 hg1 hat1; obtain ⟨A1, c1, rfl, -, -⟩ := own_rd hown1)
        refine ⟨Lib.hid ⟨k + 1, A1, c1, by simp, by rw [HFT.out, List.length_append]; rfl, by have := HN.out; omega, ?_⟩, by simp [intOf]; omega⟩
        rw [HFT.out, List.length_append]
        exact PuI.app (HI.out.alloc _) (by rw [HFX.out]; exact hown1) hg1
      | false =>
        rw [hfx] at e2
        rw [if_neg (by rw [hfx]; decide)] at hft
        have HFT := Lib.hid hft
        clear hft hfx hlt'
        go_wp2
        exact ⟨Lib.hid ⟨k + 1, A5, c5, by simp, by rw [HFT.out], by have := HN.out; omega, by rw [HFT.out]; exact HI.out⟩, by simp [intOf]; omega⟩
    · have b2 : ¬ (k : Int) < (m : Int) := by omega
      have htk : T.take k = T := List.take_of_length_le (by have := HN.out; omega)
      rw [htk] at HI HOL hol
      have HSB : Hid (T.filter (·.fixed) = T ∨ ¬ (T.filter (·.fixed)).length = m) := Lib.hid (by
        by_cases h : (T.filter (·.fixed)).length = m
        · exact .inl (List.filter_sublist.eq_of_length (by rw [HN.out]; exact h))
        · exact .inr h)
      have hlz : 0 ≤ ((T.filter (·.fixed)).length : Int) := by omega
      have hlm : ((T.filter (·.fixed)).length : Int) ≤ (m : Int) := by omega
      rw [htk]
      clear htk hol
      obtain ⟨fs, hfs⟩ : ∃ fs, T.filter (·.fixed) = fs := ⟨_, rfl⟩
      rw [hfs] at HI HOL HSB hlz hlm HP ⊢
      have HFS := Lib.hid hfs
      clear hfs
      obtain ⟨z, hz⟩ : ∃ z, fs.length = z := ⟨_, rfl⟩
      have HZ := Lib.hid hz
      rw [hz] at hlz hlm ⊢
      rw [hz] at HI HSB
      clear hz
      rcases HSB.out with he | hne
      · have hzm : Hid (z = m) := Lib.hid (by rw [← HZ.out, he, HN.out])
        have hzb : ((z : Int) != (m : Int)) = false := by rw [hzm.out]; simp
        have HR : Hid (rfClr L c = ((m : Int) - (z : Int), L)) := Lib.hid (by rw [HP.out, he, HSM.out, HN.out, hzm.out])
        clear he
        go_wp2
        go_ret
        rw [HR.out]
        exact ⟨rfl, H.out.to (HB.out.trans (HI.out.below.mono HB.out.size)) (by omega)⟩
      · have hzb : ((z : Int) != (m : Int)) = true := by simp; omega
        have HR : Hid (rfClr L c = ((m : Int) - (z : Int), rgSet L c fs)) := Lib.hid (by rw [HP.out, HN.out, HZ.out])
        have HB2 := Lib.hid (HB.out.trans (HI.out.below.mono HB.out.size))
        have ho5 := HI.out.row
        rw [HZ.out] at ho5
        obtain ⟨_, _, e5, hc5, hrd5⟩ := own_rd ho5
        cases e5
        rw [← HZ.out] at hc5 hrd5
        have k2 := xset_any (B := w.heap.size) (H.out.below HB2.out) c A5 c5 fs hrd5 hc5 HB2.out.size (fun q hq => Nat.le_trans HB.out.size (own_from ho5 q hq)) (by have := HT.out; have := HN.out; have := HZ.out; omega) HKK.out
        rw [HZ.out] at k2
        clear hne ho5 hc5 hrd5
        go_wp2_with fail
        refine k2.mono ?_
        rintro e w3 ⟨rfl, h3⟩
        have H3 := Lib.hid (RfTo.front HB2.out h3)
        clear k2 h3
        go_wp2
        go_ret
        rw [HR.out]
        exact ⟨rfl, H3.out⟩
end Go.Proofs.YtjbpafkdbfbdlaaGreat
