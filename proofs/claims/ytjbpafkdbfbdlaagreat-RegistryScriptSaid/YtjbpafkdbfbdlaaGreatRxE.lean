/-
  The reference's registry, walked: Register.
-/
import Derived.Test.YtjbpafkdbfbdlaaGreatRxD
import Derived.Test.YtjbpafkdbfbdlaaGreatRwB
import Derived.Test.YtjbpafkdbfbdlaaGreatLwI

namespace Go.Proofs.YtjbpafkdbfbdlaaGreat
open Go.RowKit Go.Maps Go.WideShapes
theorem own_from {w : World} {base n : Nat} {e : TypeId} {k : Nat} {A : Option Addr} {c : Nat} {xs : List Value} (h : w.ownsRow base e k (.slice A n c) n xs) : ∀ a, A = some a → base ≤ a.block := fun a ha => (h.lt a.block (by rw [ha]; rfl)).1
set_option maxRecDepth 10000 in
set_option maxHeartbeats 4000000 in
theorem xreg_any {w : World} {F : Nat → Prop} {gr K : Nat} {L : Rg} (h : RfSt w F gr L K) (c n : ByteArray) (hn : n.size ≤ 4611686018427387904) (hK : K < 1000000) :
    Calls Tryz.prog 14 #[.pointer (some ⟨gr, 0, none⟩), .string c, .string n] w fun e w' => e = .returned (regV (rfReg L c n).1) ∧ RfTo w w.heap.size F gr (rfReg L c n).2 (K + 1) w' := by
  have cN := refName_any n w hn
  have ct := xtop_any h c (by omega)
  have hT : (rgT L c).length ≤ K := h.top_len c
  have H := Lib.hid h
  have HP : Hid (rfReg L c n = if nameB n = false then ((0, false, (10 : Int)), L) else match tpOf (rgT L c) n with | some t => ((t.id, false, 0), L) | none => if 65534 < frS 1 (rgT L c) then ((0, false, 12), L) else ((frS 1 (rgT L c), true, 0), rgSet L c (tpIns ⟨frS 1 (rgT L c), n, false⟩ (rgT L c)))) := Lib.hid rfl
  clear h
  go_enter Tryz.func14, Tryz.ntmps14
  go_wp2_with fail
  refine cN.mono ?_
  rintro e w0 ⟨rfl, rfl⟩
  clear cN
  cases hv : nameB n with
  | false =>
    have HR := Lib.hid HP.out
    rw [hv, if_pos rfl] at HR
    clear hv
    go_wp2
    go_ret3
    rw [HR.out]
    exact ⟨rfl, H.out.to (Below.refl _ _) (by omega)⟩
  | true =>
    have HQ := HP
    rw [hv, if_neg (by simp)] at HQ
    clear hv HP
    generalize rgT L c = T at ct hT HQ
    have hnn : (T.length : Int) ≤ 1000000 := by omega
    have HT := Lib.hid hT
    have HKK := Lib.hid hK
    clear hT hK
    go_wp2_with fail
    refine ct.mono ?_
    rintro e w1 ⟨v, rfl, ho, hb⟩
    obtain ⟨A, cp, rfl, -, hrd⟩ := own_rd ho
    have HRD := Lib.hid hrd
    have HB := Lib.hid hb
    clear ct ho hrd hb
    generalize hN : T.length = m at hnn HRD
    have HN := Lib.hid hN
    clear hN
    go_wp2
    go_loopw [10, 11] (fun s10 s wr => ∃ k : Nat, s = .int .i64 (k : Int) ∧ k ≤ m ∧ ∃ a : Nat, s10 = .int .i64 (a : Int) ∧ a ≤ k + 1 ∧ Hid (a = frS 1 (T.take k)) ∧ Hid (tpOf T n = tpOf (T.drop k) n) ∧ w1 = wr) (fun _ s _ => m - (intOf s).toNat)
    case atStart => exact ⟨0, rfl, Nat.zero_le _, 1, rfl, Nat.le_refl _, Lib.hid rfl, Lib.hid rfl, rfl⟩
    case round =>
      obtain ⟨k, rfl, hk, a, rfl, hak, HA, HK, rfl⟩ := hrel
      have b0 : (0 : Int) ≤ (k : Int) := by omega
      have a0 : (0 : Int) ≤ (a : Int) := by omega
      have a1 : (a : Int) ≤ 1000001 := by omega
      by_cases hlt : k < m
      · have hlt' : k < T.length := by rw [HN.out]; exact hlt
        obtain ⟨bA, oA, rfl, hb, e0, e1, e2⟩ := (show Rd w1 w1.heap.size 3 A T.length (tpCs T) by rw [HN.out]; exact HRD.out).atP hlt'
        have hst := tpOf_drop (n := n) hlt'
        have hfr := frS_take (f := 1) hlt'
        generalize T[k] = x at e0 e1 e2 hst hfr
        have b1 : (k : Int) < (m : Int) := by omega
        by_cases he : x.name = n
        · rw [if_pos he] at hst
          have HR : Hid (rfReg L c n = ((x.id, false, 0), L)) := Lib.hid (by rw [HQ.out, HK.out, hst])
          have heb : (x.name.toList == n.toList) = true := by simp [he]
          clear hst he hlt' hfr
          go_wp2
          go_ret3
          rw [HR.out]
          exact ⟨rfl, H.out.to HB.out (by omega)⟩
        · rw [if_neg he] at hst
          have HK' : Hid (tpOf T n = tpOf (T.drop (k + 1)) n) := Lib.hid (by rw [HK.out, hst])
          have heb : (x.name.toList == n.toList) = false := by simp [tp_toList, he]
          by_cases hf : x.id = a
          · rw [← HA.out, if_pos hf] at hfr
            have HA' := Lib.hid hfr
            have hfb : ((x.id : Int) == (a : Int)) = true := by simp [hf]
            clear hst he hlt' hfr hf
            go_wp2
            exact ⟨⟨k + 1, by simp, by omega, a + 1, by simp, by omega, Lib.hid HA'.out.symm, HK', trivial⟩, by simp [intOf]; omega⟩
          · rw [← HA.out, if_neg hf] at hfr
            have HA' := Lib.hid hfr
            have hfb : ((x.id : Int) == (a : Int)) = false := beq_eq_false_iff_ne.2 (by omega)
            clear hst he hlt' hfr hf
            go_wp2
            exact ⟨⟨k + 1, by simp, by omega, a, by simp, by omega, Lib.hid HA'.out.symm, HK', trivial⟩, by simp [intOf]; omega⟩
      · have b2 : ¬ (k : Int) < (m : Int) := by omega
        have hkm : k = T.length := by have := HN.out; omega
        have hnone : tpOf T n = none := by rw [HK.out, hkm, List.drop_length]; rfl
        have hfa : a = frS 1 T := by rw [HA.out, hkm, List.take_length]
        have HR : Hid (rfReg L c n = if 65534 < a then ((0, false, (12 : Int)), L) else ((a, true, 0), rgSet L c (tpIns ⟨a, n, false⟩ T))) := Lib.hid (by rw [HQ.out, hnone, hfa])
        clear hkm hnone hfa
        by_cases hful : 65534 < a
        · rw [if_pos hful] at HR
          have hfb : (65534 : Int) < (a : Int) := by omega
          clear hful
          go_wp2
          go_ret3
          rw [HR.out]
          exact ⟨rfl, H.out.to HB.out (by omega)⟩
        · rw [if_neg hful] at HR
          have hfb : ¬ (65534 : Int) < (a : Int) := by omega
          have k1 := xput_any A cp T ⟨a, n, false⟩ w1 (by rw [HN.out]; exact HRD.out) (by have := HT.out; have := HKK.out; omega)
          rw [HN.out] at k1
          clear hful
          go_wp2_with fail
          refine k1.mono ?_
          rintro e w2 ⟨v2, rfl, ho2, hb2⟩
          obtain ⟨A2, cp2, rfl, hc2, hrd2⟩ := own_rd ho2
          have HB2 := Lib.hid (HB.out.trans (hb2.mono HB.out.size))
          have k2 := xset_any (B := w.heap.size) (H.out.below HB2.out) c A2 cp2 (tpIns ⟨a, n, false⟩ T) hrd2 hc2 HB2.out.size (fun q hq => Nat.le_trans HB.out.size (own_from ho2 q hq)) (by rw [tpIns_length]; have := HT.out; omega) HKK.out
          clear k1 ho2 hb2 hrd2
          go_wp2_with fail
          refine k2.mono ?_
          rintro e w3 ⟨rfl, h3⟩
          have H3 := Lib.hid (RfTo.front HB2.out h3)
          clear k2 h3
          go_wp2
          go_ret3
          rw [HR.out]
          exact ⟨rfl, H3.out⟩
end Go.Proofs.YtjbpafkdbfbdlaaGreat
