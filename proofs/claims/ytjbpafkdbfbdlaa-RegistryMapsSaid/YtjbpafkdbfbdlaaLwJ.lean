/-
  The law RegistryMaps, walked.
-/
import Derived.Test.YtjbpafkdbfbdlaaLwC
import Derived.Test.YtjbpafkdbfbdlaaLwF
import Derived.Test.YtjbpafkdbfbdlaaLwI
import Derived.Deep.DeepCutAuto
import Derived.Deep.CutBlock
import Derived.Deep.Light

namespace Go.Proofs.Ytjbpafkdbfbdlaa
open Go.RowKit
theorem mxJ {n : Nat} (h : n ≤ 140737488351232) : n ≤ maxLen := by unfold maxLen; omega
theorem RgN.upK {w0 w : World} {Ex : Nat → Prop} {gp K K' : Nat} {L : Rg} (h : RgN w0 Ex gp L K w) (hK : K ≤ K') : RgN w0 Ex gp L K' w := by
  obtain ⟨F, a, b⟩ := h.st
  exact ⟨⟨F, a.more hK, b⟩, h.ex, h.below⟩
theorem RgN.top_len {w0 w : World} {Ex : Nat → Prop} {gp K : Nat} {L : Rg} (h : RgN w0 Ex gp L K w) (c : ByteArray) : (rgT L c).length ≤ K := by
  obtain ⟨F, ⟨bm, M, -, rfl, -, hB⟩, -⟩ := h.st
  rw [rgT_of]
  cases e : kvAt c M with
  | none => exact Nat.zero_le _
  | some x =>
    have h2 : x.cl.back.length + x.cl.all.length ≤ K := hB _ (kvAt_mem e)
    show x.cl.all.length ≤ K
    omega
theorem RgN.ok {w0 w : World} {Ex : Nat → Prop} {gp K : Nat} {L : Rg} (h : RgN w0 Ex gp L K w) : RgOk L := by
  obtain ⟨F, a, -⟩ := h.st
  exact a.ok
theorem nameB_size {s : ByteArray} (h : nameB s = true) : s.size ≤ 65535 := by
  unfold nameB textB at h
  simp only [Bool.and_eq_true] at h
  exact valid_size h.1.2
def othS (c : ByteArray) : ByteArray := ⟨#[111, 116, 104, 101, 114, 32, 111, 102, 32]⟩ ++ c
def MpR (w : World) (gp i : Nat) (wr : World) : Prop := ∃ L, RgN w (fun _ => False) gp L i wr ∧ RgNm L
/-- In a round: the registry, the call's block, the rows that were taken. -/
structure MpM (w : World) (gp x : Nat) (p : Ac) (L : Rg) (K : Nat) (T U : List Tp) (A1 : Option Addr) (q1 : Nat) (A2 : Option Addr) (q2 : Nat) (b1 b2 : Nat) (wr : World) : Prop where
  st : RgN w (fun i => (i = x ∨ (Value.slice A1 T.length q1).ownBlock = some i) ∨ (Value.slice A2 U.length q2).ownBlock = some i) gp L K wr
  bk : Bk wr x 28 #[.int .i64 p.kind, .string p.client, .string p.name, .int .i64 p.id]
  was : wr.ownsRow b1 39 3 (.slice A1 T.length q1) T.length (tpCs T)
  away : wr.ownsRow b2 39 3 (.slice A2 U.length q2) U.length (tpCs U)
  nm : RgNm L
/-- Behind the call: the rows that were taken, and those that are now. -/
structure MpN (w : World) (gp x : Nat) (p : Ac) (L : Rg) (K : Nat) (T U N : List Tp) (A1 A2 A3 : Option Addr) (wr : World) : Prop where
  st : RgN w (fun _ => False) gp L K wr
  bk : Bk wr x 28 #[.int .i64 p.kind, .string p.client, .string p.name, .int .i64 p.id]
  was : Rd wr wr.heap.size 3 A1 T.length (tpCs T)
  away : Rd wr wr.heap.size 3 A2 U.length (tpCs U)
  now : Rd wr wr.heap.size 3 A3 N.length (tpCs N)
theorem MpN.keep {w wr w' : World} {gp x K : Nat} {p : Ac} {L : Rg} {T U N : List Tp} {A1 A2 A3 : Option Addr} (h : MpN w gp x p L K T U N A1 A2 A3 wr) (hb : Below wr.heap.size wr w') : MpN w gp x p L K T U N A1 A2 A3 w' :=
  ⟨h.st.keep hb, h.bk.below hb h.bk.lt, (h.was.below hb).wider hb.size, (h.away.below hb).wider hb.size, (h.now.below hb).wider hb.size⟩
theorem MpM.keep {w wr w' : World} {gp x K q1 q2 b1 b2 : Nat} {p : Ac} {L : Rg} {T U : List Tp} {A1 A2 : Option Addr} (h : MpM w gp x p L K T U A1 q1 A2 q2 b1 b2 wr) (hb : Below wr.heap.size wr w') : MpM w gp x p L K T U A1 q1 A2 q2 b1 b2 w' :=
  ⟨h.st.keep hb, h.bk.below hb h.bk.lt, own_below h.was hb, own_below h.away hb, h.nm⟩
theorem MpM.go {w wr w' : World} {gp x K K' q1 q2 b1 b2 : Nat} {p : Ac} {L L' : Rg} {T U : List Tp} {A1 A2 : Option Addr} (h : MpM w gp x p L K T U A1 q1 A2 q2 b1 b2 wr)
    (h' : RgN w (fun i => (i = x ∨ (Value.slice A1 T.length q1).ownBlock = some i) ∨ (Value.slice A2 U.length q2).ownBlock = some i) gp L' K' w') (hn : RgNm L')
    (hM : Mods (fun i => ¬ ((i = x ∨ (Value.slice A1 T.length q1).ownBlock = some i) ∨ (Value.slice A2 U.length q2).ownBlock = some i)) wr w') : MpM w gp x p L' K' T U A1 q1 A2 q2 b1 b2 w' :=
  ⟨h', (hM.block x h.bk.lt fun hn => hn (.inl (.inl rfl))).trans h.bk, own_mods h.was hM fun _ hk hn => hn (.inl (.inr hk)), own_mods h.away hM fun _ hk hn => hn (.inr hk), hn⟩
set_option maxRecDepth 10000 in
set_option maxHeartbeats 8000000 in
theorem registryMaps_any (A : Option Addr) (cp : Nat) (l : List Ac) (w : World) (hl : Rd w w.heap.size 4 A l.length (acCs l)) (hn : l.length ≤ 140737488351232) (hg : ∀ x ∈ l, (Lit.int .i64 x.id).wf = true ∧ x.client.size ≤ 140737488351232 ∧ x.name.size ≤ 140737488351232) :
    Calls Try.prog 3 #[.slice A l.length cp] w fun e w' => e = .returned (.bool true) ∧ Below w.heap.size w w' := by
  have cL := lives24_any w
  have HL := Lib.hid hl
  have HG := Lib.hid hg
  clear hl hg
  have hcT := fun w1 h => light24_any A cp l w1 h hn fun x hx => (HG.out x hx).2
  have HcT := Lib.hid hcT
  clear hcT
  generalize hN : l.length = n at hn
  have HN := Lib.hid hN
  rw [hN] at HL HcT
  clear hN
  go_enter Try.func3, Try.ntmps3
  go_wp2_with fail
  refine cL.mono ?_
  rintro e w1 ⟨rfl, hb1⟩
  have hl1 := (HL.out.below hb1).wider hb1.size
  have cT := HcT.out w1 hl1
  have B1 := Lib.hid hb1
  clear cL hb1 hl1
  go_wp2_with fail
  refine cT.mono ?_
  rintro e w2 ⟨b, rfl, hbL, hb2⟩
  have HBL := Lib.hid hbL
  have B2 := Lib.hid (B1.out.trans (hb2.mono B1.out.size))
  clear cT hbL hb2 B1
  cases b with
  | false =>
    go_wp2
    go_ret
    exact ⟨rfl, B2.out⟩
  | true =>
    have HA : Hid (acLight l) := Lib.hid (HBL.out rfl)
    have c0 := newN w w2 B2.out
    clear HBL HcT
    go_wp2_with fail
    refine c0.mono ?_
    rintro e w3 ⟨rfl, h3⟩
    have H3 : Hid (MpR w (w2.heap.size + 1) 0 w3) := Lib.hid ⟨_, h3, RgNm.new⟩
    clear c0 h3 B2
    generalize w2.heap.size + 1 = gp at H3
    go_wp2
    go_loopw [4] (fun s4 wr => ∃ i : Nat, s4 = .int .i64 (i : Int) ∧ i ≤ n ∧ Hid (MpR w gp i wr)) (fun s4 _ => n - (intOf s4).toNat)
    case atStart => exact ⟨0, rfl, Nat.zero_le _, H3⟩
    case round =>
      obtain ⟨i, rfl, hi, HR⟩ := hrel
      clear H3
      have b0 : (0 : Int) ≤ (i : Int) := by omega
      by_cases hlt : i < n
      · have hlt' : i < l.length := by rw [HN.out]; exact hlt
        obtain ⟨L, hD, hnm⟩ := HR.out
        have hl80 : Hid (i < 80) := Lib.hid (by have := HA.out.2; omega)
        obtain ⟨bA, oA, rfl, hb, d0, d1, d2, d3⟩ := ((show Rd w w.heap.size 4 A l.length (acCs l) by rw [HN.out]; exact HL.out).below hD.below).atA hlt'
        have hm := HG.out _ (List.getElem_mem hlt')
        have hm2 := HA.out.1 _ (List.getElem_mem hlt')
        generalize l[i] = p at d0 d1 d2 d3 hm hm2
        have HM := Lib.hid hm
        have HM2 := Lib.hid hm2
        have hoz : ¬ (9223372036854775807 < 9 + p.client.size) := by omega
        have b1 : (i : Int) < (n : Int) := by omega
        have hb2 : Below wr.heap.size wr (wr.alloc (.cells #[.int .i64 p.kind, .string p.client, .string p.name, .int .i64 p.id] 28)) := (Below.refl _ wr).alloc (Nat.le_refl _) _
        have hX := Bk.fresh wr 28 #[.int .i64 p.kind, .string p.client, .string p.name, .int .i64 p.id]
        have hE := hD.more (Ex' := fun i => i = wr.heap.size) hb2 fun i hi => .inr ⟨by omega, by rw [hi]; exact hX.lt⟩
        have HX := Lib.hid hX
        have hx4 := hX.four.1
        have HNM := Lib.hid hnm
        clear hlt' hm hm2 hb2 hD hX HR hnm
        generalize hW2 : wr.alloc (.cells #[.int .i64 p.kind, .string p.client, .string p.name, .int .i64 p.id] 28) = W2 at HX hx4 hE
        have cW := topN hE p.client (mxJ HM.out.2.1) (by have := hl80.out; omega)
        obtain ⟨T, hT⟩ : ∃ T, rgT L p.client = T := ⟨_, rfl⟩
        obtain ⟨U, hU⟩ : ∃ U, rgT L (othS p.client) = U := ⟨_, rfl⟩
        have HTU : Hid (T.length ≤ 80 ∧ U.length ≤ 80) := Lib.hid ⟨by rw [← hT]; have := hE.top_len p.client; have := hl80.out; omega, by rw [← hU]; have := hE.top_len (othS p.client); have := hl80.out; omega⟩
        rw [hT] at cW
        have hoT := Lib.hid hT
        have hoU := Lib.hid hU
        clear hT hU
        clear hE
        go_wp2_with fail
        refine cW.mono ?_
        rintro e w6 ⟨v1, rfl, hr1, hb6, h6⟩
        obtain ⟨A1, q1, rfl, -, -⟩ := own_rd hr1
        have HX6 := Lib.hid (HX.out.below hb6 HX.out.lt)
        have hx6 := HX6.out.four.1
        have R1 := Lib.hid hr1
        have cU := topN h6 (othS p.client) (by unfold othS; rw [ByteArray.size_append]; have := HM2.out.1; have h9 : (⟨#[111, 116, 104, 101, 114, 32, 111, 102, 32]⟩ : ByteArray).size = 9 := rfl; unfold maxLen; omega) (by have := hl80.out; omega)
        rw [hoU.out] at cU
        unfold othS at cU
        clear cW hr1 hb6 h6 HX hx4 hW2
        go_wp2_with fail
        refine cU.mono ?_
        rintro e w7 ⟨v2, rfl, hr2, hb7, h7⟩
        obtain ⟨A2, q2, rfl, -, -⟩ := own_rd hr2
        have HZ : Hid (MpM w gp wr.heap.size p L i T U A1 q1 A2 q2 W2.heap.size w6.heap.size w7) := Lib.hid ⟨h7, HX6.out.below hb7 HX6.out.lt, own_below R1.out hb7, hr2, HNM.out⟩
        have hx7 := HZ.out.bk.four.1
        clear cU hr2 hb7 h7 R1 HX6 hx6
        obtain ⟨q, hq, hq4⟩ := pickR_nat p.kind 4
        have cP := pickR_any p.kind 5 w7 (by decide)
        rw [show pickR p.kind 5 = (q : Int) from hq] at cP
        clear hq
        go_wp2_with fail
        refine cP.mono ?_
        rintro e w8 ⟨rfl, rfl⟩
        clear cP
        go_upto_block 2 with fail
        go_cut [9] (fun s9 wx => ∃ (e : Int) (L' : Rg), s9 = .int .i64 e ∧ Hid (MpM w gp wr.heap.size p L' (i + 1) T U A1 q1 A2 q2 W2.heap.size w6.heap.size wx) ∧ Hid (rgT L' (othS p.client) = U) ∧ Hid (e ≠ 0 → rgT L' p.client = T))
        case first =>
          rename_i hKM
          revert hKM
          go_light
          intro hKM
          as_aux_lemma =>
            have hk : q = 3 ∨ q = 4 ∨ (q ≠ 3 ∧ q ≠ 4) := by omega
            rcases hk with rfl | rfl | ⟨q3, q4⟩
            · have k1 := preN HZ.out.st p.client p.name p.id (mxJ HM.out.2.1) (by have := HM.out.2.2; omega) (by have := hl80.out; omega)
              go_wp2_with fail
              refine k1.mono ?_
              rintro e w9 ⟨rfl, h9, hM9⟩
              have HX9 := Lib.hid (HZ.out.go h9 (HZ.out.nm.pre p.client p.name p.id) hM9)
              clear k1 h9 hM9
              go_wp2
              go_meet
              case rel => exact ⟨_, _, rfl, HX9, Lib.hid ((rfPre_other (other_ne p.client)).trans hoU.out), Lib.hid fun h => by rw [rfPre_err h]; exact hoT.out⟩
            · have k1 := clrN HZ.out.st p.client (mxJ HM.out.2.1) (by have := hl80.out; omega)
              have hsum := rfClr_count (L := L) (c := p.client)
              have hT80 := HZ.out.st.top_len p.client
              rw [hoT.out] at hsum hT80
              have ht0 : ((rgT (rfClr L p.client).2 p.client).length : Int) ≤ (T.length : Int) := by
                have : (rgT (rfClr L p.client).2 p.client).length ≤ (rgT L p.client).length := by
                  unfold rfClr
                  rw [rgT_set]
                  exact List.length_filter_le _ _
                rw [hoT.out] at this
                omega
              go_wp2_with fail
              refine k1.mono ?_
              rintro e w9 ⟨rfl, h9, hM9⟩
              have h9' := h9.upK (K' := i + 1) (by omega)
              have HX9 := Lib.hid (HZ.out.go h9' (HZ.out.nm.clr p.client) hM9)
              have hx9 := HX9.out.bk.four.1
              have k2 := lenN h9 p.client (mxJ HM.out.2.1)
              have hU9 : Hid (rgT (rfClr L p.client).2 (othS p.client) = U) := Lib.hid ((rfClr_other (other_ne p.client)).trans hoU.out)
              generalize (rfClr L p.client).2 = L9 at k2 hU9 HX9 hsum ht0
              generalize (rfClr L p.client).1 = r9 at hsum
              generalize (rgT L9 p.client).length = m9 at k2 hsum ht0
              have hi80 := hl80.out
              have hs1 : (r9 + (m9 : Int) != (T.length : Int)) = false := by
                rw [hsum]
                simp
              have r0 : 0 ≤ r9 := by omega
              have r1 : r9 ≤ 100 := by omega
              have m1 : (m9 : Int) ≤ 100 := by omega
              clear k1 h9 h9' hM9 hx7 hsum ht0 hT80
              go_wp2_with fail
              refine k2.mono ?_
              rintro e w10 ⟨rfl, rfl⟩
              clear k2
              go_wp2
              go_meet
              case rel => exact ⟨_, _, rfl, HX9, hU9, Lib.hid fun h => absurd rfl h⟩
            · have i3 : ((q : Int) == 3) = false := beq_eq_false_iff_ne.2 (by omega)
              have i4 : ((q : Int) == 4) = false := beq_eq_false_iff_ne.2 (by omega)
              clear q3 q4
              have k1 := regN HZ.out.st p.client p.name (mxJ HM.out.2.1) (by have := HM.out.2.2; omega) (by have := hl80.out; omega)
              have hrn := rfReg_name HZ.out.st.ok (c := p.client) (n := p.name) (by have := HZ.out.st.top_len p.client; have := hl80.out; omega)
              have hre := fun h => rfReg_err (L := L) (c := p.client) (n := p.name) h
              have hnm' := HZ.out.nm.reg p.client p.name
              have hro : rgT (rfReg L p.client p.name).2 (othS p.client) = U := (rfReg_other (other_ne p.client)).trans hoU.out
              rw [hoT.out] at hrn
              have hTn : Hid (∀ t ∈ T, nameB t.name = true) := Lib.hid (by rw [← hoT.out]; exact HZ.out.nm.tops p.client)
              have hT80 : Hid (T.length ≤ 80) := Lib.hid (by have := HZ.out.st.top_len p.client; have := hl80.out; rw [hoT.out] at *; omega)
              generalize rfReg L p.client p.name = r at k1 hrn hre hnm' hro
              obtain ⟨⟨id, fresh, f⟩, L9⟩ := r
              simp only at k1 hrn hre hnm' hro
              have hrn1 := Lib.hid hrn
              have hre1 := Lib.hid hre
              go_wp2_with fail
              refine k1.mono ?_
              rintro e w9 ⟨rfl, h9, hM9⟩
              simp only [regV]
              have HX9 := Lib.hid (HZ.out.go h9 hnm' hM9)
              have hx9 := HX9.out.bk.four.1
              have hU9 := Lib.hid hro
              have cN := refName_any p.name w9 (by have := HM.out.2.2; omega)
              clear k1 h9 hM9 hrn hre hnm' hro hx7 HZ
              have hsame : Hid (∀ t ∈ T, t.name = p.name → fresh = false ∧ id = t.id) := Lib.hid fun t ht hn => hrn1.out.2.1 t ht hn (hrn1.out.1.2 (by rw [← hn]; exact hTn.out t ht))
              have hfree : Hid (fresh = true → id = frS 1 T) := Lib.hid hrn1.out.2.2
              obtain ⟨A1', q1', e, -, hrd⟩ := own_rd HX9.out.was
              cases e
              have HRD := Lib.hid hrd
              clear hrd
              have hm80 : (T.length : Int) ≤ 80 := by have := hT80.out; omega
              have h1 := hrn1.out.1
              have h2 := hre1.out
              generalize nameB p.name = nb at cN h1
              have hff : f = 0 ∧ nb = true ∨ f ≠ 0 ∧ nb = false ∧ fresh = false ∧ id = 0 := by
                by_cases hf : f = 0
                · exact .inl ⟨hf, h1.1 hf⟩
                · refine .inr ⟨hf, ?_, (h2 hf).2⟩
                  cases nb with
                  | false => rfl
                  | true => exact absurd (h1.2 rfl) hf
              have HFF := Lib.hid hff
              have hT9 : Hid (f ≠ 0 → rgT L9 p.client = T) := Lib.hid fun h => by rw [(h2 h).1]; exact hoT.out
              clear h1 h2 hrn1 hre1 hff
              have HNX : Hid (MpM w gp wr.heap.size p L9 (i + 1) T U A1 q1 A2 q2 W2.heap.size w6.heap.size w9) := HX9
              go_upto_region 17 with fail
              go_cut [79] (fun s79 wx => s79 = .bool false ∧ Hid (MpM w gp wr.heap.size p L9 (i + 1) T U A1 q1 A2 q2 W2.heap.size w6.heap.size wx))
              case first =>
                rename_i hKM
                revert hKM
                go_light
                intro hKM
                as_aux_lemma =>
                  rcases HFF.out with ⟨rfl, rfl⟩ | ⟨hf, rfl, rfl, hid⟩
                  · go_wp2_with fail
                    refine cN.mono ?_
                    rintro e w10 ⟨rfl, rfl⟩
                    clear cN
                    go_wp2
                    go_meet
                    case rel => exact ⟨rfl, HX9⟩
                  · have hf2 : (f == 0) = false := by simp [hf]
                    have hf3 : (f != 0) = true := by simp [hf]
                    have hidb : ((id : Int) != 0) = false := by simp [hid]
                    clear hid
                    clear hf
                    go_wp2_with fail
                    refine cN.mono ?_
                    rintro e w10 ⟨rfl, rfl⟩
                    clear cN
                    go_wp2
                    go_meet
                    case rel => exact ⟨rfl, HX9⟩
              obtain ⟨rfl, HXC⟩ := hcut
              clear HX9 HNX hx9 HRD cN
              obtain ⟨A1', q1', e, -, hrd⟩ := own_rd HXC.out.was
              cases e
              have HRD := Lib.hid hrd
              clear hrd
              go_wp2
              go_loopw [14, 15] (fun s14 s15 wx => ∃ k : Nat, s15 = .int .i64 (k : Int) ∧ k ≤ T.length ∧ ∃ a : Nat, s14 = .int .i64 (a : Int) ∧ a ≤ k + 1 ∧ Hid (a = frS 1 (T.take k)) ∧ Below wc.heap.size wc wx) (fun _ s15 _ => T.length - (intOf s15).toNat)
              case atStart => exact ⟨0, rfl, Nat.zero_le _, 1, rfl, Nat.le_refl _, Lib.hid rfl, Below.refl _ _⟩
              case round =>
                  obtain ⟨k, rfl, hk, a, rfl, hak, HAK, hbx⟩ := hrel
                  have bk0 : (0 : Int) ≤ (k : Int) := by omega
                  have ba0 : (0 : Int) ≤ (a : Int) := by omega
                  have ba1 : (a : Int) ≤ 81 := by omega
                  by_cases hlk : k < T.length
                  · obtain ⟨bT, oT, rfl, hbT, e0, e1, e2⟩ := (HRD.out.below hbx).atT hlk
                    have hx10 := (HXC.out.keep hbx).bk.four.1
                    have hmem := Lib.hid (hsame.out _ (List.getElem_mem hlk))
                    have hst := Lib.hid (frS_first hlk)
                    generalize T[k] = t at e0 e1 e2 hmem hst
                    have bk1 : (k : Int) < (T.length : Int) := by omega
                    by_cases hnn : t.name = p.name
                    · obtain ⟨hfr', hid'⟩ := hmem.out hnn
                      have hnl : (t.name.toList == p.name.toList) = true := by rw [hnn]; simp
                      obtain rfl := hfr'
                      obtain rfl := hid'
                      clear hnn
                      by_cases hta : t.id = a
                      · rw [if_pos (by rw [← HAK.out]; exact hta), ← HAK.out] at hst
                        have hta' : ((t.id : Int) == (a : Int)) = true := by simp [hta]
                        clear hta
                        go_wp2
                        go_quiet (fail)
                        go_wp2
                        first
                          | exact ⟨⟨k + 1, by simp, by omega, a + 1, by simp, by omega, Lib.hid (hst.out.symm), below_drawn hbx _⟩, by simp [intOf]; omega⟩
                          | (go_roundw
                             case rel => (repeat apply Exists.intro); refine ⟨⟨k + 1, ?_, by omega, a + 1, ?_, by omega, Lib.hid (hst.out.symm), below_drawn hbx _⟩, rfl⟩ <;> simp
                             case measure => go_light; simp [intOf]; omega)
                      · rw [if_neg (by rw [← HAK.out]; exact hta), ← HAK.out] at hst
                        have hta' : ((t.id : Int) == (a : Int)) = false := beq_eq_false_iff_ne.2 (by omega)
                        clear hta
                        go_wp2
                        go_quiet (fail)
                        go_wp2
                        first
                          | exact ⟨⟨k + 1, by simp, by omega, a, by simp, by omega, Lib.hid (hst.out.symm), below_drawn hbx _⟩, by simp [intOf]; omega⟩
                          | (go_roundw
                             case rel => (repeat apply Exists.intro); refine ⟨⟨k + 1, ?_, by omega, a, rfl, by omega, Lib.hid (hst.out.symm), below_drawn hbx _⟩, rfl⟩; simp
                             case measure => go_light; simp [intOf]; omega)
                    · have hnl : ¬ t.name.toList = p.name.toList := fun h => hnn ((tp_toList _ _).1 h)
                      have hnb : (t.name.toList == p.name.toList) = false := by simp [hnl]
                      clear hnn
                      by_cases hta : t.id = a
                      · rw [if_pos (by rw [← HAK.out]; exact hta), ← HAK.out] at hst
                        have hta' : ((t.id : Int) == (a : Int)) = true := by simp [hta]
                        clear hta
                        go_wp2
                        go_quiet (fail)
                        go_wp2
                        first
                          | exact ⟨⟨k + 1, by simp, by omega, a + 1, by simp, by omega, Lib.hid (hst.out.symm), below_drawn hbx _⟩, by simp [intOf]; omega⟩
                          | (go_roundw
                             case rel => (repeat apply Exists.intro); refine ⟨⟨k + 1, ?_, by omega, a + 1, ?_, by omega, Lib.hid (hst.out.symm), below_drawn hbx _⟩, rfl⟩ <;> simp
                             case measure => go_light; simp [intOf]; omega)
                      · rw [if_neg (by rw [← HAK.out]; exact hta), ← HAK.out] at hst
                        have hta' : ((t.id : Int) == (a : Int)) = false := beq_eq_false_iff_ne.2 (by omega)
                        clear hta
                        go_wp2
                        go_quiet (fail)
                        go_wp2
                        first
                          | exact ⟨⟨k + 1, by simp, by omega, a, by simp, by omega, Lib.hid (hst.out.symm), below_drawn hbx _⟩, by simp [intOf]; omega⟩
                          | (go_roundw
                             case rel => (repeat apply Exists.intro); refine ⟨⟨k + 1, ?_, by omega, a, rfl, by omega, Lib.hid (hst.out.symm), below_drawn hbx _⟩, rfl⟩; simp
                             case measure => go_light; simp [intOf]; omega)
                  · have hka : Hid (a = frS 1 T) := Lib.hid (by rw [HAK.out, List.take_of_length_le (by omega)])
                    have bk1 : ¬ (k : Int) < (T.length : Int) := by omega
                    have HX10 := Lib.hid (HXC.out.keep hbx)
                    have hfa : fresh = false ∨ (fresh = true ∧ (id : Int) = (a : Int)) := by
                      cases hfv : fresh with
                      | false => exact .inl rfl
                      | true => exact .inr ⟨rfl, by rw [hfree.out hfv, hka.out]⟩
                    rcases hfa with hfa | ⟨hfa, hia⟩
                    · go_wp2
                      go_meet
                      case rel => exact ⟨f, L9, rfl, HX10, hU9, hT9⟩
                    · go_wp2
                      go_meet
                      case rel => exact ⟨f, L9, rfl, HX10, hU9, hT9⟩
        obtain ⟨e, L', rfl, HZ', HU', HT'⟩ := hcut
        obtain ⟨N, hN⟩ : ∃ N, rgT L' p.client = N := ⟨_, rfl⟩
        have cN := topN HZ'.out.st p.client (mxJ HM.out.2.1) (by have := hl80.out; omega)
        rw [hN] at cN HT'
        have HN2 := Lib.hid hN
        have HOK : Hid (RgOk L' ∧ RgNm L' ∧ N.length ≤ 81) := Lib.hid ⟨HZ'.out.st.ok, HZ'.out.nm, by rw [← hN]; have := HZ'.out.st.top_len p.client; have := hl80.out; omega⟩
        have hxc := HZ'.out.bk.four.1
        clear hN
        go_wp2_with fail
        refine cN.mono ?_
        rintro e w11 ⟨v3, rfl, hr3, hb11, h11⟩
        obtain ⟨A3, q3, rfl, -, hr3⟩ := own_rd hr3
        obtain ⟨A1', q1', e1, -, hr1⟩ := own_rd (own_below HZ'.out.was hb11)
        cases e1
        obtain ⟨A2', q2', e2, -, hr2⟩ := own_rd (own_below HZ'.out.away hb11)
        cases e2
        have HV : Hid (MpN w gp wr.heap.size p L' (i + 1) T U N A1 A2 A3 w11) := Lib.hid ⟨h11.less fun _ h => h.elim, HZ'.out.bk.below hb11 HZ'.out.bk.lt, hr1, hr2, hr3⟩
        clear cN hr3 hr2 hr1 hb11 h11 HZ' hxc
        go_upto_region 36 with fail
        go_cut [165] (fun s wx => s = .bool false ∧ Hid (MpN w gp wr.heap.size p L' (i + 1) T U N A1 A2 A3 wx))
        case first =>
          rename_i hKM
          revert hKM
          go_light
          intro hKM
          as_aux_lemma =>
            have cU := fun w1 (h : MpN w gp wr.heap.size p L' (i + 1) T U N A1 A2 A3 w1) => topN h.st (othS p.client) (by unfold othS; rw [ByteArray.size_append]; have := HM2.out.1; have h9 : (⟨#[111, 116, 104, 101, 114, 32, 111, 102, 32]⟩ : ByteArray).size = 9 := rfl; unfold maxLen; omega) (by have := hl80.out; omega)
            rw [HU'.out] at cU
            unfold othS at cU
            have HcU := Lib.hid cU
            have hT80 : T.length ≤ 4611686018427387904 ∧ U.length ≤ 4611686018427387904 := by have := HTU.out; omega
            have HT80 := Lib.hid hT80
            clear cU hT80
            by_cases he : e = 0
            · subst he
              have k1 := HcU.out w11 HV.out
              go_wp2_with fail
              refine k1.mono ?_
              rintro e w12 ⟨v4, rfl, hr4, hb12, h12⟩
              obtain ⟨A4, q4, rfl, -, hr4⟩ := own_rd hr4
              have HV12 := Lib.hid (HV.out.keep hb12)
              have k2 := sameTp_any A4 A2 U.length U.length q4 q2 U w12 hr4 HV12.out.away HT80.out.2
              clear k1 hr4 hb12 h12
              go_wp2_with fail
              refine k2.mono ?_
              rintro e w13 ⟨rfl, hb13⟩
              have HV13 := Lib.hid (HV12.out.keep hb13)
              clear k2 hb13
              go_wp2
              go_meet
              case rel => exact ⟨rfl, HV13⟩
            · have hNT := HT'.out he
              subst hNT
              have he2 : (e != 0) = true := by simp [he]
              have k0 := sameTp_any A3 A1 N.length N.length q3 q1 N w11 HV.out.now HV.out.was HT80.out.1
              clear he
              go_wp2_with fail
              refine k0.mono ?_
              rintro e w12 ⟨rfl, hb12⟩
              have HV12 := Lib.hid (HV.out.keep hb12)
              have k1 := HcU.out w12 HV12.out
              clear k0 hb12
              go_wp2_with fail
              refine k1.mono ?_
              rintro e w13 ⟨v4, rfl, hr4, hb13, h13⟩
              obtain ⟨A4, q4, rfl, -, hr4⟩ := own_rd hr4
              have HV13 := Lib.hid (HV12.out.keep hb13)
              have k2 := sameTp_any A4 A2 U.length U.length q4 q2 U w13 hr4 HV13.out.away HT80.out.2
              clear k1 hr4 hb13 h13
              go_wp2_with fail
              refine k2.mono ?_
              rintro e w14 ⟨rfl, hb14⟩
              have HV14 := Lib.hid (HV13.out.keep hb14)
              clear k2 hb14
              go_wp2
              go_meet
              case rel => exact ⟨rfl, HV14⟩
        obtain ⟨rfl, HVC⟩ := hcut
        have HIN : Hid (∀ t ∈ N, rfName L' p.client (t.id : Int) = (t.name, 0) ∧ rfID L' p.client t.name = ((t.id : Int), 0) ∧ 1 ≤ t.id ∧ t.id ≤ 65534 ∧ rfFix L' p.client (t.id : Int) = t.fixed ∧ nameB t.name = true) := Lib.hid fun t ht => maps_in HOK.out.1 HOK.out.2.1 (by rw [HN2.out]; exact ht)
        have HUP : Hid (∀ k (h : k + 1 < N.length), N[k].id < N[k + 1].id) := Lib.hid (by rw [← HN2.out]; exact fun k h => maps_up HOK.out.1 h)
        have bN : (N.length : Int) ≤ 81 := by have := HOK.out.2.2; omega
        clear HV HU' HT' HN2 HTU
        generalize hNN : N.length = m at bN
        have HNN := Lib.hid hNN
        clear hNN
        obtain ⟨RM, hRM⟩ : ∃ R : World → Prop, R = MpN w gp wr.heap.size p L' (i + 1) T U N A1 A2 A3 := ⟨_, rfl⟩
        have HRM := Lib.hid hRM
        have HVD : Hid (RM wc) := Lib.hid (by rw [hRM]; exact HVC.out)
        clear hRM HVC
        go_wp2
        go_loopw [17] (fun s17 wx => ∃ k : Nat, s17 = .int .i64 (k : Int) ∧ k ≤ m ∧ Hid (RM wx)) (fun s17 _ => m - (intOf s17).toNat)
        case atStart => exact ⟨0, rfl, Nat.zero_le _, HVD⟩
        case round =>
          obtain ⟨k, rfl, hk, HV0⟩ := hrel
          have hv0 := HV0.out
          rw [HRM.out] at hv0
          have HVR := Lib.hid hv0
          clear HVD hv0 HV0
          have bk0 : (0 : Int) ≤ (k : Int) := by omega
          by_cases hlk : k < m
          · have hlk' : k < N.length := by rw [HNN.out]; exact hlk
            obtain ⟨bT, oT, rfl, hbT, e0, e1, e2⟩ := HVR.out.now.atT hlk'
            have hin := HIN.out _ (List.getElem_mem hlk')
            generalize hNk : N[k] = t at e0 e1 e2 hin
            have HNK : Hid (∀ h : k < N.length, N[k] = t) := Lib.hid fun _ => hNk
            obtain ⟨i1, i2, i3, i4, i5, i6⟩ := hin
            have hts := nameB_size i6
            have ht1 : ¬ (t.id : Int) < 1 := by omega
            have ht2 : ¬ (65534 : Int) < (t.id : Int) := by omega
            have hX3 := Bk.fresh wr 39 #[.int .i64 (t.id : Int), .string t.name, .bool t.fixed]
            have hV3 := HVR.out.keep (w' := wr.alloc (.cells #[.int .i64 (t.id : Int), .string t.name, .bool t.fixed] 39)) ((Below.refl _ wr).alloc (Nat.le_refl _) _)
            generalize hW3 : wr.alloc (.cells #[.int .i64 (t.id : Int), .string t.name, .bool t.fixed] 39) = W3 at hX3 hV3
            have hx3 := hX3.three.1
            have hp3 := hV3.bk.four.1
            have HV3 := Lib.hid hV3
            have HX3 := Lib.hid hX3
            have k1 := nameN hV3.st p.client (mxJ HM.out.2.1) (t.id : Int) (wf_id (by omega))
            rw [i1] at k1
            have HI2 := Lib.hid i2
            have HI5 := Lib.hid i5
            have HI6 := Lib.hid i6
            have HTS := Lib.hid hts
            have HT12 := Lib.hid (And.intro i3 i4)
            have hbk1 : (k : Int) < (m : Int) := by omega
            clear hNk hV3 hX3 i1 i2 i3 i4 i5 i6 hts ht1 ht2 HVR hlk'
            go_wp2_with fail
            refine k1.mono ?_
            rintro e w21 ⟨rfl, -, hb21⟩
            have HV4 := Lib.hid (HV3.out.keep hb21)
            have hx4 := (HX3.out.below hb21 HX3.out.lt).three.1
            have hp4 := HV4.out.bk.four.1
            have k2 := idN HV4.out.st p.client t.name (mxJ HM.out.2.1) (by have := HTS.out; unfold maxLen; omega)
            rw [HI2.out] at k2
            clear k1 hx3 hp3 HV3 hW3
            go_wp2_with fail
            refine k2.mono ?_
            rintro e w22 ⟨rfl, rfl⟩
            have cF : Hid (∀ x, Below w21.heap.size w21 x → Calls Try.prog 17 #[.pointer (some ⟨gp, 0, none⟩), .string p.client, .int .i64 (t.id : Int)] x fun e y => e = .returned (.bool t.fixed) ∧ Below x.heap.size x y) := Lib.hid fun x hx => by
              have h := fixN (HV4.out.keep hx).st p.client (mxJ HM.out.2.1) (t.id : Int) (wf_id (by have := HT12.out; omega))
              rw [HI5.out] at h
              exact h.mono fun e y h => ⟨h.1, by rw [h.2]; exact Below.refl _ _⟩
            have cR : Hid (∀ x : World, Calls Try.prog 13 #[.string t.name] x fun e y => e = .returned (.bool true) ∧ Below x.heap.size x y) := Lib.hid fun x => by
              have h := refName_any t.name x (by have := HTS.out; omega)
              rw [HI6.out] at h
              exact h.mono fun e y h => ⟨h.1, by rw [h.2]; exact Below.refl _ _⟩
            have HXT := Lib.hid (HX3.out.below hb21 HX3.out.lt)
            have ht1 : decide ((t.id : Int) < 1) = false := decide_eq_false (by have := HT12.out; omega)
            have ht2 : decide ((65534 : Int) < (t.id : Int)) = false := decide_eq_false (by have := HT12.out; omega)
            have hprev : k ≠ 0 → ∃ z : Nat, bT < w21.heap.size ∧ w21.cell? ⟨bT, oT + (k - 1) * 3, none⟩ = some (.int .i64 (z : Int)) ∧ z < t.id := fun h0 => by
              obtain ⟨bB', oB', e, hbw, e1, -, -⟩ := HV4.out.now.atT (i := k - 1) (by have := HNN.out; omega)
              cases e
              obtain ⟨j, rfl⟩ : ∃ j, k = j + 1 := ⟨k - 1, by omega⟩
              refine ⟨_, hbw, e1, ?_⟩
              have := HUP.out j (by have := HNN.out; omega)
              rw [HNK.out (by have := HNN.out; omega)] at this
              exact this
            clear k2 hb21 HX3
            go_upto_region 44 with fail
            go_cut [253] (fun s wx => s = .bool false ∧ Hid (RM wx))
            case first =>
              rename_i hKM
              revert hKM
              go_light
              intro hKM
              as_aux_lemma =>
                by_cases hk0 : k = 0
                · subst hk0
                  clear hprev
                  have HSX : Hid (∀ x, Below w21.heap.size w21 x → _ ∧ _ ∧ True) := Lib.hid fun x hx => ⟨(HXT.out.below hx HXT.out.lt).three.1, (HV4.out.keep hx).bk.four.1, trivial⟩
                  apply wp_region_G
                  · kernel_rfl
                  · intro vs
                    repeat (apply wpG_fix
                            first
                              | (focus (refine Or.inl ⟨rfl, fun x hx => ?_⟩; obtain ⟨hS, hP, hQ⟩ := HSX.out x hx; go_simp; (try with_reducible rfl); done))
                              | exact Or.inr ⟨rfl, rfl⟩
                            (try simp only [Act.put]); (try simp only [List.setIfInBounds_toArray]); (try simp only [List.set_cons_succ]); (try simp only [List.set_cons_zero]))
                    apply wpG_call (fun x hx _ => cF.out x hx)
                    · rfl
                    · intro x hx; obtain ⟨hS, hP, hQ⟩ := HSX.out x hx; go_simp
                    (try simp only [Act.put]); (try simp only [List.setIfInBounds_toArray]); (try simp only [List.set_cons_succ]); (try simp only [List.set_cons_zero])
                    repeat (apply wpG_fix
                            first
                              | (focus (refine Or.inl ⟨rfl, fun x hx => ?_⟩; obtain ⟨hS, hP, hQ⟩ := HSX.out x hx; go_simp; (try with_reducible rfl); done))
                              | exact Or.inr ⟨rfl, rfl⟩
                            (try simp only [Act.put]); (try simp only [List.setIfInBounds_toArray]); (try simp only [List.set_cons_succ]); (try simp only [List.set_cons_zero]))
                    apply wpG_call (fun x hx _ => cR.out x)
                    · rfl
                    · intro x hx; obtain ⟨hS, hP, hQ⟩ := HSX.out x hx; go_simp
                    (try simp only [Act.put]); (try simp only [List.setIfInBounds_toArray]); (try simp only [List.set_cons_succ]); (try simp only [List.set_cons_zero])
                    repeat (apply wpG_fix
                            first
                              | (focus (refine Or.inl ⟨rfl, fun x hx => ?_⟩; obtain ⟨hS, hP, hQ⟩ := HSX.out x hx; go_simp; (try with_reducible rfl); done))
                              | exact Or.inr ⟨rfl, rfl⟩
                            (try simp only [Act.put]); (try simp only [List.setIfInBounds_toArray]); (try simp only [List.set_cons_succ]); (try simp only [List.set_cons_zero]))
                    apply wpG_nil
                    intro x hx _
                    go_wp2
                    go_meet
                    case rel => exact ⟨by simp, Lib.hid (by rw [HRM.out]; exact HV4.out.keep hx)⟩
                  · kernel_rfl
                · obtain ⟨z, hbw, e3, hz⟩ := hprev hk0
                  obtain ⟨j, rfl⟩ : ∃ j, k = j + 1 := ⟨k - 1, by omega⟩
                  have hi1 : IntKind.i64.wrap ((j : Int) + 1 - 1) = (j : Int) := by
                    rw [IntKind.wrap_i64]
                    omega
                  rw [Nat.add_sub_cancel] at e3
                  have hi2 : IntKind.i64.wrap (j : Int) = (j : Int) := by
                    rw [IntKind.wrap_i64]
                    omega
                  have hz1 : decide (t.id ≤ z) = false := decide_eq_false (by omega)
                  have hz2 : decide ((t.id : Int) ≤ (z : Int)) = false := decide_eq_false (by omega)
                  have hj1 : decide ((0 : Int) < (j : Int) + 1) = true := decide_eq_true (by omega)
                  have hj2 : (j : Int) < (m : Int) := by omega
                  have HZX : Hid (∀ x, Below w21.heap.size w21 x → x.cell? ⟨bT, oT + j * 3, none⟩ = some (.int .i64 (z : Int))) := Lib.hid fun x hx => (hx.cell (p := ⟨bT, oT + j * 3, none⟩) hbw).trans e3
                  have HSX : Hid (∀ x, Below w21.heap.size w21 x → _ ∧ _ ∧ _) := Lib.hid fun x hx => ⟨(HXT.out.below hx HXT.out.lt).three.1, (HV4.out.keep hx).bk.four.1, HZX.out x hx⟩
                  clear hprev hk0 hz
                  apply wp_region_G
                  · kernel_rfl
                  · intro vs
                    repeat (apply wpG_fix
                            first
                              | (focus (refine Or.inl ⟨rfl, fun x hx => ?_⟩; obtain ⟨hS, hP, hQ⟩ := HSX.out x hx; go_simp; (try with_reducible rfl); done))
                              | exact Or.inr ⟨rfl, rfl⟩
                            (try simp only [Act.put]); (try simp only [List.setIfInBounds_toArray]); (try simp only [List.set_cons_succ]); (try simp only [List.set_cons_zero]))
                    apply wpG_call (fun x hx _ => cF.out x hx)
                    · rfl
                    · intro x hx; obtain ⟨hS, hP, hQ⟩ := HSX.out x hx; go_simp
                    (try simp only [Act.put]); (try simp only [List.setIfInBounds_toArray]); (try simp only [List.set_cons_succ]); (try simp only [List.set_cons_zero])
                    repeat (apply wpG_fix
                            first
                              | (focus (refine Or.inl ⟨rfl, fun x hx => ?_⟩; obtain ⟨hS, hP, hQ⟩ := HSX.out x hx; go_simp; (try with_reducible rfl); done))
                              | exact Or.inr ⟨rfl, rfl⟩
                            (try simp only [Act.put]); (try simp only [List.setIfInBounds_toArray]); (try simp only [List.set_cons_succ]); (try simp only [List.set_cons_zero]))
                    apply wpG_call (fun x hx _ => cR.out x)
                    · rfl
                    · intro x hx; obtain ⟨hS, hP, hQ⟩ := HSX.out x hx; go_simp
                    (try simp only [Act.put]); (try simp only [List.setIfInBounds_toArray]); (try simp only [List.set_cons_succ]); (try simp only [List.set_cons_zero])
                    repeat (apply wpG_fix
                            first
                              | (focus (refine Or.inl ⟨rfl, fun x hx => ?_⟩; obtain ⟨hS, hP, hQ⟩ := HSX.out x hx; go_simp; (try with_reducible rfl); done))
                              | exact Or.inr ⟨rfl, rfl⟩
                            (try simp only [Act.put]); (try simp only [List.setIfInBounds_toArray]); (try simp only [List.set_cons_succ]); (try simp only [List.set_cons_zero]))
                    apply wpG_nil
                    intro x hx _
                    go_wp2
                    go_meet
                    case rel => exact ⟨by simp, Lib.hid (by rw [HRM.out]; exact HV4.out.keep hx)⟩
                  · kernel_rfl
            obtain ⟨rfl, HV5⟩ := hcut
            go_wp2
            first
              | exact ⟨⟨k + 1, by simp, by omega, HV5⟩, by simp [intOf]; omega⟩
              | (go_roundw
                 case rel => (repeat apply Exists.intro); refine ⟨⟨k + 1, ?_, by omega, HV5⟩, rfl⟩; simp
                 case measure => go_light; simp [intOf]; omega)
          · have b2 : ¬ (k : Int) < (m : Int) := by omega
            have HD : Hid (MpR w gp (i + 1) wr) := Lib.hid ⟨L', HVR.out.st, HOK.out.2.1⟩
            go_wp2
            exact ⟨⟨i + 1, by simp, by omega, HD⟩, by simp [intOf]; omega⟩
      · have b1 : ¬ (i : Int) < (n : Int) := by omega
        obtain ⟨L, hD, -⟩ := HR.out
        have HB := Lib.hid hD.below
        clear hD HR
        go_wp2
        go_ret
        exact ⟨rfl, HB.out⟩
end Go.Proofs.Ytjbpafkdbfbdlaa
