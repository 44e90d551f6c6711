/-
  The law RegistryApart, walked.
-/
import Derived.Test.YtdpndphecdhlaaaLwC
import Derived.Test.YtdpndphecdhlaaaLwF
import Derived.Test.YtdpndphecdhlaaaLwG
import Derived.Laws.Cover1

namespace Go.Proofs.Ytdpndphecdhlaaa
open Go.RowKit
theorem mx_of {n : Nat} (h : n ≤ 140737488351232) : n ≤ maxLen := by unfold maxLen; omega
theorem RgD.nm_le {w0 w : World} {Ex : Nat → Prop} {g1 g2 K : Nat} {L1 L2 : Rg} (h : RgD w0 Ex g1 L1 g2 L2 K w) {c : ByteArray} (hc : c ∈ kvNames L1) : c.size ≤ maxLen := by
  obtain ⟨F1, F2, ⟨bm, M, hR, rfl, -⟩, -⟩ := h.st
  have hx : ∃ x ∈ M, x.1 = c := by
    unfold kvNames rgOf kvMap at hc
    simpa using hc
  obtain ⟨x, hx, rfl⟩ := hx
  obtain ⟨es, he, hk⟩ := hR.own.keysOf
  unfold kvD at he
  injection he with he
  have hm : (Lit.string x.1.data.toList, enE x.2) ∈ es := by
    rw [← he]
    exact List.mem_map.2 ⟨x, hx, rfl⟩
  obtain ⟨v, hv⟩ := hk _ hm
  obtain ⟨y, -, e, hy⟩ := Maps.keyOf_str Try.underlying9 hv
  injection e with e
  rw [← ByteArray.size_data, ← Array.length_toList, e]
  exact hy
theorem RgD.top_len {w0 w : World} {Ex : Nat → Prop} {g1 g2 K : Nat} {L1 L2 : Rg} (h : RgD w0 Ex g1 L1 g2 L2 K w) (c : ByteArray) : (rgT L1 c).length ≤ K := by
  obtain ⟨F1, F2, ⟨bm, M, -, rfl, -, hB⟩, -⟩ := h.st
  rw [rgT_of]
  cases e : kvAt c M with
  | none => exact Nat.zero_le _
  | some x =>
    have := hB _ (kvAt_mem e)
    show x.cl.all.length ≤ K
    have h2 : x.cl.back.length + x.cl.all.length ≤ K := this
    omega
theorem rgT_ne {L : Rg} (h : RgOk L) {c : ByteArray} (hc : c ∈ kvNames L) : ((rgT L c).length : Int) ≠ 0 := by
  have h1 := kvAt_names.1 hc
  intro h0
  have : rgT L c = [] := List.eq_nil_of_length_eq_zero (by omega)
  rw [(rgT_nil h).1 this] at h1
  cases h1
theorem bb_less : ∀ a b : List UInt8, bytesBefore a b = Op.bytesLess a b
  | [], [] => rfl
  | [], _ :: _ => rfl
  | _ :: _, [] => rfl
  | a :: x, b :: y => by rw [bytesBefore, Op.bytesLess, bb_less x y]
def ApR (w : World) (g1 g2 : Nat) (cl : ByteArray) (i : Nat) (wr : World) : Prop := ∃ L1 L2, RgD w (fun _ => False) g1 L1 g2 L2 (2 * i) wr ∧ rgT L1 cl = rgT L2 cl
/-- Between a call of the one registry and of the other. -/
structure ApM (w : World) (g1 g2 : Nat) (x : Nat) (p : Ac) (L1 L2 : Rg) (K : Nat) (wr : World) : Prop where
  st : RgD w (fun i => i = x) g1 L1 g2 L2 K wr
  bk : Bk wr x 36 #[.int .i64 p.kind, .string p.client, .string p.name, .int .i64 p.id]
theorem ApM.go {w wr w' : World} {g1 g2 x K K' : Nat} {p : Ac} {L1 L2 L1' : Rg} (h : ApM w g1 g2 x p L1 L2 K wr) (h' : RgD w (fun i => i = x) g1 L1' g2 L2 K' w') (hM : Mods (fun i => ¬ i = x) wr w') : ApM w g1 g2 x p L1' L2 K' w' :=
  ⟨h', (hM.block x h.bk.lt fun hn => hn rfl).trans h.bk⟩
theorem ApM.swap {w wr : World} {g1 g2 x K : Nat} {p : Ac} {L1 L2 : Rg} (h : ApM w g1 g2 x p L1 L2 K wr) : ApM w g2 g1 x p L2 L1 K wr := ⟨h.st.swap, h.bk⟩
theorem ApM.done {w wr : World} {g1 g2 x i K : Nat} {p : Ac} {L1 L2 : Rg} {cl : ByteArray} (h : ApM w g1 g2 x p L1 L2 K wr) (hK : K ≤ 2 * (i + 1)) (he : rgT L1 cl = rgT L2 cl) : ApR w g1 g2 cl (i + 1) wr :=
  ⟨L1, L2, (h.st.less fun _ hi => hi.elim).more hK, he⟩
set_option maxRecDepth 10000 in
set_option maxHeartbeats 8000000 in
theorem registryApart_any (A : Option Addr) (cp : Nat) (l : List Ac) (cl : ByteArray) (w : World) (hl : Rd w w.heap.size 4 A l.length (acCs l)) (hn : l.length ≤ 140737488351232) (hg : ∀ x ∈ l, (Lit.int .i64 x.id).wf = true ∧ x.client.size ≤ 140737488351232 ∧ x.name.size ≤ 140737488351232) (hcl : cl.size ≤ 140737488351232) :
    Calls Try.prog 5 #[.slice A l.length cp, .string cl] w fun e w' => e = .returned (.bool true) ∧ Below w.heap.size w w' := by
  have cL := lives24_any w
  have HL := Lib.hid hl
  have HG := Lib.hid hg
  clear hl hg
  have hcT := fun w1 h => light24_any A cp l w1 h hn fun x hx => (HG.out x hx).2
  have HcT := Lib.hid hcT
  clear hcT
  generalize hN : l.length = n at hn
  have HN := Lib.hid hN
  rw [hN] at HL HcT
  clear hN
  go_enter Try.func5, Try.ntmps5
  go_wp2_with fail
  refine cL.mono ?_
  rintro e w1 ⟨rfl, hb1⟩
  have hl1 := (HL.out.below hb1).wider hb1.size
  have cT := HcT.out w1 hl1
  have B1 := Lib.hid hb1
  clear cL hb1 hl1
  go_wp2_with fail
  refine cT.mono ?_
  rintro e w2 ⟨b, rfl, hbL, hb2⟩
  have HBL := Lib.hid hbL
  have B2 := Lib.hid (B1.out.trans (hb2.mono B1.out.size))
  clear cT hbL hb2 B1
  cases b with
  | false =>
    go_wp2
    go_ret
    exact ⟨rfl, B2.out⟩
  | true =>
    by_cases hc100 : cl.size ≤ 100
    · have b100 : (cl.size : Int) ≤ 100 := by omega
      have HA : Hid (acLight l) := Lib.hid (HBL.out rfl)
      have HC : Hid (cl.size ≤ 100) := Lib.hid hc100
      have c0 := newN w w2 B2.out
      clear HBL HcT hc100 hcl
      go_wp2_with fail
      refine c0.mono ?_
      rintro e w3 ⟨rfl, h3⟩
      have c1 := newD h3
      clear c0 h3
      generalize w2.heap.size + 1 = g1 at c1
      go_wp2_with fail
      refine c1.mono ?_
      rintro e w4 ⟨rfl, h4⟩
      have H4 : Hid (ApR w g1 (w3.heap.size + 1) cl 0 w4) := Lib.hid ⟨_, _, h4, rfl⟩
      clear c1 h4 B2
      generalize w3.heap.size + 1 = g2 at H4
      go_wp2
      go_loopw [7] (fun s7 wr => ∃ i : Nat, s7 = .int .i64 (i : Int) ∧ i ≤ n ∧ Hid (ApR w g1 g2 cl i wr)) (fun s7 _ => n - (intOf s7).toNat)
      case atStart => exact ⟨0, rfl, Nat.zero_le _, H4⟩
      case round =>
        obtain ⟨i, rfl, hi, HR⟩ := hrel
        clear H4
        have b0 : (0 : Int) ≤ (i : Int) := by omega
        by_cases hlt : i < n
        · have hlt' : i < l.length := by rw [HN.out]; exact hlt
          obtain ⟨L1, L2, hD, hown⟩ := HR.out
          have hl80 : Hid (i < 80) := Lib.hid (by have := HA.out.2; omega)
          obtain ⟨bA, oA, rfl, hb, d0, d1, d2, d3⟩ := ((show Rd w w.heap.size 4 A l.length (acCs l) by rw [HN.out]; exact HL.out).below hD.below).atA hlt'
          have hm := HG.out _ (List.getElem_mem hlt')
          have hm2 := HA.out.1 _ (List.getElem_mem hlt')
          generalize l[i] = p at d0 d1 d2 d3 hm hm2
          have HM := Lib.hid hm
          have HM2 := Lib.hid hm2
          have b1 : (i : Int) < (n : Int) := by omega
          have HO := Lib.hid hown
          have hb2 : Below wr.heap.size wr (wr.alloc (.cells #[.int .i64 p.kind, .string p.client, .string p.name, .int .i64 p.id] 36)) := (Below.refl _ wr).alloc (Nat.le_refl _) _
          have hX := Bk.fresh wr 36 #[.int .i64 p.kind, .string p.client, .string p.name, .int .i64 p.id]
          have HXM : Hid (ApM w g1 g2 wr.heap.size p L1 L2 (2 * i) (wr.alloc (.cells #[.int .i64 p.kind, .string p.client, .string p.name, .int .i64 p.id] 36))) := Lib.hid ⟨hD.add hb2 hX.lt, hX⟩
          have hx4 := hX.four.1
          clear hlt' hm hm2 hown hb2 hD hX HR
          generalize hW2 : wr.alloc (.cells #[.int .i64 p.kind, .string p.client, .string p.name, .int .i64 p.id] 36) = W2 at HXM hx4
          obtain ⟨q, hq, hq4⟩ := pickR_nat p.kind 4
          have cP := pickR_any p.kind 5 W2 (by decide)
          rw [show pickR p.kind 5 = (q : Int) from hq] at cP
          clear hq
          go_wp2_with fail
          refine cP.mono ?_
          rintro e w6 ⟨rfl, rfl⟩
          clear cP
          by_cases hmine : p.client = cl
          · subst hmine
            have hk : q = 3 ∨ q = 4 ∨ (q ≠ 3 ∧ q ≠ 4) := by omega
            rcases hk with rfl | rfl | ⟨q3, q4⟩
            · have k1 := preD HXM.out.st p.client p.name p.id (mx_of HM.out.2.1) (by have := HM.out.2.2; omega) (by have := hl80.out; omega)
              have how := rfPre_own (n := p.name) (i := p.id) HO.out
              go_wp2_with fail
              refine k1.mono ?_
              rintro e w7 ⟨rfl, h7, hM7⟩
              have HX7 := Lib.hid (HXM.out.go h7 hM7)
              have hx7 := HX7.out.bk.four.1
              have k2 := preD HX7.out.swap.st p.client p.name p.id (mx_of HM.out.2.1) (by have := HM.out.2.2; omega) (by have := hl80.out; omega)
              rw [← how.1] at k2
              have HOW := Lib.hid how.2
              clear k1 h7 hM7 how HXM hx4 hW2
              go_wp2_with fail
              refine k2.mono ?_
              rintro e w8 ⟨rfl, h8, hM8⟩
              have HX8 := Lib.hid (HX7.out.swap.go h8 hM8).swap
              clear k2 h8 hM8 HX7 hx7
              go_wp2
              exact ⟨⟨i + 1, by simp, by omega, Lib.hid (HX8.out.done (by omega) HOW.out)⟩, by simp [intOf]; omega⟩
            · have k1 := clrD HXM.out.st p.client (mx_of HM.out.2.1) (by have := hl80.out; omega)
              have how := rfClr_own HO.out
              go_wp2_with fail
              refine k1.mono ?_
              rintro e w7 ⟨rfl, h7, hM7⟩
              have HX7 := Lib.hid (HXM.out.go h7 hM7)
              have hx7 := HX7.out.bk.four.1
              have k2 := clrD HX7.out.swap.st p.client (mx_of HM.out.2.1) (by have := hl80.out; omega)
              rw [← how.1] at k2
              have HOW := Lib.hid how.2
              clear k1 h7 hM7 how HXM hx4 hW2
              go_wp2_with fail
              refine k2.mono ?_
              rintro e w8 ⟨rfl, h8, hM8⟩
              have HX8 := Lib.hid (HX7.out.swap.go h8 hM8).swap
              clear k2 h8 hM8 HX7 hx7
              go_wp2
              exact ⟨⟨i + 1, by simp, by omega, Lib.hid (HX8.out.done (by omega) HOW.out)⟩, by simp [intOf]; omega⟩
            · have i3 : ¬ (q : Int) = 3 := by omega
              have i4 : ¬ (q : Int) = 4 := by omega
              have k1 := regD HXM.out.st p.client p.name (mx_of HM.out.2.1) (by have := HM.out.2.2; omega) (by have := hl80.out; omega)
              have how := rfReg_own (n := p.name) HO.out
              clear q3 q4
              go_wp2_with fail
              refine k1.mono ?_
              rintro e w7 ⟨rfl, h7, hM7⟩
              have HX7 := Lib.hid (HXM.out.go h7 hM7)
              have hx7 := HX7.out.bk.four.1
              have k2 := regD HX7.out.swap.st p.client p.name (mx_of HM.out.2.1) (by have := HM.out.2.2; omega) (by have := hl80.out; omega)
              rw [← how.1] at k2
              have HOW := Lib.hid how.2
              clear k1 h7 hM7 how HXM hx4 hW2
              simp only [regV]
              go_wp2_with fail
              refine k2.mono ?_
              rintro e w8 ⟨rfl, h8, hM8⟩
              have HX8 := Lib.hid (HX7.out.swap.go h8 hM8).swap
              clear k2 h8 hM8 HX7 hx7
              simp only [regV]
              go_wp2
              exact ⟨⟨i + 1, by simp, by omega, Lib.hid (HX8.out.done (by omega) HOW.out)⟩, by simp [intOf]; omega⟩
          · have hne : cl ≠ p.client := Ne.symm hmine
            have hnl : ¬ p.client.toList = cl.toList := fun h => hmine ((tp_toList _ _).1 h)
            have hk : q = 3 ∨ q = 4 ∨ (q ≠ 3 ∧ q ≠ 4) := by omega
            rcases hk with rfl | rfl | ⟨q3, q4⟩
            · have k1 := preD HXM.out.st p.client p.name p.id (mx_of HM.out.2.1) (by have := HM.out.2.2; omega) (by have := hl80.out; omega)
              have how := rfPre_other (L := L1) (n := p.name) (i := p.id) hne
              go_wp2_with fail
              refine k1.mono ?_
              rintro e w7 ⟨rfl, h7, hM7⟩
              have HX7 := Lib.hid (HXM.out.go h7 hM7)
              have hx7 := HX7.out.bk.four.1
              have HOW := Lib.hid (how.trans HO.out)
              clear k1 h7 hM7 how HXM hx4 hW2
              go_wp2
              exact ⟨⟨i + 1, by simp, by omega, Lib.hid (HX7.out.done (by omega) HOW.out)⟩, by simp [intOf]; omega⟩
            · have k1 := clrD HXM.out.st p.client (mx_of HM.out.2.1) (by have := hl80.out; omega)
              have how := rfClr_other (L := L1) hne
              go_wp2_with fail
              refine k1.mono ?_
              rintro e w7 ⟨rfl, h7, hM7⟩
              have HX7 := Lib.hid (HXM.out.go h7 hM7)
              have hx7 := HX7.out.bk.four.1
              have HOW := Lib.hid (how.trans HO.out)
              clear k1 h7 hM7 how HXM hx4 hW2
              go_wp2
              exact ⟨⟨i + 1, by simp, by omega, Lib.hid (HX7.out.done (by omega) HOW.out)⟩, by simp [intOf]; omega⟩
            · have i3 : ¬ (q : Int) = 3 := by omega
              have i4 : ¬ (q : Int) = 4 := by omega
              have hnb : (p.client.toList == cl.toList) = false := by simp [hnl]
              clear q3 q4 hnl
              have k1 := regD HXM.out.st p.client p.name (mx_of HM.out.2.1) (by have := HM.out.2.2; omega) (by have := hl80.out; omega)
              have how := rfReg_other (L := L1) (n := p.name) hne
              go_wp2_with fail
              refine k1.mono ?_
              rintro e w7 ⟨rfl, h7, hM7⟩
              have HX7 := Lib.hid (HXM.out.go h7 hM7)
              have hx7 := HX7.out.bk.four.1
              have HOW := Lib.hid (how.trans HO.out)
              clear k1 h7 hM7 how HXM hx4 hW2
              simp only [regV]
              go_wp2
              exact ⟨⟨i + 1, by simp, by omega, Lib.hid (HX7.out.done (by omega) HOW.out)⟩, by simp [intOf]; omega⟩
        · have HI : Hid (i ≤ 80) := Lib.hid (by have := HA.out.2; have := HN.out; omega)
          have b1 : ¬ (i : Int) < (n : Int) := by omega
          obtain ⟨L1, L2, hD, hown⟩ := HR.out
          have HO := Lib.hid hown
          have cC := cliD hD (by have := HI.out; omega)
          have hm0 := Lib.hid hD.len
          have hok := Lib.hid hD.ok
          clear HR hD hown
          go_wp2_with fail
          refine cC.mono ?_
          rintro e w9 ⟨A9, q9, rfl, hr9, -, h9⟩
          have H9 := Lib.hid h9
          have hNl : (kvNames L1).length = L1.length := by simp [kvNames]
          have HR9 : Hid (Rd w9 w9.heap.size 1 A9 (kvNames L1).length (nmV (kvNames L1))) := Lib.hid (by rw [hNl]; exact hr9)
          clear cC hr9 h9 hlt b1
          generalize hm : L1.length = m at hNl hm0
          have HNL := Lib.hid hNl
          have bm : (m : Int) ≤ 160 := by have := hm0.out; have := HI.out; omega
          clear hNl hm
          go_wp2
          go_loopw [19, 21] (fun s19 s21 wx => ∃ j : Nat, s21 = .int .i64 (j : Int) ∧ j ≤ m ∧ ∃ a : Nat, s19 = .int .i64 (a : Int) ∧ a ≤ j ∧ Hid (a = cntN cl ((kvNames L1).take j)) ∧ Below w9.heap.size w9 wx) (fun _ s21 _ => m - (intOf s21).toNat)
          case atStart => exact ⟨0, rfl, Nat.zero_le _, 0, rfl, Nat.le_refl _, Lib.hid rfl, Below.refl _ _⟩
          case round =>
            obtain ⟨j, rfl, hj, a, rfl, haj, HCA, hbx⟩ := hrel
            have b0 : (0 : Int) ≤ (j : Int) := by omega
            have ba0 : (0 : Int) ≤ (a : Int) := by omega
            have ba : (a : Int) ≤ 160 := by omega
            by_cases hlj : j < m
            · have hjl : j < (kvNames L1).length := by rw [HNL.out]; exact hlj
              obtain ⟨bB, oB, rfl, hbb, e0⟩ := (HR9.out.below hbx).atN hjl
              have hcnt := Lib.hid (cntN_take (c := cl) hjl)
              have hmem : (kvNames L1)[j] ∈ kvNames L1 := List.getElem_mem hjl
              have hne := Lib.hid (rgT_ne hok.out hmem)
              have hsz := H9.out.nm_le hmem
              have hprev : j ≠ 0 → ∃ s0 : ByteArray, wr.cell? ⟨bB, oB + (j - 1), none⟩ = some (.string s0) ∧ Op.bytesLess s0.toList (kvNames L1)[j].toList = true := fun h0 => by
                obtain ⟨bB', oB', e, -, e1⟩ := (HR9.out.below hbx).atN (i := j - 1) (by omega)
                cases e
                refine ⟨_, e1, ?_⟩
                rw [ByteArray.toList_eq, ByteArray.toList_eq, ← bb_less]
                exact List.pairwise_iff_getElem.1 (kvNames_up hok.out.up) (j - 1) j (by omega) hjl (by omega)
              have cLen : Hid (∀ k, Calls Try.prog 13 #[.pointer (some ⟨g1, 0, none⟩), .string (kvNames L1)[j]] (wr.drewN k) fun e w' => e = .returned (.int .i64 ((rgT L1 (kvNames L1)[j]).length : Int)) ∧ w' = wr.drewN k) := Lib.hid fun k => (lenD (H9.out.keep (below_drawn hbx k)) _ hsz).mono fun e w' h => ⟨h.1, h.2.symm⟩
              generalize hs0 : (kvNames L1)[j] = s at e0 hcnt hne hsz hprev cLen
              have b2 : (j : Int) < (m : Int) := by omega
              have hrt := hne.out
              generalize (rgT L1 s).length = z at hrt cLen
              clear hs0 hsz hmem hjl hbb
              by_cases hse : s = cl
              · subst hse
                rw [if_pos rfl] at hcnt
                by_cases hj0 : j = 0
                · subst hj0
                  rw [Nat.add_zero] at e0
                  clear hprev
                  go_wp2
                  go_quiet ((go_at_call 13; exact Calls.quiet_of_same (cLen.out _)))
                  go_wp2
                  exact ⟨⟨1, by simp, by omega, a + 1, by simp, by omega, Lib.hid (by rw [← HCA.out] at hcnt; exact hcnt.out.symm), below_drawn hbx _⟩, by simp [intOf]; omega⟩
                · obtain ⟨s0, e1, hls⟩ := hprev hj0
                  obtain ⟨k, rfl⟩ : ∃ k, j = k + 1 := ⟨j - 1, by omega⟩
                  have hi1 : IntKind.i64.wrap ((k : Int) + 1 - 1) = (k : Int) := by
                    rw [IntKind.wrap_i64]
                    omega
                  rw [Nat.add_sub_cancel] at e1
                  clear hprev hj0
                  go_wp2
                  go_quiet ((go_at_call 13; exact Calls.quiet_of_same (cLen.out _)))
                  go_wp2
                  exact ⟨⟨k + 1 + 1, by simp, by omega, a + 1, by simp, by omega, Lib.hid (by rw [← HCA.out] at hcnt; exact hcnt.out.symm), below_drawn hbx _⟩, by simp [intOf]; omega⟩
              · have hnl : ¬ s.toList = cl.toList := fun h => hse ((tp_toList _ _).1 h)
                have hnb : (s.toList == cl.toList) = false := by simp [hnl]
                rw [if_neg hse] at hcnt
                clear hnl
                by_cases hj0 : j = 0
                · subst hj0
                  rw [Nat.add_zero] at e0
                  clear hprev
                  go_wp2
                  go_quiet ((go_at_call 13; exact Calls.quiet_of_same (cLen.out _)))
                  go_wp2
                  exact ⟨⟨1, by simp, by omega, a, by simp, by omega, Lib.hid (by rw [← HCA.out] at hcnt; exact hcnt.out.symm), below_drawn hbx _⟩, by simp [intOf]; omega⟩
                · obtain ⟨s0, e1, hls⟩ := hprev hj0
                  obtain ⟨k, rfl⟩ : ∃ k, j = k + 1 := ⟨j - 1, by omega⟩
                  have hi1 : IntKind.i64.wrap ((k : Int) + 1 - 1) = (k : Int) := by
                    rw [IntKind.wrap_i64]
                    omega
                  rw [Nat.add_sub_cancel] at e1
                  clear hprev hj0
                  go_wp2
                  go_quiet ((go_at_call 13; exact Calls.quiet_of_same (cLen.out _)))
                  go_wp2
                  exact ⟨⟨k + 1 + 1, by simp, by omega, a, by simp, by omega, Lib.hid (by rw [← HCA.out] at hcnt; exact hcnt.out.symm), below_drawn hbx _⟩, by simp [intOf]; omega⟩
            · have b2 : ¬ (j : Int) < (m : Int) := by omega
              have hjm : Hid (j = (kvNames L1).length) := Lib.hid (by have := HNL.out; omega)
              have HW := H9.out.keep hbx
              have cT1 := topD HW cl (by have := HC.out; unfold maxLen; omega) (by have := HI.out; omega)
              have ha2 : a = if (kvAt cl L1).isSome = true then 1 else 0 := by
                rw [HCA.out, hjm.out, List.take_length]
                exact cntN_up hok.out.up
              have hz := rgT_nil hok.out (c := cl)
              generalize hT : rgT L1 cl = T at cT1 hz
              have HT1 := Lib.hid hT
              have HT2 : Hid (rgT L2 cl = T) := Lib.hid (by rw [← HO.out]; exact hT)
              have bT : (T.length : Int) ≤ 160 := by
                have g1 := HW.top_len cl
                rw [hT] at g1
                have g2 := HI.out
                omega
              have ha3 : (a = 1 ∧ T.length ≠ 0) ∨ (a = 0 ∧ T.length = 0) := by
                cases e : kvAt cl L1 with
                | none =>
                  rw [e] at ha2
                  exact .inr ⟨by simpa using ha2, by rw [hz.2 e]; rfl⟩
                | some z =>
                  rw [e] at ha2
                  refine .inl ⟨by simpa using ha2, fun h0 => ?_⟩
                  have := hz.1 (List.eq_nil_of_length_eq_zero h0)
                  rw [e] at this
                  cases this
              clear ha2 hz hT haj ba HCA HW
              go_wp2_with fail
              refine cT1.mono ?_
              rintro e wa ⟨A1, q1, rfl, hr1, hba, h1⟩
              have HR1 := Lib.hid hr1
              have cT2 := topD h1.swap cl (by have := HC.out; unfold maxLen; omega) (by have := HI.out; omega)
              rw [HT2.out] at cT2
              clear cT1 hr1 h1 hba
              go_wp2_with fail
              refine cT2.mono ?_
              rintro e wb ⟨A2, q2, rfl, hr2, hbb, h2⟩
              have H2 := Lib.hid h2
              have cS := sameTp_any A1 A2 T.length T.length q1 q2 T wb ((HR1.out.below hbb).wider hbb.size) hr2 (by omega)
              clear cT2 hr2 h2 hbb HR1
              go_wp2_with fail
              refine cS.mono ?_
              rintro e wc ⟨rfl, hbc⟩
              have H3 := Lib.hid (H2.out.keep hbc)
              have cL := lenD H3.out cl (by have := HC.out; unfold maxLen; omega)
              rw [HT2.out] at cL
              clear cS hbc
              go_wp2_with fail
              refine cL.mono ?_
              rintro e wd ⟨rfl, rfl⟩
              clear cL
              generalize T.length = t at ha3
              rcases ha3 with ⟨rfl, ht⟩ | ⟨rfl, rfl⟩
              · have ht2 : (0 : Int) < (t : Int) := by omega
                clear ht
                go_wp2
                go_ret
                exact ⟨rfl, H3.out.below⟩
              · go_wp2
                go_ret
                exact ⟨rfl, H3.out.below⟩
    · have b100 : ¬ (cl.size : Int) ≤ 100 := by omega
      go_wp2
      go_ret
      exact ⟨rfl, B2.out⟩
end Go.Proofs.Ytdpndphecdhlaaa
