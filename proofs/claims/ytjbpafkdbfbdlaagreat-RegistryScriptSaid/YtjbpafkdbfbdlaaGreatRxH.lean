/-
  The law RegistryScript, walked.
-/
import Derived.Test.YtjbpafkdbfbdlaaGreatRxG
import Derived.Deep.RegionHeld3
import Derived.Deep.DeepCutAuto
import Derived.Deep.CutBlock
import Derived.Deep.Light

namespace Go.Proofs.YtjbpafkdbfbdlaaGreat
open Go.RowKit
set_option maxRecDepth 10000 in
set_option maxHeartbeats 8000000 in
theorem registryScript_any (A : Option Addr) (cp : Nat) (l : List Ac) (w : World) (hl : Rd w w.heap.size 4 A l.length (acCs l)) (hn : l.length ≤ 140737488351232) (hg : ∀ x ∈ l, (Lit.int .i64 x.id).wf = true ∧ x.client.size ≤ 140737488351232 ∧ x.name.size ≤ 140737488351232) :
    Calls Tryz.prog 3 #[.slice A l.length cp] w fun e w' => e = .returned (.bool true) ∧ Below w.heap.size w w' := by
  have cL := lives24_any w
  have HL := Lib.hid hl
  have HG := Lib.hid hg
  clear hl hg
  have hcT := fun w1 h => light24_any A cp l w1 h hn fun x hx => (HG.out x hx).2
  have HcT := Lib.hid hcT
  clear hcT
  generalize hN : l.length = n at hn
  have HN := Lib.hid hN
  rw [hN] at HL HcT
  clear hN
  go_enter Tryz.func3, Tryz.ntmps3
  go_wp2_with fail
  refine cL.mono ?_
  rintro e w1 ⟨rfl, hb1⟩
  have hl1 := (HL.out.below hb1).wider hb1.size
  have cT := HcT.out w1 hl1
  have B1 := Lib.hid hb1
  clear cL hb1 hl1
  go_wp2_with fail
  refine cT.mono ?_
  rintro e w2 ⟨b, rfl, hbL, hb2⟩
  have HBL := Lib.hid hbL
  have B2 := Lib.hid (B1.out.trans (hb2.mono B1.out.size))
  clear cT hbL hb2 B1
  cases b with
  | false =>
    go_wp2
    go_ret
    exact ⟨rfl, B2.out⟩
  | true =>
    have HA : Hid (acLight l) := Lib.hid (HBL.out rfl)
    have c0 := newN w w2 B2.out
    clear HBL HcT
    go_wp2_with fail
    refine c0.mono ?_
    rintro e w3 ⟨rfl, h3⟩
    have c1 := newX h3
    clear c0 h3 B2
    generalize w2.heap.size + 1 = gp at c1
    go_wp2_with fail
    refine c1.mono ?_
    rintro e w4 ⟨rfl, h4⟩
    have H4 : Hid (ScR w gp w3.heap.size 0 w4) := Lib.hid ⟨_, h4⟩
    clear c1 h4
    generalize w3.heap.size = gr at H4
    go_wp2
    go_loopw [5] (fun s5 wr => ∃ i : Nat, s5 = .int .i64 (i : Int) ∧ i ≤ n ∧ Hid (ScR w gp gr i wr)) (fun s5 _ => n - (intOf s5).toNat)
    case atStart => exact ⟨0, rfl, Nat.zero_le _, H4⟩
    case round =>
      obtain ⟨i, rfl, hi, HR⟩ := hrel
      clear H4
      have b0 : (0 : Int) ≤ (i : Int) := by omega
      by_cases hlt : i < n
      · have hlt' : i < l.length := by rw [HN.out]; exact hlt
        obtain ⟨L, hD⟩ := HR.out
        have hl80 : Hid (i < 80) := Lib.hid (by have := HA.out.2; omega)
        obtain ⟨bA, oA, rfl, hb, d0, d1, d2, d3⟩ := ((show Rd w w.heap.size 4 A l.length (acCs l) by rw [HN.out]; exact HL.out).below hD.below).atA hlt'
        have hm := HG.out _ (List.getElem_mem hlt')
        have hm2 := HA.out.1 _ (List.getElem_mem hlt')
        generalize l[i] = p at d0 d1 d2 d3 hm hm2
        have HM := Lib.hid hm
        have HM2 := Lib.hid hm2
        have b1 : (i : Int) < (n : Int) := by omega
        have hb2 : Below wr.heap.size wr (wr.alloc (.cells #[.int .i64 p.kind, .string p.client, .string p.name, .int .i64 p.id] 30)) := (Below.refl _ wr).alloc (Nat.le_refl _) _
        have hX := Bk.fresh wr 30 #[.int .i64 p.kind, .string p.client, .string p.name, .int .i64 p.id]
        have HXM : Hid (ScM w gp gr wr.heap.size p L L (2 * i) (wr.alloc (.cells #[.int .i64 p.kind, .string p.client, .string p.name, .int .i64 p.id] 30))) := Lib.hid ⟨hD.add hb2 hX.lt, hX⟩
        have hok := Lib.hid hD.ok
        have hx4 := hX.four.1
        clear hlt' hm hm2 hb2 hD hX HR
        generalize hW2 : wr.alloc (.cells #[.int .i64 p.kind, .string p.client, .string p.name, .int .i64 p.id] 30) = W2 at HXM hx4
        obtain ⟨q, hq, hq4⟩ := pickR_nat p.kind 4
        have cP := pickR_any p.kind 5 W2 (by decide)
        rw [show pickR p.kind 5 = (q : Int) from hq] at cP
        clear hq
        go_wp2_with fail
        refine cP.mono ?_
        rintro e w6 ⟨rfl, rfl⟩
        clear cP hW2
        go_upto_block 2 with fail
        go_cut [7] (fun s7 wx => ∃ L', s7 = .bool true ∧ Hid (ScM w gp gr wr.heap.size p L' L' (2 * (i + 1)) wx))
        case first =>
          have hk : q = 3 ∨ q = 4 ∨ (q ≠ 3 ∧ q ≠ 4) := by omega
          rcases hk with rfl | rfl | ⟨q3, q4⟩
          · go_wp2_with fail
            go_region_held3 (fun y => y.cell? ⟨wr.heap.size, 0, none⟩ = some (.int .i64 p.kind) ∧ y.cell? ⟨wr.heap.size, 1, none⟩ = some (.string p.client) ∧ y.cell? ⟨wr.heap.size, 2, none⟩ = some (.string p.name) ∧ y.cell? ⟨wr.heap.size, 3, none⟩ = some (.int .i64 p.id))
              (first | exact hx4 | exact (HXM.out.keep (below_drawn (Below.refl _ _) _)).bk.four.1 | exact hk2 | exact hk1 | go_keep)
              (first | (go_at_call 9; refine ((HXM.out.keep (below_drawn (Below.refl _ W2) 1)).pre1 p.client p.name p.id (mxX HM.out.2.1) (by have := HM.out.2.2; omega) (by have := hl80.out; omega)).mono ?_; rintro e x1 ⟨rfl, h1⟩; have hk1 := h1.bk.four.1) | (go_at_call 10; refine (h1.pre2 p.client p.name p.id (by have := HM.out.2.2; omega) (by have := hl80.out; omega)).mono ?_; rintro e x2 ⟨rfl, h2⟩; have hk2 := h2.bk.four.1))
            have H2 := Lib.hid (h2.more (K' := 2 * (i + 1)) (by omega))
            clear h1 h2 hk1 hk2 hx4
            go_wp2
            go_meet
            case rel => exact ⟨_, by simp, H2⟩
          · go_wp2_with fail
            go_region_held3 (fun y => y.cell? ⟨wr.heap.size, 0, none⟩ = some (.int .i64 p.kind) ∧ y.cell? ⟨wr.heap.size, 1, none⟩ = some (.string p.client) ∧ y.cell? ⟨wr.heap.size, 2, none⟩ = some (.string p.name) ∧ y.cell? ⟨wr.heap.size, 3, none⟩ = some (.int .i64 p.id))
              (first | exact hx4 | exact (HXM.out.keep (below_drawn (Below.refl _ _) _)).bk.four.1 | exact hk2 | exact hk1 | go_keep)
              (first | (go_at_call 11; refine ((HXM.out.keep (below_drawn (Below.refl _ W2) 1)).clr1 p.client (mxX HM.out.2.1) (by have := hl80.out; omega)).mono ?_; rintro e x1 ⟨rfl, h1⟩; have hk1 := h1.bk.four.1) | (go_at_call 12; refine (h1.clr2 hok.out p.client (by have := hl80.out; omega)).mono ?_; rintro e x2 ⟨rfl, h2⟩; have hk2 := h2.bk.four.1))
            have H2 := Lib.hid (h2.more (K' := 2 * (i + 1)) (by omega))
            clear h1 h2 hk1 hk2 hx4
            go_wp2
            go_meet
            case rel => exact ⟨_, by simp, H2⟩
          · have i3 : ((q : Int) == 3) = false := beq_eq_false_iff_ne.2 (by omega)
            have i4 : ((q : Int) == 4) = false := beq_eq_false_iff_ne.2 (by omega)
            clear q3 q4
            have k1 := HXM.out.reg1 p.client p.name (mxX HM.out.2.1) (by have := HM.out.2.2; omega) (by have := hl80.out; omega)
            go_wp2_with fail
            refine k1.mono ?_
            rintro e x1 ⟨rfl, h1⟩
            have hk1 := h1.bk.four.1
            have k2 := h1.reg2 p.client p.name (by have := HM.out.2.2; omega) (by have := hl80.out; omega)
            clear k1 h1 hx4
            simp only [regV] at k2 ⊢
            go_wp2_with fail
            refine k2.mono ?_
            rintro e x2 ⟨rfl, h2⟩
            have H2 := Lib.hid (h2.more (K' := 2 * (i + 1)) (by omega))
            clear k2 h2 hk1
            go_wp2
            go_meet
            case rel => exact ⟨_, by simp, H2⟩
        obtain ⟨L', rfl, HC⟩ := hcut
        clear HXM hx4 hok
        have hx0 := HC.out.bk.four.1
        have c0 := HC.out.name1 p.client (mxX HM.out.2.1) p.id HM.out.1
        go_wp2_with fail
        refine c0.mono ?_
        rintro e y0 ⟨rfl, hb0⟩
        have HC0 := Lib.hid (HC.out.keep hb0)
        have hx1 := HC0.out.bk.four.1
        clear c0 hb0 hx0 HC
        have c1 := HC0.out.name2 p.client p.id (by have := hl80.out; omega)
        go_wp2_with fail
        refine c1.mono ?_
        rintro e y1 ⟨rfl, hb1⟩
        have HC1 := Lib.hid (HC0.out.keep hb1)
        have hx2 := HC1.out.bk.four.1
        clear c1 hb1 hx1 HC0
        have c2 := HC1.out.id1 p.client p.name (mxX HM.out.2.1) (mxX HM.out.2.2)
        go_wp2_with fail
        refine c2.mono ?_
        rintro e y2 ⟨rfl, hb2⟩
        have HC2 := Lib.hid (HC1.out.keep hb2)
        have hx3 := HC2.out.bk.four.1
        clear c2 hb2 hx2 HC1
        have c3 := HC2.out.id2 p.client p.name (by have := hl80.out; omega)
        go_wp2_with fail
        refine c3.mono ?_
        rintro e y3 ⟨rfl, hb3⟩
        have HC3 := Lib.hid (HC2.out.keep hb3)
        have hx4 := HC3.out.bk.four.1
        clear c3 hb3 hx3 HC2
        have HSX : Hid (∀ x, Below y3.heap.size y3 x → _) := Lib.hid fun x hx => (HC3.out.keep hx).bk.four.1
        have HB1 : Hid ((rgT L' p.client).length ≤ 4611686018427387904) := Lib.hid (by have := HC3.out.st.top_len p.client; have := hl80.out; omega)
        have HB2 : Hid ((kvNames L').length ≤ 4611686018427387904) := Lib.hid (by have := HC3.out.st.len; have := hl80.out; simp only [kvNames, List.length_map]; omega)
        go_wp2_with fail
        simp only [List.append]
        apply wp_region_G
        · kernel_rfl
        · intro vs
          repeat (apply wpG_fix
                  focus (refine Or.inl ⟨rfl, fun x hx => ?_⟩; have hS := HSX.out x hx; go_simp; (try with_reducible rfl); done)
                  (try simp only [Act.put]); (try simp only [List.setIfInBounds_toArray]); (try simp only [List.set_cons_succ]); (try simp only [List.set_cons_zero]))
          apply wpG_call (fun x hx _ => (HC3.out.keep hx).fix1 p.client (mxX HM.out.2.1) p.id HM.out.1)
          · rfl
          · intro x hx; have hS := HSX.out x hx; go_simp
          (try simp only [Act.put]); (try simp only [List.setIfInBounds_toArray]); (try simp only [List.set_cons_succ]); (try simp only [List.set_cons_zero])
          repeat (apply wpG_fix
                  focus (refine Or.inl ⟨rfl, fun x hx => ?_⟩; have hS := HSX.out x hx; go_simp; (try with_reducible rfl); done)
                  (try simp only [Act.put]); (try simp only [List.setIfInBounds_toArray]); (try simp only [List.set_cons_succ]); (try simp only [List.set_cons_zero]))
          apply wpG_call (fun x hx _ => (HC3.out.keep hx).fix2 p.client p.id (by have := hl80.out; omega))
          · rfl
          · intro x hx; have hS := HSX.out x hx; go_simp
          (try simp only [Act.put]); (try simp only [List.setIfInBounds_toArray]); (try simp only [List.set_cons_succ]); (try simp only [List.set_cons_zero])
          repeat (apply wpG_fix
                  focus (refine Or.inl ⟨rfl, fun x hx => ?_⟩; have hS := HSX.out x hx; go_simp; (try with_reducible rfl); done)
                  (try simp only [Act.put]); (try simp only [List.setIfInBounds_toArray]); (try simp only [List.set_cons_succ]); (try simp only [List.set_cons_zero]))
          apply wpG_callR (fun u y => TopV (rgT L' p.client) u y) (fun u x y h hb => TopV.keep h hb) (fun x hx _ => (HC3.out.keep hx).top1 p.client (mxX HM.out.2.1) (by have := hl80.out; omega))
          · rfl
          · intro x hx; have hS := HSX.out x hx; go_simp
          (try simp only [Act.put]); (try simp only [List.setIfInBounds_toArray]); (try simp only [List.set_cons_succ]); (try simp only [List.set_cons_zero])
          repeat (apply wpG_fix
                  focus (refine Or.inl ⟨rfl, fun x hx => ?_⟩; have hS := HSX.out x hx; go_simp; (try with_reducible rfl); done)
                  (try simp only [Act.put]); (try simp only [List.setIfInBounds_toArray]); (try simp only [List.set_cons_succ]); (try simp only [List.set_cons_zero]))
          apply wpG_callR (fun u y => TopV (rgT L' p.client) u y) (fun u x y h hb => TopV.keep h hb) (fun x hx _ => (HC3.out.keep hx).top2 p.client (by have := hl80.out; omega))
          · rfl
          · intro x hx; have hS := HSX.out x hx; go_simp
          (try simp only [Act.put]); (try simp only [List.setIfInBounds_toArray]); (try simp only [List.set_cons_succ]); (try simp only [List.set_cons_zero])
          repeat (apply wpG_fix
                  focus (refine Or.inl ⟨rfl, fun x hx => ?_⟩; have hS := HSX.out x hx; go_simp; (try with_reducible rfl); done)
                  (try simp only [Act.put]); (try simp only [List.setIfInBounds_toArray]); (try simp only [List.set_cons_succ]); (try simp only [List.set_cons_zero]))
          apply wpG_call (f := 21) (args := #[vs 41, vs 45]) (v := .bool true) (fun x hx hH => sameT_any (rgT L' p.client) (vs 41) (vs 45) x (hH 41 (by kernel_rfl)) (hH 45 (by kernel_rfl)) HB1.out)
          · rfl
          · intro x hx; have hS := HSX.out x hx; go_simp
          (try simp only [Act.put]); (try simp only [List.setIfInBounds_toArray]); (try simp only [List.set_cons_succ]); (try simp only [List.set_cons_zero])
          repeat (apply wpG_fix
                  focus (refine Or.inl ⟨rfl, fun x hx => ?_⟩; have hS := HSX.out x hx; go_simp; (try with_reducible rfl); done)
                  (try simp only [Act.put]); (try simp only [List.setIfInBounds_toArray]); (try simp only [List.set_cons_succ]); (try simp only [List.set_cons_zero]))
          apply wpG_callR (fun u y => NamV (kvNames L') u y) (fun u x y h hb => NamV.keep h hb) (fun x hx _ => (HC3.out.keep hx).cli1 (by have := hl80.out; omega))
          · rfl
          · intro x hx; have hS := HSX.out x hx; go_simp
          (try simp only [Act.put]); (try simp only [List.setIfInBounds_toArray]); (try simp only [List.set_cons_succ]); (try simp only [List.set_cons_zero])
          repeat (apply wpG_fix
                  focus (refine Or.inl ⟨rfl, fun x hx => ?_⟩; have hS := HSX.out x hx; go_simp; (try with_reducible rfl); done)
                  (try simp only [Act.put]); (try simp only [List.setIfInBounds_toArray]); (try simp only [List.set_cons_succ]); (try simp only [List.set_cons_zero]))
          apply wpG_callR (fun u y => NamV (kvNames L') u y) (fun u x y h hb => NamV.keep h hb) (fun x hx _ => (HC3.out.keep hx).cli2 (by have := hl80.out; omega))
          · rfl
          · intro x hx; have hS := HSX.out x hx; go_simp
          (try simp only [Act.put]); (try simp only [List.setIfInBounds_toArray]); (try simp only [List.set_cons_succ]); (try simp only [List.set_cons_zero])
          repeat (apply wpG_fix
                  focus (refine Or.inl ⟨rfl, fun x hx => ?_⟩; have hS := HSX.out x hx; go_simp; (try with_reducible rfl); done)
                  (try simp only [Act.put]); (try simp only [List.setIfInBounds_toArray]); (try simp only [List.set_cons_succ]); (try simp only [List.set_cons_zero]))
          apply wpG_call (f := 24) (args := #[vs 51, vs 53]) (v := .bool true) (fun x hx hH => sameN_any (kvNames L') (vs 51) (vs 53) x (hH 51 (by kernel_rfl)) (hH 53 (by kernel_rfl)) HB2.out)
          · rfl
          · intro x hx; have hS := HSX.out x hx; go_simp
          (try simp only [Act.put]); (try simp only [List.setIfInBounds_toArray]); (try simp only [List.set_cons_succ]); (try simp only [List.set_cons_zero])
          repeat (apply wpG_fix
                  focus (refine Or.inl ⟨rfl, fun x hx => ?_⟩; have hS := HSX.out x hx; go_simp; (try with_reducible rfl); done)
                  (try simp only [Act.put]); (try simp only [List.setIfInBounds_toArray]); (try simp only [List.set_cons_succ]); (try simp only [List.set_cons_zero]))
          apply wpG_call (fun x hx _ => (HC3.out.keep hx).len1 p.client (mxX HM.out.2.1))
          · rfl
          · intro x hx; have hS := HSX.out x hx; go_simp
          (try simp only [Act.put]); (try simp only [List.setIfInBounds_toArray]); (try simp only [List.set_cons_succ]); (try simp only [List.set_cons_zero])
          repeat (apply wpG_fix
                  focus (refine Or.inl ⟨rfl, fun x hx => ?_⟩; have hS := HSX.out x hx; go_simp; (try with_reducible rfl); done)
                  (try simp only [Act.put]); (try simp only [List.setIfInBounds_toArray]); (try simp only [List.set_cons_succ]); (try simp only [List.set_cons_zero]))
          apply wpG_call (fun x hx _ => (HC3.out.keep hx).len2 p.client (by have := hl80.out; omega))
          · rfl
          · intro x hx; have hS := HSX.out x hx; go_simp
          (try simp only [Act.put]); (try simp only [List.setIfInBounds_toArray]); (try simp only [List.set_cons_succ]); (try simp only [List.set_cons_zero])
          repeat (apply wpG_fix
                  focus (refine Or.inl ⟨rfl, fun x hx => ?_⟩; have hS := HSX.out x hx; go_simp; (try with_reducible rfl); done)
                  (try simp only [Act.put]); (try simp only [List.setIfInBounds_toArray]); (try simp only [List.set_cons_succ]); (try simp only [List.set_cons_zero]))
          apply wpG_nil
          intro x hx _
          have HE : Hid (ScR w gp gr (i + 1) x) := Lib.hid ⟨L', (HC3.out.keep hx).st.less fun _ h => h.elim⟩
          go_wp2
          first
            | exact ⟨⟨i + 1, by simp, by omega, HE⟩, by simp [intOf]; omega⟩
            | (go_roundw
               case rel => (repeat apply Exists.intro); refine ⟨⟨i + 1, ?_, by omega, HE⟩, rfl⟩; simp
               case measure => go_light; simp [intOf]; omega)
        · kernel_rfl
      · have b1 : ¬ (i : Int) < (n : Int) := by omega
        obtain ⟨L, hD⟩ := HR.out
        have HB := Lib.hid hD.below
        clear hD HR
        go_wp2
        go_ret
        exact ⟨rfl, HB.out⟩
end Go.Proofs.YtjbpafkdbfbdlaaGreat
