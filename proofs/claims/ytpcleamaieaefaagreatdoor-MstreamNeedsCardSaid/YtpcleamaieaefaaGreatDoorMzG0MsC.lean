/- A part of what the laws stand on: MsC, MsD, MsP, OpenK, PkS, MqL, MsF. -/
import Derived.Test.YtpcleamaieaefaaGreatDoorMzG0MsA
import Derived.OwnWalk
namespace Go.Proofs.YtpcleamaieaefaaGreatDoor
open Go.RowKit
attribute [local go_sem ↓] to_ldPk to_bxPk to_bdPk to_alPk to_stPk
attribute [local go_sem] run_bxPk run_bxPk_agg ld_fresh run_alPk run_bd0 run_bdK run_bdKI run_bdKIC run_bdKC run_bdKICP run_stPk_fresh pkC_0 pkC_1 pkC_2 pkC_3 pkC_4 pkC_5 pkC_6 pkC_7 pkC_8 pkC_9 pkC_10 pkC_11 pkC_12 pkC_13 pkC_14 pkC_15 pkC_16 pkC_17 pkC_18 pkC_19 pkC_20 pkC_21 pkC_22 pkC_23 pkC_24
theorem Kp.apart {w0 w y : World} {K : Option Addr} {n c : Nat} {t : List UInt8} (h : Kp w0 w K n c t) {gp : Nat} {ty : TypeId} {cs : Array Value} (hp : Bk w gp ty cs) (hne : ty ≠ U8) (hm : w.grownBy y (some gp)) : Kp w0 y K n c t := by
  refine ⟨h.len, h.cap, ?_⟩
  rcases h.lies with h1 | ⟨g, o, M, h1, h2, h3, h4⟩
  · exact .inl h1
  · refine .inr ⟨g, o, M, h1, h2, (hm.block g h3.lt fun e => ?_).trans h3, h4⟩
    cases e
    unfold Bk at hp h3
    rw [hp] at h3
    simp only [Option.some.injEq, Obj.cells.injEq] at h3
    exact hne h3.2.1
set_option maxRecDepth 10000 in
theorem kp_conv {w0 w : World} {K : Option Addr} {n c z : Nat} {t : ByteArray} (h : Kp w0 w K n c (ls t)) (hz : z ≤ n) : (convert 75 9 (.slice K z c)).run Tryz.prog w = .ok (.string (t.extract 0 z)) w := by
  have h1 := h.rd.cut_to hz
  rw [Nat.mul_one, bys_take] at h1
  have h2 := conv_rd (P := Tryz.prog) 75 9 U8 Tryz.underlying75 Tryz.underlying5 Tryz.underlying9 c h1
  rw [h2]
  congr 2
  apply ls_ext
  rw [ls_mk]
  have := extract_ls t 0 z
  rw [Nat.zero_add, List.drop_zero] at this
  exact this.symm
theorem smZ_big {v : Int} {t : ByteArray} : (smZ v t).1 ≤ 268435460 := by
  unfold smZ
  split
  · exact Nat.zero_le _
  rename_i h
  have h0 := Classical.not_not.1 h
  obtain ⟨b1, b2, b3, b4, b5⟩ := hdR_back (v := v) (s := t.extract 0 (min t.size 5)) (h := (hdR v (t.extract 0 (min t.size 5))).1) (a := (hdR v (t.extract 0 (min t.size 5))).2.1) (by rw [← h0])
  rw [ByteArray.size_extract] at b5
  dsimp only
  omega
set_option maxHeartbeats 4000000 in
set_option maxRecDepth 10000 in
theorem smNext_any (v most : Int) (g : Nat) (K : Option Addr) (n c a k : Nat) (e : Int) (t : ByteArray) (w0 w : World) (hb : Bk w g SmT (smC v most K n c a k e)) (hk : Kp w0 w K n c (ls t)) (ht : t.size ≤ 1000000000000) :
    Calls Tryz.prog 83 #[.pointer (some ⟨g, 0, none⟩)] w (PkOut3 (smN v most t) w) := by
  have HE : Hid (smN v most t = if (smZ v t).2 ≠ 0 then (pk0, 0, (smZ v t).2) else if most < ((smZ v t).1 : Nat) then (pk0, 0, 4) else if t.size < (smZ v t).1 then (pk0, 0, 3) else mqR v (t.extract 0 (smZ v t).1)) := Lib.hid rfl
  have HT := Lib.hid ht
  have HL : Hid (t.size = n) := Lib.hid (by rw [← ls_len]; exact hk.len)
  have hb0 := (Below.refl w.heap.size w).alloc (Nat.le_refl _) (.cells (pkC pk0 hs0) PkT)
  have HB0 := Lib.hid hb0
  have HK0 := Lib.hid (Bk.fresh w PkT (pkC pk0 hs0))
  have HG := Lib.hid (show g < w.heap.size from hb.lt)
  have HBK := Lib.hid (hb.alloc (.cells (pkC pk0 hs0) PkT))
  have HKP := Lib.hid (hk.below hb0)
  have HZC := Lib.hid (smSize_any v most g K n c a k e t w0 _ HBK.out HKP.out ht)
  have HZB := Lib.hid (smZ_big (v := v) (t := t))
  clear hb hk ht hb0
  obtain ⟨⟨z, x⟩, hz⟩ : ∃ r, smZ v t = r := ⟨_, rfl⟩
  rw [hz] at HE HZC HZB
  dsimp only at HE HZC HZB
  clear hz
  go_enter Tryz.func83, Tryz.ntmps83
  go_wp2_with fail
  refine HZC.out.mono ?_
  rintro e' w1 ⟨rfl, hb⟩
  have HB1 := Lib.hid (HB0.out.trans (hb.mono HB0.out.size))
  have HK1 := Lib.hid (HK0.out.below hb HK0.out.lt)
  have HBK1 := Lib.hid (HBK.out.below hb HBK.out.lt)
  have HKP1 := Lib.hid (HKP.out.below hb)
  clear hb HZC HB0 HK0 HBK HKP
  have hst := run_stPk HK1.out pk0 hs0
  have HBP : Hid (Below w.heap.size w (putPk w1 w.heap.size pk0 hs0)) := Lib.hid (below_put HB1.out HB1.out.size (Nat.le_refl _) pk0 hs0)
  have HKPP := Lib.hid (put_bk HK1.out pk0 hs0)
  by_cases hx : x = 0
  rotate_left
  · have HX : Hid (smN v most t = (pk0, 0, x)) := Lib.hid (by rw [HE.out, if_pos hx])
    have e0 : (x != 0) = true := bne_iff_ne.2 hx
    clear hx
    go_wp2
    refine bodyPost_ret (results_pk3 rfl _ rfl HKPP.out) rfl ?_
    exact pkOut3_bad HX.out HBP.out
  have HE1 : Hid (smN v most t = if most < (z : Nat) then (pk0, 0, 4) else if t.size < z then (pk0, 0, 3) else mqR v (t.extract 0 z)) := Lib.hid (by rw [HE.out, if_neg (fun y => y hx)])
  subst hx
  have c1 : w1.cell? ⟨g, 1, none⟩ = some (.int .i64 most) := HBK1.out.cell 1
  have c2 : w1.cell? ⟨g, 2, none⟩ = some (.slice K n c) := HBK1.out.cell 2
  by_cases hm : most < (z : Nat)
  · have HX : Hid (smN v most t = (pk0, 0, 4)) := Lib.hid (by rw [HE1.out, if_pos hm])
    go_wp2
    refine bodyPost_ret (results_pk3 rfl _ rfl HKPP.out) rfl ?_
    exact pkOut3_bad HX.out HBP.out
  have m1 : decide (most < (z : Int)) = false := decide_eq_false hm
  have HE2 : Hid (smN v most t = if t.size < z then (pk0, 0, 3) else mqR v (t.extract 0 z)) := Lib.hid (by rw [HE1.out, if_neg hm])
  clear hm HE HE1
  go_upto_region 4 with fail
  go_upto_if 21 with fail
  clear m1
  go_upto_region 6 with fail
  by_cases hl : n < z
  · have HX : Hid (smN v most t = (pk0, 0, 3)) := Lib.hid (by rw [HE2.out, if_pos (by rw [HL.out]; exact hl)])
    have m2 : decide ((n : Int) < (z : Int)) = true := decide_eq_true (by omega)
    have m3 : decide (n < z) = true := decide_eq_true hl
    clear hl
    go_wp2
    refine bodyPost_ret (results_pk3 rfl _ rfl HKPP.out) rfl ?_
    exact pkOut3_bad HX.out HBP.out
  have m2 : decide ((n : Int) < (z : Int)) = false := decide_eq_false (by omega)
  have m3 : decide (n < z) = false := decide_eq_false hl
  have HZN : Hid (z ≤ n) := Lib.hid (by omega)
  have HX : Hid (smN v most t = mqR v (t.extract 0 z)) := Lib.hid (by rw [HE2.out, if_neg (by rw [HL.out]; exact hl)])
  clear hl HE2
  clear HKPP HBP
  go_upto_region 8 with fail
  clear hst m2 m3 c1 c2
  have HCV : Hid (∀ W, Below w1.heap.size w1 W → (convert 75 9 (.slice K z c)).run Tryz.prog W = .ok (.string (t.extract 0 z)) W) := Lib.hid (fun W hW => kp_conv (HKP1.out.below hW) HZN.out)
  have HSB : Hid (∀ W, Below w1.heap.size w1 W → W.cell? ⟨g, 0, none⟩ = some (.int .i64 v) ∧ W.cell? ⟨g, 2, none⟩ = some (.slice K n c) ∧ (convert 75 9 (.slice K z c)).run Tryz.prog W = .ok (.string (t.extract 0 z)) W) := Lib.hid (fun W hW => ⟨(HBK1.out.below hW HBK1.out.lt).cell 0, (HBK1.out.below hW HBK1.out.lt).cell 2, HCV.out W hW⟩)
  have HSP : Hid (∀ W (p : Pk) (q : Hs), Below w1.heap.size w1 W → (putPk W w.heap.size p q).cell? ⟨g, 0, none⟩ = some (.int .i64 v) ∧ (putPk W w.heap.size p q).cell? ⟨g, 2, none⟩ = some (.slice K n c) ∧ (convert 75 9 (.slice K z c)).run Tryz.prog (putPk W w.heap.size p q) = .ok (.string (t.extract 0 z)) (putPk W w.heap.size p q)) := Lib.hid (fun W p q hW => by
    have hk := HK1.out.below hW HK1.out.lt
    have hm := putPk_mods W w.heap.size p q
    have hg : Bk (putPk W w.heap.size p q) g SmT (smC v most K n c a k e) := (hm.block g (HBK1.out.below hW HBK1.out.lt).lt (fun e => by cases e; exact absurd HG.out (Nat.lt_irrefl _))).trans (HBK1.out.below hW HBK1.out.lt)
    exact ⟨hg.cell 0, hg.cell 2, kp_conv ((HKP1.out.below hW).apart hk (by decide) hm) HZN.out⟩)
  have HBD : Hid (Below w1.heap.size w1 w1.drew) := Lib.hid (below_drawn (Below.refl w1.heap.size w1) 1)
  have hsl := fun W => run_to (P := Tryz.prog) (t := 75) (e := U8) (s := 1) Tryz.underlying75 (fun W => by kernel_rfl) K n c z (Nat.le_trans HZN.out HKP1.out.cap) W
  have HRD := Lib.hid (fun W => mqRead_any v (t.extract 0 z) W (by rw [ByteArray.size_extract]; have := HT.out; omega))
  obtain ⟨R, hR⟩ : ∃ R, mqR v (t.extract 0 z) = R := ⟨_, rfl⟩
  rw [hR] at HX HRD
  clear hR HCV
  refine wp_region_D (fun w' => w'.cell? ⟨g, 0, none⟩ = some (.int .i64 v) ∧ w'.cell? ⟨g, 2, none⟩ = some (.slice K n c) ∧ (convert 75 9 (.slice K z c)).run Tryz.prog w' = .ok (.string (t.extract 0 z)) w') [] (by kernel_rfl) ?_
  have HS := HSB.out w1.drew HBD.out
  refine anyD_take (i := 0) (v := ?va0) [] rfl (by kernel_rfl) (by kernel_rfl) (by kernel_rfl) (by kernel_rfl) (by kernel_rfl) (by kernel_rfl) (fun _ _ _ h => h) (Or.inl ⟨by rfl, ?ha0⟩) HS ?ra0
  case ha0 => intro w' hSw; (try dsimp only at hSw); obtain ⟨s0, s2, s3⟩ := hSw; go_simp; try with_reducible rfl
  (try simp only [Act.put]); (try simp only [List.setIfInBounds_toArray]); (try simp only [List.set_cons_succ]); (try simp only [List.set_cons_zero])
  refine anyD_take (i := 1) (v := ?va1) [] rfl (by kernel_rfl) (by kernel_rfl) (by kernel_rfl) (by kernel_rfl) (by kernel_rfl) (by kernel_rfl) (fun _ _ _ h => h) (Or.inl ⟨by rfl, ?ha1⟩) HS ?ra1
  case ha1 => intro w' hSw; (try dsimp only at hSw); obtain ⟨s0, s2, s3⟩ := hSw; go_simp; try with_reducible rfl
  (try simp only [Act.put]); (try simp only [List.setIfInBounds_toArray]); (try simp only [List.set_cons_succ]); (try simp only [List.set_cons_zero])
  refine anyD_take (i := 2) (v := ?va2) [] rfl (by kernel_rfl) (by kernel_rfl) (by kernel_rfl) (by kernel_rfl) (by kernel_rfl) (by kernel_rfl) (fun _ _ _ h => h) (Or.inl ⟨by rfl, ?ha2⟩) HS ?ra2
  case ha2 => intro w' hSw; (try dsimp only at hSw); obtain ⟨s0, s2, s3⟩ := hSw; go_simp; try with_reducible rfl
  (try simp only [Act.put]); (try simp only [List.setIfInBounds_toArray]); (try simp only [List.set_cons_succ]); (try simp only [List.set_cons_zero])
  refine anyD_take (i := 3) (v := ?va3) [] rfl (by kernel_rfl) (by kernel_rfl) (by kernel_rfl) (by kernel_rfl) (by kernel_rfl) (by kernel_rfl) (fun _ _ _ h => h) (Or.inl ⟨by rfl, ?ha3⟩) HS ?ra3
  case ha3 => intro w' hSw; (try dsimp only at hSw); obtain ⟨s0, s2, s3⟩ := hSw; go_simp; try with_reducible rfl
  (try simp only [Act.put]); (try simp only [List.setIfInBounds_toArray]); (try simp only [List.set_cons_succ]); (try simp only [List.set_cons_zero])
  refine anyD_take (i := 4) (v := ?va4) [] rfl (by kernel_rfl) (by kernel_rfl) (by kernel_rfl) (by kernel_rfl) (by kernel_rfl) (by kernel_rfl) (fun _ _ _ h => h) (Or.inl ⟨by rfl, ?ha4⟩) HS ?ra4
  case ha4 => intro w' hSw; (try dsimp only at hSw); obtain ⟨s0, s2, s3⟩ := hSw; go_simp; try with_reducible rfl
  (try simp only [Act.put]); (try simp only [List.setIfInBounds_toArray]); (try simp only [List.set_cons_succ]); (try simp only [List.set_cons_zero])
  refine anyD_take (i := 5) (v := ?va5) [] rfl (by kernel_rfl) (by kernel_rfl) (by kernel_rfl) (by kernel_rfl) (by kernel_rfl) (by kernel_rfl) (fun _ _ _ h => h) (Or.inl ⟨by rfl, ?ha5⟩) HS ?ra5
  case ha5 => intro w' hSw; (try dsimp only at hSw); obtain ⟨s0, s2, s3⟩ := hSw; go_simp; try with_reducible rfl
  (try simp only [Act.put]); (try simp only [List.setIfInBounds_toArray]); (try simp only [List.set_cons_succ]); (try simp only [List.set_cons_zero])
  refine anyD_take (i := 6) (v := ?va6) [] rfl (by kernel_rfl) (by kernel_rfl) (by kernel_rfl) (by kernel_rfl) (by kernel_rfl) (by kernel_rfl) (fun _ _ _ h => h) (Or.inl ⟨by rfl, ?ha6⟩) HS ?ra6
  case ha6 => intro w' hSw; (try dsimp only at hSw); obtain ⟨s0, s2, s3⟩ := hSw; go_simp; try with_reducible rfl
  (try simp only [Act.put]); (try simp only [List.setIfInBounds_toArray]); (try simp only [List.set_cons_succ]); (try simp only [List.set_cons_zero])
  refine anyD_take (i := 7) (v := ?va7) [] rfl (by kernel_rfl) (by kernel_rfl) (by kernel_rfl) (by kernel_rfl) (by kernel_rfl) (by kernel_rfl) (fun _ _ _ h => h) (Or.inl ⟨by rfl, ?ha7⟩) HS ?ra7
  case ha7 => intro w' hSw; (try dsimp only at hSw); obtain ⟨s0, s2, s3⟩ := hSw; go_simp; try with_reducible rfl
  (try simp only [Act.put]); (try simp only [List.setIfInBounds_toArray]); (try simp only [List.set_cons_succ]); (try simp only [List.set_cons_zero])
  refine anyD_take (i := 8) (v := ?va8) [] rfl (by kernel_rfl) (by kernel_rfl) (by kernel_rfl) (by kernel_rfl) (by kernel_rfl) (by kernel_rfl) (fun _ _ _ h => h) (Or.inl ⟨by rfl, ?ha8⟩) HS ?ra8
  case ha8 => intro w' hSw; (try dsimp only at hSw); obtain ⟨s0, s2, s3⟩ := hSw; go_simp; try with_reducible rfl
  (try simp only [Act.put]); (try simp only [List.setIfInBounds_toArray]); (try simp only [List.set_cons_succ]); (try simp only [List.set_cons_zero])
  refine anyD_take (i := 9) (v := ?va9) [] rfl (by kernel_rfl) (by kernel_rfl) (by kernel_rfl) (by kernel_rfl) (by kernel_rfl) (by kernel_rfl) (fun _ _ _ h => h) (Or.inl ⟨by rfl, ?ha9⟩) HS ?ra9
  case ha9 => intro w' hSw; (try dsimp only at hSw); obtain ⟨s0, s2, s3⟩ := hSw; go_simp; try with_reducible rfl
  (try simp only [Act.put]); (try simp only [List.setIfInBounds_toArray]); (try simp only [List.set_cons_succ]); (try simp only [List.set_cons_zero])
  refine anyD_take (i := 10) (v := ?va10) [] rfl (by kernel_rfl) (by kernel_rfl) (by kernel_rfl) (by kernel_rfl) (by kernel_rfl) (by kernel_rfl) (fun _ _ _ h => h) (Or.inl ⟨by rfl, ?ha10⟩) HS ?ra10
  case ha10 => intro w' hSw; (try dsimp only at hSw); obtain ⟨s0, s2, s3⟩ := hSw; go_simp; try with_reducible rfl
  (try simp only [Act.put]); (try simp only [List.setIfInBounds_toArray]); (try simp only [List.set_cons_succ]); (try simp only [List.set_cons_zero])
  refine anyD_ready (rs := [11]) (by kernel_rfl) (by simp) (AllD.cons rfl (fun K hK => ?_) AllD.nil)
  go_simp
  go_at_call 25
  refine (HRD.out _).mono ?_
  rintro e' w3 ⟨hh, rfl, hi3, hb3, hf3⟩
  have B3 := Lib.hid (HBD.out.trans (hb3.mono HBD.out.size))
  have K3 := Lib.hid (HK1.out.below B3.out HK1.out.lt)
  have I3 := Lib.hid hi3; have F3 := Lib.hid hf3; have Z3 := Lib.hid hb3.size
  clear hi3 hb3 hf3 HS
  have HS := HSB.out w3 B3.out
  go_simp
  refine hK.out _ _ (fun _ => HS) ?_
  clear hK K
  (try simp only [Act.put]); (try simp only [List.setIfInBounds_toArray]); (try simp only [List.set_cons_succ]); (try simp only [List.set_cons_zero])
  refine anyD_take (i := 12) (v := ?vb12) [] rfl (by kernel_rfl) (by kernel_rfl) (by kernel_rfl) (by kernel_rfl) (by kernel_rfl) (by kernel_rfl) (fun _ _ _ h => h) (Or.inl ⟨by rfl, ?hb12⟩) HS ?rb12
  case hb12 => intro w' hSw; (try dsimp only at hSw); obtain ⟨s0, s2, s3⟩ := hSw; go_simp; try with_reducible rfl
  (try simp only [Act.put]); (try simp only [List.setIfInBounds_toArray]); (try simp only [List.set_cons_succ]); (try simp only [List.set_cons_zero])
  refine anyD_take (i := 13) (v := ?vb13) [] rfl (by kernel_rfl) (by kernel_rfl) (by kernel_rfl) (by kernel_rfl) (by kernel_rfl) (by kernel_rfl) (fun _ _ _ h => h) (Or.inl ⟨by rfl, ?hb13⟩) HS ?rb13
  case hb13 => intro w' hSw; (try dsimp only at hSw); obtain ⟨s0, s2, s3⟩ := hSw; go_simp; try with_reducible rfl
  (try simp only [Act.put]); (try simp only [List.setIfInBounds_toArray]); (try simp only [List.set_cons_succ]); (try simp only [List.set_cons_zero])
  refine anyD_take (i := 14) (v := ?vb14) [] rfl (by kernel_rfl) (by kernel_rfl) (by kernel_rfl) (by kernel_rfl) (by kernel_rfl) (by kernel_rfl) (fun _ _ _ h => h) (Or.inl ⟨by rfl, ?hb14⟩) HS ?rb14
  case hb14 => intro w' hSw; (try dsimp only at hSw); obtain ⟨s0, s2, s3⟩ := hSw; go_simp; try with_reducible rfl
  (try simp only [Act.put]); (try simp only [List.setIfInBounds_toArray]); (try simp only [List.set_cons_succ]); (try simp only [List.set_cons_zero])
  refine anyD_ready (rs := [15]) (by kernel_rfl) (by simp) (AllD.cons rfl (fun K hK => ?_) AllD.nil)
  have hst := run_stPk K3.out R.1 hh
  go_simp
  clear hst HS
  have HS := HSP.out w3 R.1 hh B3.out
  refine hK.out _ _ (fun _ => HS) ?_
  clear hK K
  (try simp only [Act.put]); (try simp only [List.setIfInBounds_toArray]); (try simp only [List.set_cons_succ]); (try simp only [List.set_cons_zero])
  refine anyD_ready (rs := [16]) (by kernel_rfl) (by simp) (AllD.cons rfl (fun K hK => ?_) AllD.nil)
  go_simp
  refine hK.out _ _ (fun _ => HS) ?_
  clear hK K
  (try simp only [Act.put]); (try simp only [List.setIfInBounds_toArray]); (try simp only [List.set_cons_succ]); (try simp only [List.set_cons_zero])
  refine anyD_ready (rs := [17]) (by kernel_rfl) (by simp) (AllD.cons rfl (fun K hK => ?_) AllD.nil)
  go_simp
  refine hK.out _ _ (fun _ => HS) ?_
  clear hK K
  (try simp only [Act.put]); (try simp only [List.setIfInBounds_toArray]); (try simp only [List.set_cons_succ]); (try simp only [List.set_cons_zero])
  refine anyD_done (by kernel_rfl) ?_ _
  go_wp2
  refine bodyPost_ret (results_pk3 rfl _ rfl (put_bk K3.out R.1 hh)) rfl ?_
  have BB := HB1.out.trans (B3.out.mono HB1.out.size)
  exact ⟨hh, by rw [HX.out]; rfl, by rw [HX.out]; exact I3.out.put K3.out (putPk_mods _ _ _ _) F3.out (Nat.lt_of_lt_of_le HK1.out.lt HBD.out.size), below_put BB BB.size (Nat.le_refl _) R.1 hh, by rw [HX.out]; exact F3.out.mono (Nat.le_trans HB1.out.size HBD.out.size)⟩
end Go.Proofs.YtpcleamaieaefaaGreatDoor

namespace Go.Proofs.YtpcleamaieaefaaGreatDoor
open Go.RowKit
attribute [local go_sem ↓] to_ldPk to_bxPk to_bdPk to_alPk to_stPk
attribute [local go_sem] run_bxPk run_bxPk_agg ld_fresh run_alPk run_bd0 run_bdK run_bdKI run_bdKIC run_bdKC run_bdKICP run_stPk_fresh pkC_0 pkC_1 pkC_2 pkC_3 pkC_4 pkC_5 pkC_6 pkC_7 pkC_8 pkC_9 pkC_10 pkC_11 pkC_12 pkC_13 pkC_14 pkC_15 pkC_16 pkC_17 pkC_18 pkC_19 pkC_20 pkC_21 pkC_22 pkC_23 pkC_24
set_option maxHeartbeats 1000000 in
set_option maxRecDepth 10000 in
theorem smDrop_any (v most : Int) (g : Nat) (K : Option Addr) (n c a k z : Nat) (e : Int) (w : World) (hb : Bk w g SmT (smC v most K n c a k e)) (hz : z ≤ n) (hc : n ≤ c) (ha : a ≤ 1000000000000) (hk : k ≤ 1000000000000) (hn : n ≤ 1000000000000) :
    Calls Tryz.prog 84 #[.pointer (some ⟨g, 0, none⟩), .int .i64 z] w fun e' w' => e' = .returned (.tuple #[]) ∧ Bk w' g SmT (smC v most (cutA K n z 1) (n - z) (n - z) (a + z) (k + 1) e) ∧ w.grownBy w' (some g) := by
  have HB := Lib.hid hb
  have hsl := fun W => run_cut3 (P := Tryz.prog) (t := 75) (e := U8) (s := 1) Tryz.underlying75 (fun W => by kernel_rfl) K n c z hz hc W
  have h1 : wrap64 ((a : Int) + (z : Int)) = ((a + z : Nat) : Int) := by unfold wrap64; omega
  have h2 : wrap64 ((k : Int) + 1) = ((k + 1 : Nat) : Int) := by unfold wrap64; omega
  have d1 : (a : Int) + (z : Int) ≤ 9223372036854775807 := by omega
  have d2 : (k : Int) + 1 ≤ 9223372036854775807 := by omega
  have c2 : w.cell? ⟨g, 2, none⟩ = some (.slice K n c) := HB.out.cell 2
  have c3 : w.cell? ⟨g, 3, none⟩ = some (.int .i64 a) := HB.out.cell 3
  have c4 : w.cell? ⟨g, 4, none⟩ = some (.int .i64 k) := HB.out.cell 4
  have f2 := HB.out.free 2; have f3 := HB.out.free 3; have f4 := HB.out.free 4
  clear hb hz hc ha hk hn
  obtain ⟨K', hK'⟩ : ∃ K', cutA K n z 1 = K' := ⟨_, rfl⟩
  obtain ⟨n', hn'⟩ : ∃ n', n - z = n' := ⟨_, rfl⟩
  rw [hK', hn'] at hsl
  rw [hK', hn']
  clear hK' hn'
  go_enter Tryz.func84, Tryz.ntmps84
  go_wp2
  go_end0
  exact ⟨rfl, ((HB.out.put 2 (.slice K' n' n')).put 3 (.int .i64 ((a + z : Nat) : Int))).put 4 (.int .i64 ((k + 1 : Nat) : Int)), ((mod_set w g 2 _).trans (mod_set _ g 3 _)).trans (mod_set _ g 4 _)⟩
set_option maxHeartbeats 400000 in
set_option maxRecDepth 10000 in
theorem smKept_any (v most : Int) (g : Nat) (K : Option Addr) (n c a k : Nat) (e : Int) (w : World) (hb : Bk w g SmT (smC v most K n c a k e)) :
    Calls Tryz.prog 37 #[.pointer (some ⟨g, 0, none⟩)] w fun e' w' => e' = .returned (.int .i64 n) ∧ w = w' := by
  have c2 : w.cell? ⟨g, 2, none⟩ = some (.slice K n c) := hb.cell 2
  clear hb
  go_enter Tryz.func37, Tryz.ntmps37
  go_wp2
  go_ret
  exact ⟨rfl, rfl⟩
set_option maxHeartbeats 400000 in
set_option maxRecDepth 10000 in
theorem smTold_any (v most : Int) (g : Nat) (K : Option Addr) (n c a k : Nat) (e : Int) (w : World) (hb : Bk w g SmT (smC v most K n c a k e)) :
    Calls Tryz.prog 36 #[.pointer (some ⟨g, 0, none⟩)] w fun e' w' => e' = .returned (.int .i64 k) ∧ w = w' := by
  have c4 : w.cell? ⟨g, 4, none⟩ = some (.int .i64 k) := hb.cell 4
  clear hb
  go_enter Tryz.func36, Tryz.ntmps36
  go_wp2
  go_ret
  exact ⟨rfl, rfl⟩
set_option maxHeartbeats 400000 in
set_option maxRecDepth 10000 in
theorem smAt_any (v most : Int) (g : Nat) (K : Option Addr) (n c a k : Nat) (e : Int) (w : World) (hb : Bk w g SmT (smC v most K n c a k e)) :
    Calls Tryz.prog 40 #[.pointer (some ⟨g, 0, none⟩)] w fun e' w' => e' = .returned (.int .i64 a) ∧ w = w' := by
  have c3 : w.cell? ⟨g, 3, none⟩ = some (.int .i64 a) := hb.cell 3
  clear hb
  go_enter Tryz.func40, Tryz.ntmps40
  go_wp2
  go_ret
  exact ⟨rfl, rfl⟩
set_option maxHeartbeats 400000 in
set_option maxRecDepth 10000 in
theorem smErr_any (v most : Int) (g : Nat) (K : Option Addr) (n c a k : Nat) (e : Int) (w : World) (hb : Bk w g SmT (smC v most K n c a k e)) :
    Calls Tryz.prog 38 #[.pointer (some ⟨g, 0, none⟩)] w fun e' w' => e' = .returned (.int .i64 e) ∧ w = w' := by
  have c5 : w.cell? ⟨g, 5, none⟩ = some (.int .i64 e) := hb.cell 5
  clear hb
  go_enter Tryz.func38, Tryz.ntmps38
  go_wp2
  go_ret
  exact ⟨rfl, rfl⟩
/-- How many bytes lack. -/
def smNeed (v : Int) (t : ByteArray) (e : Int) : Int := if e ≠ 0 then 0 else if (smZ v t).2 ≠ 0 then 1 else ((smZ v t).1 : Int) - (t.size : Int)
set_option maxHeartbeats 1000000 in
set_option maxRecDepth 10000 in
theorem smNeed_any (v most : Int) (g : Nat) (K : Option Addr) (n c a k : Nat) (e : Int) (t : ByteArray) (w0 w : World) (hb : Bk w g SmT (smC v most K n c a k e)) (hk : Kp w0 w K n c (ls t)) (ht : t.size ≤ 1000000000000) :
    Calls Tryz.prog 35 #[.pointer (some ⟨g, 0, none⟩)] w fun e' w' => e' = .returned (.int .i64 (smNeed v t e)) ∧ Below w.heap.size w w' := by
  have HE : Hid (smNeed v t e = if e ≠ 0 then 0 else if (smZ v t).2 ≠ 0 then 1 else ((smZ v t).1 : Int) - (t.size : Int)) := Lib.hid rfl
  have HB := Lib.hid hb
  have HL : Hid (t.size = n) := Lib.hid (by rw [← ls_len]; exact hk.len)
  have HZC := Lib.hid (smSize_any v most g K n c a k e t w0 w hb hk ht)
  have HB0 := Lib.hid (Below.refl w.heap.size w)
  have c5 : w.cell? ⟨g, 5, none⟩ = some (.int .i64 e) := hb.cell 5
  have HN : Hid (n ≤ 1000000000000) := Lib.hid (by have := HL.out; omega)
  have HZB : Hid ((smZ v t).1 ≤ 1000000000) := Lib.hid (by
    unfold smZ
    split
    · exact Nat.zero_le _
    rename_i h
    have h0 := Classical.not_not.1 h
    obtain ⟨b1, b2, b3, b4, b5⟩ := hdR_back (v := v) (s := t.extract 0 (min t.size 5)) (h := (hdR v (t.extract 0 (min t.size 5))).1) (a := (hdR v (t.extract 0 (min t.size 5))).2.1) (by rw [← h0])
    rw [ByteArray.size_extract] at b5
    dsimp only
    omega)
  clear hb hk ht
  go_enter Tryz.func35, Tryz.ntmps35
  by_cases he : e = 0
  rotate_left
  · have HX : Hid (smNeed v t e = 0) := Lib.hid (by rw [HE.out, if_pos he])
    have e0 : (e != 0) = true := bne_iff_ne.2 he
    clear he
    go_wp2
    go_ret
    exact ⟨by rw [HX.out]; rfl, HB0.out⟩
  have HE1 : Hid (smNeed v t e = if (smZ v t).2 ≠ 0 then 1 else ((smZ v t).1 : Int) - (t.size : Int)) := Lib.hid (by rw [HE.out, if_neg (fun x => x he)])
  subst he
  obtain ⟨⟨z, x⟩, hz⟩ : ∃ r, smZ v t = r := ⟨_, rfl⟩
  rw [hz] at HE1 HZC HZB
  dsimp only at HE1 HZC HZB
  clear hz HE
  go_wp2_with fail
  refine HZC.out.mono ?_
  rintro e' w1 ⟨rfl, hb⟩
  have HB1 := Lib.hid hb
  have c2 : w1.cell? ⟨g, 2, none⟩ = some (.slice K n c) := (HB.out.below hb HB.out.lt).cell 2
  clear hb c5 HZC
  by_cases hx : x = 0
  rotate_left
  · have HX : Hid (smNeed v t 0 = 1) := Lib.hid (by rw [HE1.out, if_pos hx])
    have e0 : (x != 0) = true := bne_iff_ne.2 hx
    clear hx
    go_wp2
    go_ret
    exact ⟨by rw [HX.out]; rfl, HB1.out⟩
  · have HX : Hid (smNeed v t 0 = (z : Int) - (n : Int)) := Lib.hid (by rw [HE1.out, if_neg (fun y => y hx), HL.out])
    subst hx
    have d1 : (z : Int) - (n : Int) ≤ 9223372036854775807 := by have := HZB.out; omega
    have d2 : -9223372036854775808 ≤ (z : Int) - (n : Int) := by have := HN.out; omega
    go_wp2
    go_ret
    exact ⟨by rw [HX.out]; rfl, HB1.out⟩
end Go.Proofs.YtpcleamaieaefaaGreatDoor

namespace Go.Proofs.YtpcleamaieaefaaGreatDoor
open Go.RowKit

theorem rv_more : ∀ (l m : List UInt8) (n k : Nat), (rv l n k).2.2 ≠ 3 → rv (l ++ m) n k = rv l n k
  | [], m, n, k, h => absurd rfl h
  | b :: l, m, n, k, h => by
    rw [List.cons_append, rv, rv]
    rw [rv] at h
    split
    · rename_i hb
      rw [if_pos hb] at h
      split
      · rfl
      · rename_i hk
        rw [if_neg hk] at h
        exact rv_more l m _ _ h
    · rfl
theorem rv_short : ∀ (l : List UInt8) (n k : Nat), k ≤ 3 → (rv l n k).2.2 = 3 → l.length + k ≤ 3
  | [], n, k, hk, _ => by simpa using hk
  | b :: l, n, k, hk, h => by
    rw [rv] at h
    split at h
    · split at h
      · simp at h
      · have := rv_short l _ (k + 1) (by omega) h
        rw [List.length_cons]
        omega
    · split at h
      · simp at h
      · simp at h
theorem hdR_more {v : Int} {s u : ByteArray} (h : (hdR v s).2.2 ≠ 3) : hdR v (s ++ u) = hdR v s := by
  unfold hdR at h ⊢
  by_cases hk : hdKnown v = false
  · simp only [if_pos hk]
  by_cases hz : s.size = 0
  · rw [if_neg hk, if_pos hz] at h
    exact absurd rfl h
  have hz' : (s ++ u).size ≠ 0 := by rw [ByteArray.size_append]; omega
  have hb : hdByte (s ++ u) = hdByte s := by
    unfold hdByte
    rw [ls_app]
    cases hl : ls s with
    | nil => exact absurd (by rw [← ls_len, hl]; rfl) hz
    | cons x l => rfl
  have hr : ls ((s ++ u).extract 1 (s ++ u).size) = ls (s.extract 1 s.size) ++ ls u := by
    rw [hd_rest_ls, hd_rest_ls, ls_app, List.drop_append_of_le_length (by rw [ls_len]; omega)]
  rw [if_neg hk, if_neg hz] at h
  rw [if_neg hk, if_neg hz', if_neg hk, if_neg hz, hb, hr]
  by_cases hc : hdChk v (hdByte s / 16 : Nat) (hdByte s % 16 : Nat) ≠ 0
  · rw [if_pos hc, if_pos hc]
  rw [if_neg hc] at h
  rw [if_neg hc, if_neg hc]
  have hrv : (readV (ls (s.extract 1 s.size))).2.2 ≠ 3 := by
    intro e
    rw [if_pos (by rw [e]; decide)] at h
    exact h e
  rw [show readV (ls (s.extract 1 s.size) ++ ls u) = readV (ls (s.extract 1 s.size)) from rv_more _ (ls u) 0 0 hrv]
theorem hdChk_ne3 (v k f : Int) : hdChk v k f ≠ 3 := by
  unfold hdChk
  cases hdKnown v <;> cases hdKinds v k <;> cases hdFlagged k f <;> simp
theorem hdR_short {v : Int} {s : ByteArray} (h : (hdR v s).2.2 = 3) : s.size ≤ 4 := by
  unfold hdR at h
  split at h
  · simp at h
  split at h
  · omega
  split at h
  · exact absurd h (hdChk_ne3 _ _ _)
  split at h
  · have := rv_short _ 0 0 (by omega) h
    rw [hd_rest_ls, List.length_drop, ls_len] at this
    omega
  · simp at h
theorem hdR_five (v : Int) (t : ByteArray) : hdR v (t.extract 0 (min t.size 5)) = hdR v t := by
  by_cases h : t.size ≤ 5
  · congr 1
    apply ls_ext
    rw [ls_front, List.take_of_length_le (by rw [ls_len]; omega)]
  · have e3 : (hdR v (t.extract 0 5)).2.2 ≠ 3 := fun e => by
      have := hdR_short e
      rw [ByteArray.size_extract] at this
      omega
    have hs : t.extract 0 5 ++ t.extract 5 t.size = t := ls_ext (by rw [ls_app, ls_front, ls_back, List.take_append_drop])
    have := hdR_more (u := t.extract 5 t.size) e3
    rw [hs] at this
    rw [show min t.size 5 = 5 by omega, this]
theorem hdR_ext {v : Int} {t : ByteArray} (h : (hdR v t).2.2 = 0) {z : Nat} (hz : (hdR v t).2.1 ≤ z) : hdR v (t.extract 0 z) = hdR v t := by
  obtain ⟨b1, b2, b3, b4, b5⟩ := hdR_back (v := v) (s := t) (h := (hdR v t).1) (a := (hdR v t).2.1) (by rw [← h])
  have := hdR_front b1 b2 (s := t.extract 0 z) (R := ((ls t).drop (hdR v t).2.1).take (z - (hdR v t).2.1)) (by
    rw [ls_front]
    conv => lhs; rw [b3]
    rw [List.take_append, List.take_of_length_le (by omega), ← b4])
  rw [this, ← b4, ← h]
/-- How many bytes the packet has that bytes begin with, as the header says. -/
def hdZ (v : Int) (t : ByteArray) : Nat := (hdR v t).2.1 + (hdR v t).1.n
theorem smZ_of (v : Int) (t : ByteArray) : smZ v t = if (hdR v t).2.2 ≠ 0 then (0, (hdR v t).2.2) else (hdZ v t, 0) := by
  unfold smZ
  rw [hdR_five]
  rfl
theorem smN_of (v most : Int) (t : ByteArray) : smN v most t = if (hdR v t).2.2 ≠ 0 then (pk0, 0, (hdR v t).2.2) else if most < (hdZ v t : Nat) then (pk0, 0, 4) else if t.size < hdZ v t then (pk0, 0, 3) else mqR v (t.extract 0 (hdZ v t)) := by
  unfold smN
  rw [smZ_of]
  by_cases h : (hdR v t).2.2 ≠ 0
  · rw [if_pos h, if_pos h]
    exact (if_pos h).symm
  · rw [if_neg h, if_neg h]
    exact if_neg (fun x => x rfl)
theorem mqR_full {v : Int} {t : ByteArray} (h : (hdR v t).2.2 = 0) (hs : hdZ v t ≤ t.size) : (mqR v (t.extract 0 (hdZ v t))).2.2 ≠ 3 ∧ ((mqR v (t.extract 0 (hdZ v t))).2.2 = 0 → (mqR v (t.extract 0 (hdZ v t))).2.1 = hdZ v t) := by
  have e := hdR_ext h (z := hdZ v t) (Nat.le_add_right _ _)
  have hz : (t.extract 0 (hdZ v t)).size = hdZ v t := by rw [ByteArray.size_extract]; omega
  unfold mqR
  rw [e, if_neg (fun x => x h), if_neg (by rw [hz]; exact Nat.lt_irrefl _)]
  generalize chR v (hdR v t).1 ((t.extract 0 (hdZ v t)).extract (hdR v t).2.1 ((hdR v t).2.1 + (hdR v t).1.n)) = r
  split
  · exact ⟨by simp, fun _ => rfl⟩
  · rename_i h0
    refine ⟨?_, fun h1 => ?_⟩
    · dsimp only
      split
      · decide
      · assumption
    · dsimp only at h1
      split at h1
      · cases h1
      · exact absurd h1 h0
theorem smN_short {v most : Int} {t : ByteArray} (h : (smN v most t).2.2 = 3) : (hdR v t).2.2 = 3 ∨ ((hdR v t).2.2 = 0 ∧ (hdZ v t : Int) ≤ most ∧ t.size < hdZ v t) := by
  rw [smN_of] at h
  split at h
  · exact .inl h
  rename_i h1
  have h1 := Classical.not_not.1 h1
  split at h
  · simp at h
  rename_i h2
  split at h
  · rename_i h3
    exact .inr ⟨h1, by omega, h3⟩
  · rename_i h3
    exact absurd h (mqR_full h1 (by omega)).1
theorem smN_three {v most : Int} {t : ByteArray} (h : (hdR v t).2.2 = 3 ∨ ((hdR v t).2.2 = 0 ∧ (hdZ v t : Int) ≤ most ∧ t.size < hdZ v t)) : (smN v most t).2.2 = 3 := by
  rw [smN_of]
  rcases h with h | ⟨h1, h2, h3⟩
  · rw [if_pos (by rw [h]; decide)]
    exact h
  · rw [if_neg (fun x => x h1), if_neg (by omega), if_pos h3]
theorem smN_more {v most : Int} {t u : ByteArray} (h : (smN v most t).2.2 ≠ 3) : smN v most (t ++ u) = smN v most t := by
  have he : (hdR v t).2.2 ≠ 3 := fun e => h (smN_three (.inl e))
  have hh := hdR_more (u := u) he
  have hz : hdZ v (t ++ u) = hdZ v t := by unfold hdZ; rw [hh]
  rw [smN_of v most t] at h
  rw [smN_of, smN_of, hz, hh]
  by_cases h1 : (hdR v t).2.2 ≠ 0
  · rw [if_pos h1, if_pos h1]
  rw [if_neg h1] at h
  rw [if_neg h1, if_neg h1]
  by_cases h2 : most < (hdZ v t : Nat)
  · rw [if_pos h2, if_pos h2]
  rw [if_neg h2] at h
  rw [if_neg h2, if_neg h2]
  by_cases h3 : t.size < hdZ v t
  · rw [if_pos h3] at h
    exact absurd rfl h
  rw [if_neg h3, if_neg (by rw [ByteArray.size_append]; omega)]
  congr 1
  apply ls_ext
  rw [ls_front, ls_front, ls_app, List.take_append_of_le_length (by rw [ls_len]; omega)]
theorem smF_eq (v most : Int) : ∀ (f f' : Nat) (t : ByteArray) (a k : Nat) (l : List Pk), t.size < f → t.size < f' → smF v most f t a k l = smF v most f' t a k l
  | 0, _, _, _, _, _, h, _ => absurd h (by omega)
  | _ + 1, 0, _, _, _, _, _, h => absurd h (by omega)
  | f + 1, f' + 1, t, a, k, l, h, h' => by
    rw [smF_step, smF_step]
    split
    · rename_i h0
      have := smN_step h0
      exact smF_eq v most f f' _ _ _ _ (by rw [ByteArray.size_extract]; omega) (by rw [ByteArray.size_extract]; omega)
    · rfl
/-- What a feed leaves. -/
def smG (v most : Int) (t : ByteArray) (a k : Nat) (l : List Pk) : List Pk × ByteArray × Nat × Nat × Int := smF v most (t.size + 1) t a k l
theorem smG_step (v most : Int) (t : ByteArray) (a k : Nat) (l : List Pk) : smG v most t a k l =
    if (smN v most t).2.2 = 0 then smG v most (t.extract (smN v most t).2.1 t.size) (a + (smN v most t).2.1) (k + 1) (l ++ [(smN v most t).1])
    else if (smN v most t).2.2 = 3 then (l, t, a, k, 0)
    else (l, ⟨#[]⟩, a, k, (smN v most t).2.2) := by
  unfold smG
  rw [smF_step]
  split
  · rename_i h0
    have := smN_step h0
    exact smF_eq v most _ _ _ _ _ _ (by rw [ByteArray.size_extract]; omega) (Nat.lt_succ_self _)
  · rfl
theorem smG_acc (v most : Int) : ∀ (N : Nat) (t : ByteArray) (a k : Nat) (l : List Pk), t.size ≤ N → smG v most t a k l =
    (l ++ (smG v most t 0 0 []).1, (smG v most t 0 0 []).2.1, a + (smG v most t 0 0 []).2.2.1, k + (smG v most t 0 0 []).2.2.2.1, (smG v most t 0 0 []).2.2.2.2)
  | N, t, a, k, l, hN => by
    rw [smG_step v most t a k l, smG_step v most t 0 0 []]
    split
    · rename_i h0
      have h1 := smN_step h0
      have hx : (t.extract (smN v most t).2.1 t.size).size = t.size - (smN v most t).2.1 := by rw [ByteArray.size_extract]; omega
      match N, hN with
      | 0, hN => omega
      | N + 1, hN =>
        rw [smG_acc v most N _ (a + (smN v most t).2.1) (k + 1) (l ++ [(smN v most t).1]) (by omega), smG_acc v most N _ (0 + (smN v most t).2.1) (0 + 1) ([] ++ [(smN v most t).1]) (by omega)]
        simp only [List.append_assoc, List.nil_append, Nat.zero_add, Nat.add_assoc]
    · split
      · simp
      · simp
theorem smG_app (v most : Int) (u : ByteArray) : ∀ (N : Nat) (t : ByteArray) (a k : Nat) (l : List Pk), t.size ≤ N → smG v most (t ++ u) a k l =
    if (smG v most t a k l).2.2.2.2 = 0 then smG v most ((smG v most t a k l).2.1 ++ u) (smG v most t a k l).2.2.1 (smG v most t a k l).2.2.2.1 (smG v most t a k l).1 else smG v most t a k l
  | N, t, a, k, l, hN => by
    by_cases h0 : (smN v most t).2.2 = 0
    · have e : smN v most (t ++ u) = smN v most t := smN_more (by rw [h0]; decide)
      have h1 := smN_step h0
      have hx : (t.extract (smN v most t).2.1 t.size).size = t.size - (smN v most t).2.1 := by rw [ByteArray.size_extract]; omega
      have hc : (t ++ u).extract (smN v most t).2.1 (t ++ u).size = t.extract (smN v most t).2.1 t.size ++ u := ls_ext (by
        rw [ls_back, ls_app, ls_app, ls_back, List.drop_append_of_le_length (by rw [ls_len]; exact h1.2)])
      rw [smG_step v most (t ++ u), e, if_pos h0, smG_step v most t a k l, if_pos h0, hc]
      match N, hN with
      | 0, hN => omega
      | N + 1, hN => exact smG_app v most u N _ _ _ _ (by omega)
    · by_cases h3 : (smN v most t).2.2 = 3
      · rw [smG_step v most t a k l, if_neg h0, if_pos h3]
        exact (if_pos rfl).symm
      · have e := smN_more (u := u) h3
        rw [smG_step v most (t ++ u), e, if_neg h0, if_neg h3, smG_step v most t a k l, if_neg h0, if_neg h3]
        exact (if_neg h0).symm
theorem smG_end (v most : Int) : ∀ (N : Nat) (t : ByteArray) (a k : Nat) (l : List Pk), t.size ≤ N →
    ((smG v most t a k l).2.2.2.2 = 0 → (smN v most (smG v most t a k l).2.1).2.2 = 3) ∧ ((smG v most t a k l).2.2.2.2 ≠ 0 → (smG v most t a k l).2.1 = ⟨#[]⟩) ∧
    (smG v most t a k l).2.2.2.1 + l.length = k + (smG v most t a k l).1.length ∧ (smG v most t a k l).2.2.1 + (smG v most t a k l).2.1.size ≤ a + t.size ∧ (smG v most t a k l).2.2.2.1 ≤ k + t.size ∧ (smG v most t a k l).2.2.2.2 ≠ 3
  | N, t, a, k, l, hN => by
    rw [smG_step]
    split
    · rename_i h0
      have h1 := smN_step h0
      have hx : (t.extract (smN v most t).2.1 t.size).size = t.size - (smN v most t).2.1 := by rw [ByteArray.size_extract]; omega
      match N, hN with
      | 0, hN => omega
      | N + 1, hN =>
        obtain ⟨i1, i2, i3, i4, i5, i6⟩ := smG_end v most N (t.extract (smN v most t).2.1 t.size) (a + (smN v most t).2.1) (k + 1) (l ++ [(smN v most t).1]) (by omega)
        rw [List.length_append, List.length_singleton] at i3
        exact ⟨i1, i2, by omega, by omega, by omega, i6⟩
    · rename_i h0
      split
      · rename_i h3
        exact ⟨fun _ => h3, fun h => absurd rfl h, rfl, Nat.le_refl _, Nat.le_add_right _ _, by simp⟩
      · rename_i h3
        exact ⟨fun h => absurd h h0, fun _ => rfl, rfl, by show a + 0 ≤ a + t.size; omega, Nat.le_add_right _ _, h3⟩
theorem smG_wait {v most : Int} {t : ByteArray} (h : (smN v most t).2.2 = 3) (a k : Nat) (l : List Pk) : smG v most t a k l = (l, t, a, k, 0) := by
  rw [smG_step, if_neg (by rw [h]; decide), if_pos h]
theorem smG_none {v most : Int} (hv : hdKnown v = true) (a k : Nat) (l : List Pk) : smG v most ⟨#[]⟩ a k l = (l, ⟨#[]⟩, a, k, 0) := by
  refine smG_wait (smN_three (.inl ?_)) a k l
  unfold hdR
  rw [if_neg (by rw [hv]; decide), if_pos (show (⟨#[]⟩ : ByteArray).size = 0 from rfl)]
theorem smNeed_of (v : Int) (t : ByteArray) : smNeed v t 0 = if (hdR v t).2.2 ≠ 0 then 1 else (hdZ v t : Int) - (t.size : Int) := by
  unfold smNeed
  rw [if_neg (fun x => x rfl), smZ_of]
  by_cases h : (hdR v t).2.2 ≠ 0
  · rw [if_pos h, if_pos h]
    exact (if_pos h).symm
  · rw [if_neg h, if_neg h]
    exact if_neg (fun x => x rfl)
/-- What lacks lies from 1 on, up to the limit. -/
theorem smNeed_range {v most : Int} {t : ByteArray} (h : (smN v most t).2.2 = 3) (hm : 16 ≤ most) : 1 ≤ smNeed v t 0 ∧ smNeed v t 0 ≤ most ∧ (t.size : Int) ≤ most - 1 := by
  rw [smNeed_of]
  rcases smN_short h with h1 | ⟨h1, h2, h3⟩
  · rw [if_pos (by rw [h1]; decide)]
    have := hdR_short h1
    omega
  · rw [if_neg (fun x => x h1)]
    omega
/-- With one byte less than lacks there is no packet, and one byte lacks. -/
theorem need_less {v most : Int} {t m : ByteArray} (h : (smN v most t).2.2 = 3) (hm : (m.size : Int) = smNeed v t 0 - 1) : (smN v most (t ++ m)).2.2 = 3 ∧ smNeed v (t ++ m) 0 = 1 := by
  rw [smNeed_of] at hm
  rcases smN_short h with h1 | ⟨h1, h2, h3⟩
  · rw [if_pos (by rw [h1]; decide)] at hm
    have he : t ++ m = t := ls_ext (by rw [ls_app, List.eq_nil_of_length_eq_zero (by rw [ls_len]; omega : (ls m).length = 0), List.append_nil])
    rw [he, smNeed_of, if_pos (by rw [h1]; decide)]
    exact ⟨h, rfl⟩
  · rw [if_neg (fun x => x h1)] at hm
    have hh := hdR_more (u := m) (by rw [h1]; decide : (hdR v t).2.2 ≠ 3)
    have hz : hdZ v (t ++ m) = hdZ v t := by unfold hdZ; rw [hh]
    have hs : (t ++ m).size = t.size + m.size := ByteArray.size_append
    refine ⟨smN_three (.inr ⟨by rw [hh]; exact h1, by rw [hz]; exact h2, by omega⟩), ?_⟩
    rw [smNeed_of, hh, if_neg (fun x => x h1), hz]
    omega
/-- With as many as lack, more than one, there is one packet, and nothing is left; or an error. -/
theorem need_just {v most : Int} (hv : hdKnown v = true) {t m : ByteArray} (h : (smN v most t).2.2 = 3) (hm : (m.size : Int) = smNeed v t 0) (h2 : smNeed v t 0 ≠ 1) (a k : Nat) :
    (smG v most (t ++ m) a k []).2.2.2.2 ≠ 0 ∨ ((smG v most (t ++ m) a k []).1.length = 1 ∧ (smG v most (t ++ m) a k []).2.2.2.1 = k + 1) := by
  rw [smNeed_of] at hm h2
  rcases smN_short h with h1 | ⟨h1, h3, h4⟩
  · rw [if_pos (by rw [h1]; decide)] at h2
    exact absurd rfl h2
  · rw [if_neg (fun x => x h1)] at hm
    have hh := hdR_more (u := m) (by rw [h1]; decide : (hdR v t).2.2 ≠ 3)
    have hz : hdZ v (t ++ m) = hdZ v t := by unfold hdZ; rw [hh]
    have hs : (t ++ m).size = t.size + m.size := ByteArray.size_append
    have hN : smN v most (t ++ m) = mqR v ((t ++ m).extract 0 (hdZ v (t ++ m))) := by
      rw [smN_of, hh, if_neg (fun x => x h1), if_neg (by rw [hz]; omega), if_neg (by rw [hz]; omega)]
    obtain ⟨n3, n0⟩ := mqR_full (v := v) (t := t ++ m) (by rw [hh]; exact h1) (by rw [hz]; omega)
    rw [← hN] at n3 n0
    rw [smG_step]
    by_cases h0 : (smN v most (t ++ m)).2.2 = 0
    · have hx : (t ++ m).extract (smN v most (t ++ m)).2.1 (t ++ m).size = ⟨#[]⟩ := ls_ext (by
        rw [ls_back, List.drop_of_length_le (by rw [ls_len, n0 h0, hz]; omega)]
        rfl)
      rw [if_pos h0, hx, smG_none hv]
      exact .inr ⟨rfl, rfl⟩
    · rw [if_neg h0, if_neg n3]
      exact .inl h0
end Go.Proofs.YtpcleamaieaefaaGreatDoor

namespace Go.Proofs.YtpcleamaieaefaaGreatDoor
open Go.ChangeShapes Go.WideShapes Go.ChangeAt Go.RowKit Go.Deep
set_option maxRecDepth 100000

section
variable {H : Type} {enc : TypeId × Value → H} {P : Program} {w : World} {base : Nat} {spare : Nat → Bool} {held : Bool}
theorem field_at {fs : Array Field} {n : Nat} {cs : List Value} {xs : List (DataW H × List MemPlace)}
    (hf : ∀ (i : Nat) (f : Field), fs[i]? = some f → DataW.trod enc P w base spare held n f.type ((cs.drop f.offset).take (P.cellsOf f.type)) = xs[i]?)
    (i : Nat) {t : TypeId} {o k : Nat} (hi : (fs[i]?.map fun f => (f.type, f.offset, P.cellsOf f.type)) = some (t, o, k)) : DataW.trod enc P w base spare held n t ((cs.drop o).take k) = xs[i]? := by
  obtain ⟨f, hfi, he⟩ := Option.map_eq_some_iff.1 hi
  simp only [Prod.mk.injEq] at he
  obtain ⟨rfl, rfl, rfl⟩ := he
  exact hf i f hfi
theorem Sized.field {t : TypeId} {fs : Array Field} {ds : List (DataW H)} (ht : P.underlying t = some (.struct fs)) (h : Sized P t (.agg ds)) {i : Nat} {u : TypeId} {d : DataW H} (hu : (fs.toList.map (·.type))[i]? = some u) (hd : ds[i]? = some d) : Sized P u d := fun z hz => h z (by
  simp only [DataW.weights, ht]
  exact DataW.weights_mem_each hu hd z hz)
theorem Sized.text {t : TypeId} {s : ByteArray} (h : Sized P t (.lit (.string s.data.toList) : DataW H)) : s.size ≤ 140737488351232 := by
  have := h.str
  simpa [reachBytes] using this
end
section
variable {H : Type} {enc : TypeId × Value → H} {w : World} {base : Nat} {spare : Nat → Bool} {held : Bool}
end
end Go.Proofs.YtpcleamaieaefaaGreatDoor

namespace Go.Proofs.YtpcleamaieaefaaGreatDoor
open Go.RowKit
attribute [local go_sem ↓] to_ldPk to_bxPk to_bdPk to_alPk to_stPk
attribute [local go_sem] run_bxPk run_bxPk_agg ld_fresh run_alPk run_bd0 run_bdK run_bdKI run_bdKIC run_bdKC run_bdKICP run_stPk_fresh pkC_0 pkC_1 pkC_2 pkC_3 pkC_4 pkC_5 pkC_6 pkC_7 pkC_8 pkC_9 pkC_10 pkC_11 pkC_12 pkC_13 pkC_14 pkC_15 pkC_16 pkC_17 pkC_18 pkC_19 pkC_20 pkC_21 pkC_22 pkC_23 pkC_24
set_option maxHeartbeats 2000000 in
set_option maxRecDepth 10000 in
theorem samePks_any (A A' : Option Addr) (n m c c' : Nat) (L M : List (Pk × Hs)) (w : World) (hl : RdK w A n L) (hm : RdK w A' m M) (ol : ∀ x ∈ L, PkLen x.1) (om : ∀ x ∈ M, PkLen x.1) (hn : n ≤ 4611686018427387904) (hn' : m ≤ 4611686018427387904) :
    Calls Tryz.prog 29 #[.slice A n c, .slice A' m c'] w fun e w' => e = .returned (.bool (decide (L.map Prod.fst = M.map Prod.fst))) ∧ Below w.heap.size w w' := by
  have E1 := Lib.hid hl.len; have E2 := Lib.hid hm.len
  by_cases hlen : n = m
  · subst hlen
    have HL := Lib.hid hl; have HM := Lib.hid hm; have OL := Lib.hid ol; have OM := Lib.hid om
    clear hl hm ol om
    go_enter Tryz.func29, Tryz.ntmps29
    go_wp2
    go_loopw [5] (fun i wr => ∃ k : Nat, k ≤ n ∧ i = .int .i64 k ∧ (∀ j, j < k → (L.map Prod.fst)[j]? = (M.map Prod.fst)[j]?) ∧ Below w.heap.size w wr) (fun i _ => n - (intOf i).toNat)
    case atStart => exact ⟨0, by omega, rfl, fun j hj => by omega, Below.refl _ _⟩
    case round =>
      obtain ⟨k, hk, rfl, hall, hbel⟩ := hrel
      have HA := Lib.hid hall; have HBL := Lib.hid hbel
      clear hall hbel
      by_cases hlt : k < n
      · obtain ⟨bA, oA, p, h, rfl, e1, hb1, l1, i1⟩ := (HL.out.below HBL.out).at hlt
        obtain ⟨bB, oB, q, h', rfl, e2, hb2, l2, i2⟩ := (HM.out.below HBL.out).at hlt
        have LP : Hid (PkLen p) := Lib.hid (OL.out (p, h) (List.mem_of_getElem? e1))
        have LQ : Hid (PkLen q) := Lib.hid (OM.out (q, h') (List.mem_of_getElem? e2))
        have HZ : Hid ((L.map Prod.fst)[k]? = some p) := Lib.hid (by rw [List.getElem?_map, e1]; rfl)
        have HZ' : Hid ((M.map Prod.fst)[k]? = some q) := Lib.hid (by rw [List.getElem?_map, e2]; rfl)
        clear e1 e2 hb1 hb2
        have b1 : (0 : Int) ≤ (k : Int) := by omega
        have b2 : (k : Int) < (n : Int) := by omega
        have q0 := regrown (W := wr) (fun x hx => samePk_any p q h h' x (i1.next hx) (i2.next hx) LP.out LQ.out)
        have g1 := fun d os => l1 _ (below_regrown wr d os)
        have g2 := fun d os => l2 _ (below_regrown wr d os)
        have HBQ := Lib.hid (fun d os => HBL.out.trans ((below_regrown wr d os).mono HBL.out.size))
        have HPQ := Lib.hid (show decide (p = q) = true ↔ p = q from decide_eq_true_iff)
        clear i1 i2 l1 l2
        obtain ⟨B, hB⟩ : ∃ B, decide (p = q) = B := ⟨_, rfl⟩
        rw [hB] at q0 HPQ
        clear hB
        go_wp2_with fail
        refine wp_region_quiet_below (by as_aux_lemma => kernel_rfl) (by as_aux_lemma => kernel_rfl) ?_
        repeat (go_big_quiet_step (first | with_reducible exact q0 _ _))
        refine wpQuiet_nil ?_
        intro _ hw'
        obtain ⟨⟨dq, osq⟩, hw''⟩ := hw'
        subst hw''
        have KF := Lib.hid (HBQ.out dq osq)
        clear q0 g1 g2 HBQ
        generalize Sort.grow (redrawn _ dq) osq = wq at *
        cases B
        · have HNE : Hid (p ≠ q) := Lib.hid (fun e => by have := HPQ.out.2 e; cases this)
          go_wp2
          go_ret
          refine ⟨?_, KF.out⟩
          have : L.map Prod.fst ≠ M.map Prod.fst := by
            intro e
            have := HZ.out.symm.trans ((congrArg (fun l : List Pk => l[k]?) e).trans HZ'.out)
            exact HNE.out (by simpa using this)
          simp [this]
        · have HEQ : Hid (p = q) := Lib.hid (HPQ.out.1 rfl)
          go_wp2
          go_roundw
          case rel =>
            refine ⟨k + 1, by omega, by go_num, fun j hj => ?_, KF.out⟩
            rcases Nat.lt_succ_iff_lt_or_eq.1 hj with h | rfl
            · exact HA.out j h
            · rw [HZ.out, HZ'.out, HEQ.out]
          case measure => simp [intOf]; omega
      · go_wp2
        go_ret
        refine ⟨?_, HBL.out⟩
        have : L.map Prod.fst = M.map Prod.fst := by
          apply List.ext_getElem?
          intro j
          by_cases hj : j < k
          · exact HA.out j hj
          · rw [List.getElem?_eq_none (by rw [List.length_map]; have := E1.out; omega), List.getElem?_eq_none (by rw [List.length_map]; have := E2.out; omega)]
        simp [this]
  · have h1 : ((n : Int) != (m : Int)) = true := by simpa using (by omega : ¬ (n : Int) = (m : Int))
    have HN := Lib.hid hlen
    clear hlen hl hm ol om
    go_enter Tryz.func29, Tryz.ntmps29
    go_wp2
    go_ret
    refine ⟨?_, Below.refl _ _⟩
    have : L.map Prod.fst ≠ M.map Prod.fst := by
      intro e
      have := congrArg List.length e
      rw [List.length_map, List.length_map] at this
      exact HN.out (by rw [← E1.out, ← E2.out]; exact this)
    simp [this]
end Go.Proofs.YtpcleamaieaefaaGreatDoor

namespace Go.Proofs.YtpcleamaieaefaaGreatDoor
open Go.RowKit
attribute [local go_sem ↓] to_ldPk to_bxPk to_bdPk to_alPk to_stPk
attribute [local go_sem] run_bxPk run_bxPk_agg ld_fresh run_alPk run_bd0 run_bdK run_bdKI run_bdKIC run_bdKC run_bdKICP run_stPk_fresh pkC_0 pkC_1 pkC_2 pkC_3 pkC_4 pkC_5 pkC_6 pkC_7 pkC_8 pkC_9 pkC_10 pkC_11 pkC_12 pkC_13 pkC_14 pkC_15 pkC_16 pkC_17 pkC_18 pkC_19 pkC_20 pkC_21 pkC_22 pkC_23 pkC_24
attribute [local go_sem ↓] to_bsPk
attribute [local go_sem] run_bsPk
def natE (l : List Nat) : List Int := l.map fun (k : Nat) => (k : Int)
/-- What stands while packets are gone through: those that are valid so far, where their bytes end. -/
structure LA (v : Int) (w : World) (L : List (Pk × Hs)) (i : Nat) (G : List (Pk × Hs)) (AG : Option Addr) (cG : Nat) (ve : Value) (x : World) : Prop where
  row : RowK w x AG G.length cG G
  ends : x.ownsRow w.heap.size 3 1 ve G.length (iv (natE (endsL v 0 (G.map Prod.fst))))
  good : G.map Prod.fst = goodP v ((L.take i).map Prod.fst)
  mem : ∀ y ∈ G, y ∈ L
  low : Below w.heap.size w x
section
variable {v : Int} {w x y : World} {L G : List (Pk × Hs)} {i : Nat} {AG : Option Addr} {cG : Nat} {ve : Value} {p : Pk} {h : Hs}
theorem LA.start (v : Int) (L : List (Pk × Hs)) (hb : Below w.heap.size w x) : LA v w L 0 [] none 0 (.slice none 0 0) x :=
  ⟨RowK.start _ _, World.ownsRow_nil _ _ _ _, rfl, by simp, hb⟩
theorem LA.below (s : LA v w L i G AG cG ve x) (hb : Below x.heap.size x y) : LA v w L i G AG cG ve y :=
  ⟨s.row.below hb, own_below s.ends hb, s.good, s.mem, s.low.trans (hb.mono s.low.size)⟩
theorem LA.le (s : LA v w L i G AG cG ve x) (hi : i ≤ L.length) : G.length ≤ i := by
  have h1 := congrArg List.length s.good
  rw [List.length_map] at h1
  have h2 : (goodP v ((L.take i).map Prod.fst)).length ≤ ((L.take i).map Prod.fst).length := List.length_filter_le _ _
  rw [List.length_map, List.length_take] at h2
  omega
theorem LA.valid (s : LA v w L i G AG cG ve x) : ∀ p ∈ G.map Prod.fst, mqE v p = 0 := by
  intro p hp
  rw [s.good] at hp
  exact of_decide_eq_true (List.mem_filter.1 hp).2
theorem LA.ok (s : LA v w L i G AG cG ve x) (hL : ∀ y ∈ L, PkOk y.1) : ∀ p ∈ G.map Prod.fst, PkOk p := by
  intro p hp
  obtain ⟨y, hy, rfl⟩ := List.mem_map.1 hp
  exact hL y (s.mem y hy)
end
theorem RdK.take {w : World} {A : Option Addr} {n : Nat} {L : List (Pk × Hs)} (h : RdK w A n L) {k : Nat} (hk : k ≤ n) : RdK w A k (L.take k) :=
  ⟨by rw [← pks_take]; exact h.rd.cut_to hk, fun x hx => h.ins x (List.mem_of_mem_take hx)⟩
theorem RowK.ne {w0 w : World} {A : Option Addr} {n c : Nat} {L : List (Pk × Hs)} (h : RowK w0 w A n c L) {base m : Nat} {v : Value} {xs : List Value} (ho : w.ownsRow base 3 1 v m xs) : v.ownBlock = none ∨ v.ownBlock ≠ (Value.slice A n c).ownBlock := by
  rcases h.lies with ⟨rfl, -⟩ | ⟨g, M, rfl, -, h3, -⟩
  · by_cases e : v.ownBlock = none
    · exact .inl e
    · exact .inr e
  · exact .inr (own_ne ho h3 (by decide))
theorem RowK.other {w0 w y : World} {A : Option Addr} {n c : Nat} {L : List (Pk × Hs)} (h : RowK w0 w A n c L) {row : Option Nat} (hm : w.grownBy y row) (hne : ∀ g, A = some ⟨g, 0, none⟩ → row ≠ some g) : RowK w0 y A n c L := by
  refine ⟨h.len, ?_⟩
  rcases h.lies with h1 | ⟨g, M, h1, h2, h3, h4⟩
  · exact .inl h1
  · exact .inr ⟨g, M, h1, h2, (hm.block g h3.lt (fun e => hne g h1 e.symm)).trans h3, h4⟩
end Go.Proofs.YtpcleamaieaefaaGreatDoor

namespace Go.Proofs.YtpcleamaieaefaaGreatDoor
open Go.RowKit
attribute [local go_sem ↓] to_ldPk to_bxPk to_bdPk to_alPk to_stPk
attribute [local go_sem] run_bxPk run_bxPk_agg ld_fresh run_alPk run_bd0 run_bdK run_bdKI run_bdKIC run_bdKC run_bdKICP run_stPk_fresh pkC_0 pkC_1 pkC_2 pkC_3 pkC_4 pkC_5 pkC_6 pkC_7 pkC_8 pkC_9 pkC_10 pkC_11 pkC_12 pkC_13 pkC_14 pkC_15 pkC_16 pkC_17 pkC_18 pkC_19 pkC_20 pkC_21 pkC_22 pkC_23 pkC_24
attribute [local go_sem ↓] to_bsPk
attribute [local go_sem] run_bsPk
theorem wp_appB {w : World} {o : Oper} {a : Act} {J : Act → World → Prop} {Q : Exit → Act → World → Prop} (x y : Operand)
    (ho : o.op = .call { callee := .builtin .append, args := #[x, y], argTypes := #[75, 9] })
    {w0 : World} {K : Option Addr} {n c : Nat} {t : List UInt8} (s : ByteArray) (hx : a.eval x = .slice K n c) (hy : a.eval y = .string s) (hr : Kp w0 w K n c t) (h0 : w0.heap.size ≤ w.heap.size) (hb : n + s.size ≤ 1000000000000)
    (h : ∀ K' c' w', Kp w0 w' K' (n + s.size) c' (t ++ ls s) → w.grownBy w' (Value.slice K n c).ownBlock → J (a.put o.dst (.slice K' (n + s.size) c')) w') : o.wp Tryz.prog a w J Q := by
  obtain ⟨K', c', w', hrun, h1, h2⟩ := run_appB hr h0 o.type s hb
  unfold Oper.wp execOp
  simp only [ho, resolve, invoke, builtin, Sem.run_bind, Sem.run_pure, Result.andThen_ok, List.map_toArray, List.map_cons, List.map_nil, hx, hy, hrun]
  exact h K' c' w' h1 h2
theorem wpList_appB {w : World} {ops : Array Oper} {rest : List Oper} {o : Oper} {a : Act} {Q : Exit → Act → World → Prop} (hgd : o.guard = none) (x y : Operand)
    (ho : o.op = .call { callee := .builtin .append, args := #[x, y], argTypes := #[75, 9] })
    {w0 : World} {K : Option Addr} {n c : Nat} {t : List UInt8} (s : ByteArray) (hx : a.eval x = .slice K n c) (hy : a.eval y = .string s) (hr : Kp w0 w K n c t) (h0 : w0.heap.size ≤ w.heap.size) (hb : n + s.size ≤ 1000000000000)
    (h : ∀ K' c' w', Kp w0 w' K' (n + s.size) c' (t ++ ls s) → w.grownBy w' (Value.slice K n c).ownBlock → wpList Tryz.prog ops Q rest (a.put o.dst (.slice K' (n + s.size) c')) w') : wpList Tryz.prog ops Q (o :: rest) a w :=
  wpList_plain hgd fun _ hK => wp_appB x y ho s hx hy hr h0 hb fun K' c' w' h1 h2 => hK _ _ (h K' c' w' h1 h2)
theorem smC_no32 (v most : Int) (K : Option Addr) (n c a k : Nat) (e : Int) : ∀ (i : Nat) (m : Int), (smC v most K n c a k e)[i]? ≠ some (Value.int IntKind.u32 m) := by
  intro i m
  rcases i with _ | _ | _ | _ | _ | _ | i <;> simp [smC]
theorem smC_nofi (v most : Int) (K : Option Addr) (n c a k : Nat) (e : Int) (o : Nat) (x : ByteArray) (b : Int) (_c d : Bool) (h0 : (smC v most K n c a k e)[o]? = some (.string x)) (_h1 : (smC v most K n c a k e)[o + 1]? = some (.int .i64 b)) (_h3 : (smC v most K n c a k e)[o + 3]? = some (.bool d)) : False := by
  rcases o with _ | _ | _ | _ | _ | _ | o <;> simp [smC] at h0
/-- A packet whose codes lie apart from the stream's block reads on behind a turn of it. -/
theorem PkIn.stream {x y : World} {g : Nat} {p : Pk} {h : Hs} {v most : Int} {K : Option Addr} {n c a k : Nat} {e : Int} (hi : PkIn x x.heap.size p h) (hbk : Bk x g SmT (smC v most K n c a k e)) (hm : x.grownBy y (some g)) (hf : Apart g (p, h)) : PkIn y y.heap.size p h := by
  refine ⟨(hi.wp.other hbk (smC_no32 _ _ _ _ _ _ _ _) hm (Nat.le_refl _)).wider hm.size, ?_, (hi.filters.otherN hbk (smC_nofi _ _ _ _ _ _ _ _) hm (Nat.le_refl _)).wider hm.size, (hi.props.other hbk (smC_no32 _ _ _ _ _ _ _ _) hm (Nat.le_refl _)).wider hm.size, hi.caps⟩
  refine (hi.codes.grown hm (Nat.le_refl _) ?_).wider hm.size
  intro b o e hx
  rcases hf with h | h
  · dsimp only at h
    rw [h] at hx
    exact absurd rfl hx
  · exact h b o e
/-- What a feed may turn: the stream's block, and the one that was kept. -/
def FS (g : Nat) (o : Option Nat) (i : Nat) : Prop := i = g ∨ o = some i
theorem Mods.app {S : Nat → Prop} {w0 w w' : World} {o : Option Nat} (h : Mods S w0 w) (hg : w.grownBy w' o) (ho : ∀ i, o = some i → S i ∨ w0.heap.size ≤ i) : Mods S w0 w' :=
  ⟨hg.os.trans h.os, hg.tape.trans h.tape, hg.output.trans h.output, Nat.le_trans h.size hg.size, fun i hi hs => (hg.block i (Nat.lt_of_lt_of_le hi h.size) (fun e => by
    rcases ho i e.symm with h1 | h1
    · exact hs h1
    · omega)).trans (h.block i hi hs)⟩
/-- What stands while a stream feeds: its block, what is kept, the row of packets, whose codes are new. -/
structure SF (w0 wf : World) (g : Nat) (o : Option Nat) (v most : Int) (t : ByteArray) (a k : Nat) (A : Option Addr) (m cm : Nat) (L : List (Pk × Hs)) (x : World) : Prop where
  st : ∃ K n c, Bk x g SmT (smC v most K n c a k 0) ∧ Kp w0 x K n c (ls t)
  row : RowI wf x A m cm L
  fresh : ∀ y ∈ L, ∀ i, i < wf.heap.size → Apart i y
  lt : g < wf.heap.size
  base : w0.heap.size ≤ wf.heap.size
  mods : Mods (FS g o) wf x
theorem SF.size {w0 wf : World} {g : Nat} {o : Option Nat} {v most : Int} {t : ByteArray} {a k : Nat} {A : Option Addr} {m cm : Nat} {L : List (Pk × Hs)} {x : World} (s : SF w0 wf g o v most t a k A m cm L x) : wf.heap.size ≤ x.heap.size := s.mods.size
theorem SF.below {w0 wf : World} {g : Nat} {o : Option Nat} {v most : Int} {t : ByteArray} {a k : Nat} {A : Option Addr} {m cm : Nat} {L : List (Pk × Hs)} {x y : World} (s : SF w0 wf g o v most t a k A m cm L x) (hb : Below x.heap.size x y) : SF w0 wf g o v most t a k A m cm L y := by
  obtain ⟨K, n, c, h1, h2⟩ := s.st
  exact ⟨⟨K, n, c, h1.below hb h1.lt, h2.below hb⟩, s.row.below hb, s.fresh, s.lt, s.base, s.mods.trans (Mods.of_below hb)⟩
theorem RowK.bk {w0 w y : World} {A : Option Addr} {n c : Nat} {L : List (Pk × Hs)} (h : RowK w0 w A n c L) (hm : w.grownBy y (Value.slice A n c).ownBlock) {g : Nat} {ty : TypeId} {cs : Array Value} (hb : Bk w g ty cs) (hne : ty ≠ PkT) : Bk y g ty cs := by
  refine (hm.block g hb.lt fun e => ?_).trans hb
  rcases h.lies with ⟨rfl, -⟩ | ⟨g', M, rfl, -, h3, -⟩
  · cases e
  · simp only [Value.ownBlock, Option.some.injEq] at e
    subst e
    unfold Bk at hb h3
    rw [hb] at h3
    simp only [Option.some.injEq, Obj.cells.injEq] at h3
    exact hne h3.2.1
theorem Kp.row {w0 wf w y : World} {K : Option Addr} {m d : Nat} {t : List UInt8} (h : Kp w0 w K m d t) {A : Option Addr} {n c : Nat} {L : List (Pk × Hs)} (hr : RowK wf w A n c L) (hm : w.grownBy y (Value.slice A n c).ownBlock) : Kp w0 y K m d t := by
  refine ⟨h.len, h.cap, ?_⟩
  rcases h.lies with h1 | ⟨g, o, M, h1, h2, h3, h4⟩
  · exact .inl h1
  · exact .inr ⟨g, o, M, h1, h2, hr.bk hm h3 (by decide), h4⟩
/-- A row of packets stands behind a turn of the stream's block. -/
theorem RowI.stream {wf w y : World} {A : Option Addr} {n c : Nat} {L : List (Pk × Hs)} (h : RowI wf w A n c L) {g : Nat} {v most : Int} {K : Option Addr} {m d a k : Nat} {e : Int} (hb : Bk w g SmT (smC v most K m d a k e)) (hm : w.grownBy y (some g)) (ha : ∀ x ∈ L, Apart g x) : RowI wf y A n c L := by
  refine ⟨h.row.other hm fun q hq e => ?_, fun x hx => (h.ins x hx).stream hb hm (ha x hx), h.apart⟩
  cases e
  rcases h.row.lies with ⟨h1, -⟩ | ⟨g', M, h1, -, h3, -⟩
  · rw [h1] at hq; cases hq
  · rw [h1] at hq
    cases hq
    unfold Bk at hb h3
    rw [h3] at hb
    simp only [Option.some.injEq, Obj.cells.injEq] at hb
    exact absurd hb.2.1 (by decide)
/-- What a feed leaves. -/
structure FO (w0 w : World) (g : Nat) (o : Option Nat) (v most : Int) (r : List Pk × ByteArray × Nat × Nat × Int) (w' : World) (A : Option Addr) (m cm : Nat) (L : List (Pk × Hs)) (K : Option Addr) (n c : Nat) : Prop where
  row : RowI w w' A m cm L
  map : L.map Prod.fst = r.1
  bk : Bk w' g SmT (smC v most K n c r.2.2.1 r.2.2.2.1 r.2.2.2.2)
  kp : Kp w0 w' K n c (ls r.2.1)
  mods : Mods (FS g o) w w'
  fresh : ∀ y ∈ L, ∀ i, i < w.heap.size → Apart i y
def FeedOut (w0 w : World) (g : Nat) (o : Option Nat) (v most : Int) (r : List Pk × ByteArray × Nat × Nat × Int) (e : Ending) (w' : World) : Prop := ∃ A m cm L K n c, e = .returned (.tuple #[.slice A m cm, .int .i64 r.2.2.2.2]) ∧ FO w0 w g o v most r w' A m cm L K n c
theorem feed_short {w0 w x : World} {g : Nat} {o : Option Nat} {v most : Int} {t : ByteArray} {a k : Nat} {A : Option Addr} {m cm : Nat} {L : List (Pk × Hs)} {r : List Pk × ByteArray × Nat × Nat × Int} (s : SF w0 w g o v most t a k A m cm L x) (hr : (L.map Prod.fst, t, a, k, 0) = r) : FeedOut w0 w g o v most r (.returned (.tuple #[.slice A m cm, .int .i64 0])) x := by
  subst hr
  obtain ⟨K, n, c, h1, h2⟩ := s.st
  exact ⟨A, m, cm, L, K, n, c, rfl, s.row, rfl, h1, h2, s.mods, s.fresh⟩
theorem feed_bad {w0 w x : World} {g : Nat} {o : Option Nat} {v most : Int} {t : ByteArray} {a k : Nat} {A : Option Addr} {m cm : Nat} {L : List (Pk × Hs)} {E : Int} {r : List Pk × ByteArray × Nat × Nat × Int} (s : SF w0 w g o v most t a k A m cm L x) (hr : (L.map Prod.fst, ⟨#[]⟩, a, k, E) = r) :
    FeedOut w0 w g o v most r (.returned (.tuple #[.slice A m cm, .int .i64 E])) ((x.setCell ⟨g, 2, none⟩ (.slice none 0 0)).setCell ⟨g, 5, none⟩ (.int .i64 E)) := by
  subst hr
  obtain ⟨K, n, c, h1, h2⟩ := s.st
  have hm := (mod_set x g 2 (.slice none 0 0)).trans (mod_set (x.setCell ⟨g, 2, none⟩ (.slice none 0 0)) g 5 (.int .i64 E))
  exact ⟨A, m, cm, L, none, 0, 0, rfl, s.row.stream h1 hm (fun y hy => s.fresh y hy g s.lt), rfl, (h1.put 2 (.slice none 0 0)).put 5 (.int .i64 E), Kp.none _ _, s.mods.app hm (fun i e => by cases e; exact .inl (.inl rfl)), s.fresh⟩
set_option maxHeartbeats 2000000 in
set_option maxRecDepth 10000 in
theorem smFeed_any (v most : Int) (g : Nat) (K : Option Addr) (n c a k : Nat) (t s : ByteArray) (w0 w : World) (hb : Bk w g SmT (smC v most K n c a k 0)) (hk : Kp w0 w K n c (ls t)) (h0 : w0.heap.size ≤ w.heap.size) (hn : n + s.size ≤ 1000000000) (hak : a ≤ 10000000000 ∧ k ≤ 10000000000) :
    Calls Tryz.prog 34 #[.pointer (some ⟨g, 0, none⟩), .string s] w (FeedOut w0 w g (Value.slice K n c).ownBlock v most (smG v most (t ++ s) a k [])) := by
  have HB := Lib.hid hb; have HKP := Lib.hid hk; have H0 := Lib.hid h0; have HN := Lib.hid hn
  have c5 : w.cell? ⟨g, 5, none⟩ = some (.int .i64 0) := HB.out.cell 5
  have c2 : w.cell? ⟨g, 2, none⟩ = some (.slice K n c) := HB.out.cell 2
  have HAK := Lib.hid hak
  have HSZ : Hid ((t ++ s).size ≤ 1000000000) := Lib.hid (by rw [ByteArray.size_append, ← ls_len t, hk.len]; exact hn)
  obtain ⟨RES, hRES⟩ : ∃ R, smF v most ((t ++ s).size + 1) (t ++ s) a k [] = R := ⟨_, rfl⟩
  rw [show smG v most (t ++ s) a k [] = RES from hRES]
  obtain ⟨O, hO⟩ : ∃ O, (Value.slice K n c).ownBlock = O := ⟨_, rfl⟩
  rw [hO]
  have HO := Lib.hid hO
  have HRES := Lib.hid hRES
  clear hb hk h0 hn hak hRES hO
  go_enter Tryz.func34, Tryz.ntmps34
  go_upto_region 5 with fail
  go_upto_region 6 with (at_builtin; refine wpList_appB rfl (.tmp 26) (.tmp 27) rfl (w0 := w0) (K := K) (n := n) (c := c) (t := ls t) s rfl rfl HKP.out H0.out (by have := HN.out; omega) ?_; intro K' c' w1 hkp hgr; have hb1 := HKP.out.bk hgr HB.out (by decide); have f2 := hb1.free 2; have x2 := hb1.cell 2)
  have hb2 := hb1.put 2 (.slice K' (n + s.size) c')
  have BK := Lib.hid (show Bk (w1.setCell ⟨g, 2, none⟩ (.slice K' (n + s.size) c')) g SmT (smC v most K' (n + s.size) c' a k 0) from hb2)
  have KP := Lib.hid (hkp.apart hb1 (by decide) (mod_set w1 g 2 (.slice K' (n + s.size) c')))
  have GL := Lib.hid HB.out.lt
  have LW : Hid (Mods (FS g O) w (w1.setCell ⟨g, 2, none⟩ (.slice K' (n + s.size) c'))) := Lib.hid (((Mods.refl w).app hgr (fun i e => .inl (.inr (HO.out ▸ e)))).app (mod_set w1 g 2 _) (fun i e => by cases e; exact .inl (.inl rfl)))
  clear hb2 hb1 f2 x2 hkp hgr c5 c2 HB HKP
  generalize w1.setCell ⟨g, 2, none⟩ (.slice K' (n + s.size) c') = W1 at *
  have HTS : Hid (ls t ++ ls s = ls (t ++ s)) := Lib.hid (ls_app t s).symm
  rw [HTS.out] at KP
  have SF0 : Hid (SF w0 w g O v most (t ++ s) a k none 0 0 [] W1) := Lib.hid ⟨⟨K', n + s.size, c', BK.out, KP.out⟩, RowI.start w W1, by simp, GL.out, H0.out, LW.out⟩
  go_wp2
  go_loopg [6] ((t ++ s).size + 1) (fun f ov wr => ∃ (A : Option Addr) (m cm : Nat) (L : List (Pk × Hs)) (t' : ByteArray) (a' k' : Nat), ov = .slice A m cm ∧ SF w0 w g O v most t' a' k' A m cm L wr ∧ t'.size < f ∧ smF v most f t' a' k' (L.map Prod.fst) = RES ∧ t'.size ≤ 1000000000 ∧ a' + t'.size ≤ 100000000000 ∧ k' + t'.size ≤ 100000000000 ∧ m + t'.size ≤ 10000000000)
  case atStart => exact ⟨none, 0, 0, [], t ++ s, a, k, rfl, SF0.out, Nat.lt_succ_self _, HRES.out, HSZ.out, by have := HSZ.out; have := HAK.out; omega, by have := HSZ.out; have := HAK.out; omega, by have := HSZ.out; omega⟩
  case round =>
    obtain ⟨A, m, cm, L, t', a', k', rfl, hS, hlt, hF, hz1, hz2, hz3, hz4⟩ := hrel
    obtain ⟨f, rfl⟩ : ∃ f', gk = f' + 1 := ⟨gk - 1, by omega⟩
    rw [smF_step] at hF
    have S0 := Lib.hid hS; have HLT := Lib.hid hlt; have HF := Lib.hid hF
    have HZS := Lib.hid (And.intro hz1 (And.intro hz2 (And.intro hz3 hz4)))
    obtain ⟨K1, n1, c1, hb, hk⟩ := hS.st
    have BK1 := Lib.hid hb; have KP1 := Lib.hid hk
    have HN1 : Hid (t'.size = n1) := Lib.hid (by rw [← ls_len]; exact hk.len)
    have CL := Lib.hid (smNext_any v most g K1 n1 c1 a' k' 0 t' w0 wr hb hk (by omega))
    have HST := Lib.hid (smN_step (v := v) (most := most) (t := t'))
    obtain ⟨⟨P, q, E⟩, hR⟩ : ∃ R, smN v most t' = R := ⟨_, rfl⟩
    rw [hR] at HF HST CL
    dsimp only at HF HST
    clear hS hlt hF hz1 hz2 hz3 hz4 hb hk hR
    go_wp2_with fail
    refine CL.out.mono ?_
    rintro e w2 ⟨hh, rfl, hi, hbw, hf⟩
    have HBW := Lib.hid (hbw.alloc hbw.size (.cells (pkC P hh) PkT))
    have S1 := Lib.hid (S0.out.below HBW.out)
    have BK2 := Lib.hid (BK1.out.below HBW.out BK1.out.lt)
    have KP2 := Lib.hid (KP1.out.below HBW.out)
    have P2 := Lib.hid (hi.next ((Below.refl _ _).alloc (Nat.le_refl _) (.cells (pkC P hh) PkT)))
    have F2 := Lib.hid hf
    clear hi hbw hf CL
    dsimp only at P2 F2 ⊢
    by_cases h3 : E = 3
    · have HX : Hid ((L.map Prod.fst, t', a', k', 0) = RES) := Lib.hid (by
        have := HF.out
        rwa [if_neg (by rw [h3]; decide), if_pos h3] at this)
      subst h3
      go_wp2
      go_ret2
      exact feed_short S1.out HX.out
    by_cases h0 : E = 0
    rotate_left
    · have e3 : (E == 3) = false := beq_eq_false_iff_ne.2 h3
      have e0 : (E == 0) = false := beq_eq_false_iff_ne.2 h0
      have f2 := BK2.out.free 2; have f5 := BK2.out.free 5
      have x2 := BK2.out.cell 2; have x5 := BK2.out.cell 5
      have HX : Hid ((L.map Prod.fst, ⟨#[]⟩, a', k', E) = RES) := Lib.hid (by
        have := HF.out
        rwa [if_neg h0, if_neg h3] at this)
      clear h3 h0
      go_wp2
      go_ret2
      exact feed_bad S1.out HX.out
    subst h0
    have HF2 : Hid (smF v most f (t'.extract q t'.size) (a' + q) (k' + 1) ((L ++ [(P, hh)]).map Prod.fst) = RES) := Lib.hid (by
      have := HF.out
      rw [if_pos rfl] at this
      rw [List.map_append]
      exact this)
    obtain ⟨q1, q2⟩ := HST.out rfl
    have HQ : Hid (2 ≤ q ∧ q ≤ n1) := Lib.hid (by have := HN1.out; omega)
    have hb3 := (Below.refl (w2.alloc (.cells (pkC P hh) PkT)).heap.size (w2.alloc (.cells (pkC P hh) PkT))).alloc (Nat.le_refl _) (.cells (pkC P hh) PkT)
    have S3 := Lib.hid (S1.out.below hb3)
    have BK3 := Lib.hid (BK2.out.below hb3 BK2.out.lt)
    have KP3 := Lib.hid (KP2.out.below hb3)
    have P3 := Lib.hid (P2.out.next hb3)
    have R3 := Lib.hid (rd_pk1 (w2.alloc (.cells (pkC P hh) PkT)) P hh (g := w2.heap.size + 1) (by simp))
    have HNB : Hid (m + 1 ≤ 100000000000) := Lib.hid (by have := HZS.out; have := HQ.out; have := HN1.out; omega)
    clear h3 HF HST q1 q2 hb3 S1 BK2 KP2 P2
    go_upto_region 14 with (at_builtin; refine wpList_appK rfl (.tmp 51) (.tmp 53) rfl (w0 := w) (A := A) (n := m) (c := cm) (L := L) rfl S3.out.row.row S3.out.size _ [(P, hh)] 1 1 _ rfl rfl (by decide) R3.out HNB.out ?_; intro g4 c4 w4 hrow hgr hat hlt4)
    have B4 := Lib.hid (S3.out.row.row.bk hgr BK3.out (by decide))
    have K4 := Lib.hid (KP3.out.row S3.out.row.row hgr)
    have I4 := Lib.hid (S3.out.row.more hrow hgr hat (fun x hx => by rw [List.mem_singleton.1 hx]; exact P3.out) (fun x hx g o e => by rw [List.mem_singleton.1 hx]; exact F2.out.apart (S0.out.row.row.block e).2))
    have A4 : Hid (∀ x ∈ L ++ [(P, hh)], ∀ i, i < w.heap.size → Apart i x) := Lib.hid (fun x hx i hi => (List.mem_append.1 hx).elim (fun h => S0.out.fresh x h i hi) (fun h => by rw [List.mem_singleton.1 h]; exact F2.out.apart (Nat.lt_of_lt_of_le hi S0.out.size)))
    have L4 := Lib.hid (S3.out.mods.app hgr (fun q hq => .inr (S3.out.row.row.own hq).1))
    have DC := Lib.hid (smDrop_any v most g K1 n1 c1 a' k' q 0 w4 B4.out HQ.out.2 KP1.out.cap (by have := HZS.out; omega) (by have := HZS.out; omega) (by have := HZS.out; have := HN1.out; omega))
    clear hrow hgr hat hlt4 S3 BK3 KP3 P3 R3
    go_wp2_with fail
    refine DC.out.mono ?_
    rintro e w5 ⟨rfl, hb5, hm5⟩
    have S5 : Hid (SF w0 w g O v most (t'.extract q t'.size) (a' + q) (k' + 1) (some ⟨g4, 0, none⟩) (m + 1) c4 (L ++ [(P, hh)]) w5) := Lib.hid ⟨⟨cutA K1 n1 q 1, n1 - q, n1 - q, hb5, by
      have := (K4.out.apart B4.out (by decide) hm5).drop HQ.out.2
      rw [drop_ls]
      exact this⟩, I4.out.stream B4.out hm5 (fun y hy => A4.out y hy g S0.out.lt), A4.out, S0.out.lt, S0.out.base, L4.out.app hm5 (fun i e => by cases e; exact .inl (.inl rfl))⟩
    clear hb5 hm5 DC
    go_wp2
    go_roundg f
    case measure => omega
    case rel =>
      have h9 := HQ.out; have h8 := HN1.out; have h7 := HZS.out; have h6 := HLT.out
      have hx : (t'.extract q t'.size).size = t'.size - q := by rw [ByteArray.size_extract, Nat.min_self]
      exact ⟨some ⟨g4, 0, none⟩, m + 1, c4, L ++ [(P, hh)], t'.extract q t'.size, a' + q, k' + 1, rfl, S5.out, by omega, HF2.out, by omega, by omega, by omega, by omega⟩
end Go.Proofs.YtpcleamaieaefaaGreatDoor

