/- Reference 12: Read. -/
import Derived.Test.YtceniaklabiadaaGreatRfX
import Derived.Test.YtceniaklabiadaaGreatRfZ
namespace Go.Proofs.YtceniaklabiadaaGreat
open Go.RowKit
attribute [local go_sem ↓] to_ldPk to_bxPk to_bdPk to_alPk to_stPk
attribute [local go_sem] run_bxPk run_bxPk_agg ld_fresh run_alPk run_bd0 run_bdK run_bdKI run_bdKIC run_bdKC run_bdKICP run_stPk_fresh pkC_0 pkC_1 pkC_2 pkC_3 pkC_4 pkC_5 pkC_6 pkC_7 pkC_8 pkC_9 pkC_10 pkC_11 pkC_12 pkC_13 pkC_14 pkC_15 pkC_16 pkC_17 pkC_18 pkC_19 pkC_20 pkC_21 pkC_22 pkC_23 pkC_24

set_option maxHeartbeats 2000000 in
set_option maxRecDepth 10000 in
theorem refConRead_any (v k : Int) (s : ByteArray) (w : World) (hs : s.size ≤ 140737488351232) :
    Calls Tryz.prog 26 #[.int .i64 v, .int .i64 k, .string s] w (PkOut (conR v k s) w) := by
  have HS := Lib.hid hs
  have HB0 := Lib.hid ((Below.refl w.heap.size w).alloc (Nat.le_refl _) (.cells (pkC pk0 hs0) PkT))
  have HR0 := Lib.hid (Bk.fresh w PkT (pkC pk0 hs0))
  have hst := run_stPk HR0.out
  go_enter Tryz.func26, Tryz.ntmps26
  go_wp2_with fail
  refine (refVersion_any v _).mono ?_
  rintro e w1 ⟨rfl, rfl⟩
  cases hk : hdKnown v
  · have HX : Hid (conR v k s = (pk0, 2)) := Lib.hid (by have hK : conK v k = 2 := conK_no (fun x => by have h2 := of_decide_eq_false (show decide (v = 4 ∨ v = 5) = false from hk); exact h2 x.2); unfold conR; rw [hK]; rfl)
    clear hk
    go_wp2
    refine bodyPost_ret (results_pk rfl _ rfl (put_bk HR0.out _ _)) rfl ?_
    exact pkOut_bad HX.out (below_put HB0.out HB0.out.size (Nat.le_refl _) _ _)
  have hv := of_decide_eq_true (show decide (v = 4 ∨ v = 5) = true from hk)
  by_cases h4 : k < 12
  · have HX : Hid (conR v k s = (pk0, 2)) := Lib.hid (by have hK : conK v k = 2 := conK_no (fun x => by omega); unfold conR; rw [hK]; rfl)
    clear hk hv
    go_wp2
    refine bodyPost_ret (results_pk rfl _ rfl (put_bk HR0.out _ _)) rfl ?_
    exact pkOut_bad HX.out (below_put HB0.out HB0.out.size (Nat.le_refl _) _ _)
  have d4 : decide (k < (12 : Int)) = false := decide_eq_false h4
  by_cases h7 : 15 < k
  · have HX : Hid (conR v k s = (pk0, 2)) := Lib.hid (by have hK : conK v k = 2 := conK_no (fun x => by omega); unfold conR; rw [hK]; rfl)
    clear hk h4 hv
    go_wp2
    refine bodyPost_ret (results_pk rfl _ rfl (put_bk HR0.out _ _)) rfl ?_
    exact pkOut_bad HX.out (below_put HB0.out HB0.out.size (Nat.le_refl _) _ _)
  have d7 : decide ((15 : Int) < k) = false := decide_eq_false h7
  by_cases h15 : k = 15
  · have e15 : (k == 15) = true := beq_iff_eq.2 h15
    by_cases hv4 : v = 4
    · have e4 : (v == 4) = true := beq_iff_eq.2 hv4
      have HX : Hid (conR v k s = (pk0, 8)) := Lib.hid (by have hK : conK v k = 8 := conK_auth ⟨h15, hv4⟩; unfold conR; rw [hK]; rfl)
      clear hk h4 h7 hv h15 hv4
      go_wp2
      refine bodyPost_ret (results_pk rfl _ rfl (put_bk HR0.out _ _)) rfl ?_
      exact pkOut_bad HX.out (below_put HB0.out HB0.out.size (Nat.le_refl _) _ _)
    have e4 : (v == 4) = false := beq_eq_false_iff_ne.2 hv4
    have HK : Hid (conK v k = 0) := Lib.hid (conK_yes ⟨by omega, hv⟩ (fun x => hv4 x.2))
    have HRR := Lib.hid (conR_ref (s := s) HK.out)
    clear hk h4 h7 hv h15 hv4 hst
    go_wp2_with fail
    refine (refNew_any s _ (by have := HS.out; omega)).mono ?_
    rintro e w1 ⟨rfl, hcu, hb⟩
    have hgc : (w.alloc (.cells (pkC pk0 hs0) PkT)).heap.size = w.heap.size + 1 := by simp
    have HB1 := Lib.hid (HB0.out.trans (hb.mono HB0.out.size)); have HR1 := Lib.hid (HR0.out.below hb HR0.out.lt)
    rw [hgc] at hcu ⊢
    have HC1 := Lib.hid hcu
    clear hcu hb hgc
    have HZ := Lib.hid HC1.out.lt
    have I3 : Hid (RK w w.heap.size w1.heap.size (w.heap.size + 1) k 0 0 [] none 0 s 0 0 (w1.alloc (.cells (pkC (ackR1 k 0 0 []) hs0) PkT))) := Lib.hid
      ⟨HB1.out.alloc HB1.out.size _, HR1.out.alloc _, Bk.fresh _ _ _, ⟨HC1.out.1.alloc _, HC1.out.2⟩, Rd.nil _ _ _ _, Nat.le_refl _, ⟨by have := HZ.out; omega, by omega, by have := HZ.out; omega⟩, Nat.le_refl _, by have := HZ.out; omega, by omega⟩
    go_wp2_with fail
    rw [ackR1_k]
    refine (refPlain_any v k _).mono ?_
    rintro e w2 ⟨rfl, rfl⟩
    have HQ : Hid (conRQ v k s = ackR1 k 0 (conRR v k s).1 (conRR v k s).2.1) := Lib.hid rfl
    have HRK : Hid (conRR v k s = if conPl v k = true then (0, [], 0, 0) else rkRest v k s 0 0) := Lib.hid rfl
    have HOK0 := Lib.hid (conRQ_ok (v := v) (k := k) HS.out)
    cases hp : conPl v k
    · have HRE : Hid (conRR v k s = rkRest v k s 0 0) := Lib.hid (by rw [HRK.out, hp]; rfl)
      clear hp HRK
      go_wp2_with fail
      refine (refAckRest_any v k (w.heap.size + 1) 0 s 0 _ I3.out.cur HS.out).mono ?_
      rintro e' x1 ⟨A, q, rfl, hlc, hr, hcu, hm⟩
      rw [← HRE.out] at hlc hr hcu ⊢
      generalize conRR v k s = R at *
      obtain ⟨c, l, a2, e2⟩ := R
      simp only at hlc hr hcu HQ HRR ⊢
      rw [HQ.out] at HRR HOK0
      have HOK := HOK0
      have I4 := Lib.hid (I3.out.turn hcu hm)
      have I5 := Lib.hid (I4.out.put (c' := c) hr hlc)
      have f21 := I4.out.pk.free 21
      have p21 := I4.out.pk.cell 21
      have f24 := I4.out.pk.free 24
      have p24 := I4.out.pk.cell 24
      rw [pkC_21] at p21
      rw [pkC_24] at p24
      clear hlc hr hcu hm
      generalize hgp : w1.heap.size = gp at *
      clear hgp
      have HS := ld_bk (I5.out.pk.drewN 1)
      go_wp2_with fail
      refine wp_region_D (fun w' => (ldPk (.pointer (some ⟨gp, 0, none⟩))).run Tryz.prog w' = .ok (pkV (ackR1 k 0 c l) { hs0 with props := ⟨A, q⟩ }) w') [5] (by kernel_rfl) ?_
      refine anyD_take (i := 0) (v := ?v1_0) [5] rfl (by kernel_rfl) (by kernel_rfl) (by kernel_rfl) (by kernel_rfl) (by kernel_rfl) (by kernel_rfl) (fun _ _ _ h => h) (Or.inl ⟨by rfl, ?h1_0⟩) HS ?r1_0
      case h1_0 => intro w' hSw; (try dsimp only at hSw); go_simp; try with_reducible rfl
      (try simp only [Act.put]); (try simp only [List.setIfInBounds_toArray]); (try simp only [List.set_cons_succ]); (try simp only [List.set_cons_zero])
      refine anyD_take (i := 1) (v := ?v1_1) [5] rfl (by kernel_rfl) (by kernel_rfl) (by kernel_rfl) (by kernel_rfl) (by kernel_rfl) (by kernel_rfl) (fun _ _ _ h => h) (Or.inl ⟨by rfl, ?h1_1⟩) HS ?r1_1
      case h1_1 => intro w' hSw; (try dsimp only at hSw); go_simp; try with_reducible rfl
      (try simp only [Act.put]); (try simp only [List.setIfInBounds_toArray]); (try simp only [List.set_cons_succ]); (try simp only [List.set_cons_zero])
      refine anyD_take (i := 2) (v := ?v1_2) [4, 5] rfl (by kernel_rfl) (by kernel_rfl) (by kernel_rfl) (by kernel_rfl) (by kernel_rfl) (by kernel_rfl) (fun _ _ _ h => h) (Or.inl ⟨by rfl, ?h1_2⟩) HS ?r1_2
      case h1_2 => intro w' hSw; (try dsimp only at hSw); go_simp; try with_reducible rfl
      (try simp only [Act.put]); (try simp only [List.setIfInBounds_toArray]); (try simp only [List.set_cons_succ]); (try simp only [List.set_cons_zero])
      refine anyD_take (i := 3) (v := ?v1_3) [4, 5] rfl (by kernel_rfl) (by kernel_rfl) (by kernel_rfl) (by kernel_rfl) (by kernel_rfl) (by kernel_rfl) (fun _ _ _ h => h) (Or.inl ⟨by rfl, ?h1_3⟩) HS ?r1_3
      case h1_3 => intro w' hSw; (try dsimp only at hSw); go_simp; try with_reducible rfl
      (try simp only [Act.put]); (try simp only [List.setIfInBounds_toArray]); (try simp only [List.set_cons_succ]); (try simp only [List.set_cons_zero])
      refine anyD_ready (rs := [4]) (by kernel_rfl) (by simp) (AllD.cons rfl (fun K hK => ?_) AllD.nil)
      go_simp
      go_at_call 28
      refine (refConValid_any v (ackR1 k 0 c l) _ _ (I5.out.drewN 1).into HOK.out).mono ?_
      rintro e' z1 ⟨rfl, hb⟩
      have J1 := Lib.hid ((I5.out.drewN 1).below hb); clear hb HS
      have HS := ld_bk J1.out.pk
      go_simp
      refine hK.out _ _ (fun _ => HS) ?_
      clear hK K
      (try simp only [Act.put]); (try simp only [List.setIfInBounds_toArray]); (try simp only [List.set_cons_succ]); (try simp only [List.set_cons_zero])
      refine anyD_ready (rs := [5]) (by kernel_rfl) (by simp) (AllD.cons rfl (fun K hK => ?_) AllD.nil)
      go_simp
      go_at_call 72
      refine (refDone_any (w.heap.size + 1) a2 s e2 (conE v (ackR1 k 0 c l)) (ackR1 k 0 c l) { hs0 with props := ⟨A, q⟩ } _ J1.out.cur (fun y hm => J1.out.stay hm)).mono ?_
      rintro e' z2 ⟨kk, rfl, hi, hm⟩
      go_simp
      refine hK.out _ _ (fun hn => absurd (hn 5 (by simp)) (by decide)) (anyD_late (d := 5) (by simp) _ _ _ _ (by kernel_rfl) ?_)
      clear hK K HS
      (try simp only [Act.put]); (try simp only [List.setIfInBounds_toArray]); (try simp only [List.set_cons_succ]); (try simp only [List.set_cons_zero])
      have HRL := Lib.hid (doneR_lists (p := ackR1 k 0 c l) (t := s) (a := a2) (e := e2) (x := conE v (ackR1 k 0 c l)) rfl rfl)
      obtain ⟨R, hR⟩ : ∃ R, doneR (ackR1 k 0 c l) s a2 e2 (conE v (ackR1 k 0 c l)) = R := ⟨_, rfl⟩
      rw [hR] at hi HRR HRL ⊢
      clear hR
      have HST : Hid (∀ y, z2.grownBy y (some w.heap.size) → PkIn y y.heap.size R.1 kk) := Lib.hid (fun y hy => PkIn.other_blk hi HRL.out.1 HRL.out.2 (J1.out.res.mods (S := fun z => z = w.heap.size + 1) (Mods.of_grown hm rfl) (by omega)) (pk_no32 _ _) hy)
      have HFD := Lib.hid (J1.out.done (r := R) hi hm HST.out)
      have hst := run_stPk (J1.out.res.mods (S := fun z => z = w.heap.size + 1) (Mods.of_grown hm rfl) J1.out.ne.2.1)
      refine wpAny_take (i := 6) (v := ?v1_6) rfl (by kernel_rfl) (by kernel_rfl) (by kernel_rfl) (fun _ _ _ h => h) (Or.inl ⟨by rfl, ?h1_6⟩) ?r1_6
      case h1_6 => intro w'; go_simp; try with_reducible rfl
      (try simp only [Act.put]); (try simp only [List.setIfInBounds_toArray]); (try simp only [List.set_cons_succ]); (try simp only [List.set_cons_zero])
      refine wpAny_take (i := 7) (v := ?v1_7) rfl (by kernel_rfl) (by kernel_rfl) (by kernel_rfl) (fun _ _ _ h => h) (Or.inl ⟨by rfl, ?h1_7⟩) ?r1_7
      case h1_7 => intro w'; go_simp; try with_reducible rfl
      (try simp only [Act.put]); (try simp only [List.setIfInBounds_toArray]); (try simp only [List.set_cons_succ]); (try simp only [List.set_cons_zero])
      refine wpAny_ready (rs := [8]) (by kernel_rfl) (by simp) (allShut rfl (fun K hK => ?_) AllReady.nil)
      go_simp
      refine hK.out _ _ ?_
      clear hK K
      (try simp only [Act.put]); (try simp only [List.setIfInBounds_toArray]); (try simp only [List.set_cons_succ]); (try simp only [List.set_cons_zero])
      refine wpAny_ready (rs := [9]) (by kernel_rfl) (by simp) (allShut rfl (fun K hK => ?_) AllReady.nil)
      go_simp
      refine hK.out _ _ ?_
      clear hK K
      (try simp only [Act.put]); (try simp only [List.setIfInBounds_toArray]); (try simp only [List.set_cons_succ]); (try simp only [List.set_cons_zero])
      refine wpAny_done (by kernel_rfl) ?_ _
      go_wp2
      refine bodyPost_ret (results_pk rfl _ rfl HFD.out.2.1) rfl ?_
      rw [HRR.out]
      exact ⟨kk, rfl, HFD.out.2.2, HFD.out.1⟩
    · have HRE : Hid (conRR v k s = (0, [], 0, 0)) := Lib.hid (by rw [HRK.out, hp]; rfl)
      clear hp HRK
      rw [HQ.out, HRE.out] at HRR HOK0
      simp only at HRR HOK0
      have HOK := HOK0
      generalize hgp : w1.heap.size = gp at *
      clear hgp
      have HS := ld_bk (I3.out.pk.drewN 1)
      go_wp2_with fail
      refine wp_region_D (fun w' => (ldPk (.pointer (some ⟨gp, 0, none⟩))).run Tryz.prog w' = .ok (pkV (ackR1 k 0 0 []) hs0) w') [5] (by kernel_rfl) ?_
      refine anyD_take (i := 0) (v := ?v2_0) [5] rfl (by kernel_rfl) (by kernel_rfl) (by kernel_rfl) (by kernel_rfl) (by kernel_rfl) (by kernel_rfl) (fun _ _ _ h => h) (Or.inl ⟨by rfl, ?h2_0⟩) HS ?r2_0
      case h2_0 => intro w' hSw; (try dsimp only at hSw); go_simp; try with_reducible rfl
      (try simp only [Act.put]); (try simp only [List.setIfInBounds_toArray]); (try simp only [List.set_cons_succ]); (try simp only [List.set_cons_zero])
      refine anyD_take (i := 1) (v := ?v2_1) [5] rfl (by kernel_rfl) (by kernel_rfl) (by kernel_rfl) (by kernel_rfl) (by kernel_rfl) (by kernel_rfl) (fun _ _ _ h => h) (Or.inl ⟨by rfl, ?h2_1⟩) HS ?r2_1
      case h2_1 => intro w' hSw; (try dsimp only at hSw); go_simp; try with_reducible rfl
      (try simp only [Act.put]); (try simp only [List.setIfInBounds_toArray]); (try simp only [List.set_cons_succ]); (try simp only [List.set_cons_zero])
      refine anyD_take (i := 2) (v := ?v2_2) [4, 5] rfl (by kernel_rfl) (by kernel_rfl) (by kernel_rfl) (by kernel_rfl) (by kernel_rfl) (by kernel_rfl) (fun _ _ _ h => h) (Or.inl ⟨by rfl, ?h2_2⟩) HS ?r2_2
      case h2_2 => intro w' hSw; (try dsimp only at hSw); go_simp; try with_reducible rfl
      (try simp only [Act.put]); (try simp only [List.setIfInBounds_toArray]); (try simp only [List.set_cons_succ]); (try simp only [List.set_cons_zero])
      refine anyD_take (i := 3) (v := ?v2_3) [4, 5] rfl (by kernel_rfl) (by kernel_rfl) (by kernel_rfl) (by kernel_rfl) (by kernel_rfl) (by kernel_rfl) (fun _ _ _ h => h) (Or.inl ⟨by rfl, ?h2_3⟩) HS ?r2_3
      case h2_3 => intro w' hSw; (try dsimp only at hSw); go_simp; try with_reducible rfl
      (try simp only [Act.put]); (try simp only [List.setIfInBounds_toArray]); (try simp only [List.set_cons_succ]); (try simp only [List.set_cons_zero])
      refine anyD_ready (rs := [4]) (by kernel_rfl) (by simp) (AllD.cons rfl (fun K hK => ?_) AllD.nil)
      go_simp
      go_at_call 28
      refine (refConValid_any v (ackR1 k 0 0 []) _ _ (I3.out.drewN 1).into HOK.out).mono ?_
      rintro e' z1 ⟨rfl, hb⟩
      have J1 := Lib.hid ((I3.out.drewN 1).below hb); clear hb HS
      have HS := ld_bk J1.out.pk
      go_simp
      refine hK.out _ _ (fun _ => HS) ?_
      clear hK K
      (try simp only [Act.put]); (try simp only [List.setIfInBounds_toArray]); (try simp only [List.set_cons_succ]); (try simp only [List.set_cons_zero])
      refine anyD_ready (rs := [5]) (by kernel_rfl) (by simp) (AllD.cons rfl (fun K hK => ?_) AllD.nil)
      go_simp
      go_at_call 72
      refine (refDone_any (w.heap.size + 1) 0 s 0 (conE v (ackR1 k 0 0 [])) (ackR1 k 0 0 []) hs0 _ J1.out.cur (fun y hm => J1.out.stay hm)).mono ?_
      rintro e' z2 ⟨kk, rfl, hi, hm⟩
      go_simp
      refine hK.out _ _ (fun hn => absurd (hn 5 (by simp)) (by decide)) (anyD_late (d := 5) (by simp) _ _ _ _ (by kernel_rfl) ?_)
      clear hK K HS
      (try simp only [Act.put]); (try simp only [List.setIfInBounds_toArray]); (try simp only [List.set_cons_succ]); (try simp only [List.set_cons_zero])
      have HRL := Lib.hid (doneR_lists (p := ackR1 k 0 0 []) (t := s) (a := 0) (e := 0) (x := conE v (ackR1 k 0 0 [])) rfl rfl)
      obtain ⟨R, hR⟩ : ∃ R, doneR (ackR1 k 0 0 []) s 0 0 (conE v (ackR1 k 0 0 [])) = R := ⟨_, rfl⟩
      rw [hR] at hi HRR HRL ⊢
      clear hR
      have HST : Hid (∀ y, z2.grownBy y (some w.heap.size) → PkIn y y.heap.size R.1 kk) := Lib.hid (fun y hy => PkIn.other_blk hi HRL.out.1 HRL.out.2 (J1.out.res.mods (S := fun z => z = w.heap.size + 1) (Mods.of_grown hm rfl) (by omega)) (pk_no32 _ _) hy)
      have HFD := Lib.hid (J1.out.done (r := R) hi hm HST.out)
      have hst := run_stPk (J1.out.res.mods (S := fun z => z = w.heap.size + 1) (Mods.of_grown hm rfl) J1.out.ne.2.1)
      refine wpAny_take (i := 6) (v := ?v2_6) rfl (by kernel_rfl) (by kernel_rfl) (by kernel_rfl) (fun _ _ _ h => h) (Or.inl ⟨by rfl, ?h2_6⟩) ?r2_6
      case h2_6 => intro w'; go_simp; try with_reducible rfl
      (try simp only [Act.put]); (try simp only [List.setIfInBounds_toArray]); (try simp only [List.set_cons_succ]); (try simp only [List.set_cons_zero])
      refine wpAny_take (i := 7) (v := ?v2_7) rfl (by kernel_rfl) (by kernel_rfl) (by kernel_rfl) (fun _ _ _ h => h) (Or.inl ⟨by rfl, ?h2_7⟩) ?r2_7
      case h2_7 => intro w'; go_simp; try with_reducible rfl
      (try simp only [Act.put]); (try simp only [List.setIfInBounds_toArray]); (try simp only [List.set_cons_succ]); (try simp only [List.set_cons_zero])
      refine wpAny_ready (rs := [8]) (by kernel_rfl) (by simp) (allShut rfl (fun K hK => ?_) AllReady.nil)
      go_simp
      refine hK.out _ _ ?_
      clear hK K
      (try simp only [Act.put]); (try simp only [List.setIfInBounds_toArray]); (try simp only [List.set_cons_succ]); (try simp only [List.set_cons_zero])
      refine wpAny_ready (rs := [9]) (by kernel_rfl) (by simp) (allShut rfl (fun K hK => ?_) AllReady.nil)
      go_simp
      refine hK.out _ _ ?_
      clear hK K
      (try simp only [Act.put]); (try simp only [List.setIfInBounds_toArray]); (try simp only [List.set_cons_succ]); (try simp only [List.set_cons_zero])
      refine wpAny_done (by kernel_rfl) ?_ _
      go_wp2
      refine bodyPost_ret (results_pk rfl _ rfl HFD.out.2.1) rfl ?_
      rw [HRR.out]
      exact ⟨kk, rfl, HFD.out.2.2, HFD.out.1⟩
  have e15 : (k == 15) = false := beq_eq_false_iff_ne.2 h15
  have HK : Hid (conK v k = 0) := Lib.hid (conK_yes ⟨by omega, hv⟩ (fun x => h15 x.1))
  have HRR := Lib.hid (conR_ref (s := s) HK.out)
  clear hk h4 h7 hv h15 hst
  go_wp2_with fail
  refine (refNew_any s _ (by have := HS.out; omega)).mono ?_
  rintro e w1 ⟨rfl, hcu, hb⟩
  have hgc : (w.alloc (.cells (pkC pk0 hs0) PkT)).heap.size = w.heap.size + 1 := by simp
  have HB1 := Lib.hid (HB0.out.trans (hb.mono HB0.out.size)); have HR1 := Lib.hid (HR0.out.below hb HR0.out.lt)
  rw [hgc] at hcu ⊢
  have HC1 := Lib.hid hcu
  clear hcu hb hgc
  have HZ := Lib.hid HC1.out.lt
  have I3 : Hid (RK w w.heap.size w1.heap.size (w.heap.size + 1) k 0 0 [] none 0 s 0 0 (w1.alloc (.cells (pkC (ackR1 k 0 0 []) hs0) PkT))) := Lib.hid
    ⟨HB1.out.alloc HB1.out.size _, HR1.out.alloc _, Bk.fresh _ _ _, ⟨HC1.out.1.alloc _, HC1.out.2⟩, Rd.nil _ _ _ _, Nat.le_refl _, ⟨by have := HZ.out; omega, by omega, by have := HZ.out; omega⟩, Nat.le_refl _, by have := HZ.out; omega, by omega⟩
  go_wp2_with fail
  rw [ackR1_k]
  refine (refPlain_any v k _).mono ?_
  rintro e w2 ⟨rfl, rfl⟩
  have HQ : Hid (conRQ v k s = ackR1 k 0 (conRR v k s).1 (conRR v k s).2.1) := Lib.hid rfl
  have HRK : Hid (conRR v k s = if conPl v k = true then (0, [], 0, 0) else rkRest v k s 0 0) := Lib.hid rfl
  have HOK0 := Lib.hid (conRQ_ok (v := v) (k := k) HS.out)
  cases hp : conPl v k
  · have HRE : Hid (conRR v k s = rkRest v k s 0 0) := Lib.hid (by rw [HRK.out, hp]; rfl)
    clear hp HRK
    go_wp2_with fail
    refine (refAckRest_any v k (w.heap.size + 1) 0 s 0 _ I3.out.cur HS.out).mono ?_
    rintro e' x1 ⟨A, q, rfl, hlc, hr, hcu, hm⟩
    rw [← HRE.out] at hlc hr hcu ⊢
    generalize conRR v k s = R at *
    obtain ⟨c, l, a2, e2⟩ := R
    simp only at hlc hr hcu HQ HRR ⊢
    rw [HQ.out] at HRR HOK0
    have HOK := HOK0
    have I4 := Lib.hid (I3.out.turn hcu hm)
    have I5 := Lib.hid (I4.out.put (c' := c) hr hlc)
    have f21 := I4.out.pk.free 21
    have p21 := I4.out.pk.cell 21
    have f24 := I4.out.pk.free 24
    have p24 := I4.out.pk.cell 24
    rw [pkC_21] at p21
    rw [pkC_24] at p24
    clear hlc hr hcu hm
    generalize hgp : w1.heap.size = gp at *
    clear hgp
    have HS := ld_bk (I5.out.pk.drewN 1)
    go_wp2_with fail
    refine wp_region_D (fun w' => (ldPk (.pointer (some ⟨gp, 0, none⟩))).run Tryz.prog w' = .ok (pkV (ackR1 k 0 c l) { hs0 with props := ⟨A, q⟩ }) w') [5] (by kernel_rfl) ?_
    refine anyD_take (i := 0) (v := ?v3_0) [5] rfl (by kernel_rfl) (by kernel_rfl) (by kernel_rfl) (by kernel_rfl) (by kernel_rfl) (by kernel_rfl) (fun _ _ _ h => h) (Or.inl ⟨by rfl, ?h3_0⟩) HS ?r3_0
    case h3_0 => intro w' hSw; (try dsimp only at hSw); go_simp; try with_reducible rfl
    (try simp only [Act.put]); (try simp only [List.setIfInBounds_toArray]); (try simp only [List.set_cons_succ]); (try simp only [List.set_cons_zero])
    refine anyD_take (i := 1) (v := ?v3_1) [5] rfl (by kernel_rfl) (by kernel_rfl) (by kernel_rfl) (by kernel_rfl) (by kernel_rfl) (by kernel_rfl) (fun _ _ _ h => h) (Or.inl ⟨by rfl, ?h3_1⟩) HS ?r3_1
    case h3_1 => intro w' hSw; (try dsimp only at hSw); go_simp; try with_reducible rfl
    (try simp only [Act.put]); (try simp only [List.setIfInBounds_toArray]); (try simp only [List.set_cons_succ]); (try simp only [List.set_cons_zero])
    refine anyD_take (i := 2) (v := ?v3_2) [4, 5] rfl (by kernel_rfl) (by kernel_rfl) (by kernel_rfl) (by kernel_rfl) (by kernel_rfl) (by kernel_rfl) (fun _ _ _ h => h) (Or.inl ⟨by rfl, ?h3_2⟩) HS ?r3_2
    case h3_2 => intro w' hSw; (try dsimp only at hSw); go_simp; try with_reducible rfl
    (try simp only [Act.put]); (try simp only [List.setIfInBounds_toArray]); (try simp only [List.set_cons_succ]); (try simp only [List.set_cons_zero])
    refine anyD_take (i := 3) (v := ?v3_3) [4, 5] rfl (by kernel_rfl) (by kernel_rfl) (by kernel_rfl) (by kernel_rfl) (by kernel_rfl) (by kernel_rfl) (fun _ _ _ h => h) (Or.inl ⟨by rfl, ?h3_3⟩) HS ?r3_3
    case h3_3 => intro w' hSw; (try dsimp only at hSw); go_simp; try with_reducible rfl
    (try simp only [Act.put]); (try simp only [List.setIfInBounds_toArray]); (try simp only [List.set_cons_succ]); (try simp only [List.set_cons_zero])
    refine anyD_ready (rs := [4]) (by kernel_rfl) (by simp) (AllD.cons rfl (fun K hK => ?_) AllD.nil)
    go_simp
    go_at_call 28
    refine (refConValid_any v (ackR1 k 0 c l) _ _ (I5.out.drewN 1).into HOK.out).mono ?_
    rintro e' z1 ⟨rfl, hb⟩
    have J1 := Lib.hid ((I5.out.drewN 1).below hb); clear hb HS
    have HS := ld_bk J1.out.pk
    go_simp
    refine hK.out _ _ (fun _ => HS) ?_
    clear hK K
    (try simp only [Act.put]); (try simp only [List.setIfInBounds_toArray]); (try simp only [List.set_cons_succ]); (try simp only [List.set_cons_zero])
    refine anyD_ready (rs := [5]) (by kernel_rfl) (by simp) (AllD.cons rfl (fun K hK => ?_) AllD.nil)
    go_simp
    go_at_call 72
    refine (refDone_any (w.heap.size + 1) a2 s e2 (conE v (ackR1 k 0 c l)) (ackR1 k 0 c l) { hs0 with props := ⟨A, q⟩ } _ J1.out.cur (fun y hm => J1.out.stay hm)).mono ?_
    rintro e' z2 ⟨kk, rfl, hi, hm⟩
    go_simp
    refine hK.out _ _ (fun hn => absurd (hn 5 (by simp)) (by decide)) (anyD_late (d := 5) (by simp) _ _ _ _ (by kernel_rfl) ?_)
    clear hK K HS
    (try simp only [Act.put]); (try simp only [List.setIfInBounds_toArray]); (try simp only [List.set_cons_succ]); (try simp only [List.set_cons_zero])
    have HRL := Lib.hid (doneR_lists (p := ackR1 k 0 c l) (t := s) (a := a2) (e := e2) (x := conE v (ackR1 k 0 c l)) rfl rfl)
    obtain ⟨R, hR⟩ : ∃ R, doneR (ackR1 k 0 c l) s a2 e2 (conE v (ackR1 k 0 c l)) = R := ⟨_, rfl⟩
    rw [hR] at hi HRR HRL ⊢
    clear hR
    have HST : Hid (∀ y, z2.grownBy y (some w.heap.size) → PkIn y y.heap.size R.1 kk) := Lib.hid (fun y hy => PkIn.other_blk hi HRL.out.1 HRL.out.2 (J1.out.res.mods (S := fun z => z = w.heap.size + 1) (Mods.of_grown hm rfl) (by omega)) (pk_no32 _ _) hy)
    have HFD := Lib.hid (J1.out.done (r := R) hi hm HST.out)
    have hst := run_stPk (J1.out.res.mods (S := fun z => z = w.heap.size + 1) (Mods.of_grown hm rfl) J1.out.ne.2.1)
    refine wpAny_take (i := 6) (v := ?v3_6) rfl (by kernel_rfl) (by kernel_rfl) (by kernel_rfl) (fun _ _ _ h => h) (Or.inl ⟨by rfl, ?h3_6⟩) ?r3_6
    case h3_6 => intro w'; go_simp; try with_reducible rfl
    (try simp only [Act.put]); (try simp only [List.setIfInBounds_toArray]); (try simp only [List.set_cons_succ]); (try simp only [List.set_cons_zero])
    refine wpAny_take (i := 7) (v := ?v3_7) rfl (by kernel_rfl) (by kernel_rfl) (by kernel_rfl) (fun _ _ _ h => h) (Or.inl ⟨by rfl, ?h3_7⟩) ?r3_7
    case h3_7 => intro w'; go_simp; try with_reducible rfl
    (try simp only [Act.put]); (try simp only [List.setIfInBounds_toArray]); (try simp only [List.set_cons_succ]); (try simp only [List.set_cons_zero])
    refine wpAny_ready (rs := [8]) (by kernel_rfl) (by simp) (allShut rfl (fun K hK => ?_) AllReady.nil)
    go_simp
    refine hK.out _ _ ?_
    clear hK K
    (try simp only [Act.put]); (try simp only [List.setIfInBounds_toArray]); (try simp only [List.set_cons_succ]); (try simp only [List.set_cons_zero])
    refine wpAny_ready (rs := [9]) (by kernel_rfl) (by simp) (allShut rfl (fun K hK => ?_) AllReady.nil)
    go_simp
    refine hK.out _ _ ?_
    clear hK K
    (try simp only [Act.put]); (try simp only [List.setIfInBounds_toArray]); (try simp only [List.set_cons_succ]); (try simp only [List.set_cons_zero])
    refine wpAny_done (by kernel_rfl) ?_ _
    go_wp2
    refine bodyPost_ret (results_pk rfl _ rfl HFD.out.2.1) rfl ?_
    rw [HRR.out]
    exact ⟨kk, rfl, HFD.out.2.2, HFD.out.1⟩
  · have HRE : Hid (conRR v k s = (0, [], 0, 0)) := Lib.hid (by rw [HRK.out, hp]; rfl)
    clear hp HRK
    rw [HQ.out, HRE.out] at HRR HOK0
    simp only at HRR HOK0
    have HOK := HOK0
    generalize hgp : w1.heap.size = gp at *
    clear hgp
    have HS := ld_bk (I3.out.pk.drewN 1)
    go_wp2_with fail
    refine wp_region_D (fun w' => (ldPk (.pointer (some ⟨gp, 0, none⟩))).run Tryz.prog w' = .ok (pkV (ackR1 k 0 0 []) hs0) w') [5] (by kernel_rfl) ?_
    refine anyD_take (i := 0) (v := ?v4_0) [5] rfl (by kernel_rfl) (by kernel_rfl) (by kernel_rfl) (by kernel_rfl) (by kernel_rfl) (by kernel_rfl) (fun _ _ _ h => h) (Or.inl ⟨by rfl, ?h4_0⟩) HS ?r4_0
    case h4_0 => intro w' hSw; (try dsimp only at hSw); go_simp; try with_reducible rfl
    (try simp only [Act.put]); (try simp only [List.setIfInBounds_toArray]); (try simp only [List.set_cons_succ]); (try simp only [List.set_cons_zero])
    refine anyD_take (i := 1) (v := ?v4_1) [5] rfl (by kernel_rfl) (by kernel_rfl) (by kernel_rfl) (by kernel_rfl) (by kernel_rfl) (by kernel_rfl) (fun _ _ _ h => h) (Or.inl ⟨by rfl, ?h4_1⟩) HS ?r4_1
    case h4_1 => intro w' hSw; (try dsimp only at hSw); go_simp; try with_reducible rfl
    (try simp only [Act.put]); (try simp only [List.setIfInBounds_toArray]); (try simp only [List.set_cons_succ]); (try simp only [List.set_cons_zero])
    refine anyD_take (i := 2) (v := ?v4_2) [4, 5] rfl (by kernel_rfl) (by kernel_rfl) (by kernel_rfl) (by kernel_rfl) (by kernel_rfl) (by kernel_rfl) (fun _ _ _ h => h) (Or.inl ⟨by rfl, ?h4_2⟩) HS ?r4_2
    case h4_2 => intro w' hSw; (try dsimp only at hSw); go_simp; try with_reducible rfl
    (try simp only [Act.put]); (try simp only [List.setIfInBounds_toArray]); (try simp only [List.set_cons_succ]); (try simp only [List.set_cons_zero])
    refine anyD_take (i := 3) (v := ?v4_3) [4, 5] rfl (by kernel_rfl) (by kernel_rfl) (by kernel_rfl) (by kernel_rfl) (by kernel_rfl) (by kernel_rfl) (fun _ _ _ h => h) (Or.inl ⟨by rfl, ?h4_3⟩) HS ?r4_3
    case h4_3 => intro w' hSw; (try dsimp only at hSw); go_simp; try with_reducible rfl
    (try simp only [Act.put]); (try simp only [List.setIfInBounds_toArray]); (try simp only [List.set_cons_succ]); (try simp only [List.set_cons_zero])
    refine anyD_ready (rs := [4]) (by kernel_rfl) (by simp) (AllD.cons rfl (fun K hK => ?_) AllD.nil)
    go_simp
    go_at_call 28
    refine (refConValid_any v (ackR1 k 0 0 []) _ _ (I3.out.drewN 1).into HOK.out).mono ?_
    rintro e' z1 ⟨rfl, hb⟩
    have J1 := Lib.hid ((I3.out.drewN 1).below hb); clear hb HS
    have HS := ld_bk J1.out.pk
    go_simp
    refine hK.out _ _ (fun _ => HS) ?_
    clear hK K
    (try simp only [Act.put]); (try simp only [List.setIfInBounds_toArray]); (try simp only [List.set_cons_succ]); (try simp only [List.set_cons_zero])
    refine anyD_ready (rs := [5]) (by kernel_rfl) (by simp) (AllD.cons rfl (fun K hK => ?_) AllD.nil)
    go_simp
    go_at_call 72
    refine (refDone_any (w.heap.size + 1) 0 s 0 (conE v (ackR1 k 0 0 [])) (ackR1 k 0 0 []) hs0 _ J1.out.cur (fun y hm => J1.out.stay hm)).mono ?_
    rintro e' z2 ⟨kk, rfl, hi, hm⟩
    go_simp
    refine hK.out _ _ (fun hn => absurd (hn 5 (by simp)) (by decide)) (anyD_late (d := 5) (by simp) _ _ _ _ (by kernel_rfl) ?_)
    clear hK K HS
    (try simp only [Act.put]); (try simp only [List.setIfInBounds_toArray]); (try simp only [List.set_cons_succ]); (try simp only [List.set_cons_zero])
    have HRL := Lib.hid (doneR_lists (p := ackR1 k 0 0 []) (t := s) (a := 0) (e := 0) (x := conE v (ackR1 k 0 0 [])) rfl rfl)
    obtain ⟨R, hR⟩ : ∃ R, doneR (ackR1 k 0 0 []) s 0 0 (conE v (ackR1 k 0 0 [])) = R := ⟨_, rfl⟩
    rw [hR] at hi HRR HRL ⊢
    clear hR
    have HST : Hid (∀ y, z2.grownBy y (some w.heap.size) → PkIn y y.heap.size R.1 kk) := Lib.hid (fun y hy => PkIn.other_blk hi HRL.out.1 HRL.out.2 (J1.out.res.mods (S := fun z => z = w.heap.size + 1) (Mods.of_grown hm rfl) (by omega)) (pk_no32 _ _) hy)
    have HFD := Lib.hid (J1.out.done (r := R) hi hm HST.out)
    have hst := run_stPk (J1.out.res.mods (S := fun z => z = w.heap.size + 1) (Mods.of_grown hm rfl) J1.out.ne.2.1)
    refine wpAny_take (i := 6) (v := ?v4_6) rfl (by kernel_rfl) (by kernel_rfl) (by kernel_rfl) (fun _ _ _ h => h) (Or.inl ⟨by rfl, ?h4_6⟩) ?r4_6
    case h4_6 => intro w'; go_simp; try with_reducible rfl
    (try simp only [Act.put]); (try simp only [List.setIfInBounds_toArray]); (try simp only [List.set_cons_succ]); (try simp only [List.set_cons_zero])
    refine wpAny_take (i := 7) (v := ?v4_7) rfl (by kernel_rfl) (by kernel_rfl) (by kernel_rfl) (fun _ _ _ h => h) (Or.inl ⟨by rfl, ?h4_7⟩) ?r4_7
    case h4_7 => intro w'; go_simp; try with_reducible rfl
    (try simp only [Act.put]); (try simp only [List.setIfInBounds_toArray]); (try simp only [List.set_cons_succ]); (try simp only [List.set_cons_zero])
    refine wpAny_ready (rs := [8]) (by kernel_rfl) (by simp) (allShut rfl (fun K hK => ?_) AllReady.nil)
    go_simp
    refine hK.out _ _ ?_
    clear hK K
    (try simp only [Act.put]); (try simp only [List.setIfInBounds_toArray]); (try simp only [List.set_cons_succ]); (try simp only [List.set_cons_zero])
    refine wpAny_ready (rs := [9]) (by kernel_rfl) (by simp) (allShut rfl (fun K hK => ?_) AllReady.nil)
    go_simp
    refine hK.out _ _ ?_
    clear hK K
    (try simp only [Act.put]); (try simp only [List.setIfInBounds_toArray]); (try simp only [List.set_cons_succ]); (try simp only [List.set_cons_zero])
    refine wpAny_done (by kernel_rfl) ?_ _
    go_wp2
    refine bodyPost_ret (results_pk rfl _ rfl HFD.out.2.1) rfl ?_
    rw [HRR.out]
    exact ⟨kk, rfl, HFD.out.2.2, HFD.out.1⟩
end Go.Proofs.YtceniaklabiadaaGreat
