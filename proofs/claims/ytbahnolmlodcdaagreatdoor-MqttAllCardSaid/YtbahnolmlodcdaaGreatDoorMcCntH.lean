/- A part of what the laws stand on: CntH, CntS. -/
import Derived.Test.YtbahnolmlodcdaaGreatDoorMcMCnp
import Derived.Test.YtbahnolmlodcdaaGreatDoorMcOrdD
import Derived.Test.YtbahnolmlodcdaaGreatDoorMcMCnu
namespace Go.Proofs.YtbahnolmlodcdaaGreatDoor
open Go.RowKit
attribute [local go_sem ↓] to_ldPk to_bxPk to_bdPk to_alPk to_stPk
attribute [local go_sem] run_bxPk run_bxPk_agg ld_fresh run_alPk run_bd0 run_bdK run_bdKI run_bdKIC run_bdKC run_bdKICP run_stPk_fresh pkC_0 pkC_1 pkC_2 pkC_3 pkC_4 pkC_5 pkC_6 pkC_7 pkC_8 pkC_9 pkC_10 pkC_11 pkC_12 pkC_13 pkC_14 pkC_15 pkC_16 pkC_17 pkC_18 pkC_19 pkC_20 pkC_21 pkC_22 pkC_23 pkC_24

theorem dataB_size (s : ByteArray) : (dataB s).size ≤ 65537 := by
  unfold dataB
  split
  · unfold framedS
    rw [ByteArray.size_append, mk_size, putL_len]; omega
  · exact Nat.zero_le _
theorem binary_data (s : ByteArray) (w : World) (hs : s.size ≤ 4611686018427387904) :
    Calls Tryz.prog 149 #[.string s] w fun e w' => e = .returned (.tuple #[.string (dataB s), .int .i64 (if s.size ≤ 65535 then 0 else 2)]) ∧ Below w.heap.size w w' := binary_any s w hs
set_option maxHeartbeats 400000 in
set_option maxRecDepth 10000 in
theorem data_any (s : ByteArray) (w : World) (hs : s.size ≤ 4611686018427387904) :
    Calls Tryz.prog 228 #[.string s] w fun e w' => e = .returned (.string (dataB s)) ∧ Below w.heap.size w w' := by
  go_enter Tryz.func228, Tryz.ntmps228
  go_wp2_with fail
  refine (binary_data s _ hs).mono ?_
  rintro e w1 ⟨rfl, hb⟩
  generalize (if s.size ≤ 65535 then (0 : Int) else 2) = E at *
  go_wp2
  go_ret
  exact ⟨rfl, hb⟩
theorem cells6_s (w : World) (x0 x1 x2 x3 x4 x5 : ByteArray) (t : TypeId) : ∀ (j : Nat) x, [x0, x1, x2, x3, x4, x5][j]? = some x → (w.alloc (.cells #[.string x0, .string x1, .string x2, .string x3, .string x4, .string x5] t)).cell? ⟨w.heap.size, 0 + j, none⟩ = some (.string x) := by
  intro j x h
  rw [Nat.zero_add, (Bk.fresh w t #[.string x0, .string x1, .string x2, .string x3, .string x4, .string x5]).cell]
  rcases j with _ | _ | _ | _ | _ | _ | j
  · simp at h; subst h; rfl
  · simp at h; subst h; rfl
  · simp at h; subst h; rfl
  · simp at h; subst h; rfl
  · simp at h; subst h; rfl
  · simp at h; subst h; rfl
  · simp at h
theorem cells4_s (w : World) (x0 x1 x2 x3 : ByteArray) (t : TypeId) : ∀ (j : Nat) x, [x0, x1, x2, x3][j]? = some x → (w.alloc (.cells #[.string x0, .string x1, .string x2, .string x3] t)).cell? ⟨w.heap.size, 0 + j, none⟩ = some (.string x) := by
  intro j x h
  rw [Nat.zero_add, (Bk.fresh w t #[.string x0, .string x1, .string x2, .string x3]).cell]
  rcases j with _ | _ | _ | _ | j
  · simp at h; subst h; rfl
  · simp at h; subst h; rfl
  · simp at h; subst h; rfl
  · simp at h; subst h; rfl
  · simp at h
theorem cells2_s (w : World) (x0 x1 : ByteArray) (t : TypeId) : ∀ (j : Nat) x, [x0, x1][j]? = some x → (w.alloc (.cells #[.string x0, .string x1] t)).cell? ⟨w.heap.size, 0 + j, none⟩ = some (.string x) := by
  intro j x h
  rw [Nat.zero_add, (Bk.fresh w t #[.string x0, .string x1]).cell]
  rcases j with _ | _ | j
  · simp at h; subst h; rfl
  · simp at h; subst h; rfl
  · simp at h

theorem tail8_size (v k : Int) (l : List Pr) : (tail8 v k l).size ≤ 131075004 := by
  unfold tail8
  split
  · exact Nat.zero_le _
  · rw [mk_size]
    by_cases h : (bytesS k l).2 = 0
    · exact (bytesS_size k l h).2
    · rw [bytesS_bad k l h]; exact Nat.zero_le _
theorem catL_size : ∀ l : List ByteArray, (catL l).size = (l.map ByteArray.size).sum
  | [] => rfl
  | x :: l => by rw [catL, ByteArray.size_append, catL_size l]; rfl
theorem cntE_one {v : Int} {p : Pk} (x : cntE v p = 0) (h2 : p.kind ≠ 2) : p.kind = 1 ∧ (v = 4 ∨ v = 5) ∧ (0 ≤ p.alive ∧ p.alive < 65536 ∧ 0 ≤ p.will.qos ∧ p.will.qos ≤ 2) := by
  obtain ⟨g1, g2, g3, g4⟩ := cntE_rng x
  have h1 : p.kind = 1 := (of_decide_eq_true (show decide (p.kind = 1 ∨ p.kind = 2) = true from g2)).resolve_right h2
  refine ⟨h1, of_decide_eq_true (show decide (v = 4 ∨ v = 5) = true from g1), ?_⟩
  unfold cntRng at g4
  split at g4
  · cases g4
  · split at g4
    · cases g4
    · exact of_decide_eq_true g4
set_option maxHeartbeats 8000000 in
set_option maxRecDepth 10000 in
theorem cntBody1_any (v : Int) (p : Pk) (h : Hs) (w : World) (ip : PkIn w w.heap.size p h) (ok : PkOk p) (h2 : p.kind ≠ 2) :
    Calls Tryz.prog 170 #[.int .i64 v, pkV p h] w fun e w' => e = .returned (.tuple #[.string (if cntE v p = 0 then (cntS v p, (0 : Int)) else (⟨#[]⟩, cntE v p)).1, .int .i64 (if cntE v p = 0 then (cntS v p, (0 : Int)) else (⟨#[]⟩, cntE v p)).2]) ∧ Below w.heap.size w w' := by
  have OK := Lib.hid ok
  have S0 := Lib.hid ((St.start w).push ip)
  obtain ⟨B, hB⟩ : ∃ B, (if cntE v p = 0 then (cntS v p, (0 : Int)) else (⟨#[]⟩, cntE v p)) = B := ⟨_, rfl⟩
  rw [hB]
  have HE := Lib.hid hB.symm
  have l0 := S0.out.ld 0 rfl
  have H2 := Lib.hid h2
  clear ip ok h2 hB
  go_enter Tryz.func170, Tryz.ntmps170
  go_wp2_with fail
  refine (cntValid_any v p h _ (S0.out.into 0 rfl) OK.out).mono ?_
  rintro e w1 ⟨rfl, hb⟩
  have S1 := Lib.hid (S0.out.below hb); clear hb l0
  by_cases he : cntE v p = 0
  rotate_left
  · have e0 : (cntE v p != 0) = true := bne_iff_ne.2 he
    have HX : Hid (B = (⟨#[]⟩, cntE v p)) := Lib.hid (by rw [HE.out, if_neg he])
    clear he
    go_wp2
    go_ret2
    exact ⟨by rw [HX.out]; rfl, S1.out.kept⟩
  have HX : Hid (B = (cntS v p, 0)) := Lib.hid (by rw [HE.out, if_pos he])
  have HG := Lib.hid (cntE_one he H2.out)
  rw [he]
  have HFR := Lib.hid (flN_range p)
  obtain ⟨FQ, hFQ⟩ : ∃ FQ, flQ p = FQ := ⟨_, rfl⟩
  have HFQ : Hid (flN p = FQ) := Lib.hid (by rw [← hFQ]; exact (if_pos HG.out.1).symm)
  have HFC : Hid (∀ x : World, Calls Tryz.prog 227 #[pkV p h] x fun e w' => e = .returned (.int .i64 FQ) ∧ Below x.heap.size x w') := Lib.hid (fun x => by rw [← hFQ]; exact cntFlags_any p h x)
  clear hFQ
  have HR2 : Hid (0 ≤ FQ ∧ FQ < 256) := Lib.hid (by rw [← HFQ.out]; exact HFR.out)
  obtain ⟨vn, hvn, hw1⟩ : ∃ m : Nat, Hid (v.toNat = m) ∧ IntKind.u64.wrap v = (m : Int) := ⟨_, Lib.hid rfl, by rw [IntKind.wrap_u64]; have := HG.out.2.1; omega⟩
  obtain ⟨fn, hfn, hw2⟩ : ∃ m : Nat, Hid (FQ.toNat = m) ∧ IntKind.u64.wrap FQ = (m : Int) := ⟨_, Lib.hid rfl, by rw [IntKind.wrap_u64]; have := HR2.out; omega⟩
  obtain ⟨an, han, hw3⟩ : ∃ m : Nat, Hid (p.alive.toNat = m) ∧ IntKind.u64.wrap p.alive = (m : Int) := ⟨_, Lib.hid rfl, by rw [IntKind.wrap_u64]; have := HG.out.2.2; omega⟩
  have HVN : Hid (vn < 256) := Lib.hid (by have := hvn.out; have := HG.out.2.1; omega)
  have HFN : Hid (fn < 256) := Lib.hid (by have := hfn.out; have := HR2.out; omega)
  have HAN : Hid (an < 65536) := Lib.hid (by have := han.out; have := HG.out.2.2; omega)
  have k0 := (S1.out.cell 0 rfl 0).trans (pkC_0 _ _)
  have k24 := (S1.out.cell 0 rfl 24).trans (pkC_24 _ _)
  clear he
  go_wp2_with fail
  refine (tail8_any v p.kind p.props _ rfl OK.out.props h.props.a h.props.c _ (S1.out.into 0 rfl).props OK.out.len.2.2.2).mono ?_
  rintro e w2 ⟨rfl, hb⟩
  have S2 := Lib.hid (S1.out.below hb); clear hb k0 k24
  have k0 := (S2.out.cell 0 rfl 0).trans (pkC_0 _ _)
  have e2 : (p.kind == 2) = false := beq_eq_false_iff_ne.2 H2.out
  have HS1 : Hid (cntS1 v p = catL [cntName, ⟨(putL v.toNat 1).toArray⟩, ⟨(putL (flN p).toNat 1).toArray⟩, ⟨(putL p.alive.toNat 2).toArray⟩, tail8 v p.kind p.props, dataB p.client]) := Lib.hid rfl
  rw [hvn.out, HFQ.out, hfn.out, han.out] at HS1
  have HTS := Lib.hid (tail8_size v p.kind p.props)
  have HCS := Lib.hid (dataB_size p.client)
  obtain ⟨T, hT⟩ : ∃ T, tail8 v p.kind p.props = T := ⟨_, rfl⟩
  rw [hT] at HS1 HTS ⊢
  obtain ⟨X1, hX1⟩ : ∃ X : ByteArray, (⟨(putL vn 1).toArray⟩ : ByteArray) = X := ⟨_, rfl⟩
  obtain ⟨X2, hX2⟩ : ∃ X : ByteArray, (⟨(putL fn 1).toArray⟩ : ByteArray) = X := ⟨_, rfl⟩
  obtain ⟨X3, hX3⟩ : ∃ X : ByteArray, (⟨(putL an 2).toArray⟩ : ByteArray) = X := ⟨_, rfl⟩
  obtain ⟨D1, hD1⟩ : ∃ X : ByteArray, dataB p.client = X := ⟨_, rfl⟩
  rw [hX1, hX2, hX3, hD1] at HS1
  rw [hD1] at HCS
  have HSZ : Hid (X1.size = 1 ∧ X2.size = 1 ∧ X3.size = 2) := Lib.hid ⟨by rw [← hX1, mk_size, putL_len], by rw [← hX2, mk_size, putL_len], by rw [← hX3, mk_size, putL_len]⟩
  have P1 := Lib.hid (fun x : World => put_any vn 1 x (by have := HVN.out; omega) (by omega) (by omega))
  have P2 := Lib.hid (fun x : World => put_any fn 1 x (by have := HFN.out; omega) (by omega) (by omega))
  have P3 := Lib.hid (fun x : World => put_any an 2 x (by have := HAN.out; omega) (by omega) (by omega))
  have P4 := Lib.hid (fun x : World => data_any p.client x (by have := OK.out.texts; omega))
  rw [hX1] at P1
  rw [hX2] at P2
  rw [hX3] at P3
  rw [hD1] at P4
  clear hT hX1 hX2 hX3 hD1
  have hN : (⟨#[0, 4, 77, 81, 84, 84]⟩ : ByteArray) = cntName := rfl
  have HNS : Hid (cntName.size = 6) := Lib.hid rfl
  go_wp2_with fail
  rw [hN]
  clear hN
  have J0 := Lib.hid S2.out.drew
  have HS := And.intro (J0.out.ld 0 rfl) (And.intro ((J0.out.cell 0 rfl 8).trans (pkC_8 _ _)) ((J0.out.cell 0 rfl 9).trans (pkC_9 _ _)))
  refine wp_region_D (fun w' => (ldPk (.pointer (some ⟨w.heap.size, 0, none⟩))).run Tryz.prog w' = .ok (pkV p h) w' ∧ w'.cell? ⟨w.heap.size, 8, none⟩ = some (.int .i64 p.alive) ∧ w'.cell? ⟨w.heap.size, 9, none⟩ = some (.string p.client)) [15] (by kernel_rfl) ?_
  refine anyD_take (i := 0) (v := ?v0) [1, 2, 15] rfl (by kernel_rfl) (by kernel_rfl) (by kernel_rfl) (by kernel_rfl) (by kernel_rfl) (by kernel_rfl) (fun _ _ _ h => h) (Or.inl ⟨by rfl, ?h0⟩) HS ?r0
  case h0 => intro w' hSw; (try dsimp only at hSw); go_simp; try with_reducible rfl
  (try simp only [Act.put]); (try simp only [List.setIfInBounds_toArray]); (try simp only [List.set_cons_succ]); (try simp only [List.set_cons_zero])
  refine anyD_take (i := 1) (v := ?v1) [2, 15] rfl (by kernel_rfl) (by kernel_rfl) (by kernel_rfl) (by kernel_rfl) (by kernel_rfl) (by kernel_rfl) (fun _ _ _ h => h) (Or.inl ⟨by rfl, ?h1⟩) HS ?r1
  case h1 => intro w' hSw; (try dsimp only at hSw); go_simp; try with_reducible rfl
  (try simp only [Act.put]); (try simp only [List.setIfInBounds_toArray]); (try simp only [List.set_cons_succ]); (try simp only [List.set_cons_zero])
  refine anyD_take (i := 3) (v := ?v3) [4, 5, 6, 15] rfl (by kernel_rfl) (by kernel_rfl) (by kernel_rfl) (by kernel_rfl) (by kernel_rfl) (by kernel_rfl) (fun _ _ _ h => h) (Or.inl ⟨by rfl, ?h3⟩) HS ?r3
  case h3 => intro w' hSw; (try dsimp only at hSw); go_simp; try with_reducible rfl
  (try simp only [Act.put]); (try simp only [List.setIfInBounds_toArray]); (try simp only [List.set_cons_succ]); (try simp only [List.set_cons_zero])
  refine anyD_take (i := 7) (v := ?v7) [8, 9, 10, 15] rfl (by kernel_rfl) (by kernel_rfl) (by kernel_rfl) (by kernel_rfl) (by kernel_rfl) (by kernel_rfl) (fun _ _ _ h => h) (Or.inl ⟨by rfl, ?h7⟩) HS ?r7
  case h7 => intro w' hSw; (try dsimp only at hSw); go_simp; try with_reducible rfl
  (try simp only [Act.put]); (try simp only [List.setIfInBounds_toArray]); (try simp only [List.set_cons_succ]); (try simp only [List.set_cons_zero])
  refine anyD_take (i := 8) (v := ?v8) [9, 10, 15] rfl (by kernel_rfl) (by kernel_rfl) (by kernel_rfl) (by kernel_rfl) (by kernel_rfl) (by kernel_rfl) (fun _ _ _ h => h) (Or.inl ⟨by rfl, ?h8⟩) HS ?r8
  case h8 => intro w' hSw; (try dsimp only at hSw); go_simp; try with_reducible rfl
  (try simp only [Act.put]); (try simp only [List.setIfInBounds_toArray]); (try simp only [List.set_cons_succ]); (try simp only [List.set_cons_zero])
  refine anyD_take (i := 9) (v := ?v9) [10, 15] rfl (by kernel_rfl) (by kernel_rfl) (by kernel_rfl) (by kernel_rfl) (by kernel_rfl) (by kernel_rfl) (fun _ _ _ h => h) (Or.inl ⟨by rfl, ?h9⟩) HS ?r9
  case h9 => intro w' hSw; (try dsimp only at hSw); go_simp; try with_reducible rfl
  (try simp only [Act.put]); (try simp only [List.setIfInBounds_toArray]); (try simp only [List.set_cons_succ]); (try simp only [List.set_cons_zero])
  refine anyD_take (i := 11) (v := ?v11) [15] rfl (by kernel_rfl) (by kernel_rfl) (by kernel_rfl) (by kernel_rfl) (by kernel_rfl) (by kernel_rfl) (fun _ _ _ h => h) (Or.inl ⟨by rfl, ?h11⟩) HS ?r11
  case h11 => intro w' hSw; (try dsimp only at hSw); go_simp; try with_reducible rfl
  (try simp only [Act.put]); (try simp only [List.setIfInBounds_toArray]); (try simp only [List.set_cons_succ]); (try simp only [List.set_cons_zero])
  refine anyD_take (i := 12) (v := ?v12) [13, 14, 15] rfl (by kernel_rfl) (by kernel_rfl) (by kernel_rfl) (by kernel_rfl) (by kernel_rfl) (by kernel_rfl) (fun _ _ _ h => h) (Or.inl ⟨by rfl, ?h12⟩) HS ?r12
  case h12 => intro w' hSw; (try dsimp only at hSw); go_simp; try with_reducible rfl
  (try simp only [Act.put]); (try simp only [List.setIfInBounds_toArray]); (try simp only [List.set_cons_succ]); (try simp only [List.set_cons_zero])
  refine anyD_take (i := 13) (v := ?v13) [14, 15] rfl (by kernel_rfl) (by kernel_rfl) (by kernel_rfl) (by kernel_rfl) (by kernel_rfl) (by kernel_rfl) (fun _ _ _ h => h) (Or.inl ⟨by rfl, ?h13⟩) HS ?r13
  case h13 => intro w' hSw; (try dsimp only at hSw); go_simp; try with_reducible rfl
  (try simp only [Act.put]); (try simp only [List.setIfInBounds_toArray]); (try simp only [List.set_cons_succ]); (try simp only [List.set_cons_zero])
  refine anyD_ready (rs := [2]) (by kernel_rfl) (by simp) (AllD.cons rfl (fun K hK => ?_) AllD.nil)
  go_simp
  go_at_call 52
  refine (P1.out _).mono ?_
  rintro e' z2 ⟨rfl, hb⟩
  have J1 := Lib.hid (J0.out.below hb); clear hb HS
  have HS := And.intro (J1.out.ld 0 rfl) (And.intro ((J1.out.cell 0 rfl 8).trans (pkC_8 _ _)) ((J1.out.cell 0 rfl 9).trans (pkC_9 _ _)))
  go_simp
  refine hK.out _ _ (fun _ => HS) ?_
  clear hK K
  (try simp only [Act.put]); (try simp only [List.setIfInBounds_toArray]); (try simp only [List.set_cons_succ]); (try simp only [List.set_cons_zero])
  refine anyD_ready (rs := [4]) (by kernel_rfl) (by simp) (AllD.cons rfl (fun K hK => ?_) AllD.nil)
  go_simp
  go_at_call 227
  refine (HFC.out _).mono ?_
  rintro e' z4 ⟨rfl, hb⟩
  have J2 := Lib.hid (J1.out.below hb); clear hb HS
  have HS := And.intro (J2.out.ld 0 rfl) (And.intro ((J2.out.cell 0 rfl 8).trans (pkC_8 _ _)) ((J2.out.cell 0 rfl 9).trans (pkC_9 _ _)))
  go_simp
  refine hK.out _ _ (fun _ => HS) ?_
  clear hK K
  (try simp only [Act.put]); (try simp only [List.setIfInBounds_toArray]); (try simp only [List.set_cons_succ]); (try simp only [List.set_cons_zero])
  refine anyD_take (i := 5) (v := ?v5) [6, 15] rfl (by kernel_rfl) (by kernel_rfl) (by kernel_rfl) (by kernel_rfl) (by kernel_rfl) (by kernel_rfl) (fun _ _ _ h => h) (Or.inl ⟨by rfl, ?h5⟩) HS ?r5
  case h5 => intro w' hSw; (try dsimp only at hSw); go_simp; try with_reducible rfl
  (try simp only [Act.put]); (try simp only [List.setIfInBounds_toArray]); (try simp only [List.set_cons_succ]); (try simp only [List.set_cons_zero])
  refine anyD_ready (rs := [6]) (by kernel_rfl) (by simp) (AllD.cons rfl (fun K hK => ?_) AllD.nil)
  go_simp
  go_at_call 52
  refine (P2.out _).mono ?_
  rintro e' z6 ⟨rfl, hb⟩
  have J3 := Lib.hid (J2.out.below hb); clear hb HS
  have HS := And.intro (J3.out.ld 0 rfl) (And.intro ((J3.out.cell 0 rfl 8).trans (pkC_8 _ _)) ((J3.out.cell 0 rfl 9).trans (pkC_9 _ _)))
  go_simp
  refine hK.out _ _ (fun _ => HS) ?_
  clear hK K
  (try simp only [Act.put]); (try simp only [List.setIfInBounds_toArray]); (try simp only [List.set_cons_succ]); (try simp only [List.set_cons_zero])
  refine anyD_ready (rs := [10]) (by kernel_rfl) (by simp) (AllD.cons rfl (fun K hK => ?_) AllD.nil)
  go_simp
  go_at_call 52
  refine (P3.out _).mono ?_
  rintro e' z10 ⟨rfl, hb⟩
  have J4 := Lib.hid (J3.out.below hb); clear hb HS
  have HS := And.intro (J4.out.ld 0 rfl) (And.intro ((J4.out.cell 0 rfl 8).trans (pkC_8 _ _)) ((J4.out.cell 0 rfl 9).trans (pkC_9 _ _)))
  go_simp
  refine hK.out _ _ (fun _ => HS) ?_
  clear hK K
  (try simp only [Act.put]); (try simp only [List.setIfInBounds_toArray]); (try simp only [List.set_cons_succ]); (try simp only [List.set_cons_zero])
  refine anyD_ready (rs := [14]) (by kernel_rfl) (by simp) (AllD.cons rfl (fun K hK => ?_) AllD.nil)
  go_simp
  go_at_call 228
  refine (P4.out _).mono ?_
  rintro e' z14 ⟨rfl, hb⟩
  have J5 := Lib.hid (J4.out.below hb); clear hb HS
  have HS := And.intro (J5.out.ld 0 rfl) (And.intro ((J5.out.cell 0 rfl 8).trans (pkC_8 _ _)) ((J5.out.cell 0 rfl 9).trans (pkC_9 _ _)))
  go_simp
  refine hK.out _ _ (fun _ => HS) ?_
  clear hK K
  (try simp only [Act.put]); (try simp only [List.setIfInBounds_toArray]); (try simp only [List.set_cons_succ]); (try simp only [List.set_cons_zero])
  refine anyD_ready (rs := [15]) (by kernel_rfl) (by simp) (AllD.cons rfl (fun K hK => ?_) AllD.nil)
  go_simp
  refine hK.out _ _ (fun hn => absurd (hn 15 (by simp)) (by decide)) (anyD_late (d := 15) (by simp) _ _ _ _ (by kernel_rfl) ?_)
  clear hK K HS
  (try simp only [Act.put]); (try simp only [List.setIfInBounds_toArray]); (try simp only [List.set_cons_succ]); (try simp only [List.set_cons_zero])
  have J6 := Lib.hid (J5.out.alloc (.cells #[.string cntName, .string X1, .string X2, .string X3, .string T, .string D1] 9))
  refine wpAny_ready (rs := [16]) (by kernel_rfl) (by simp) (allShut rfl (fun K hK => ?_) AllReady.nil)
  go_simp
  go_at_call 226
  refine (put8_any [cntName, X1, X2, X3, T, D1] 6 6 z14.heap.size 0 rfl _ (cells6_s z14 _ _ _ _ _ _ _) (by simp) (by omega) (by omega) (by rw [catL_size]; simp only [List.map, List.sum_cons, List.sum_nil]; have := HNS.out; have := HSZ.out; have := HTS.out; have := HCS.out; omega)).mono ?_
  rintro e' z16 ⟨rfl, hb⟩
  have S7 := Lib.hid (J6.out.below hb); clear hb
  go_simp
  refine hK.out _ _ ?_
  clear hK K
  (try simp only [Act.put]); (try simp only [List.setIfInBounds_toArray]); (try simp only [List.set_cons_succ]); (try simp only [List.set_cons_zero])
  refine wpAny_ready (rs := [17]) (by kernel_rfl) (by simp) (allShut rfl (fun K hK => ?_) AllReady.nil)
  go_simp
  refine hK.out _ _ ?_
  clear hK K
  (try simp only [Act.put]); (try simp only [List.setIfInBounds_toArray]); (try simp only [List.set_cons_succ]); (try simp only [List.set_cons_zero])
  refine wpAny_done (by kernel_rfl) ?_ _
  rw [← HS1.out]
  have HZ1 : Hid ((cntS1 v p).size ≤ 131140700) := Lib.hid (by rw [HS1.out, catL_size]; simp only [List.map, List.sum_cons, List.sum_nil]; have := HNS.out; have := HSZ.out; have := HTS.out; have := HCS.out; omega)
  have HS2 : Hid (cntS2 v p = if p.hasWill = true then catL [cntS1 v p, tail8 v 16 p.will.props, dataB p.will.topic, dataB p.will.payload] else cntS1 v p) := Lib.hid rfl
  have HS3 : Hid (cntS3 v p = if p.hasUser = true then catL [cntS2 v p, dataB p.user] else cntS2 v p) := Lib.hid rfl
  have HS4 : Hid (cntS v p = if p.hasPass = true then catL [cntS3 v p, dataB p.pass] else cntS3 v p) := Lib.hid rfl
  obtain ⟨O1, hO1⟩ : ∃ O, cntS1 v p = O := ⟨_, rfl⟩
  rw [hO1] at HS1 HZ1 HS2 ⊢
  clear hO1 HS1 HTS HCS HSZ HNS P1 P2 P3 P4 HFC hw1 hw2 hw3 k0 e2
  have k14 := (S7.out.cell 0 rfl 14).trans (pkC_14 _ _)
  obtain ⟨wb, hwb⟩ : ∃ b, p.hasWill = b := ⟨_, rfl⟩
  rw [hwb] at k14 HS2
  clear hwb
  cases wb
  · rw [if_neg (by decide)] at HS2
    rw [HS2.out] at HS3
    have uk := (S7.out.cell 0 rfl 10).trans (pkC_10 _ _)
    obtain ⟨ub, hub⟩ : ∃ b, p.hasUser = b := ⟨_, rfl⟩
    rw [hub] at uk HS3
    clear hub
    cases ub
    · rw [if_neg (by decide)] at HS3
      rw [HS3.out] at HS4
      have qk := (S7.out.cell 0 rfl 12).trans (pkC_12 _ _)
      obtain ⟨qb, hqb⟩ : ∃ b, p.hasPass = b := ⟨_, rfl⟩
      rw [hqb] at qk HS4
      clear hqb
      cases qb
      · rw [if_neg (by decide)] at HS4
        go_wp2
        go_ret2
        exact ⟨by rw [HX.out, HS4.out]; rfl, S7.out.kept⟩
      · rw [if_pos rfl] at HS4
        have qf := (S7.out.cell 0 rfl 13).trans (pkC_13 _ _)
        go_wp2_with fail
        refine (data_any p.pass _ (by have := OK.out.texts; omega)).mono ?_
        rintro e yq ⟨rfl, hb⟩
        have S7a := Lib.hid (S7.out.below hb); clear hb qk qf
        have qD := Lib.hid (dataB_size p.pass)
        obtain ⟨qX, hqX⟩ : ∃ X, dataB p.pass = X := ⟨_, rfl⟩
        rw [hqX] at HS4 qD ⊢
        clear hqX
        have S7b := Lib.hid (S7a.out.alloc (.cells #[.string O1, .string qX] 9))
        go_wp2_with fail
        refine (put8_any [O1, qX] 2 2 yq.heap.size 0 rfl _ (cells2_s yq _ _ _) (by simp) (by omega) (by omega) (by rw [catL_size]; simp only [List.map, List.sum_cons, List.sum_nil]; have := HZ1.out; have := qD.out; omega)).mono ?_
        rintro e zq ⟨rfl, hb⟩
        have S7p := Lib.hid (S7b.out.below hb); clear hb
        have HZp : Hid ((catL [O1, qX]).size ≤ 131210700) := Lib.hid (by rw [catL_size]; simp only [List.map, List.sum_cons, List.sum_nil]; have := HZ1.out; have := qD.out; omega)
        obtain ⟨Op1, hOp1⟩ : ∃ O, catL [O1, qX] = O := ⟨_, rfl⟩
        rw [hOp1] at HS4 HZp ⊢
        clear hOp1
        go_wp2
        go_ret2
        exact ⟨by rw [HX.out, HS4.out]; rfl, S7p.out.kept⟩
    · rw [if_pos rfl] at HS3
      have uf := (S7.out.cell 0 rfl 11).trans (pkC_11 _ _)
      go_wp2_with fail
      refine (data_any p.user _ (by have := OK.out.texts; omega)).mono ?_
      rintro e yu ⟨rfl, hb⟩
      have S7a := Lib.hid (S7.out.below hb); clear hb uk uf
      have uD := Lib.hid (dataB_size p.user)
      obtain ⟨uX, huX⟩ : ∃ X, dataB p.user = X := ⟨_, rfl⟩
      rw [huX] at HS3 uD ⊢
      clear huX
      have S7b := Lib.hid (S7a.out.alloc (.cells #[.string O1, .string uX] 9))
      go_wp2_with fail
      refine (put8_any [O1, uX] 2 2 yu.heap.size 0 rfl _ (cells2_s yu _ _ _) (by simp) (by omega) (by omega) (by rw [catL_size]; simp only [List.map, List.sum_cons, List.sum_nil]; have := HZ1.out; have := uD.out; omega)).mono ?_
      rintro e zu ⟨rfl, hb⟩
      have S7u := Lib.hid (S7b.out.below hb); clear hb
      have HZu : Hid ((catL [O1, uX]).size ≤ 131210700) := Lib.hid (by rw [catL_size]; simp only [List.map, List.sum_cons, List.sum_nil]; have := HZ1.out; have := uD.out; omega)
      obtain ⟨Ou1, hOu1⟩ : ∃ O, catL [O1, uX] = O := ⟨_, rfl⟩
      rw [hOu1] at HS3 HZu ⊢
      clear hOu1
      rw [HS3.out] at HS4
      have qk := (S7u.out.cell 0 rfl 12).trans (pkC_12 _ _)
      obtain ⟨qb, hqb⟩ : ∃ b, p.hasPass = b := ⟨_, rfl⟩
      rw [hqb] at qk HS4
      clear hqb
      cases qb
      · rw [if_neg (by decide)] at HS4
        go_wp2
        go_ret2
        exact ⟨by rw [HX.out, HS4.out]; rfl, S7u.out.kept⟩
      · rw [if_pos rfl] at HS4
        have qf := (S7u.out.cell 0 rfl 13).trans (pkC_13 _ _)
        go_wp2_with fail
        refine (data_any p.pass _ (by have := OK.out.texts; omega)).mono ?_
        rintro e yq ⟨rfl, hb⟩
        have S7ua := Lib.hid (S7u.out.below hb); clear hb qk qf
        have qD := Lib.hid (dataB_size p.pass)
        obtain ⟨qX, hqX⟩ : ∃ X, dataB p.pass = X := ⟨_, rfl⟩
        rw [hqX] at HS4 qD ⊢
        clear hqX
        have S7ub := Lib.hid (S7ua.out.alloc (.cells #[.string Ou1, .string qX] 9))
        go_wp2_with fail
        refine (put8_any [Ou1, qX] 2 2 yq.heap.size 0 rfl _ (cells2_s yq _ _ _) (by simp) (by omega) (by omega) (by rw [catL_size]; simp only [List.map, List.sum_cons, List.sum_nil]; have := HZu.out; have := qD.out; omega)).mono ?_
        rintro e zq ⟨rfl, hb⟩
        have S7up := Lib.hid (S7ub.out.below hb); clear hb
        have HZp : Hid ((catL [Ou1, qX]).size ≤ 131280700) := Lib.hid (by rw [catL_size]; simp only [List.map, List.sum_cons, List.sum_nil]; have := HZu.out; have := qD.out; omega)
        obtain ⟨Opu1, hOpu1⟩ : ∃ O, catL [Ou1, qX] = O := ⟨_, rfl⟩
        rw [hOpu1] at HS4 HZp ⊢
        clear hOpu1
        go_wp2
        go_ret2
        exact ⟨by rw [HX.out, HS4.out]; rfl, S7up.out.kept⟩
  · rw [if_pos rfl] at HS2
    have HWS : Hid ((tail8 v 16 p.will.props).size ≤ 131075004 ∧ (dataB p.will.topic).size ≤ 65537 ∧ (dataB p.will.payload).size ≤ 65537) := Lib.hid ⟨tail8_size _ _ _, dataB_size _, dataB_size _⟩
    have W1 := Lib.hid (fun (x : World) hr => tail8_any v 16 p.will.props _ rfl OK.out.wp h.wp.a h.wp.c x hr OK.out.len.1)
    have W2 := Lib.hid (fun x : World => data_any p.will.topic x (by have := OK.out.texts; omega))
    have W3 := Lib.hid (fun x : World => data_any p.will.payload x (by have := OK.out.texts; omega))
    obtain ⟨WT, hWT⟩ : ∃ X, tail8 v 16 p.will.props = X := ⟨_, rfl⟩
    obtain ⟨WA, hWA⟩ : ∃ X, dataB p.will.topic = X := ⟨_, rfl⟩
    obtain ⟨WB, hWB⟩ : ∃ X, dataB p.will.payload = X := ⟨_, rfl⟩
    rw [hWT, hWA, hWB] at HS2 HWS
    rw [hWT] at W1
    rw [hWA] at W2
    rw [hWB] at W3
    clear hWT hWA hWB
    go_wp2_with fail
    have J7 := Lib.hid S7.out.drew
    have HS := And.intro ((J7.out.cell 0 rfl 19).trans (pkC_19 _ _)) (And.intro ((J7.out.cell 0 rfl 15).trans (pkC_15 _ _)) ((J7.out.cell 0 rfl 16).trans (pkC_16 _ _)))
    refine wp_region_D (fun w' => w'.cell? ⟨w.heap.size, 19, none⟩ = some (.slice h.wp.a p.will.props.length h.wp.c) ∧ w'.cell? ⟨w.heap.size, 15, none⟩ = some (.string p.will.topic) ∧ w'.cell? ⟨w.heap.size, 16, none⟩ = some (.string p.will.payload)) [14] (by kernel_rfl) ?_
    refine anyD_take (i := 0) (v := ?x0) [14] rfl (by kernel_rfl) (by kernel_rfl) (by kernel_rfl) (by kernel_rfl) (by kernel_rfl) (by kernel_rfl) (fun _ _ _ h => h) (Or.inl ⟨by rfl, ?y0⟩) HS ?z0
    case y0 => intro w' hSw; (try dsimp only at hSw); go_simp; try with_reducible rfl
    (try simp only [Act.put]); (try simp only [List.setIfInBounds_toArray]); (try simp only [List.set_cons_succ]); (try simp only [List.set_cons_zero])
    refine anyD_take (i := 1) (v := ?x1) [5, 14] rfl (by kernel_rfl) (by kernel_rfl) (by kernel_rfl) (by kernel_rfl) (by kernel_rfl) (by kernel_rfl) (fun _ _ _ h => h) (Or.inl ⟨by rfl, ?y1⟩) HS ?z1
    case y1 => intro w' hSw; (try dsimp only at hSw); go_simp; try with_reducible rfl
    (try simp only [Act.put]); (try simp only [List.setIfInBounds_toArray]); (try simp only [List.set_cons_succ]); (try simp only [List.set_cons_zero])
    refine anyD_take (i := 2) (v := ?x2) [3, 4, 5, 14] rfl (by kernel_rfl) (by kernel_rfl) (by kernel_rfl) (by kernel_rfl) (by kernel_rfl) (by kernel_rfl) (fun _ _ _ h => h) (Or.inl ⟨by rfl, ?y2⟩) HS ?z2
    case y2 => intro w' hSw; (try dsimp only at hSw); go_simp; try with_reducible rfl
    (try simp only [Act.put]); (try simp only [List.setIfInBounds_toArray]); (try simp only [List.set_cons_succ]); (try simp only [List.set_cons_zero])
    refine anyD_take (i := 3) (v := ?x3) [4, 5, 14] rfl (by kernel_rfl) (by kernel_rfl) (by kernel_rfl) (by kernel_rfl) (by kernel_rfl) (by kernel_rfl) (fun _ _ _ h => h) (Or.inl ⟨by rfl, ?y3⟩) HS ?z3
    case y3 => intro w' hSw; (try dsimp only at hSw); go_simp; try with_reducible rfl
    (try simp only [Act.put]); (try simp only [List.setIfInBounds_toArray]); (try simp only [List.set_cons_succ]); (try simp only [List.set_cons_zero])
    refine anyD_take (i := 4) (v := ?x4) [5, 14] rfl (by kernel_rfl) (by kernel_rfl) (by kernel_rfl) (by kernel_rfl) (by kernel_rfl) (by kernel_rfl) (fun _ _ _ h => h) (Or.inl ⟨by rfl, ?y4⟩) HS ?z4
    case y4 => intro w' hSw; (try dsimp only at hSw); go_simp; try with_reducible rfl
    (try simp only [Act.put]); (try simp only [List.setIfInBounds_toArray]); (try simp only [List.set_cons_succ]); (try simp only [List.set_cons_zero])
    refine anyD_take (i := 6) (v := ?x6) [7, 8, 9, 14] rfl (by kernel_rfl) (by kernel_rfl) (by kernel_rfl) (by kernel_rfl) (by kernel_rfl) (by kernel_rfl) (fun _ _ _ h => h) (Or.inl ⟨by rfl, ?y6⟩) HS ?z6
    case y6 => intro w' hSw; (try dsimp only at hSw); go_simp; try with_reducible rfl
    (try simp only [Act.put]); (try simp only [List.setIfInBounds_toArray]); (try simp only [List.set_cons_succ]); (try simp only [List.set_cons_zero])
    refine anyD_take (i := 7) (v := ?x7) [8, 9, 14] rfl (by kernel_rfl) (by kernel_rfl) (by kernel_rfl) (by kernel_rfl) (by kernel_rfl) (by kernel_rfl) (fun _ _ _ h => h) (Or.inl ⟨by rfl, ?y7⟩) HS ?z7
    case y7 => intro w' hSw; (try dsimp only at hSw); go_simp; try with_reducible rfl
    (try simp only [Act.put]); (try simp only [List.setIfInBounds_toArray]); (try simp only [List.set_cons_succ]); (try simp only [List.set_cons_zero])
    refine anyD_take (i := 8) (v := ?x8) [9, 14] rfl (by kernel_rfl) (by kernel_rfl) (by kernel_rfl) (by kernel_rfl) (by kernel_rfl) (by kernel_rfl) (fun _ _ _ h => h) (Or.inl ⟨by rfl, ?y8⟩) HS ?z8
    case y8 => intro w' hSw; (try dsimp only at hSw); go_simp; try with_reducible rfl
    (try simp only [Act.put]); (try simp only [List.setIfInBounds_toArray]); (try simp only [List.set_cons_succ]); (try simp only [List.set_cons_zero])
    refine anyD_take (i := 10) (v := ?x10) [11, 12, 13, 14] rfl (by kernel_rfl) (by kernel_rfl) (by kernel_rfl) (by kernel_rfl) (by kernel_rfl) (by kernel_rfl) (fun _ _ _ h => h) (Or.inl ⟨by rfl, ?y10⟩) HS ?z10
    case y10 => intro w' hSw; (try dsimp only at hSw); go_simp; try with_reducible rfl
    (try simp only [Act.put]); (try simp only [List.setIfInBounds_toArray]); (try simp only [List.set_cons_succ]); (try simp only [List.set_cons_zero])
    refine anyD_take (i := 11) (v := ?x11) [12, 13, 14] rfl (by kernel_rfl) (by kernel_rfl) (by kernel_rfl) (by kernel_rfl) (by kernel_rfl) (by kernel_rfl) (fun _ _ _ h => h) (Or.inl ⟨by rfl, ?y11⟩) HS ?z11
    case y11 => intro w' hSw; (try dsimp only at hSw); go_simp; try with_reducible rfl
    (try simp only [Act.put]); (try simp only [List.setIfInBounds_toArray]); (try simp only [List.set_cons_succ]); (try simp only [List.set_cons_zero])
    refine anyD_take (i := 12) (v := ?x12) [13, 14] rfl (by kernel_rfl) (by kernel_rfl) (by kernel_rfl) (by kernel_rfl) (by kernel_rfl) (by kernel_rfl) (fun _ _ _ h => h) (Or.inl ⟨by rfl, ?y12⟩) HS ?z12
    case y12 => intro w' hSw; (try dsimp only at hSw); go_simp; try with_reducible rfl
    (try simp only [Act.put]); (try simp only [List.setIfInBounds_toArray]); (try simp only [List.set_cons_succ]); (try simp only [List.set_cons_zero])
    refine anyD_ready (rs := [5]) (by kernel_rfl) (by simp) (AllD.cons rfl (fun K hK => ?_) AllD.nil)
    go_simp
    go_at_call 225
    refine (W1.out _ (J7.out.into 0 rfl).wp).mono ?_
    rintro e' z5 ⟨rfl, hb⟩
    have J8 := Lib.hid (J7.out.below hb); clear hb HS
    have HS := And.intro ((J8.out.cell 0 rfl 19).trans (pkC_19 _ _)) (And.intro ((J8.out.cell 0 rfl 15).trans (pkC_15 _ _)) ((J8.out.cell 0 rfl 16).trans (pkC_16 _ _)))
    go_simp
    refine hK.out _ _ (fun _ => HS) ?_
    clear hK K
    (try simp only [Act.put]); (try simp only [List.setIfInBounds_toArray]); (try simp only [List.set_cons_succ]); (try simp only [List.set_cons_zero])
    refine anyD_ready (rs := [9]) (by kernel_rfl) (by simp) (AllD.cons rfl (fun K hK => ?_) AllD.nil)
    go_simp
    go_at_call 228
    refine (W2.out _).mono ?_
    rintro e' z9 ⟨rfl, hb⟩
    have J9 := Lib.hid (J8.out.below hb); clear hb HS
    have HS := And.intro ((J9.out.cell 0 rfl 19).trans (pkC_19 _ _)) (And.intro ((J9.out.cell 0 rfl 15).trans (pkC_15 _ _)) ((J9.out.cell 0 rfl 16).trans (pkC_16 _ _)))
    go_simp
    refine hK.out _ _ (fun _ => HS) ?_
    clear hK K
    (try simp only [Act.put]); (try simp only [List.setIfInBounds_toArray]); (try simp only [List.set_cons_succ]); (try simp only [List.set_cons_zero])
    refine anyD_ready (rs := [13]) (by kernel_rfl) (by simp) (AllD.cons rfl (fun K hK => ?_) AllD.nil)
    go_simp
    go_at_call 228
    refine (W3.out _).mono ?_
    rintro e' z13 ⟨rfl, hb⟩
    have JA := Lib.hid (J9.out.below hb); clear hb HS
    have HS := And.intro ((JA.out.cell 0 rfl 19).trans (pkC_19 _ _)) (And.intro ((JA.out.cell 0 rfl 15).trans (pkC_15 _ _)) ((JA.out.cell 0 rfl 16).trans (pkC_16 _ _)))
    go_simp
    refine hK.out _ _ (fun _ => HS) ?_
    clear hK K
    (try simp only [Act.put]); (try simp only [List.setIfInBounds_toArray]); (try simp only [List.set_cons_succ]); (try simp only [List.set_cons_zero])
    refine anyD_ready (rs := [14]) (by kernel_rfl) (by simp) (AllD.cons rfl (fun K hK => ?_) AllD.nil)
    go_simp
    refine hK.out _ _ (fun hn => absurd (hn 14 (by simp)) (by decide)) (anyD_late (d := 14) (by simp) _ _ _ _ (by kernel_rfl) ?_)
    clear hK K HS
    (try simp only [Act.put]); (try simp only [List.setIfInBounds_toArray]); (try simp only [List.set_cons_succ]); (try simp only [List.set_cons_zero])
    have JB := Lib.hid (JA.out.alloc (.cells #[.string O1, .string WT, .string WA, .string WB] 9))
    refine wpAny_ready (rs := [15]) (by kernel_rfl) (by simp) (allShut rfl (fun K hK => ?_) AllReady.nil)
    go_simp
    go_at_call 226
    refine (put8_any [O1, WT, WA, WB] 4 4 z13.heap.size 0 rfl _ (cells4_s z13 _ _ _ _ _) (by simp) (by omega) (by omega) (by rw [catL_size]; simp only [List.map, List.sum_cons, List.sum_nil]; have := HZ1.out; have := HWS.out; omega)).mono ?_
    rintro e' z15 ⟨rfl, hb⟩
    have S8 := Lib.hid (JB.out.below hb); clear hb
    go_simp
    refine hK.out _ _ ?_
    clear hK K
    (try simp only [Act.put]); (try simp only [List.setIfInBounds_toArray]); (try simp only [List.set_cons_succ]); (try simp only [List.set_cons_zero])
    refine wpAny_ready (rs := [16]) (by kernel_rfl) (by simp) (allShut rfl (fun K hK => ?_) AllReady.nil)
    go_simp
    refine hK.out _ _ ?_
    clear hK K
    (try simp only [Act.put]); (try simp only [List.setIfInBounds_toArray]); (try simp only [List.set_cons_succ]); (try simp only [List.set_cons_zero])
    refine wpAny_done (by kernel_rfl) ?_ _
    have HZ2 : Hid ((catL [O1, WT, WA, WB]).size ≤ 262346900) := Lib.hid (by rw [catL_size]; simp only [List.map, List.sum_cons, List.sum_nil]; have := HZ1.out; have := HWS.out; omega)
    obtain ⟨O2, hO2⟩ : ∃ O, catL [O1, WT, WA, WB] = O := ⟨_, rfl⟩
    rw [hO2] at HS2 HZ2 ⊢
    clear hO2 W1 W2 W3
    rw [HS2.out] at HS3
    have uk := (S8.out.cell 0 rfl 10).trans (pkC_10 _ _)
    obtain ⟨ub, hub⟩ : ∃ b, p.hasUser = b := ⟨_, rfl⟩
    rw [hub] at uk HS3
    clear hub
    cases ub
    · rw [if_neg (by decide)] at HS3
      rw [HS3.out] at HS4
      have qk := (S8.out.cell 0 rfl 12).trans (pkC_12 _ _)
      obtain ⟨qb, hqb⟩ : ∃ b, p.hasPass = b := ⟨_, rfl⟩
      rw [hqb] at qk HS4
      clear hqb
      cases qb
      · rw [if_neg (by decide)] at HS4
        go_wp2
        go_ret2
        exact ⟨by rw [HX.out, HS4.out]; rfl, S8.out.kept⟩
      · rw [if_pos rfl] at HS4
        have qf := (S8.out.cell 0 rfl 13).trans (pkC_13 _ _)
        go_wp2_with fail
        refine (data_any p.pass _ (by have := OK.out.texts; omega)).mono ?_
        rintro e yq ⟨rfl, hb⟩
        have S8a := Lib.hid (S8.out.below hb); clear hb qk qf
        have qD := Lib.hid (dataB_size p.pass)
        obtain ⟨qX, hqX⟩ : ∃ X, dataB p.pass = X := ⟨_, rfl⟩
        rw [hqX] at HS4 qD ⊢
        clear hqX
        have S8b := Lib.hid (S8a.out.alloc (.cells #[.string O2, .string qX] 9))
        go_wp2_with fail
        refine (put8_any [O2, qX] 2 2 yq.heap.size 0 rfl _ (cells2_s yq _ _ _) (by simp) (by omega) (by omega) (by rw [catL_size]; simp only [List.map, List.sum_cons, List.sum_nil]; have := HZ2.out; have := qD.out; omega)).mono ?_
        rintro e zq ⟨rfl, hb⟩
        have S8p := Lib.hid (S8b.out.below hb); clear hb
        have HZp : Hid ((catL [O2, qX]).size ≤ 262416900) := Lib.hid (by rw [catL_size]; simp only [List.map, List.sum_cons, List.sum_nil]; have := HZ2.out; have := qD.out; omega)
        obtain ⟨Op2, hOp2⟩ : ∃ O, catL [O2, qX] = O := ⟨_, rfl⟩
        rw [hOp2] at HS4 HZp ⊢
        clear hOp2
        go_wp2
        go_ret2
        exact ⟨by rw [HX.out, HS4.out]; rfl, S8p.out.kept⟩
    · rw [if_pos rfl] at HS3
      have uf := (S8.out.cell 0 rfl 11).trans (pkC_11 _ _)
      go_wp2_with fail
      refine (data_any p.user _ (by have := OK.out.texts; omega)).mono ?_
      rintro e yu ⟨rfl, hb⟩
      have S8a := Lib.hid (S8.out.below hb); clear hb uk uf
      have uD := Lib.hid (dataB_size p.user)
      obtain ⟨uX, huX⟩ : ∃ X, dataB p.user = X := ⟨_, rfl⟩
      rw [huX] at HS3 uD ⊢
      clear huX
      have S8b := Lib.hid (S8a.out.alloc (.cells #[.string O2, .string uX] 9))
      go_wp2_with fail
      refine (put8_any [O2, uX] 2 2 yu.heap.size 0 rfl _ (cells2_s yu _ _ _) (by simp) (by omega) (by omega) (by rw [catL_size]; simp only [List.map, List.sum_cons, List.sum_nil]; have := HZ2.out; have := uD.out; omega)).mono ?_
      rintro e zu ⟨rfl, hb⟩
      have S8u := Lib.hid (S8b.out.below hb); clear hb
      have HZu : Hid ((catL [O2, uX]).size ≤ 262416900) := Lib.hid (by rw [catL_size]; simp only [List.map, List.sum_cons, List.sum_nil]; have := HZ2.out; have := uD.out; omega)
      obtain ⟨Ou2, hOu2⟩ : ∃ O, catL [O2, uX] = O := ⟨_, rfl⟩
      rw [hOu2] at HS3 HZu ⊢
      clear hOu2
      rw [HS3.out] at HS4
      have qk := (S8u.out.cell 0 rfl 12).trans (pkC_12 _ _)
      obtain ⟨qb, hqb⟩ : ∃ b, p.hasPass = b := ⟨_, rfl⟩
      rw [hqb] at qk HS4
      clear hqb
      cases qb
      · rw [if_neg (by decide)] at HS4
        go_wp2
        go_ret2
        exact ⟨by rw [HX.out, HS4.out]; rfl, S8u.out.kept⟩
      · rw [if_pos rfl] at HS4
        have qf := (S8u.out.cell 0 rfl 13).trans (pkC_13 _ _)
        go_wp2_with fail
        refine (data_any p.pass _ (by have := OK.out.texts; omega)).mono ?_
        rintro e yq ⟨rfl, hb⟩
        have S8ua := Lib.hid (S8u.out.below hb); clear hb qk qf
        have qD := Lib.hid (dataB_size p.pass)
        obtain ⟨qX, hqX⟩ : ∃ X, dataB p.pass = X := ⟨_, rfl⟩
        rw [hqX] at HS4 qD ⊢
        clear hqX
        have S8ub := Lib.hid (S8ua.out.alloc (.cells #[.string Ou2, .string qX] 9))
        go_wp2_with fail
        refine (put8_any [Ou2, qX] 2 2 yq.heap.size 0 rfl _ (cells2_s yq _ _ _) (by simp) (by omega) (by omega) (by rw [catL_size]; simp only [List.map, List.sum_cons, List.sum_nil]; have := HZu.out; have := qD.out; omega)).mono ?_
        rintro e zq ⟨rfl, hb⟩
        have S8up := Lib.hid (S8ub.out.below hb); clear hb
        have HZp : Hid ((catL [Ou2, qX]).size ≤ 262486900) := Lib.hid (by rw [catL_size]; simp only [List.map, List.sum_cons, List.sum_nil]; have := HZu.out; have := qD.out; omega)
        obtain ⟨Opu2, hOpu2⟩ : ∃ O, catL [Ou2, qX] = O := ⟨_, rfl⟩
        rw [hOpu2] at HS4 HZp ⊢
        clear hOpu2
        go_wp2
        go_ret2
        exact ⟨by rw [HX.out, HS4.out]; rfl, S8up.out.kept⟩
theorem cntBody_any (v : Int) (p : Pk) (h : Hs) (w : World) (ip : PkIn w w.heap.size p h) (ok : PkOk p) :
    Calls Tryz.prog 170 #[.int .i64 v, pkV p h] w fun e w' => e = .returned (.tuple #[.string (cntB v p).1, .int .i64 (cntB v p).2]) ∧ Below w.heap.size w w' := by
  by_cases h2 : p.kind = 2
  · have hB : cntB v p = cntB2 v p := if_pos h2
    rw [hB]
    exact cntBody2_any v p h w ip ok h2
  · have hB : cntB v p = if cntE v p = 0 then (cntS v p, 0) else (⟨#[]⟩, cntE v p) := if_neg h2
    rw [hB]
    exact cntBody1_any v p h w ip ok h2
end Go.Proofs.YtbahnolmlodcdaaGreatDoor

namespace Go.Proofs.YtbahnolmlodcdaaGreatDoor
open Go.RowKit
attribute [local go_sem ↓] to_ldPk to_bxPk to_bdPk to_alPk to_stPk
attribute [local go_sem] run_bxPk run_bxPk_agg ld_fresh run_alPk run_bd0 run_bdK run_bdKI run_bdKIC run_bdKC run_bdKICP run_stPk_fresh pkC_0 pkC_1 pkC_2 pkC_3 pkC_4 pkC_5 pkC_6 pkC_7 pkC_8 pkC_9 pkC_10 pkC_11 pkC_12 pkC_13 pkC_14 pkC_15 pkC_16 pkC_17 pkC_18 pkC_19 pkC_20 pkC_21 pkC_22 pkC_23 pkC_24

theorem cntB_bad {v : Int} {p : Pk} (x : cntE v p ≠ 0) : cntB v p = (⟨#[]⟩, cntE v p) := by
  unfold cntB cntB2
  rw [if_neg x, if_neg x]
  split <;> rfl
theorem pickN_lt (n : Int) {m : Int} (h : 1 ≤ m) : 0 ≤ pickN n m ∧ pickN n m < m := by
  unfold pickN
  rw [if_neg (by omega)]
  exact ⟨Int.emod_nonneg _ (by omega), Int.emod_lt_of_pos _ (by omega)⟩
theorem SR.of {gp : Nat} {v : Value} {W y : World} (hk : W.cell? ⟨gp, 0, none⟩ = some v) (hb : Below W.heap.size W y) : SR gp v W y := ⟨(hb.cell (p := ⟨gp, 0, none⟩) (World.block_lt_of_cell? _ _ hk)).trans hk, hb⟩
end Go.Proofs.YtbahnolmlodcdaaGreatDoor

