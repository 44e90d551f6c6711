/- The law ConnectFlags: the walk. -/
import Derived.Test.YtceniaklabiadaaGreatCntT
import Derived.Test.YtceniaklabiadaaGreatCntS
namespace Go.Proofs.YtceniaklabiadaaGreat
open Go.RowKit
attribute [local go_sem ↓] to_ldPk to_bxPk to_bdPk to_alPk to_stPk
attribute [local go_sem] run_bxPk run_bxPk_agg ld_fresh run_alPk run_bd0 run_bdK run_bdKI run_bdKIC run_bdKC run_bdKICP run_stPk_fresh pkC_0 pkC_1 pkC_2 pkC_3 pkC_4 pkC_5 pkC_6 pkC_7 pkC_8 pkC_9 pkC_10 pkC_11 pkC_12 pkC_13 pkC_14 pkC_15 pkC_16 pkC_17 pkC_18 pkC_19 pkC_20 pkC_21 pkC_22 pkC_23 pkC_24

def verN (i : Nat) : Int := if i % 2 = 0 then 4 else 5
set_option maxHeartbeats 400000 in
theorem verK_any (i : Nat) (hi : i < 2) (w : World) : Calls Tryz.prog 52 #[.int .i64 i] w fun e w' => e = .returned (.int .i64 (verN i)) ∧ w = w' := by
  have : i = 0 ∨ i = 1 := by omega
  rcases this with rfl | rfl
  · go_enter Tryz.func52, Tryz.ntmps52
    go_wp2
    go_ret
    exact ⟨rfl, rfl⟩
  · go_enter Tryz.func52, Tryz.ntmps52
    go_wp2
    go_ret
    exact ⟨rfl, rfl⟩
/-- A CONNECT's body: its head, the flags, the rest. -/
theorem body_flags {v : Int} {p : Pk} (x : cntE v p = 0) (h1 : p.kind = 1) : ∃ R : List UInt8, 4 ≤ R.length ∧ ls (cntB v p).1 = ls cntName ++ (putL v.toNat 1 ++ (putL (flN p).toNat 1 ++ R)) := by
  have g := cnGood_of x h1
  have := cn_ls g []
  rw [List.append_nil] at this
  rw [cntB_zero x, if_neg (by omega)]
  refine ⟨_, ?_, this⟩
  simp only [List.length_append, putL_len]
  omega
set_option maxHeartbeats 2000000 in
set_option maxRecDepth 10000 in
theorem connectFlags_any (p : Pk) (h : Hs) (c : UInt8) (w : World) (ip : PkIn w w.heap.size p h) (ok : PkOk p) :
    Calls Tryz.prog 9 #[pkV p h, .int .u8 (c.toNat : Int)] w fun e w' => e = .returned (.bool true) ∧ Below w.heap.size w w' := by
  have OK := Lib.hid ok
  have S0 := Lib.hid ((St.start w).push ip)
  clear ip ok
  go_enter Tryz.func9, Tryz.ntmps9
  go_wp2_with fail
  refine (lives08_any _).mono ?_
  rintro e w1 ⟨rfl, hb⟩
  have S1 := Lib.hid (S0.out.below hb); clear hb
  have hl := S1.out.ld 0 rfl
  go_wp2_with fail
  refine (lightK_any p h _ (S1.out.into 0 rfl) OK.out).mono ?_
  rintro e w2 ⟨rfl, hb⟩
  have S2 := Lib.hid (S1.out.below hb); clear hb hl
  cases hL : lightK p
  · go_wp2
    go_ret
    exact ⟨rfl, S2.out.kept⟩
  clear hL
  have k0 := (S2.out.cell 0 rfl 0).trans (pkC_0 _ _)
  by_cases hk1 : p.kind = 1
  rotate_left
  · have e1 : (p.kind != 1) = true := bne_iff_ne.2 hk1
    clear hk1
    go_wp2
    go_ret
    exact ⟨rfl, S2.out.kept⟩
  have e1 : (p.kind != 1) = false := by rw [hk1]; rfl
  have HK1 := Lib.hid hk1
  clear hk1
  go_wp2_with fail
  go_loopw [5] (fun i wr => ∃ k : Nat, k ≤ 2 ∧ i = .int .i64 k ∧ St w [(w.heap.size, p, h)] wr) (fun i _ => 2 - (intOf i).toNat)
  case atStart => exact ⟨0, by omega, rfl, S2.out⟩
  case round =>
    obtain ⟨k, hk, rfl, hs⟩ := hrel
    have S3 := Lib.hid hs
    clear hs k0 e1
    by_cases hlt : k < 2
    rotate_left
    · have hn : decide ((k : Int) < 2) = false := decide_eq_false (by omega)
      clear hlt
      go_wp2
      go_ret
      exact ⟨rfl, S3.out.kept⟩
    have hn : decide ((k : Int) < 2) = true := decide_eq_true (by omega)
    have HLT := Lib.hid hlt
    have hw1 : IntKind.i64.wrap ((k : Int) + 1) = (k : Int) + 1 := by rw [IntKind.wrap_i64]; omega
    clear hlt hk
    go_wp2_with fail
    refine (verK_any k HLT.out _).mono ?_
    rintro e v1 ⟨rfl, rfl⟩
    have HV : Hid (verN k = 4 ∨ verN k = 5) := Lib.hid (by unfold verN; split <;> simp)
    generalize verN k = v at *
    have hl := S3.out.ld 0 rfl
    go_wp2_with fail
    refine (cntBody_any v p h _ (S3.out.into 0 rfl) OK.out).mono ?_
    rintro e w4 ⟨rfl, hb⟩
    have S4 := Lib.hid (S3.out.below hb); clear hb hl
    by_cases hE : cntE v p = 0
    rotate_left
    · rw [cntB_bad hE]
      generalize cntE v p = E at *
      have e0 : (E != 0) = true := bne_iff_ne.2 hE
      clear hE
      simp only
      go_wp2
      go_roundw
      case rel => exact ⟨k + 1, by have := HLT.out; omega, by go_num, S4.out⟩
      case measure => have := HLT.out; simp [intOf]; omega
    have hB : (cntB v p).2 = 0 := by rw [cntB_zero hE]
    rw [hB]
    obtain ⟨R, hR4, hX0⟩ := body_flags hE HK1.out
    have HXS := Lib.hid (cntB_size hE)
    have HFL := Lib.hid (flN_range p)
    have HFQ : Hid (flQ p = flN p) := Lib.hid (if_pos HK1.out)
    have HFC : Hid (∀ x : World, Calls Tryz.prog 44 #[pkV p h] x fun e w' => e = .returned (.int .i64 (flN p)) ∧ Below x.heap.size x w') := Lib.hid (fun x => by rw [← HFQ.out]; exact cntFlags_any p h x)
    obtain ⟨X, hX⟩ : ∃ X, (cntB v p).1 = X := ⟨_, rfl⟩
    rw [hX] at hX0 HXS ⊢
    obtain ⟨fl, hfl⟩ : ∃ f : Nat, (flN p).toNat = f := ⟨_, rfl⟩
    have hfl2 : flN p = (fl : Int) := by have := HFL.out; omega
    rw [hfl] at hX0
    rw [hfl2] at HFC
    have HFB : Hid (fl < 256) := Lib.hid (by have := HFL.out; omega)
    have HX0 := Lib.hid hX0; have HR4 := Lib.hid hR4
    have hXL : X.size = 6 + (1 + (1 + R.length)) := by
      have := congrArg List.length hX0
      rw [ls_len] at this
      simp only [List.length_append, putL_len, name_len] at this
      exact this
    have hX12 : ¬ X.size < 12 := by omega
    have x7 : 7 < X.size := by omega
    have hx7 : X[7]'x7 = UInt8.ofNat fl := by
      have h1 := ls_at X 7 x7
      rw [← h1]
      have h2 : (ls X)[7]? = some (UInt8.ofNat fl) := by
        rw [hX0]
        rw [List.getElem?_append_right (by rw [name_len]; omega), List.getElem?_append_right (by rw [name_len, putL_len]; omega), List.getElem?_append_left (by rw [name_len, putL_len, putL_len]; omega)]
        rw [name_len, putL_len]
        simp [putL]
      rw [List.getElem?_eq_getElem (by rw [ls_len]; exact x7)] at h2
      exact Option.some.inj h2
    have hb7 : ((X[7]'x7).toNat : Int) = (fl : Int) := by
      rw [hx7]
      have := HFB.out
      simp [UInt8.toNat_ofNat']
      omega
    have d12 : decide ((X.size : Int) < 12) = false := decide_eq_false (by omega)
    have i12 : ¬ ((X.size : Int) < 12) := by omega
    have x7i : (7 : Int) < (X.size : Int) := by omega
    have HXL := Lib.hid hXL
    clear hX hE hB hfl hfl2 hX0 hR4 hx7 HFQ HFL hXL
    obtain ⟨bv, hbv⟩ : ∃ b : UInt8, (b.toNat : Int) = v ∧ putL v.toNat 1 = [b] := by
      rcases HV.out with rfl | rfl
      · exact ⟨4, rfl, rfl⟩
      · exact ⟨5, rfl, rfl⟩
    have hwu : IntKind.u8.wrap v = (bv.toNat : Int) := by rw [IntKind.wrap_u8]; have := bv.toNat_lt; omega
    have hcv : ∀ W : World, (convert 50 9 (.slice (some ⟨W.heap.size, 0, none⟩) 1 1)).run Tryz.prog (W.alloc (.cells #[.int .u8 (bv.toNat : Int)] 5)) = .ok (.string ⟨#[bv]⟩) (W.alloc (.cells #[.int .u8 (bv.toNat : Int)] 5)) := fun W =>
      conv_rd 50 9 5 Tryz.underlying50 Tryz.underlying5 Tryz.underlying9 1 (Rd.lit W #[.int .u8 (bv.toNat : Int)] 5 (xs := bys [bv]) rfl (Nat.lt_succ_self _) rfl)
    have hs7 : X.extract 0 7 = ⟨#[0, 4, 77, 81, 84, 84]⟩ ++ ⟨#[bv]⟩ := by
      refine ls_ext ?_
      have := extract_ls X 0 7
      rw [Nat.zero_add, List.drop_zero] at this
      rw [this, HX0.out, hbv.2]
      simp [ls, cntName]
    have hwf : IntKind.i64.wrap (fl : Int) = (fl : Int) := by rw [IntKind.wrap_i64]; have := HFB.out; omega
    have HBV := Lib.hid hbv
    clear hbv
    have z7 : (7 : Int) ≤ (X.size : Int) := by omega
    have z7n : 7 ≤ X.size := by omega
    have J0 := Lib.hid S4.out.drew
    have HS := J0.out.ld 0 rfl
    go_wp2_with fail
    refine wp_region_D (fun w' => (ldPk (.pointer (some ⟨w.heap.size, 0, none⟩))).run Tryz.prog w' = .ok (pkV p h) w') [20] (by kernel_rfl) ?_
    refine anyD_take (i := 0) (v := ?v0) [1, 2, 3, 4, 5, 6, 9, 10, 11, 20] rfl (by kernel_rfl) (by kernel_rfl) (by kernel_rfl) (by kernel_rfl) (by kernel_rfl) (by kernel_rfl) (fun _ _ _ h => h) (Or.inl ⟨by rfl, ?h0⟩) HS ?r0
    case h0 => intro w' hSw; (try dsimp only at hSw); go_simp; try with_reducible rfl
    (try simp only [Act.put]); (try simp only [List.setIfInBounds_toArray]); (try simp only [List.set_cons_succ]); (try simp only [List.set_cons_zero])
    refine anyD_take (i := 1) (v := ?v1) [2, 3, 4, 5, 6, 9, 10, 11, 20] rfl (by kernel_rfl) (by kernel_rfl) (by kernel_rfl) (by kernel_rfl) (by kernel_rfl) (by kernel_rfl) (fun _ _ _ h => h) (Or.inl ⟨by rfl, ?h1⟩) HS ?r1
    case h1 => intro w' hSw; (try dsimp only at hSw); go_simp; try with_reducible rfl
    (try simp only [Act.put]); (try simp only [List.setIfInBounds_toArray]); (try simp only [List.set_cons_succ]); (try simp only [List.set_cons_zero])
    refine anyD_take (i := 2) (v := ?v2) [3, 4, 5, 6, 9, 10, 11, 20] rfl (by kernel_rfl) (by kernel_rfl) (by kernel_rfl) (by kernel_rfl) (by kernel_rfl) (by kernel_rfl) (fun _ _ _ h => h) (Or.inl ⟨by rfl, ?h2⟩) HS ?r2
    case h2 => intro w' hSw; (try dsimp only at hSw); go_simp; try with_reducible rfl
    (try simp only [Act.put]); (try simp only [List.setIfInBounds_toArray]); (try simp only [List.set_cons_succ]); (try simp only [List.set_cons_zero])
    refine anyD_take (i := 3) (v := ?v3) [4, 5, 6, 9, 10, 11, 20] rfl (by kernel_rfl) (by kernel_rfl) (by kernel_rfl) (by kernel_rfl) (by kernel_rfl) (by kernel_rfl) (fun _ _ _ h => h) (Or.inl ⟨by rfl, ?h3⟩) HS ?r3
    case h3 => intro w' hSw; (try dsimp only at hSw); go_simp; try with_reducible rfl
    (try simp only [Act.put]); (try simp only [List.setIfInBounds_toArray]); (try simp only [List.set_cons_succ]); (try simp only [List.set_cons_zero])
    refine anyD_take (i := 4) (v := ?v4) [5, 6, 9, 10, 11, 20] rfl (by kernel_rfl) (by kernel_rfl) (by kernel_rfl) (by kernel_rfl) (by kernel_rfl) (by kernel_rfl) (fun _ _ _ h => h) (Or.inl ⟨by rfl, ?h4⟩) HS ?r4
    case h4 => intro w' hSw; (try dsimp only at hSw); go_simp; try with_reducible rfl
    (try simp only [Act.put]); (try simp only [List.setIfInBounds_toArray]); (try simp only [List.set_cons_succ]); (try simp only [List.set_cons_zero])
    refine anyD_take (i := 5) (v := ?v5) [6, 9, 10, 11, 20] rfl (by kernel_rfl) (by kernel_rfl) (by kernel_rfl) (by kernel_rfl) (by kernel_rfl) (by kernel_rfl) (fun _ _ _ h => h) (Or.inl ⟨by rfl, ?h5⟩) HS ?r5
    case h5 => intro w' hSw; (try dsimp only at hSw); go_simp; try with_reducible rfl
    (try simp only [Act.put]); (try simp only [List.setIfInBounds_toArray]); (try simp only [List.set_cons_succ]); (try simp only [List.set_cons_zero])
    refine anyD_take (i := 6) (v := ?v6) [9, 10, 11, 20] rfl (by kernel_rfl) (by kernel_rfl) (by kernel_rfl) (by kernel_rfl) (by kernel_rfl) (by kernel_rfl) (fun _ _ _ h => h) (Or.inl ⟨by rfl, ?h6⟩) HS ?r6
    case h6 => intro w' hSw; (try dsimp only at hSw); go_simp; try with_reducible rfl
    (try simp only [Act.put]); (try simp only [List.setIfInBounds_toArray]); (try simp only [List.set_cons_succ]); (try simp only [List.set_cons_zero])
    refine anyD_take (i := 7) (v := ?v7) [8, 9, 10, 11, 20] rfl (by kernel_rfl) (by kernel_rfl) (by kernel_rfl) (by kernel_rfl) (by kernel_rfl) (by kernel_rfl) (fun _ _ _ h => h) (Or.inl ⟨by rfl, ?h7⟩) HS ?r7
    case h7 => intro w' hSw; (try dsimp only at hSw); go_simp; try with_reducible rfl
    (try simp only [Act.put]); (try simp only [List.setIfInBounds_toArray]); (try simp only [List.set_cons_succ]); (try simp only [List.set_cons_zero])
    refine anyD_ready (rs := [8]) (by kernel_rfl) (by simp) (AllD.cons rfl (fun K hK => ?_) AllD.nil)
    go_simp
    go_at_call 44
    refine (HFC.out _).mono ?_
    rintro e' z8 ⟨rfl, hb⟩
    have J1 := Lib.hid (J0.out.below hb); clear hb HS
    have HS := J1.out.ld 0 rfl
    go_simp
    refine hK.out _ _ (fun _ => HS) ?_
    clear hK K
    (try simp only [Act.put]); (try simp only [List.setIfInBounds_toArray]); (try simp only [List.set_cons_succ]); (try simp only [List.set_cons_zero])
    refine anyD_take (i := 9) (v := ?v9) [10, 11, 20] rfl (by kernel_rfl) (by kernel_rfl) (by kernel_rfl) (by kernel_rfl) (by kernel_rfl) (by kernel_rfl) (fun _ _ _ h => h) (Or.inl ⟨by rfl, ?h9⟩) HS ?r9
    case h9 => intro w' hSw; (try dsimp only at hSw); go_simp; try with_reducible rfl
    (try simp only [Act.put]); (try simp only [List.setIfInBounds_toArray]); (try simp only [List.set_cons_succ]); (try simp only [List.set_cons_zero])
    refine anyD_take (i := 10) (v := ?v10) [11, 20] rfl (by kernel_rfl) (by kernel_rfl) (by kernel_rfl) (by kernel_rfl) (by kernel_rfl) (by kernel_rfl) (fun _ _ _ h => h) (Or.inl ⟨by rfl, ?h10⟩) HS ?r10
    case h10 => intro w' hSw; (try dsimp only at hSw); go_simp; try with_reducible rfl
    (try simp only [Act.put]); (try simp only [List.setIfInBounds_toArray]); (try simp only [List.set_cons_succ]); (try simp only [List.set_cons_zero])
    refine anyD_take (i := 11) (v := ?v11) [20] rfl (by kernel_rfl) (by kernel_rfl) (by kernel_rfl) (by kernel_rfl) (by kernel_rfl) (by kernel_rfl) (fun _ _ _ h => h) (Or.inl ⟨by rfl, ?h11⟩) HS ?r11
    case h11 => intro w' hSw; (try dsimp only at hSw); go_simp; try with_reducible rfl
    (try simp only [Act.put]); (try simp only [List.setIfInBounds_toArray]); (try simp only [List.set_cons_succ]); (try simp only [List.set_cons_zero])
    refine anyD_take (i := 12) (v := ?v12) [13, 19, 20] rfl (by kernel_rfl) (by kernel_rfl) (by kernel_rfl) (by kernel_rfl) (by kernel_rfl) (by kernel_rfl) (fun _ _ _ h => h) (Or.inl ⟨by rfl, ?h12⟩) HS ?r12
    case h12 => intro w' hSw; (try dsimp only at hSw); go_simp; try with_reducible rfl
    (try simp only [Act.put]); (try simp only [List.setIfInBounds_toArray]); (try simp only [List.set_cons_succ]); (try simp only [List.set_cons_zero])
    refine anyD_take (i := 13) (v := ?v13) [19, 20] rfl (by kernel_rfl) (by kernel_rfl) (by kernel_rfl) (by kernel_rfl) (by kernel_rfl) (by kernel_rfl) (fun _ _ _ h => h) (Or.inl ⟨by rfl, ?h13⟩) HS ?r13
    case h13 => intro w' hSw; (try dsimp only at hSw); go_simp; try with_reducible rfl
    (try simp only [Act.put]); (try simp only [List.setIfInBounds_toArray]); (try simp only [List.set_cons_succ]); (try simp only [List.set_cons_zero])
    refine anyD_take (i := 14) (v := ?v14) [15, 16, 17, 18, 19, 20] rfl (by kernel_rfl) (by kernel_rfl) (by kernel_rfl) (by kernel_rfl) (by kernel_rfl) (by kernel_rfl) (fun _ _ _ h => h) (Or.inl ⟨by rfl, ?h14⟩) HS ?r14
    case h14 => intro w' hSw; (try dsimp only at hSw); go_simp; try with_reducible rfl
    (try simp only [Act.put]); (try simp only [List.setIfInBounds_toArray]); (try simp only [List.set_cons_succ]); (try simp only [List.set_cons_zero])
    refine anyD_take (i := 15) (v := ?v15) [16, 17, 18, 19, 20] rfl (by kernel_rfl) (by kernel_rfl) (by kernel_rfl) (by kernel_rfl) (by kernel_rfl) (by kernel_rfl) (fun _ _ _ h => h) (Or.inl ⟨by rfl, ?h15⟩) HS ?r15
    case h15 => intro w' hSw; (try dsimp only at hSw); go_simp; try with_reducible rfl
    (try simp only [Act.put]); (try simp only [List.setIfInBounds_toArray]); (try simp only [List.set_cons_succ]); (try simp only [List.set_cons_zero])
    have J2 := Lib.hid (J1.out.alloc (.cells #[.int .u8 (bv.toNat : Int)] 5)); clear HS
    have HS := J2.out.ld 0 rfl
    refine anyD_ready (rs := [16]) (by kernel_rfl) (by simp) (AllD.cons rfl (fun K hK => ?_) AllD.nil)
    go_simp
    refine hK.out _ _ (fun _ => HS) ?_
    clear hK K
    (try simp only [Act.put]); (try simp only [List.setIfInBounds_toArray]); (try simp only [List.set_cons_succ]); (try simp only [List.set_cons_zero])
    refine anyD_ready (rs := [17]) (by kernel_rfl) (by simp) (AllD.cons rfl (fun K hK => ?_) AllD.nil)
    go_simp
    refine hK.out _ _ (fun _ => HS) ?_
    clear hK K
    (try simp only [Act.put]); (try simp only [List.setIfInBounds_toArray]); (try simp only [List.set_cons_succ]); (try simp only [List.set_cons_zero])
    refine anyD_take (i := 18) (v := ?v18) [19, 20] rfl (by kernel_rfl) (by kernel_rfl) (by kernel_rfl) (by kernel_rfl) (by kernel_rfl) (by kernel_rfl) (fun _ _ _ h => h) (Or.inl ⟨by rfl, ?h18⟩) HS ?r18
    case h18 => intro w' hSw; (try dsimp only at hSw); go_simp; try with_reducible rfl
    (try simp only [Act.put]); (try simp only [List.setIfInBounds_toArray]); (try simp only [List.set_cons_succ]); (try simp only [List.set_cons_zero])
    refine anyD_take (i := 19) (v := ?v19) [20] rfl (by kernel_rfl) (by kernel_rfl) (by kernel_rfl) (by kernel_rfl) (by kernel_rfl) (by kernel_rfl) (fun _ _ _ h => h) (Or.inl ⟨by rfl, ?h19⟩) HS ?r19
    case h19 => intro w' hSw; (try dsimp only at hSw); go_simp; try with_reducible rfl
    (try simp only [Act.put]); (try simp only [List.setIfInBounds_toArray]); (try simp only [List.set_cons_succ]); (try simp only [List.set_cons_zero])
    refine anyD_ready (rs := [20]) (by kernel_rfl) (by simp) (AllD.cons rfl (fun K hK => ?_) AllD.nil)
    go_simp
    refine hK.out _ _ (fun hn => absurd (hn 20 (by simp)) (by decide)) (anyD_late (d := 20) (by simp) _ _ _ _ (by kernel_rfl) ?_)
    clear hK K HS
    (try simp only [Act.put]); (try simp only [List.setIfInBounds_toArray]); (try simp only [List.set_cons_succ]); (try simp only [List.set_cons_zero])
    refine wpAny_done (by kernel_rfl) ?_ _
    have S5 := J2
    clear J2 J1 J0 hwu hcv hs7 hb7 hwf d12 i12 hX12 x7i HFC
    go_wp2_with fail
    obtain ⟨W, hW⟩ : ∃ W, z8.alloc (.cells #[.int .u8 (bv.toNat : Int)] 5) = W := ⟨_, rfl⟩
    rw [hW] at S5 ⊢
    clear hW
    obtain ⟨T, hT⟩ : ∃ T, X.extract 0 7 ++ ⟨#[c]⟩ ++ X.extract 8 X.size = T := ⟨_, rfl⟩
    have HTL : Hid (ls T = ls cntName ++ (putL v.toNat 1 ++ ([c] ++ R))) := Lib.hid (by
      have e1 := extract_ls X 0 7
      rw [Nat.zero_add, List.drop_zero, HX0.out, HBV.out.2] at e1
      have e2 := rest_ls X 8
      rw [HX0.out, HBV.out.2] at e2
      rw [← hT, HBV.out.2]
      have : ∀ a b : ByteArray, ls (a ++ b) = ls a ++ ls b := fun a b => by simp [ls]
      rw [this, this, e1, e2]
      simp [ls, cntName, putL])
    have HTS : Hid (T.size ≤ 140737488351232) := Lib.hid (by
      rw [← hT, ByteArray.size_append, ByteArray.size_append, ByteArray.size_extract, ByteArray.size_extract]
      have := HXS.out
      show min 7 X.size - 0 + 1 + (min X.size X.size - 8) ≤ _
      omega)
    have HRD := Lib.hid (fun x : World => cntRead_any v 1 T x HTS.out)
    have HSV : Hid ((cntR v 1 T).2 = 7 ↔ flOk v c.toNat = false) := Lib.hid (by
      rw [cntR_seven (decide_eq_true HV.out), cnF_put HV.out HTL.out]
      cases flOk v c.toNat <;> simp)
    obtain ⟨PR, hPR⟩ : ∃ r, cntR v 1 T = r := ⟨_, rfl⟩
    rw [hPR] at HRD HSV
    clear hPR HTL
    obtain ⟨rp, E⟩ := PR
    simp only at HSV
    have hz7 : (X.extract 0 7).size = 7 := by rw [ByteArray.size_extract]; omega
    have hz8 : (X.extract 8 X.size).size = X.size - 8 := by rw [ByteArray.size_extract]; omega
    have z8i : (8 : Int) ≤ (X.size : Int) := by omega
    have z8n : 8 ≤ X.size := by omega
    have hsm : ¬ (9223372036854775807 < 7 + 1 + (X.size - 8)) := by have := HXS.out; omega
    have hsx : ¬ (9223372036854775807 < X.size) := by have := HXS.out; omega
    have hcA : (convert 50 9 (.slice (some ⟨W.heap.size + 1, 0, none⟩) 1 1)).run Tryz.prog ((W.alloc (.cells (pkC pk0 hs0) PkT)).alloc (.cells #[.int .u8 (c.toNat : Int)] 5)).drew = .ok (.string ⟨#[c]⟩) ((W.alloc (.cells (pkC pk0 hs0) PkT)).alloc (.cells #[.int .u8 (c.toNat : Int)] 5)).drew :=
      conv_rd 50 9 5 Tryz.underlying50 Tryz.underlying5 Tryz.underlying9 1 ((Rd.lit (W.alloc (.cells (pkC pk0 hs0) PkT)) #[.int .u8 (c.toNat : Int)] 5 (xs := bys [c]) (by simp) (Nat.lt_succ_self _) rfl).drewN 1)
    have hcB : (convert 50 9 (.slice (some ⟨W.heap.size, 0, none⟩) 1 1)).run Tryz.prog ((W.alloc (.cells #[.int .u8 (c.toNat : Int)] 5)).alloc (.cells (pkC pk0 hs0) PkT)).drew = .ok (.string ⟨#[c]⟩) ((W.alloc (.cells #[.int .u8 (c.toNat : Int)] 5)).alloc (.cells (pkC pk0 hs0) PkT)).drew :=
      conv_rd 50 9 5 Tryz.underlying50 Tryz.underlying5 Tryz.underlying9 1 (((Rd.lit W #[.int .u8 (c.toNat : Int)] 5 (B := W.heap.size + 1) (xs := bys [c]) rfl (Nat.lt_succ_self _) rfl).alloc (by simp) _).drewN 1)
    have hc1 : (convert 50 9 (.slice (some ⟨W.heap.size, 0, none⟩) 1 1)).run Tryz.prog (W.alloc (.cells #[.int .u8 (c.toNat : Int)] 5)).drew = .ok (.string ⟨#[c]⟩) (W.alloc (.cells #[.int .u8 (c.toNat : Int)] 5)).drew :=
      conv_rd 50 9 5 Tryz.underlying50 Tryz.underlying5 Tryz.underlying9 1 ((Rd.lit W #[.int .u8 (c.toNat : Int)] 5 (B := W.heap.size + 1) (xs := bys [c]) rfl (Nat.lt_succ_self _) rfl).drewN 1)
    have HBA := Lib.hid (below_drawn (((Below.refl W.heap.size W).alloc (Nat.le_refl _) (.cells (pkC pk0 hs0) PkT)).alloc (by simp) (.cells #[.int .u8 (c.toNat : Int)] 5)) 1)
    have HBB := Lib.hid (below_drawn (((Below.refl W.heap.size W).alloc (Nat.le_refl _) (.cells #[.int .u8 (c.toNat : Int)] 5)).alloc (by simp) (.cells (pkC pk0 hs0) PkT)) 1)
    have HB1 := Lib.hid (below_drawn ((Below.refl W.heap.size W).alloc (Nat.le_refl _) (.cells #[.int .u8 (c.toNat : Int)] 5)) 1)
    go_cut [10] (fun a wx => a = .int .i64 E ∧ Below W.heap.size W wx)
    case first =>
      refine wp_region_any (by kernel_rfl) ?_
      refine wpAny_take (i := 0) (v := ?vp0) rfl (by kernel_rfl) (by kernel_rfl) (by kernel_rfl) (fun _ _ _ h => h) (Or.inl ⟨by rfl, ?hp0⟩) ?rp0
      case hp0 => intro w'; go_simp; try with_reducible rfl
      (try simp only [Act.put]); (try simp only [List.setIfInBounds_toArray]); (try simp only [List.set_cons_succ]); (try simp only [List.set_cons_zero])
      refine wpAny_take (i := 1) (v := ?vp1) rfl (by kernel_rfl) (by kernel_rfl) (by kernel_rfl) (fun _ _ _ h => h) (Or.inl ⟨by rfl, ?hp1⟩) ?rp1
      case hp1 => intro w'; go_simp; try with_reducible rfl
      (try simp only [Act.put]); (try simp only [List.setIfInBounds_toArray]); (try simp only [List.set_cons_succ]); (try simp only [List.set_cons_zero])
      refine wpAny_take (i := 2) (v := ?vp2) rfl (by kernel_rfl) (by kernel_rfl) (by kernel_rfl) (fun _ _ _ h => h) (Or.inl ⟨by rfl, ?hp2⟩) ?rp2
      case hp2 => intro w'; go_simp; try with_reducible rfl
      (try simp only [Act.put]); (try simp only [List.setIfInBounds_toArray]); (try simp only [List.set_cons_succ]); (try simp only [List.set_cons_zero])
      refine wpAny_take (i := 3) (v := ?vp3) rfl (by kernel_rfl) (by kernel_rfl) (by kernel_rfl) (fun _ _ _ h => h) (Or.inl ⟨by rfl, ?hp3⟩) ?rp3
      case hp3 => intro w'; go_simp; try with_reducible rfl
      (try simp only [Act.put]); (try simp only [List.setIfInBounds_toArray]); (try simp only [List.set_cons_succ]); (try simp only [List.set_cons_zero])
      refine wpAny_take (i := 7) (v := ?vp7) rfl (by kernel_rfl) (by kernel_rfl) (by kernel_rfl) (fun _ _ _ h => h) (Or.inl ⟨by rfl, ?hp7⟩) ?rp7
      case hp7 => intro w'; go_simp; try with_reducible rfl
      (try simp only [Act.put]); (try simp only [List.setIfInBounds_toArray]); (try simp only [List.set_cons_succ]); (try simp only [List.set_cons_zero])
      refine wpAny_take (i := 8) (v := ?vp8) rfl (by kernel_rfl) (by kernel_rfl) (by kernel_rfl) (fun _ _ _ h => h) (Or.inl ⟨by rfl, ?hp8⟩) ?rp8
      case hp8 => intro w'; go_simp; try with_reducible rfl
      (try simp only [Act.put]); (try simp only [List.setIfInBounds_toArray]); (try simp only [List.set_cons_succ]); (try simp only [List.set_cons_zero])
      refine wpAny_ready (rs := [4, 14]) (by kernel_rfl) (by simp) (allShut rfl (fun K hK => ?w4) (allShut rfl (fun K hK => ?w14) AllReady.nil))
      case w14 =>
        go_simp
        refine hK.out _ _ ?_
        clear hK K
        (try simp only [Act.put]); (try simp only [List.setIfInBounds_toArray]); (try simp only [List.set_cons_succ]); (try simp only [List.set_cons_zero])
        refine wpAny_ready (rs := [4]) (by kernel_rfl) (by simp) (allShut rfl (fun K hK => ?_) AllReady.nil)
        go_simp
        refine hK.out _ _ ?_
        clear hK K
        (try simp only [Act.put]); (try simp only [List.setIfInBounds_toArray]); (try simp only [List.set_cons_succ]); (try simp only [List.set_cons_zero])
        refine wpAny_ready (rs := [5]) (by kernel_rfl) (by simp) (allShut rfl (fun K hK => ?_) AllReady.nil)
        go_simp
        refine hK.out _ _ ?_
        clear hK K
        (try simp only [Act.put]); (try simp only [List.setIfInBounds_toArray]); (try simp only [List.set_cons_succ]); (try simp only [List.set_cons_zero])
        refine wpAny_take (i := 6) (v := ?va6) rfl (by kernel_rfl) (by kernel_rfl) (by kernel_rfl) (fun _ _ _ h => h) (Or.inl ⟨by rfl, ?ha6⟩) ?ra6
        case ha6 => intro w'; go_simp; try with_reducible rfl
        (try simp only [Act.put]); (try simp only [List.setIfInBounds_toArray]); (try simp only [List.set_cons_succ]); (try simp only [List.set_cons_zero])
        refine wpAny_take (i := 9) (v := ?va9) rfl (by kernel_rfl) (by kernel_rfl) (by kernel_rfl) (fun _ _ _ h => h) (Or.inl ⟨by rfl, ?ha9⟩) ?ra9
        case ha9 => intro w'; go_simp; try with_reducible rfl
        (try simp only [Act.put]); (try simp only [List.setIfInBounds_toArray]); (try simp only [List.set_cons_succ]); (try simp only [List.set_cons_zero])
        refine wpAny_ready (rs := [10]) (by kernel_rfl) (by simp) (allShut rfl (fun K hK => ?_) AllReady.nil)
        go_simp
        go_at_call 43
        (try rw [hT])
        refine (HRD.out _).mono ?_
        rintro e' zz ⟨kr, rfl, hi, hbR⟩
        have HBR := Lib.hid (HBA.out.trans (hbR.mono HBA.out.size))
        have hst := run_stPk ((((Bk.fresh W PkT (pkC pk0 hs0)).alloc (.cells #[.int .u8 (c.toNat : Int)] 5)).drewN 1).below hbR (by first | omega | (simp; done) | (simp; omega)))
        go_simp
        refine hK.out _ _ ?_
        clear hK K
        (try simp only [Act.put]); (try simp only [List.setIfInBounds_toArray]); (try simp only [List.set_cons_succ]); (try simp only [List.set_cons_zero])
        refine wpAny_take (i := 11) (v := ?va11) rfl (by kernel_rfl) (by kernel_rfl) (by kernel_rfl) (fun _ _ _ h => h) (Or.inl ⟨by rfl, ?ha11⟩) ?ra11
        case ha11 => intro w'; go_simp; try with_reducible rfl
        (try simp only [Act.put]); (try simp only [List.setIfInBounds_toArray]); (try simp only [List.set_cons_succ]); (try simp only [List.set_cons_zero])
        refine wpAny_take (i := 12) (v := ?va12) rfl (by kernel_rfl) (by kernel_rfl) (by kernel_rfl) (fun _ _ _ h => h) (Or.inl ⟨by rfl, ?ha12⟩) ?ra12
        case ha12 => intro w'; go_simp; try with_reducible rfl
        (try simp only [Act.put]); (try simp only [List.setIfInBounds_toArray]); (try simp only [List.set_cons_succ]); (try simp only [List.set_cons_zero])
        refine wpAny_take (i := 13) (v := ?va13) rfl (by kernel_rfl) (by kernel_rfl) (by kernel_rfl) (fun _ _ _ h => h) (Or.inl ⟨by rfl, ?ha13⟩) ?ra13
        case ha13 => intro w'; go_simp; try with_reducible rfl
        (try simp only [Act.put]); (try simp only [List.setIfInBounds_toArray]); (try simp only [List.set_cons_succ]); (try simp only [List.set_cons_zero])
        refine wpAny_ready (rs := [15]) (by kernel_rfl) (by simp) (allShut rfl (fun K hK => ?_) AllReady.nil)
        go_simp
        refine hK.out _ _ ?_
        clear hK K
        (try simp only [Act.put]); (try simp only [List.setIfInBounds_toArray]); (try simp only [List.set_cons_succ]); (try simp only [List.set_cons_zero])
        refine wpAny_ready (rs := [16]) (by kernel_rfl) (by simp) (allShut rfl (fun K hK => ?_) AllReady.nil)
        go_simp
        refine hK.out _ _ ?_
        clear hK K
        (try simp only [Act.put]); (try simp only [List.setIfInBounds_toArray]); (try simp only [List.set_cons_succ]); (try simp only [List.set_cons_zero])
        refine wpAny_done (by kernel_rfl) ?_ _
        go_wp2
        go_meet
        case rel => exact ⟨rfl, below_put HBR.out HBR.out.size (by omega) _ _⟩
      case w4 =>
        go_simp
        refine hK.out _ _ ?_
        clear hK K
        (try simp only [Act.put]); (try simp only [List.setIfInBounds_toArray]); (try simp only [List.set_cons_succ]); (try simp only [List.set_cons_zero])
        refine wpAny_ready (rs := [5, 14]) (by kernel_rfl) (by simp) (allShut rfl (fun K hK => ?w5) (allShut rfl (fun K hK => ?w14b) AllReady.nil))
        case w14b =>
          go_simp
          refine hK.out _ _ ?_
          clear hK K
          (try simp only [Act.put]); (try simp only [List.setIfInBounds_toArray]); (try simp only [List.set_cons_succ]); (try simp only [List.set_cons_zero])
          refine wpAny_ready (rs := [5]) (by kernel_rfl) (by simp) (allShut rfl (fun K hK => ?_) AllReady.nil)
          go_simp
          refine hK.out _ _ ?_
          clear hK K
          (try simp only [Act.put]); (try simp only [List.setIfInBounds_toArray]); (try simp only [List.set_cons_succ]); (try simp only [List.set_cons_zero])
          refine wpAny_take (i := 6) (v := ?vb6) rfl (by kernel_rfl) (by kernel_rfl) (by kernel_rfl) (fun _ _ _ h => h) (Or.inl ⟨by rfl, ?hb6⟩) ?rb6
          case hb6 => intro w'; go_simp; try with_reducible rfl
          (try simp only [Act.put]); (try simp only [List.setIfInBounds_toArray]); (try simp only [List.set_cons_succ]); (try simp only [List.set_cons_zero])
          refine wpAny_take (i := 9) (v := ?vb9) rfl (by kernel_rfl) (by kernel_rfl) (by kernel_rfl) (fun _ _ _ h => h) (Or.inl ⟨by rfl, ?hb9⟩) ?rb9
          case hb9 => intro w'; go_simp; try with_reducible rfl
          (try simp only [Act.put]); (try simp only [List.setIfInBounds_toArray]); (try simp only [List.set_cons_succ]); (try simp only [List.set_cons_zero])
          refine wpAny_ready (rs := [10]) (by kernel_rfl) (by simp) (allShut rfl (fun K hK => ?_) AllReady.nil)
          go_simp
          go_at_call 43
          (try rw [hT])
          refine (HRD.out _).mono ?_
          rintro e' zz ⟨kr, rfl, hi, hbR⟩
          have HBR := Lib.hid (HBB.out.trans (hbR.mono HBB.out.size))
          have hst := run_stPk (((by simpa using Bk.fresh (W.alloc (.cells #[.int .u8 (c.toNat : Int)] 5)) PkT (pkC pk0 hs0) : Bk ((W.alloc (.cells #[.int .u8 (c.toNat : Int)] 5)).alloc (.cells (pkC pk0 hs0) PkT)) (W.heap.size + 1) PkT (pkC pk0 hs0)).drewN 1).below hbR (by first | omega | (simp; done) | (simp; omega)))
          go_simp
          refine hK.out _ _ ?_
          clear hK K
          (try simp only [Act.put]); (try simp only [List.setIfInBounds_toArray]); (try simp only [List.set_cons_succ]); (try simp only [List.set_cons_zero])
          refine wpAny_take (i := 11) (v := ?vb11) rfl (by kernel_rfl) (by kernel_rfl) (by kernel_rfl) (fun _ _ _ h => h) (Or.inl ⟨by rfl, ?hb11⟩) ?rb11
          case hb11 => intro w'; go_simp; try with_reducible rfl
          (try simp only [Act.put]); (try simp only [List.setIfInBounds_toArray]); (try simp only [List.set_cons_succ]); (try simp only [List.set_cons_zero])
          refine wpAny_take (i := 12) (v := ?vb12) rfl (by kernel_rfl) (by kernel_rfl) (by kernel_rfl) (fun _ _ _ h => h) (Or.inl ⟨by rfl, ?hb12⟩) ?rb12
          case hb12 => intro w'; go_simp; try with_reducible rfl
          (try simp only [Act.put]); (try simp only [List.setIfInBounds_toArray]); (try simp only [List.set_cons_succ]); (try simp only [List.set_cons_zero])
          refine wpAny_take (i := 13) (v := ?vb13) rfl (by kernel_rfl) (by kernel_rfl) (by kernel_rfl) (fun _ _ _ h => h) (Or.inl ⟨by rfl, ?hb13⟩) ?rb13
          case hb13 => intro w'; go_simp; try with_reducible rfl
          (try simp only [Act.put]); (try simp only [List.setIfInBounds_toArray]); (try simp only [List.set_cons_succ]); (try simp only [List.set_cons_zero])
          refine wpAny_ready (rs := [15]) (by kernel_rfl) (by simp) (allShut rfl (fun K hK => ?_) AllReady.nil)
          go_simp
          refine hK.out _ _ ?_
          clear hK K
          (try simp only [Act.put]); (try simp only [List.setIfInBounds_toArray]); (try simp only [List.set_cons_succ]); (try simp only [List.set_cons_zero])
          refine wpAny_ready (rs := [16]) (by kernel_rfl) (by simp) (allShut rfl (fun K hK => ?_) AllReady.nil)
          go_simp
          refine hK.out _ _ ?_
          clear hK K
          (try simp only [Act.put]); (try simp only [List.setIfInBounds_toArray]); (try simp only [List.set_cons_succ]); (try simp only [List.set_cons_zero])
          refine wpAny_done (by kernel_rfl) ?_ _
          go_wp2
          go_meet
          case rel => exact ⟨rfl, below_put HBR.out HBR.out.size (by omega) _ _⟩
        case w5 =>
          go_simp
          refine hK.out _ _ ?_
          clear hK K
          (try simp only [Act.put]); (try simp only [List.setIfInBounds_toArray]); (try simp only [List.set_cons_succ]); (try simp only [List.set_cons_zero])
          refine wpAny_take (i := 6) (v := ?ve6) rfl (by kernel_rfl) (by kernel_rfl) (by kernel_rfl) (fun _ _ _ h => h) (Or.inl ⟨by rfl, ?he6⟩) ?re6
          case he6 => intro w'; go_simp; try with_reducible rfl
          (try simp only [Act.put]); (try simp only [List.setIfInBounds_toArray]); (try simp only [List.set_cons_succ]); (try simp only [List.set_cons_zero])
          refine wpAny_take (i := 9) (v := ?ve9) rfl (by kernel_rfl) (by kernel_rfl) (by kernel_rfl) (fun _ _ _ h => h) (Or.inl ⟨by rfl, ?he9⟩) ?re9
          case he9 => intro w'; go_simp; try with_reducible rfl
          (try simp only [Act.put]); (try simp only [List.setIfInBounds_toArray]); (try simp only [List.set_cons_succ]); (try simp only [List.set_cons_zero])
          refine wpAny_ready (rs := [10, 14]) (by kernel_rfl) (by simp) (allShut rfl (fun K hK => ?w10) (allShut rfl (fun K hK => ?w14c) AllReady.nil))
          case w14c =>
            go_simp
            refine hK.out _ _ ?_
            clear hK K
            (try simp only [Act.put]); (try simp only [List.setIfInBounds_toArray]); (try simp only [List.set_cons_succ]); (try simp only [List.set_cons_zero])
            refine wpAny_ready (rs := [10]) (by kernel_rfl) (by simp) (allShut rfl (fun K hK => ?_) AllReady.nil)
            go_simp
            go_at_call 43
            (try rw [hT])
            refine (HRD.out _).mono ?_
            rintro e' zz ⟨kr, rfl, hi, hbR⟩
            have HBR := Lib.hid (HBB.out.trans (hbR.mono HBB.out.size))
            have hst := run_stPk (((by simpa using Bk.fresh (W.alloc (.cells #[.int .u8 (c.toNat : Int)] 5)) PkT (pkC pk0 hs0) : Bk ((W.alloc (.cells #[.int .u8 (c.toNat : Int)] 5)).alloc (.cells (pkC pk0 hs0) PkT)) (W.heap.size + 1) PkT (pkC pk0 hs0)).drewN 1).below hbR (by first | omega | (simp; done) | (simp; omega)))
            go_simp
            refine hK.out _ _ ?_
            clear hK K
            (try simp only [Act.put]); (try simp only [List.setIfInBounds_toArray]); (try simp only [List.set_cons_succ]); (try simp only [List.set_cons_zero])
            refine wpAny_take (i := 11) (v := ?vc11) rfl (by kernel_rfl) (by kernel_rfl) (by kernel_rfl) (fun _ _ _ h => h) (Or.inl ⟨by rfl, ?hc11⟩) ?rc11
            case hc11 => intro w'; go_simp; try with_reducible rfl
            (try simp only [Act.put]); (try simp only [List.setIfInBounds_toArray]); (try simp only [List.set_cons_succ]); (try simp only [List.set_cons_zero])
            refine wpAny_take (i := 12) (v := ?vc12) rfl (by kernel_rfl) (by kernel_rfl) (by kernel_rfl) (fun _ _ _ h => h) (Or.inl ⟨by rfl, ?hc12⟩) ?rc12
            case hc12 => intro w'; go_simp; try with_reducible rfl
            (try simp only [Act.put]); (try simp only [List.setIfInBounds_toArray]); (try simp only [List.set_cons_succ]); (try simp only [List.set_cons_zero])
            refine wpAny_take (i := 13) (v := ?vc13) rfl (by kernel_rfl) (by kernel_rfl) (by kernel_rfl) (fun _ _ _ h => h) (Or.inl ⟨by rfl, ?hc13⟩) ?rc13
            case hc13 => intro w'; go_simp; try with_reducible rfl
            (try simp only [Act.put]); (try simp only [List.setIfInBounds_toArray]); (try simp only [List.set_cons_succ]); (try simp only [List.set_cons_zero])
            refine wpAny_ready (rs := [15]) (by kernel_rfl) (by simp) (allShut rfl (fun K hK => ?_) AllReady.nil)
            go_simp
            refine hK.out _ _ ?_
            clear hK K
            (try simp only [Act.put]); (try simp only [List.setIfInBounds_toArray]); (try simp only [List.set_cons_succ]); (try simp only [List.set_cons_zero])
            refine wpAny_ready (rs := [16]) (by kernel_rfl) (by simp) (allShut rfl (fun K hK => ?_) AllReady.nil)
            go_simp
            refine hK.out _ _ ?_
            clear hK K
            (try simp only [Act.put]); (try simp only [List.setIfInBounds_toArray]); (try simp only [List.set_cons_succ]); (try simp only [List.set_cons_zero])
            refine wpAny_done (by kernel_rfl) ?_ _
            go_wp2
            go_meet
            case rel => exact ⟨rfl, below_put HBR.out HBR.out.size (by omega) _ _⟩
          case w10 =>
            go_simp
            go_at_call 43
            (try rw [hT])
            refine (HRD.out _).mono ?_
            rintro e' zz ⟨kr, rfl, hi, hbR⟩
            have HBR := Lib.hid (HB1.out.trans (hbR.mono HB1.out.size))
            go_simp
            refine hK.out _ _ ?_
            clear hK K
            (try simp only [Act.put]); (try simp only [List.setIfInBounds_toArray]); (try simp only [List.set_cons_succ]); (try simp only [List.set_cons_zero])
            refine wpAny_take (i := 11) (v := ?vd11) rfl (by kernel_rfl) (by kernel_rfl) (by kernel_rfl) (fun _ _ _ h => h) (Or.inl ⟨by rfl, ?hd11⟩) ?rd11
            case hd11 => intro w'; go_simp; try with_reducible rfl
            (try simp only [Act.put]); (try simp only [List.setIfInBounds_toArray]); (try simp only [List.set_cons_succ]); (try simp only [List.set_cons_zero])
            refine wpAny_take (i := 12) (v := ?vd12) rfl (by kernel_rfl) (by kernel_rfl) (by kernel_rfl) (fun _ _ _ h => h) (Or.inl ⟨by rfl, ?hd12⟩) ?rd12
            case hd12 => intro w'; go_simp; try with_reducible rfl
            (try simp only [Act.put]); (try simp only [List.setIfInBounds_toArray]); (try simp only [List.set_cons_succ]); (try simp only [List.set_cons_zero])
            refine wpAny_take (i := 13) (v := ?vd13) rfl (by kernel_rfl) (by kernel_rfl) (by kernel_rfl) (fun _ _ _ h => h) (Or.inl ⟨by rfl, ?hd13⟩) ?rd13
            case hd13 => intro w'; go_simp; try with_reducible rfl
            (try simp only [Act.put]); (try simp only [List.setIfInBounds_toArray]); (try simp only [List.set_cons_succ]); (try simp only [List.set_cons_zero])
            refine wpAny_ready (rs := [14]) (by kernel_rfl) (by simp) (allShut rfl (fun K hK => ?_) AllReady.nil)
            go_simp
            refine hK.out _ _ ?_
            clear hK K
            (try simp only [Act.put]); (try simp only [List.setIfInBounds_toArray]); (try simp only [List.set_cons_succ]); (try simp only [List.set_cons_zero])
            refine wpAny_ready (rs := [15]) (by kernel_rfl) (by simp) (allShut rfl (fun K hK => ?_) AllReady.nil)
            go_simp
            refine hK.out _ _ ?_
            clear hK K
            (try simp only [Act.put]); (try simp only [List.setIfInBounds_toArray]); (try simp only [List.set_cons_succ]); (try simp only [List.set_cons_zero])
            refine wpAny_ready (rs := [16]) (by kernel_rfl) (by simp) (allShut rfl (fun K hK => ?_) AllReady.nil)
            go_simp
            refine hK.out _ _ ?_
            clear hK K
            (try simp only [Act.put]); (try simp only [List.setIfInBounds_toArray]); (try simp only [List.set_cons_succ]); (try simp only [List.set_cons_zero])
            refine wpAny_done (by kernel_rfl) ?_ _
            go_wp2
            go_meet
            case rel => exact ⟨rfl, HBR.out.alloc HBR.out.size _⟩
    case rest =>
      obtain ⟨rfl, hbx⟩ := hcut
      have S6 := Lib.hid (S5.out.below hbx)
      clear hbx hcA hcB hc1 HBA HBB HB1 hsm hz7 hz8 HRD
      have HC := Lib.hid c.toNat_lt
      obtain ⟨b1, m1⟩ : ∃ b, ((c.toNat : Int) % 2 == 1) = b := ⟨_, rfl⟩
      obtain ⟨b3, m3⟩ : ∃ b, ((c.toNat : Int) / 8 % 4 == 3) = b := ⟨_, rfl⟩
      obtain ⟨b4, m4⟩ : ∃ b, ((c.toNat : Int) / 4 % 2 == 1) = b := ⟨_, rfl⟩
      obtain ⟨b8, m8⟩ : ∃ b, ((c.toNat : Int) / 8 % 8 != 0) = b := ⟨_, rfl⟩
      obtain ⟨b64, m64⟩ : ∃ b, ((c.toNat : Int) / 64 % 256 == 1) = b := ⟨_, rfl⟩
      obtain ⟨bv4, mv4⟩ : ∃ b, (v == 4) = b := ⟨_, rfl⟩
      have HW : Hid ((E == 7) = (b1 || b3 || (!b4 && b8) || (bv4 && b64))) := Lib.hid (by
        have h1 : (E == 7) = wrongB v c.toNat := by
          rw [wrong_fl HV.out HC.out, Bool.eq_iff_iff, beq_iff_eq, HSV.out]
          cases flOk v c.toNat <;> simp
        have hc := HC.out
        have q1 : decide (c.toNat % 2 = 1) = b1 := by rw [← m1, Bool.eq_iff_iff, decide_eq_true_iff, beq_iff_eq]; omega
        have q3 : decide (c.toNat / 8 % 4 = 3) = b3 := by rw [← m3, Bool.eq_iff_iff, decide_eq_true_iff, beq_iff_eq]; omega
        have q4 : decide (c.toNat / 4 % 2 = 1) = b4 := by rw [← m4, Bool.eq_iff_iff, decide_eq_true_iff, beq_iff_eq]; omega
        have q8 : decide (c.toNat / 8 % 8 ≠ 0) = b8 := by rw [← m8, Bool.eq_iff_iff, decide_eq_true_iff, bne_iff_ne]; omega
        have q64 : decide (c.toNat / 64 = 1) = b64 := by rw [← m64, Bool.eq_iff_iff, decide_eq_true_iff, beq_iff_eq]; omega
        have qv : decide (v = 4) = bv4 := mv4
        rw [h1]
        unfold wrongB
        rw [q1, q3, q4, q8, q64, qv])
      clear HSV HC
      cases b1
      · cases b3
        · cases b4
          · cases b8
            · cases bv4
              · have hE7 : (E == 7) = false := HW.out.trans rfl
                go_wp2
                go_roundw
                case rel => exact ⟨k + 1, by have := HLT.out; omega, by go_num, S6.out⟩
                case measure => have := HLT.out; simp [intOf]; omega
              · cases b64
                · have hE7 : (E == 7) = false := HW.out.trans rfl
                  go_wp2
                  go_roundw
                  case rel => exact ⟨k + 1, by have := HLT.out; omega, by go_num, S6.out⟩
                  case measure => have := HLT.out; simp [intOf]; omega
                · have hE7 : (E == 7) = true := HW.out.trans rfl
                  go_wp2
                  go_roundw
                  case rel => exact ⟨k + 1, by have := HLT.out; omega, by go_num, S6.out⟩
                  case measure => have := HLT.out; simp [intOf]; omega
            · have hE7 : (E == 7) = true := HW.out.trans rfl
              go_wp2
              go_roundw
              case rel => exact ⟨k + 1, by have := HLT.out; omega, by go_num, S6.out⟩
              case measure => have := HLT.out; simp [intOf]; omega
          · cases bv4
            · have hE7 : (E == 7) = false := HW.out.trans rfl
              go_wp2
              go_roundw
              case rel => exact ⟨k + 1, by have := HLT.out; omega, by go_num, S6.out⟩
              case measure => have := HLT.out; simp [intOf]; omega
            · cases b64
              · have hE7 : (E == 7) = false := HW.out.trans rfl
                go_wp2
                go_roundw
                case rel => exact ⟨k + 1, by have := HLT.out; omega, by go_num, S6.out⟩
                case measure => have := HLT.out; simp [intOf]; omega
              · have hE7 : (E == 7) = true := HW.out.trans rfl
                go_wp2
                go_roundw
                case rel => exact ⟨k + 1, by have := HLT.out; omega, by go_num, S6.out⟩
                case measure => have := HLT.out; simp [intOf]; omega
        · have hE7 : (E == 7) = true := HW.out.trans rfl
          go_wp2
          go_roundw
          case rel => exact ⟨k + 1, by have := HLT.out; omega, by go_num, S6.out⟩
          case measure => have := HLT.out; simp [intOf]; omega
      · have hE7 : (E == 7) = true := HW.out.trans rfl
        go_wp2
        go_roundw
        case rel => exact ⟨k + 1, by have := HLT.out; omega, by go_num, S6.out⟩
        case measure => have := HLT.out; simp [intOf]; omega
theorem u8_range {n : Int} (h : (Lit.int IntKind.u8 n).wf = true) : 0 ≤ n ∧ n < 256 := by
  simp [Lit.wf, IntKind.min, IntKind.max, IntKind.bits, IntKind.signed] at h
  omega
theorem connectFlags_int (p : Pk) (h : Hs) (a : Int) (w : World) (ip : PkIn w w.heap.size p h) (ok : PkOk p) (ha : (Lit.int IntKind.u8 a).wf = true) :
    Calls Tryz.prog 9 #[pkV p h, .int .u8 a] w fun e w' => e = .returned (.bool true) ∧ Below w.heap.size w w' := by
  have := u8_range ha
  have e : a = ((UInt8.ofNat a.toNat).toNat : Int) := by rw [UInt8.toNat_ofNat']; omega
  rw [e]
  exact connectFlags_any p h _ w ip ok
end Go.Proofs.YtceniaklabiadaaGreat
