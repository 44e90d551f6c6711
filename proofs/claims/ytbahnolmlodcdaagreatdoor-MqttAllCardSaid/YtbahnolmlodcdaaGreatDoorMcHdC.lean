/- A part of what the laws stand on: HdC, ConB, ConC. -/
import Derived.Test.YtbahnolmlodcdaaGreatDoorMcHdP
import Derived.Laws.ResultCell
import Derived.Laws.Rows
import Derived.Test.YtbahnolmlodcdaaGreatDoorMcConA
import Derived.Test.YtbahnolmlodcdaaGreatDoorMcMLis
import Derived.Test.YtbahnolmlodcdaaGreatDoorMcMTai
namespace Go.Proofs.YtbahnolmlodcdaaGreatDoor
open Go.RowKit

theorem varL_pos (n : Nat) : 0 < (varL n).length := by
  unfold varL varF
  split <;> simp
set_option maxHeartbeats 1000000 in
set_option maxRecDepth 10000 in
theorem varSize_any (n : Nat) (w : World) (hn : n ≤ 268435455) : Calls Tryz.prog 169 #[.int .i64 n] w fun e w' => e = .returned (.int .i64 (varL n).length) ∧ Below w.heap.size w w' := by
  have hm : Hid (mayV n = true) := by show _ = _; simp [mayV]; omega
  have HB := Lib.hid (Below.refl w.heap.size w)
  go_enter Tryz.func169, Tryz.ntmps169
  go_wp2_with fail
  refine (mayV_any n _).mono ?_
  rintro e w1 ⟨rfl, rfl⟩
  rw [hm.out]
  go_wp2
  go_loopw [0, 3] (fun v o wr => ∃ (m f j : Nat), f ≤ 3 ∧ m < 128 ^ (f + 1) ∧ j + f = 4 ∧ v = .int .i64 m ∧ o = .int .i64 j ∧ (varL n).length + 1 = j + (varF f m).length ∧ Below w.heap.size w wr) (fun v _ _ => (intOf v).toNat)
  case atStart => exact ⟨n, 3, 1, by omega, by simp; omega, by omega, rfl, rfl, by show _ = 1 + (varL n).length; omega, HB.out⟩
  case round =>
    obtain ⟨m, f, j, hf, hmf, hj, rfl, rfl, hv, hbel⟩ := hrel
    have HV := Lib.hid hv; have HBE := Lib.hid hbel; have HMF := Lib.hid hmf; have HJ := Lib.hid hj
    have hj4 : j ≤ 4 := by omega
    have hm2 : m < 268435456 := by
      have : 128 ^ (f + 1) ≤ 128 ^ 4 := Nat.pow_le_pow_right (by omega) (by omega)
      have h4 : (128 : Nat) ^ 4 = 268435456 := by decide
      omega
    clear hv hbel hmf hj hm
    by_cases hge : 128 ≤ m
    · have hge' : (128 : Int) ≤ (m : Int) := by omega
      have HR : Hid (∃ f', f = f' + 1 ∧ m / 128 < 128 ^ (f' + 1) ∧ (varF f m).length = 1 + (varF f' (m / 128)).length) := Lib.hid (by
        have h1 := HMF.out
        rcases Nat.eq_zero_or_pos f with rfl | h
        · simp at h1; omega
        · obtain ⟨f', rfl⟩ : ∃ f', f = f' + 1 := ⟨f - 1, by omega⟩
          refine ⟨f', rfl, ?_, ?_⟩
          · rw [Nat.pow_succ] at h1
            exact Nat.div_lt_of_lt_mul (by rw [Nat.mul_comm]; exact h1)
          · rw [varF, if_neg (by omega), List.length_cons, Nat.add_comm])
      go_wp2
      go_roundw
      case rel =>
        obtain ⟨f', h0, h1, h2⟩ := HR.out
        exact ⟨m / 128, f', j + 1, by omega, h1, by have := HJ.out; omega, by simp, by simp, by rw [HV.out, h2]; omega, HBE.out⟩
      case measure => simp [intOf]; omega
    · have hlt : (m : Int) < 128 := by omega
      have HF : Hid ((varL n).length = j) := Lib.hid (by
        have : (varF f m).length = 1 := by
          cases f with
          | zero => rfl
          | succ f => rw [varF, if_pos (by omega)]; rfl
        have := HV.out
        omega)
      go_wp2
      go_ret
      exact ⟨by rw [HF.out]; rfl, HBE.out⟩

set_option maxHeartbeats 400000 in
set_option maxRecDepth 10000 in
theorem hdFlagged_any (k f : Int) (w : World) : Calls Tryz.prog 168 #[.int .i64 k, .int .i64 f] w fun e w' => e = .returned (.bool (hdFlagged k f)) ∧ w = w' := by
  by_cases h3 : k = 3
  · subst h3
    rw [show hdFlagged 3 f = hdFlag3 f from if_pos rfl]
    exact hdFlag3_any f w
  · have HE : Hid (hdFlagged k f = decide (f = hdFixed k)) := Lib.hid (if_neg h3)
    have e3 : (k != 3) = true := bne_iff_ne.2 h3
    clear h3
    go_enter Tryz.func168, Tryz.ntmps168
    go_wp2_with fail
    refine (hdFixed_any k _).mono ?_
    rintro e w1 ⟨rfl, rfl⟩
    go_wp2
    go_ret
    refine ⟨ret_bool ?_, rfl⟩
    rw [HE.out]
    by_cases e : f = hdFixed k <;> simp [e]

set_option maxHeartbeats 1000000 in
set_option maxRecDepth 10000 in
theorem hdCheck_any (v k f : Int) (n : Nat) (w : World) (hn : n ≤ 268435455) : Calls Tryz.prog 123 #[.int .i64 v, hdrV ⟨k, f, n⟩] w fun e w' => e = .returned (.int .i64 (hdChk v k f)) ∧ Below w.heap.size w w' := by
  have HE : Hid (hdChk v k f = if hdKnown v = false then 2 else if hdKinds v k = false then 8 else if hdFlagged k f = false then 7 else 0) := Lib.hid rfl
  have HB := Lib.hid ((Below.refl w.heap.size w).alloc (Nat.le_refl _) (.cells #[.int .i64 k, .int .i64 f, .int .i64 n] 44))
  have HN := Lib.hid hn
  have HP : Hid (0 < (varL n).length) := Lib.hid (varL_pos n)
  clear hn
  show Calls _ _ #[.int .i64 v, .agg #[.int .i64 k, .int .i64 f, .int .i64 n]] _ _
  go_enter Tryz.func123, Tryz.ntmps123
  go_wp2_with fail
  refine (hdKnown_any v _).mono ?_
  rintro e w1 ⟨rfl, rfl⟩
  cases hk : hdKnown v
  · have HX : Hid (hdChk v k f = 2) := Lib.hid (by rw [HE.out, if_pos hk])
    clear hk
    go_wp2
    go_ret
    exact ⟨by rw [HX.out]; rfl, HB.out⟩
  have HE1 : Hid (hdChk v k f = if hdKinds v k = false then 8 else if hdFlagged k f = false then 7 else 0) := Lib.hid (by rw [HE.out, if_neg (fun x => by rw [hk] at x; cases x)])
  clear hk HE
  have k1 : (w.alloc (.cells #[.int .i64 k, .int .i64 f, .int .i64 n] 44)).cell? ⟨w.heap.size, 0, none⟩ = some (.int .i64 k) := (Bk.fresh w 44 _).cell 0
  have k2 : (w.alloc (.cells #[.int .i64 k, .int .i64 f, .int .i64 n] 44)).cell? ⟨w.heap.size, 1, none⟩ = some (.int .i64 f) := (Bk.fresh w 44 _).cell 1
  have k3 : (w.alloc (.cells #[.int .i64 k, .int .i64 f, .int .i64 n] 44)).cell? ⟨w.heap.size, 2, none⟩ = some (.int .i64 n) := (Bk.fresh w 44 _).cell 2
  go_wp2_with fail
  refine (hdKinds_any v k _).mono ?_
  rintro e w1 ⟨rfl, rfl⟩
  cases hk : hdKinds v k
  · have HX : Hid (hdChk v k f = 8) := Lib.hid (by rw [HE1.out, if_pos hk])
    clear hk
    go_wp2
    go_ret
    exact ⟨by rw [HX.out]; rfl, HB.out⟩
  have HE2 : Hid (hdChk v k f = if hdFlagged k f = false then 7 else 0) := Lib.hid (by rw [HE1.out, if_neg (fun x => by rw [hk] at x; cases x)])
  clear hk HE1
  go_wp2_with fail
  refine (hdFlagged_any k f _).mono ?_
  rintro e w1 ⟨rfl, rfl⟩
  cases hk : hdFlagged k f
  · have HX : Hid (hdChk v k f = 7) := Lib.hid (by rw [HE2.out, if_pos hk])
    clear hk
    go_wp2
    go_ret
    exact ⟨by rw [HX.out]; rfl, HB.out⟩
  have HX : Hid (hdChk v k f = 0) := Lib.hid (by rw [HE2.out, if_neg (fun x => by rw [hk] at x; cases x)])
  clear hk HE2
  go_wp2_with fail
  refine (varSize_any n _ HN.out).mono ?_
  rintro e w1 ⟨rfl, hb⟩
  have HB2 := Lib.hid (HB.out.trans (hb.mono HB.out.size)); clear hb
  obtain ⟨m, hm⟩ : ∃ m, (varL n).length = m := ⟨_, rfl⟩
  have hp := HP.out
  rw [hm] at hp ⊢
  have e0 : ((m : Int) == 0) = false := beq_eq_false_iff_ne.2 (by omega)
  clear hm HP hp
  go_wp2
  go_ret
  exact ⟨by rw [HX.out]; rfl, HB2.out⟩
theorem hd_or (k f : Nat) (hk : k ≤ 15) (hf : f ≤ 15) : IntKind.u64.wrap (bits BinOp.or IntKind.i64 ((k : Int) * 16) (f : Int)) = ((16 * k + f : Nat) : Int) := by
  have h1 := int_or (k * 16) f (by omega) (by omega)
  have h2 : k * 16 ||| f = 16 * k + f := by
    have := Nat.two_pow_add_eq_or_of_lt (i := 4) (b := f) (by omega) k
    rw [Nat.mul_comm k 16]
    exact this.symm
  rw [show ((k : Int) * 16) = ((k * 16 : Nat) : Int) by omega, h1, h2]
  simp [IntKind.wrap, IntKind.bits, IntKind.signed]
  omega
/-- A header's bytes, or Check's error. -/
def hdB (v k f : Int) (n : Nat) : List UInt8 × Int := if hdChk v k f = 0 then (hdS k f n, 0) else ([], hdChk v k f)
set_option maxHeartbeats 1000000 in
set_option maxRecDepth 10000 in
theorem hdBytes_any (v k f : Int) (n : Nat) (w : World) (hn : n ≤ 268435455) : Calls Tryz.prog 78 #[.int .i64 v, hdrV ⟨k, f, n⟩] w fun e w' => e = .returned (.tuple #[.string ⟨(hdB v k f n).1.toArray⟩, .int .i64 (hdB v k f n).2]) ∧ Below w.heap.size w w' := by
  have HB := Lib.hid ((Below.refl w.heap.size w).alloc (Nat.le_refl _) (.cells #[.int .i64 k, .int .i64 f, .int .i64 n] 44))
  have HK := Lib.hid (Bk.fresh w 44 #[.int .i64 k, .int .i64 f, .int .i64 n])
  have HN := Lib.hid hn
  have HCK := Lib.hid (fun W => hdCheck_any v k f n W hn)
  clear hn
  show Calls _ _ #[.int .i64 v, .agg #[.int .i64 k, .int .i64 f, .int .i64 n]] _ _
  simp only [hdrV] at HCK
  go_enter Tryz.func78, Tryz.ntmps78
  go_wp2_with fail
  refine (HCK.out _).mono ?_
  rintro e w1 ⟨rfl, hb⟩
  have HB1 := Lib.hid (HB.out.trans (hb.mono HB.out.size))
  have HK1 := Lib.hid (HK.out.below hb HK.out.lt)
  clear hb HB HK HCK
  by_cases h0 : hdChk v k f = 0
  rotate_left
  · have HX : Hid (hdB v k f n = ([], hdChk v k f)) := Lib.hid (if_neg h0)
    generalize hdChk v k f = x at *
    have e0 : (x != 0) = true := bne_iff_ne.2 h0
    clear h0
    go_wp2
    go_ret2
    exact ⟨by rw [HX.out]; rfl, HB1.out⟩
  have HX : Hid (hdB v k f n = (hdS k f n, 0)) := Lib.hid (if_pos h0)
  obtain ⟨h1, h2, h3⟩ := hdChk_ok.1 h0
  have r1 := kinds_range h2
  have r2 := flagged_range h3
  rw [h0]
  clear h0 h1 h2 h3
  obtain ⟨kn, rfl⟩ : ∃ kn : Nat, k = kn := ⟨k.toNat, by omega⟩
  obtain ⟨fn, rfl⟩ : ∃ fn : Nat, f = fn := ⟨f.toNat, by omega⟩
  have c0 := HK1.out.cell 0; have c1 := HK1.out.cell 1; have c2 := HK1.out.cell 2
  simp only [List.getElem?_toArray, List.getElem?_cons_succ, List.getElem?_cons_zero] at c0 c1 c2
  go_wp2_with fail
  refine (varBytes_any n _ HN.out).mono ?_
  rintro e w2 ⟨rfl, hb⟩
  have HB2 := Lib.hid (HB1.out.trans (hb.mono HB1.out.size))
  have HK2 := Lib.hid (HK1.out.below hb HK1.out.lt)
  clear hb c0 c1 c2
  have c0 := HK2.out.cell 0; have c1 := HK2.out.cell 1
  simp only [List.getElem?_toArray, List.getElem?_cons_succ, List.getElem?_cons_zero] at c0 c1
  have hor := hd_or kn fn (by omega) (by omega)
  have HPT := Lib.hid (fun W => put_any (16 * kn + fn) 1 W (by omega) (by decide) (by decide))
  have HS : Hid (hdS (kn : Int) (fn : Int) n = putL (16 * kn + fn) 1 ++ varL n) := Lib.hid (by
    unfold hdS
    rw [show (16 * (kn : Int) + (fn : Int)).toNat = 16 * kn + fn by omega])
  obtain ⟨m, hm⟩ : ∃ m, 16 * kn + fn = m := ⟨_, rfl⟩
  rw [hm] at hor HPT HS
  clear hm
  go_wp2_with fail
  refine (HPT.out _).mono ?_
  rintro e w3 ⟨rfl, hb⟩
  have HB3 := Lib.hid (HB2.out.trans (hb.mono HB2.out.size))
  have hsm : ¬ (9223372036854775807 < (putL m 1).length + (varL n).length) := by
    rw [putL_len]
    have : (varL n).length ≤ 4 := varF_len 3 n
    omega
  clear hb c0 c1 hor HPT
  go_wp2
  go_ret2
  exact ⟨by rw [HX.out, HS.out]; rfl, HB3.out⟩
theorem results_cell2 {fn : Func} {p u u' : Tmp} {ty : TypeId} (h : fn.results = #[.cell p ty, .tmp u, .tmp u']) (tmps : Array Value) (P : Program) (w : World) :
    (results fn tmps).run P w = ((asAddr (tmps.getD p undef)).run P w).andThen fun a w₁ => ((loadVar ty a).run P w₁).andThen fun v w₂ => .ok (.tuple #[v, tmps.getD u undef, tmps.getD u' undef]) w₂ := by
  simp only [results, h]
  simp [Sem.run_bind, Result.andThen]
theorem lv_hd {w : World} {g : Nat} {k f n : Int} (hb : Bk w g 44 #[.int .i64 k, .int .i64 f, .int .i64 n]) : (loadVar 44 ⟨g, 0, none⟩).run Tryz.prog w = .ok (.agg #[.int .i64 k, .int .i64 f, .int .i64 n]) w :=
  run_loadVar_row w g 44 44 _ (0, 0) _ hb Tryz.underlying44 rfl (by kernel_rfl)
theorem results_hd {fn : Func} {p u u' : Tmp} (hr : fn.results = #[.cell p 44, .tmp u, .tmp u']) (tmps : Array Value) {w : World} {g : Nat} {k f n : Int} (hp : tmps.getD p undef = .pointer (some ⟨g, 0, none⟩)) (hb : Bk w g 44 #[.int .i64 k, .int .i64 f, .int .i64 n]) :
    (results fn tmps).run Tryz.prog w = .ok (.tuple #[.agg #[.int .i64 k, .int .i64 f, .int .i64 n], tmps.getD u undef, tmps.getD u' undef]) w := by
  rw [results_cell2 hr, hp]
  exact then_ok _ (⟨g, 0, none⟩ : Addr) w _ rfl |>.trans (then_ok _ _ w _ (lv_hd hb))
theorem low4 (b : UInt8) : bits BinOp.and IntKind.u8 (b.toNat : Int) 15 = ((b.toNat % 16 : Nat) : Int) := by
  have h := u8_and b 15
  rw [show ((15 : UInt8).toNat : Int) = 15 from rfl] at h
  rw [h, UInt8.toNat_and, show (15 : UInt8).toNat = 2 ^ 4 - 1 from rfl, Nat.and_two_pow_sub_one_eq_mod]
set_option maxHeartbeats 1000000 in
set_option maxRecDepth 10000 in
theorem hdRead_any (v : Int) (s : ByteArray) (w : World) (hs : s.size ≤ 4611686018427387904) : Calls Tryz.prog 81 #[.int .i64 v, .string s] w fun e w' => e = .returned (.tuple #[hdrV (hdR v s).1, .int .i64 ((hdR v s).2.1 : Nat), .int .i64 (hdR v s).2.2]) ∧ Below w.heap.size w w' := by
  have HE : Hid (hdR v s = if hdKnown v = false then (hdr0, 0, 2)
    else if s.size = 0 then (hdr0, 0, 3)
    else if hdChk v (hdByte s / 16 : Nat) (hdByte s % 16 : Nat) ≠ 0 then (hdr0, 0, hdChk v (hdByte s / 16 : Nat) (hdByte s % 16 : Nat))
    else if (readV (ls (s.extract 1 s.size))).2.2 ≠ 0 then (hdr0, 0, (readV (ls (s.extract 1 s.size))).2.2)
    else (⟨(hdByte s / 16 : Nat), (hdByte s % 16 : Nat), (readV (ls (s.extract 1 s.size))).1⟩, (readV (ls (s.extract 1 s.size))).2.1 + 1, 0)) := Lib.hid rfl
  have HB := Lib.hid ((Below.refl w.heap.size w).alloc (Nat.le_refl _) (.cells #[.int .i64 0, .int .i64 0, .int .i64 0] 44))
  have HK := Lib.hid (Bk.fresh w 44 #[.int .i64 0, .int .i64 0, .int .i64 0])
  have HS := Lib.hid hs
  clear hs
  go_enter Tryz.func81, Tryz.ntmps81
  go_wp2_with fail
  refine (hdKnown_any v _).mono ?_
  rintro e w1 ⟨rfl, rfl⟩
  cases hk : hdKnown v
  · have HX : Hid (hdR v s = (hdr0, 0, 2)) := Lib.hid (by rw [HE.out, if_pos hk])
    clear hk
    go_wp2
    refine bodyPost_ret (results_hd rfl _ rfl HK.out) rfl ?_
    exact ⟨by rw [HX.out]; rfl, HB.out⟩
  by_cases h0 : s.size = 0
  · have HX : Hid (hdR v s = (hdr0, 0, 3)) := Lib.hid (by rw [HE.out, if_neg (fun x => by rw [hk] at x; cases x), if_pos h0])
    have em := emptyB_iff s
    rw [decide_eq_true h0] at em
    clear hk h0
    go_wp2
    refine bodyPost_ret (results_hd rfl _ rfl HK.out) rfl ?_
    exact ⟨by rw [HX.out]; rfl, HB.out⟩
  have hpos0 : 0 < s.size := by omega
  obtain ⟨b, hb⟩ : ∃ b, s[0]'hpos0 = b := ⟨_, rfl⟩
  have HBY : Hid (hdByte s = b.toNat) := Lib.hid (by
    unfold hdByte
    rw [List.headD_eq_head?_getD, List.head?_eq_getElem?, List.getElem?_eq_getElem (by rw [ls_len]; omega), ls_at s 0 (by omega), hb]
    rfl)
  have HE1 : Hid (hdR v s = if hdChk v (hdByte s / 16 : Nat) (hdByte s % 16 : Nat) ≠ 0 then (hdr0, 0, hdChk v (hdByte s / 16 : Nat) (hdByte s % 16 : Nat))
    else if (readV (ls (s.extract 1 s.size))).2.2 ≠ 0 then (hdr0, 0, (readV (ls (s.extract 1 s.size))).2.2)
    else (⟨(hdByte s / 16 : Nat), (hdByte s % 16 : Nat), (readV (ls (s.extract 1 s.size))).1⟩, (readV (ls (s.extract 1 s.size))).2.1 + 1, 0)) := Lib.hid (by rw [HE.out, if_neg (fun x => by rw [hk] at x; cases x), if_neg h0])
  have hpos : (0 : Int) < (s.size : Int) := by omega
  have em := emptyB_iff s
  rw [decide_eq_false h0] at em
  have hlo := low4 b
  have hb8 := b.toNat_lt
  have HPOS : Hid (1 ≤ s.size) := Lib.hid (by omega)
  clear hk HE h0
  go_wp2_with fail
  go_region
  have HX0 : Hid (∃ kn fn : Nat, b.toNat / 16 = kn ∧ b.toNat % 16 = fn) := Lib.hid ⟨_, _, rfl, rfl⟩
  obtain ⟨kn, fn, hkn, hfn⟩ := HX0.out
  rw [show ((b.toNat : Int) / 16) = (kn : Int) by omega, show ((b.toNat : Int) % 16) = (fn : Int) by omega]
  have HE2 : Hid (hdR v s = if hdChk v kn fn ≠ 0 then (hdr0, 0, hdChk v kn fn)
    else if (readV (ls (s.extract 1 s.size))).2.2 ≠ 0 then (hdr0, 0, (readV (ls (s.extract 1 s.size))).2.2)
    else (⟨kn, fn, (readV (ls (s.extract 1 s.size))).1⟩, (readV (ls (s.extract 1 s.size))).2.1 + 1, 0)) := Lib.hid (by rw [HE1.out, HBY.out, hkn, hfn])
  have HB1 := Lib.hid (below_drawn ((Below.refl w.heap.size w).alloc (Nat.le_refl _) (.cells #[.int .i64 kn, .int .i64 fn, .int .i64 0] 44)) 1)
  have HK1 := Lib.hid ((Bk.fresh w 44 #[.int .i64 kn, .int .i64 fn, .int .i64 0]).drewN 1)
  have HCK := Lib.hid (fun W => hdCheck_any v kn fn 0 W (by omega))
  simp only [hdrV] at HCK
  clear HX0 HE1 HBY hkn hfn hlo hb hb8 HK HB em
  have c0 := HK1.out.cell 0; have c1 := HK1.out.cell 1; have c2 := HK1.out.cell 2
  simp only [List.getElem?_toArray, List.getElem?_cons_succ, List.getElem?_cons_zero] at c0 c1 c2
  go_wp2_with fail
  refine (HCK.out _).mono ?_
  rintro e w1 ⟨rfl, hb⟩
  have HB2 := Lib.hid (HB1.out.trans (hb.mono HB1.out.size))
  have HK2 := Lib.hid (HK1.out.below hb HK1.out.lt)
  clear hb c0 c1 c2 HCK HK1 HB1
  by_cases hc : hdChk v kn fn = 0
  rotate_left
  · have HX : Hid (hdR v s = (hdr0, 0, hdChk v kn fn)) := Lib.hid (by rw [HE2.out, if_pos hc])
    generalize hdChk v kn fn = x at *
    have e0 : (x != 0) = true := bne_iff_ne.2 hc
    clear hc HE2
    have c0 := HK2.out.cell 0; have c1 := HK2.out.cell 1; have c2 := HK2.out.cell 2
    have f0 := HK2.out.free 0; have f1 := HK2.out.free 1; have f2 := HK2.out.free 2
    simp only [List.getElem?_toArray, List.getElem?_cons_succ, List.getElem?_cons_zero] at c0 c1 c2
    go_wp2
    refine bodyPost_ret (results_hd rfl _ rfl (((HK2.out.put 0 (.int .i64 0)).put 1 (.int .i64 0)).put 2 (.int .i64 0))) rfl ?_
    exact ⟨by rw [HX.out]; rfl, ((HB2.out.setCell (Nat.le_refl _) _).setCell (Nat.le_refl _) _).setCell (Nat.le_refl _) _⟩
  rw [hc]
  have HE3 : Hid (hdR v s = if (readV (ls (s.extract 1 s.size))).2.2 ≠ 0 then (hdr0, 0, (readV (ls (s.extract 1 s.size))).2.2)
    else (⟨kn, fn, (readV (ls (s.extract 1 s.size))).1⟩, (readV (ls (s.extract 1 s.size))).2.1 + 1, 0)) := Lib.hid (by rw [HE2.out, if_neg (fun x => x hc)])
  clear hc HE2
  have v1 : (0 : Int) ≤ 1 := by decide
  have v2 : (1 : Int) ≤ (s.size : Int) := by have := HPOS.out; omega
  have HRV := Lib.hid (fun W => readV_any (s.extract 1 s.size) W (by rw [ByteArray.size_extract]; have := HS.out; omega))
  have HLT := Lib.hid (readV_size (ls (s.extract 1 s.size)))
  rw [ls_len, ByteArray.size_extract] at HLT
  go_wp2_with fail
  refine (HRV.out _).mono ?_
  rintro e w2 ⟨rfl, hb⟩
  have HB3 := Lib.hid (HB2.out.trans (hb.mono HB2.out.size))
  have HK3 := Lib.hid (HK2.out.below hb HK2.out.lt)
  clear hb HRV HK2 HB2
  obtain ⟨⟨rn, ra, re⟩, hr⟩ : ∃ r, readV (ls (s.extract 1 s.size)) = r := ⟨_, rfl⟩
  rw [hr] at HE3 HLT ⊢
  dsimp only at HLT ⊢
  clear hr
  have c0 := HK3.out.cell 0; have c1 := HK3.out.cell 1; have c2 := HK3.out.cell 2
  have f0 := HK3.out.free 0; have f1 := HK3.out.free 1; have f2 := HK3.out.free 2
  simp only [List.getElem?_toArray, List.getElem?_cons_succ, List.getElem?_cons_zero] at c0 c1 c2
  by_cases hz : re = 0
  · have HX : Hid (hdR v s = (⟨kn, fn, rn⟩, ra + 1, 0)) := Lib.hid (by rw [HE3.out, if_neg (fun x => x hz)])
    subst hz
    have hra : (ra : Int) < 9223372036854775806 := by have := HLT.out; have := HS.out; omega
    clear HE3
    go_wp2
    refine bodyPost_ret (results_hd rfl _ rfl ((((HK3.out.put 2 (.int .i64 rn)).put 0 (.int .i64 kn)).put 1 (.int .i64 fn)).put 2 (.int .i64 rn))) rfl ?_
    exact ⟨by rw [HX.out]; rfl, (((HB3.out.setCell (Nat.le_refl _) _).setCell (Nat.le_refl _) _).setCell (Nat.le_refl _) _).setCell (Nat.le_refl _) _⟩
  · have HX : Hid (hdR v s = (hdr0, 0, re)) := Lib.hid (by rw [HE3.out, if_pos hz])
    have e0 : (re != 0) = true := bne_iff_ne.2 hz
    clear HE3 hz
    go_wp2
    refine bodyPost_ret (results_hd rfl _ rfl ((((HK3.out.put 2 (.int .i64 rn)).put 0 (.int .i64 0)).put 1 (.int .i64 0)).put 2 (.int .i64 0))) rfl ?_
    exact ⟨by rw [HX.out]; rfl, (((HB3.out.setCell (Nat.le_refl _) _).setCell (Nat.le_refl _) _).setCell (Nat.le_refl _) _).setCell (Nat.le_refl _) _⟩
end Go.Proofs.YtbahnolmlodcdaaGreatDoor

namespace Go.Proofs.YtbahnolmlodcdaaGreatDoor
open Go.RowKit

def fnB (f : FuncId) : Value := .func (.func f) #[.agg #[]] #[]
def sayTab : List (Int × Value) := [(12, fnB 291), (13, fnB 291), (14, fnB 292), (15, fnB 292)]
set_option maxHeartbeats 400000 in
set_option maxRecDepth 10000 in
theorem nothing_any (v : Int) (w : World) : Calls Tryz.prog 291 #[.agg #[], .int .i64 v] w fun e w' => e = .returned (.bool false) ∧ Below w.heap.size w w' := by
  go_enter Tryz.func291, Tryz.ntmps291
  go_wp2
  go_ret
  exact ⟨rfl, (Below.refl _ _).alloc (Nat.le_refl _) _⟩
set_option maxHeartbeats 400000 in
set_option maxRecDepth 10000 in
theorem late_any (v : Int) (w : World) : Calls Tryz.prog 292 #[.agg #[], .int .i64 v] w fun e w' => e = .returned (.bool (v == 5)) ∧ Below w.heap.size w w' := by
  go_enter Tryz.func292, Tryz.ntmps292
  go_wp2
  go_ret
  exact ⟨rfl, (Below.refl _ _).alloc (Nat.le_refl _) _⟩
theorem enter_nothing (args : Array Value) (w : World) : (callFunc 291 args).run Tryz.prog w = .ok (.enter 291 args) w := run_enter Tryz.func291 (by kernel_rfl) rfl args w
theorem enter_late (args : Array Value) (w : World) : (callFunc 292 args).run Tryz.prog w = .ok (.enter 292 args) w := run_enter Tryz.func292 (by kernel_rfl) rfl args w
theorem look_say (k : Int) : (k = 12 ∧ lookI sayTab k = some (fnB 291)) ∨ (k = 13 ∧ lookI sayTab k = some (fnB 291)) ∨ (k = 14 ∧ lookI sayTab k = some (fnB 292)) ∨ (k = 15 ∧ lookI sayTab k = some (fnB 292)) ∨
    (¬ (12 ≤ k ∧ k ≤ 15) ∧ lookI sayTab k = none) := by
  by_cases h1 : k = 12
  · subst h1; exact .inl ⟨rfl, rfl⟩
  by_cases h2 : k = 13
  · subst h2; exact .inr (.inl ⟨rfl, rfl⟩)
  by_cases h3 : k = 14
  · subst h3; exact .inr (.inr (.inl ⟨rfl, rfl⟩))
  by_cases h4 : k = 15
  · subst h4; exact .inr (.inr (.inr (.inl ⟨rfl, rfl⟩)))
  refine .inr (.inr (.inr (.inr ⟨by omega, ?_⟩)))
  have e1 : ((12 : Int) == k) = false := beq_eq_false_iff_ne.2 (by omega)
  have e2 : ((13 : Int) == k) = false := beq_eq_false_iff_ne.2 (by omega)
  have e3 : ((14 : Int) == k) = false := beq_eq_false_iff_ne.2 (by omega)
  have e4 : ((15 : Int) == k) = false := beq_eq_false_iff_ne.2 (by omega)
  simp [lookI, sayTab, List.find?, e1, e2, e3, e4]

set_option maxHeartbeats 1000000 in
set_option maxRecDepth 10000 in
theorem says_any (v k : Int) (w : World) : Calls Tryz.prog 240 #[.int .i64 v, .int .i64 k] w fun e w' => e = .returned (.tuple #[.bool (conMay v k), .bool (conIs k)]) ∧ Below w.heap.size w w' := by
  have hmm := @run_makeMap Tryz.prog
  have B0 := (Below.refl w.heap.size w).alloc (Nat.le_refl _) (.cells #[] 242)
  have HT := Lib.hid (IMap.made (w.alloc (.cells #[] 242)) .i64)
  have HB := Lib.hid (B0.alloc B0.size (.map #[] 0))
  clear B0
  rw [show (w.alloc (.cells #[] 242)).heap.size = w.heap.size + 1 by simp] at HT
  go_enter Tryz.func240, Tryz.ntmps240
  go_wp2_with (refine wpList_mput _ rfl _ _ _ 243 rfl 3 49 (by kernel_rfl) (by kernel_rfl) (w.heap.size + 1) _ rfl HT.out _ _ rfl rfl rfl ?_; intro w1 hT hg; have hb := HB.out.grown hg (HB.out.size) (fun k hk => by cases hk; exact Nat.le_succ _); clear HT HB hg; have HT := Lib.hid hT; have HB := Lib.hid hb; clear hT hb)
  rename_i wm
  have HT2 : IMap .i64 _ (w.heap.size + 1) sayTab := HT.out
  have hlk := (mlook_run (P := Tryz.prog) (t := 243) (k := 3) (e := 49) (z := .nilFunc) (by kernel_rfl) (by kernel_rfl) (by kernel_rfl) HT2 k).2
  have en := enter_nothing
  have el := enter_late
  clear HT2
  rcases look_say k with ⟨hk, h⟩ | ⟨hk, h⟩ | ⟨hk, h⟩ | ⟨hk, h⟩ | ⟨hk, h⟩
  · subst hk
    rw [h, Option.getD_some, Option.isSome_some, fnB] at hlk
    clear h
    go_wp2_with fail
    rw [hlk]
    go_wp2_with fail
    refine (nothing_any v _).mono ?_
    rintro e w2 ⟨rfl, hb⟩
    have HB2 := Lib.hid (HB.out.trans (hb.mono HB.out.size)); clear hb hlk
    go_wp2
    go_ret2
    exact ⟨by rfl, HB2.out⟩
  · subst hk
    rw [h, Option.getD_some, Option.isSome_some, fnB] at hlk
    clear h
    go_wp2_with fail
    rw [hlk]
    go_wp2_with fail
    refine (nothing_any v _).mono ?_
    rintro e w2 ⟨rfl, hb⟩
    have HB2 := Lib.hid (HB.out.trans (hb.mono HB.out.size)); clear hb hlk
    go_wp2
    go_ret2
    exact ⟨by rfl, HB2.out⟩
  · subst hk
    rw [h, Option.getD_some, Option.isSome_some, fnB] at hlk
    clear h
    go_wp2_with fail
    rw [hlk]
    go_wp2_with fail
    refine (late_any v _).mono ?_
    rintro e w2 ⟨rfl, hb⟩
    have HB2 := Lib.hid (HB.out.trans (hb.mono HB.out.size)); clear hb hlk
    go_wp2
    go_ret2
    exact ⟨by unfold conMay conIs; by_cases h5 : v = 5 <;> simp [h5], HB2.out⟩
  · subst hk
    rw [h, Option.getD_some, Option.isSome_some, fnB] at hlk
    clear h
    go_wp2_with fail
    rw [hlk]
    go_wp2_with fail
    refine (late_any v _).mono ?_
    rintro e w2 ⟨rfl, hb⟩
    have HB2 := Lib.hid (HB.out.trans (hb.mono HB.out.size)); clear hb hlk
    go_wp2
    go_ret2
    exact ⟨by unfold conMay conIs; by_cases h5 : v = 5 <;> simp [h5], HB2.out⟩
  · have h1 : conIs k = false := decide_eq_false hk
    have h2 : conMay v k = false := decide_eq_false (fun x => hk (by omega))
    rw [h, Option.getD_none, Option.isSome_none] at hlk
    clear h hk
    go_wp2_with fail
    rw [hlk]
    go_wp2
    go_ret2
    exact ⟨by rw [h1, h2]; rfl, HB.out⟩
end Go.Proofs.YtbahnolmlodcdaaGreatDoor

namespace Go.Proofs.YtbahnolmlodcdaaGreatDoor
open Go.RowKit

set_option maxHeartbeats 1000000 in
set_option maxRecDepth 10000 in
theorem conKnown_any (v k : Int) (w : World) : Calls Tryz.prog 239 #[.int .i64 v, .int .i64 k] w fun e w' => e = .returned (.int .i64 (conK v k)) ∧ Below w.heap.size w w' := by
  go_enter Tryz.func239, Tryz.ntmps239
  go_wp2_with fail
  refine (says_any v k _).mono ?_
  rintro e w1 ⟨rfl, hb⟩
  have HB := Lib.hid hb; clear hb
  have HE : Hid (conK v k = if conIs k = false ∨ ¬ (v = 4 ∨ v = 5) then 2 else if k = 15 ∧ v = 4 then 8 else 0) := Lib.hid rfl
  cases hi : conIs k
  · have HX : Hid (conK v k = 2) := Lib.hid (by rw [HE.out, if_pos (.inl hi)])
    clear hi
    go_wp2
    go_ret
    exact ⟨by rw [HX.out]; rfl, HB.out⟩
  · by_cases h4 : v = 4
    · have e4 : (v != 4) = false := by simpa using h4
      have e4' : (v == 4) = true := beq_iff_eq.2 h4
      by_cases h15 : k = 15
      · have HX : Hid (conK v k = 8) := Lib.hid (by rw [HE.out, if_neg (fun x => x.elim (fun y => by rw [hi] at y; cases y) (fun y => y (.inl h4))), if_pos ⟨h15, h4⟩])
        have e15 : (k == 15) = true := beq_iff_eq.2 h15
        clear h4 h15 hi
        go_wp2
        go_ret
        exact ⟨by rw [HX.out]; rfl, HB.out⟩
      · have HX : Hid (conK v k = 0) := Lib.hid (by rw [HE.out, if_neg (fun x => x.elim (fun y => by rw [hi] at y; cases y) (fun y => y (.inl h4))), if_neg (fun x => h15 x.1)])
        have e15 : (k == 15) = false := beq_eq_false_iff_ne.2 h15
        clear h4 h15 hi
        go_wp2
        go_ret
        exact ⟨by rw [HX.out]; rfl, HB.out⟩
    · have e4 : (v != 4) = true := bne_iff_ne.2 h4
      have e4' : (v == 4) = false := beq_eq_false_iff_ne.2 h4
      by_cases h5 : v = 5
      · have e5 : (v != 5) = false := by simpa using h5
        have HX : Hid (conK v k = 0) := Lib.hid (by rw [HE.out, if_neg (fun x => x.elim (fun y => by rw [hi] at y; cases y) (fun y => y (.inr h5))), if_neg (fun x => h4 x.2)])
        clear h4 h5 hi
        by_cases h15 : k = 15
        · have e15 : (k == 15) = true := beq_iff_eq.2 h15
          clear h15
          go_wp2
          go_ret
          exact ⟨by rw [HX.out]; rfl, HB.out⟩
        · have e15 : (k == 15) = false := beq_eq_false_iff_ne.2 h15
          clear h15
          go_wp2
          go_ret
          exact ⟨by rw [HX.out]; rfl, HB.out⟩
      · have e5 : (v != 5) = true := bne_iff_ne.2 h5
        have HX : Hid (conK v k = 2) := Lib.hid (by rw [HE.out, if_pos (.inr (fun x => x.elim h4 h5))])
        clear h4 h5 hi
        go_wp2
        go_ret
        exact ⟨by rw [HX.out]; rfl, HB.out⟩

set_option maxHeartbeats 1000000 in
set_option maxRecDepth 10000 in
theorem tailS_any (code k : Int) (l : List Pr) (n : Nat) (hn : l.length = n) (hok : ∀ p ∈ l, prGood p) (A : Option Addr) (c : Nat) (w : World) (h : Rd w w.heap.size 4 A n (prs l)) (hl : n ≤ 4611686018427387904) :
    Calls Tryz.prog 238 #[.int .i64 code, .slice A n c, .int .i64 k] w fun e w' => e = .returned (.string ⟨(tailS code l k).toArray⟩) ∧ Below w.heap.size w w' := by
  subst hn
  have HE : Hid (tailS code l k = if code < 0 ∨ 255 < code ∨ (bytesS k l).2 ≠ 0 then [] else tailL k code l) := Lib.hid rfl
  go_enter Tryz.func238, Tryz.ntmps238
  go_wp2_with fail
  refine (bytesP_n k l _ rfl hok A c _ h hl).mono ?_
  rintro e w1 ⟨rfl, hb⟩
  have HB := Lib.hid hb; clear hb h hok
  by_cases h1 : code < 0
  · have HX : Hid (tailS code l k = []) := Lib.hid (by rw [HE.out, if_pos (.inl h1)])
    go_wp2
    go_ret
    exact ⟨by rw [HX.out]; rfl, HB.out⟩
  have d1 : decide (code < 0) = false := decide_eq_false h1
  have d1' : 0 ≤ code := by omega
  by_cases h2 : 255 < code
  · have HX : Hid (tailS code l k = []) := Lib.hid (by rw [HE.out, if_pos (.inr (.inl h2))])
    clear h1
    go_wp2
    go_ret
    exact ⟨by rw [HX.out]; rfl, HB.out⟩
  have d2 : decide (255 < code) = false := decide_eq_false h2
  have d2' : code ≤ 255 := by omega
  by_cases h3 : (bytesS k l).2 = 0
  rotate_left
  · have HX : Hid (tailS code l k = []) := Lib.hid (by rw [HE.out, if_pos (.inr (.inr h3))])
    have e3 : ((bytesS k l).2 != 0) = true := bne_iff_ne.2 h3
    clear h1 h2 h3
    go_wp2
    go_ret
    exact ⟨by rw [HX.out]; rfl, HB.out⟩
  have HX : Hid (tailS code l k = tailL k code l) := Lib.hid (by rw [HE.out, if_neg (fun x => x.elim h1 (fun y => y.elim h2 (fun z => z h3)))])
  have HSZ := Lib.hid (bytesS_size k l h3).2
  rw [h3]
  obtain ⟨m, hm, hw⟩ : ∃ m : Nat, Hid (code.toNat = m) ∧ IntKind.u64.wrap code = (m : Int) := ⟨_, Lib.hid rfl, by rw [IntKind.wrap_u64]; omega⟩
  have HM : Hid (m < 256) := Lib.hid (by have := hm.out; omega)
  clear h1 h2 h3
  go_wp2_with fail
  refine (put_any m 1 _ (by have := HM.out; omega) (by omega) (by omega)).mono ?_
  rintro e w2 ⟨rfl, hb⟩
  have HB2 := Lib.hid (HB.out.trans (hb.mono HB.out.size)); clear hb
  by_cases hz : l.length = 0
  · have z1 : (l.length : Int) ≤ 0 := by omega
    by_cases hc : code = 0
    · have HY : Hid (tailS code l k = []) := Lib.hid (by rw [HX.out, tailL, if_pos ⟨hc, hz⟩])
      have z2 : code ≤ 0 := by omega
      clear hz hc d1' d1
      go_wp2
      go_ret
      exact ⟨by rw [HY.out]; rfl, HB2.out⟩
    · have HY : Hid (tailS code l k = putL m 1) := Lib.hid (by rw [HX.out, tailL, if_neg (fun x => hc x.1), if_pos hz, List.append_nil, hm.out])
      have z2 : 0 < code := by omega
      clear hz hc d1' d1
      go_wp2
      go_ret
      exact ⟨by rw [HY.out]; rfl, HB2.out⟩
  · have z1 : 0 < (l.length : Int) := by omega
    have HY : Hid (tailS code l k = putL m 1 ++ (bytesS k l).1) := Lib.hid (by rw [HX.out, tailL, if_neg (fun x => hz x.2), if_neg hz, hm.out])
    have hs1 : ¬ (9223372036854775807 < (putL m 1).length + (bytesS k l).fst.length) := by rw [putL_len]; have := HSZ.out; omega
    clear hz
    go_wp2
    go_ret
    exact ⟨by rw [HY.out, ← ap2]; rfl, HB2.out⟩

/-- What told leaves. -/
def ToldOut (r : Int × List Pr × Int) (w : World) (e : Ending) (w' : World) : Prop := ∃ A c, e = .returned (.tuple #[.int .i64 r.1, .slice A r.2.1.length c, .int .i64 r.2.2]) ∧ r.2.1.length ≤ c ∧ Rd w' w'.heap.size 4 A r.2.1.length (prs r.2.1) ∧ Below w.heap.size w w'
theorem toldOut_mk {r : Int × List Pr × Int} {x y : Int} {w w' : World} (h : r = (x, [], y)) (hb : Below w.heap.size w w') : ToldOut r w (.returned (.tuple #[.int .i64 x, .slice none 0 0, .int .i64 y])) w' := by
  subst h
  exact ⟨none, 0, rfl, Nat.le_refl _, Rd.nil _ _ _ _, hb⟩
theorem toldOut_ok {r : Int × List Pr × Int} {x : Int} {l : List Pr} {A : Option Addr} {c : Nat} {w w' : World} (h : r = (x, l, 0)) (hc : l.length ≤ c) (hr : Rd w' w'.heap.size 4 A l.length (prs l)) (hb : Below w.heap.size w w') : ToldOut r w (.returned (.tuple #[.int .i64 x, .slice A l.length c, .int .i64 0])) w' := by
  subst h
  exact ⟨A, c, rfl, hc, hr, hb⟩
theorem num_at (t : ByteArray) (a : Nat) (h : a < t.size) : numS t a 0 1 = t[a].toNat := by
  have h1 := num_front (t := t) (a := a) (k := 1) (x := [t[a]]) (rest := (ls t).drop (a + 1)) (by
    rw [List.drop_eq_getElem_cons (show a < (ls t).length by rw [ls_len]; exact h), ls_at t a h]
    rfl) rfl (by omega)
  rw [show ((1 : Int)) = ((1 : Nat) : Int) from rfl, h1]
  simp [getL]
theorem empty_iff (s : ByteArray) : s.toList.isEmpty = decide (s.size = 0) := by
  cases hz : s.toList.isEmpty
  · exact (decide_eq_false (fun x => by
      have : s = ⟨#[]⟩ := ls_ext (by rw [show ls (⟨#[]⟩ : ByteArray) = [] from rfl]; exact List.eq_nil_of_length_eq_zero (by rw [ls_len]; exact x))
      rw [this] at hz
      exact absurd hz (by decide +kernel))).symm
  · exact (decide_eq_true (empty_size hz)).symm

set_option maxHeartbeats 2000000 in
set_option maxRecDepth 10000 in
theorem told_any (k : Int) (s : ByteArray) (w : World) (hs : s.size ≤ 140737488351232) :
    Calls Tryz.prog 241 #[.int .i64 k, .string s] w (ToldOut (toldS k s) w) := by
  have HE : Hid (toldS k s = if toldE k s ≠ 0 then (0, [], toldE k s) else ((restS k s 0).1, (restS k s 0).2.1, 0)) := Lib.hid rfl
  have HT : Hid (toldE k s = if (restS k s 0).2.2.2 ≠ 0 then (restS k s 0).2.2.2 else if (restS k s 0).2.2.1 < s.size then 5 else 0) := Lib.hid rfl
  have hem := empty_iff s
  by_cases h0 : s.size = 0
  · have hr : restS k s 0 = (0, [], 0, 0) := by unfold restS; rw [if_pos (by omega)]
    have HX : Hid (toldS k s = (0, [], 0)) := Lib.hid (by rw [HE.out, HT.out, hr]; simp [h0])
    rw [decide_eq_true h0] at hem
    clear h0 hr hs
    go_enter Tryz.func241, Tryz.ntmps241
    go_wp2
    go_ret3
    exact toldOut_mk HX.out (Below.refl _ _)
  rw [decide_eq_false h0] at hem
  have i1 : (0 : Int) < (s.size : Int) := by omega
  have h00 : 0 < s.size := by omega
  have HN := Lib.hid (num_at s 0 h00)
  obtain ⟨d, hd⟩ : ∃ d : UInt8, s[0]'h00 = d := ⟨_, rfl⟩
  rw [hd] at HN
  have hb0 : IntKind.i64.wrap (d.toNat : Int) = (d.toNat : Int) := by rw [IntKind.wrap_i64]; have := d.toNat_lt; omega
  by_cases h1 : s.size = 1
  · have hr : restS k s 0 = (((d.toNat : Nat) : Int), [], 1, if d.toNat = 0 then 5 else 0) := by unfold restS; rw [if_neg (by omega), if_pos (by omega), HN.out]
    have z1 : ((s.size : Int) == 1) = true := beq_iff_eq.2 (by omega)
    by_cases hq : d.toNat = 0
    · have HX : Hid (toldS k s = (0, [], 5)) := Lib.hid (by rw [HE.out, HT.out, hr]; simp [hq])
      have z2 : ((d.toNat : Int) == 0) = true := beq_iff_eq.2 (by omega)
      clear h0 hr hs h1 hq HN
      go_enter Tryz.func241, Tryz.ntmps241
      go_wp2
      go_ret3
      exact toldOut_mk HX.out (Below.refl _ _)
    · have HX : Hid (toldS k s = ((d.toNat : Int), [], 0)) := Lib.hid (by rw [HE.out, HT.out, hr]; simp [hq, h1])
      have z2 : ((d.toNat : Int) == 0) = false := beq_eq_false_iff_ne.2 (by omega)
      clear h0 hr hs h1 hq HN
      go_enter Tryz.func241, Tryz.ntmps241
      go_wp2
      go_ret3
      exact toldOut_mk HX.out (Below.refl _ _)
  · have hr : restS k s 0 = (((d.toNat : Nat) : Int), (readP k (s.extract 1 s.size)).1, 1 + (readP k (s.extract 1 s.size)).2.1,
      if (readP k (s.extract 1 s.size)).2.2 ≠ 0 then (readP k (s.extract 1 s.size)).2.2 else if (readP k (s.extract 1 s.size)).1.length = 0 then 5 else 0) := by unfold restS; rw [if_neg (by omega), if_neg (by omega), HN.out, Nat.zero_add]
    have z1 : ((s.size : Int) == 1) = false := beq_eq_false_iff_ne.2 (by omega)
    have i2 : (1 : Int) ≤ (s.size : Int) := by omega
    have HZ : Hid ((s.extract 1 s.size).size ≤ 140737488351232) := Lib.hid (by rw [rest_len]; omega)
    have HRR := Lib.hid hr
    have HS := Lib.hid hs
    have HLB : Hid ((readP k (s.extract 1 s.size)).2.2 = 0 → (readP k (s.extract 1 s.size)).2.1 ≤ (s.extract 1 s.size).size) := Lib.hid fun h0 =>
      (readP_back (kind := k) (s := s.extract 1 s.size) (l := (readP k (s.extract 1 s.size)).1) (n := (readP k (s.extract 1 s.size)).2.1) (by rw [← h0])).2.2
    clear h0 hr hs h1 HN
    go_enter Tryz.func241, Tryz.ntmps241
    go_wp2_with fail
    refine (readP_any k (s.extract 1 s.size) _ HZ.out).mono ?_
    rintro e w1 ⟨A, c, rfl, hcap, hrd, hb⟩
    have HB := Lib.hid hb; have HCAP := Lib.hid hcap; have HRD := Lib.hid hrd
    clear hb hcap hrd
    generalize readP k (s.extract 1 s.size) = R at *
    obtain ⟨l, n, x⟩ := R
    simp only at HRR HCAP HRD HLB ⊢
    by_cases hx : x = 0
    · subst hx
      have hn1 := HLB.out rfl
      have hwn : IntKind.i64.wrap (1 + (n : Int)) = 1 + (n : Int) := by rw [IntKind.wrap_i64]; have := HZ.out; omega
      by_cases hl : l.length = 0
      · have z2 : ((l.length : Int) == 0) = true := beq_iff_eq.2 (by omega)
        have HX : Hid (toldS k s = (0, [], 5)) := Lib.hid (by rw [HE.out, HT.out, HRR.out]; simp [hl])
        clear hl
        go_wp2
        go_ret3
        exact toldOut_mk HX.out HB.out
      · have z2 : ((l.length : Int) == 0) = false := beq_eq_false_iff_ne.2 (by omega)
        by_cases hlt : 1 + n < s.size
        · have HX : Hid (toldS k s = (0, [], 5)) := Lib.hid (by rw [HE.out, HT.out, HRR.out]; simp [hl, hlt])
          have d3 : 1 + (n : Int) < (s.size : Int) := by omega
          clear hl hlt
          go_wp2
          go_ret3
          exact toldOut_mk HX.out HB.out
        · have HX : Hid (toldS k s = ((d.toNat : Int), l, 0)) := Lib.hid (by rw [HE.out, HT.out, HRR.out]; simp [hl, hlt])
          have d3 : (s.size : Int) ≤ 1 + (n : Int) := by omega
          clear hl hlt
          go_wp2
          go_ret3
          exact toldOut_ok HX.out HCAP.out HRD.out HB.out
    · have e0 : (x != 0) = true := bne_iff_ne.2 hx
      have HX : Hid (toldS k s = (0, [], x)) := Lib.hid (by rw [HE.out, HT.out, HRR.out]; simp [hx])
      clear hx
      go_wp2
      go_ret3
      exact toldOut_mk HX.out HB.out
end Go.Proofs.YtbahnolmlodcdaaGreatDoor

