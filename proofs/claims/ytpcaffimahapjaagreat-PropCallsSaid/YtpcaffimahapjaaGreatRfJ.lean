/- Reference 05: next. -/
import Derived.Test.YtpcaffimahapjaaGreatRfI
namespace Go.Proofs.YtpcaffimahapjaaGreat
open Go.RowKit
attribute [local go_sem] row_f0 row_f1
abbrev PrT : TypeId := 24
def NextOut (s : ByteArray) (sh : Nat) (id : Int) (w : World) (e : Ending) (w' : World) : Prop :=
  ∃ (P : Pr) (k : Int), e = .returned (.tuple #[P.val, .int .i64 k, .int .i64 (valS sh s 1).err]) ∧ ((valS sh s 1).err = 0 → P = ⟨id, (valS sh s 1).n, (valS sh s 1).text, (valS sh s 1).value⟩ ∧ k = (valS sh s 1).at_) ∧ Below w.heap.size w w'
theorem nextOut_ok {s : ByteArray} {sh n k : Nat} {id : Int} {t v : ByteArray} {w w' : World} (hv : valS sh s 1 = ⟨n, t, v, k, 0⟩) (hb : Below w.heap.size w w') : NextOut s sh id w (.returned (.tuple #[.agg #[.int .i64 id, .int .u32 n, .string t, .string v], .int .i64 k, .int .i64 0])) w' := by
  refine ⟨⟨id, n, t, v⟩, k, ?_, ?_, hb⟩
  · rw [hv]; rfl
  · intro _; rw [hv]; exact ⟨rfl, rfl⟩
theorem nextOut_bad {s : ByteArray} {sh n : Nat} {id k E : Int} {t v : ByteArray} {w w' : World} (hv : (valS sh s 1).err = E) (hE : E ≠ 0) (hb : Below w.heap.size w w') : NextOut s sh id w (.returned (.tuple #[.agg #[.int .i64 id, .int .u32 n, .string t, .string v], .int .i64 k, .int .i64 E])) w' := by
  refine ⟨⟨id, n, t, v⟩, k, ?_, ?_, hb⟩
  · rw [hv]; rfl
  · intro h; rw [hv] at h; exact absurd h hE
theorem results_nx {fn : Func} {p q r : Tmp} (hr : fn.results = #[.cell p PrT, .tmp q, .tmp r]) (tmps : Array Value) {w : World} {g : Nat} {a b c d : Value} (hp : tmps.getD p undef = .pointer (some ⟨g, 0, none⟩)) (hb : Bk w g PrT #[a, b, c, d]) :
    (results fn tmps).run Tryz.prog w = .ok (.tuple #[.agg #[a, b, c, d], tmps.getD q undef, tmps.getD r undef]) w := by
  obtain ⟨⟨c0, c1, c2, c3⟩, -⟩ := hb.four
  rw [Array.getD_eq_getD_getElem?] at hp
  simp only [results, hr]
  simp [hp, go_sem, c0, c1, c2, c3]
theorem wr_tx {s : ByteArray} {a sh : Nat} (h6 : sh ≠ 6) : (writS s a 0).2.2 = (txS s a sh).2.2 ∧ ((txS s a sh).2.2 = 0 → writS s a 0 = ((txS s a sh).1, (txS s a sh).2.1, 0)) := by
  unfold writS txS
  rcases data_five s a with h | h
  · cases hv : validB (dataS s a 0).1
    · simp [h, hv, h6]
    · simp [h, hv]
  · simp [h]
theorem da_tx {s : ByteArray} {a : Nat} : (dataS s a 0).2.2 = (txS s a 6).2.2 ∧ ((txS s a 6).2.2 = 0 → dataS s a 0 = ((txS s a 6).1, (txS s a 6).2.1, 0)) := by
  unfold txS
  rcases data_five s a with h | h
  · rw [if_neg (by simpa using h), if_neg (fun x => x.1 rfl)]
    exact ⟨h, fun _ => Prod.ext rfl (Prod.ext rfl h)⟩
  · rw [if_pos (by rw [h]; decide)]
    exact ⟨h, fun x => by cases x⟩
theorem tx_at {s : ByteArray} {a sh : Nat} (ha : a ≤ s.size) (h : (txS s a sh).2.2 = 0) : (txS s a sh).2.1 ≤ s.size := by
  have hd : (dataS s a 0).2.2 = 0 ∧ (txS s a sh).2.1 = (dataS s a 0).2.1 := by
    unfold txS at h ⊢
    by_cases h0 : (dataS s a 0).2.2 = 0
    · rw [if_neg (by simpa using h0)] at h ⊢
      by_cases h1 : sh ≠ 6 ∧ validB (dataS s a 0).1 = false
      · rw [if_pos h1] at h; cases h
      · rw [if_neg h1]; exact ⟨h0, rfl⟩
    · rw [if_pos h0] at h; cases h
  rcases readB_data ha with ⟨h1, -⟩ | ⟨-, -, -, h4⟩
  · exact absurd hd.1 h1
  · rw [hd.2]; exact h4
set_option maxHeartbeats 4000000 in
set_option maxRecDepth 10000 in
theorem next_1 (s : ByteArray) (b0 : UInt8) (h : 0 < s.size) (hb0 : s[0] = b0) (hsh : shapeOf (b0.toNat : Int) = 1) (w : World) (hs : s.size ≤ 4611686018427387904) :
    Calls Tryz.prog 92 #[.string s] w (NextOut s 1 (b0.toNat : Int) w) := by
  have h0 : (0 : Int) < (s.size : Int) := by omega
  obtain ⟨sh', ki, le, mo, hR⟩ : ∃ sh ki le mo, ruleOf (b0.toNat : Int) = ⟨sh, ki, le, mo⟩ := ⟨_, _, _, _, rfl⟩
  have hs' : sh' = 1 := by
    have : (ruleOf (b0.toNat : Int)).shape = 1 := hsh
    rw [hR] at this
    exact this
  subst hs'
  have HR := Lib.hid hR
  clear hsh hR
  have hw0 : IntKind.i64.wrap (b0.toNat : Int) = (b0.toNat : Int) := by rw [IntKind.wrap_i64]; have := b0.toNat_lt; omega
  have R0 := Lib.hid ((Bk.fresh w PrT #[.int .i64 0, .int .u32 0, .string ⟨#[]⟩, .string ⟨#[]⟩]).alloc (.cells #[.int .i64 (b0.toNat : Int), .int .u32 0, .string ⟨#[]⟩, .string ⟨#[]⟩] PrT))
  have P0 := Lib.hid (Bk.fresh (w.alloc (.cells #[.int .i64 0, .int .u32 0, .string ⟨#[]⟩, .string ⟨#[]⟩] PrT)) PrT #[.int .i64 (b0.toNat : Int), .int .u32 0, .string ⟨#[]⟩, .string ⟨#[]⟩])
  rw [heap_alloc_sz] at P0
  have B0 := Lib.hid (((Below.refl w.heap.size w).alloc (Nat.le_refl _) (.cells #[.int .i64 0, .int .u32 0, .string ⟨#[]⟩, .string ⟨#[]⟩] PrT)).alloc (by simp) (.cells #[.int .i64 (b0.toNat : Int), .int .u32 0, .string ⟨#[]⟩, .string ⟨#[]⟩] PrT))
  by_cases hsz : 1 + 1 ≤ s.size
  rotate_left
  · have HV : Hid ((valS 1 s 1).err = 5) := Lib.hid (by
      have e : needS s 1 0 (1 : Nat) = (⟨#[]⟩, 1, 5) := need_no hsz
      show (needS s 1 0 1).2.2 = 5
      rw [show (1 : Int) = ((1 : Nat) : Int) from rfl, e])
    have w0 : IntKind.i64.wrap ((s.size : Int) - 1) = (s.size : Int) - 1 := by rw [IntKind.wrap_i64]; omega
    have d0 : decide ((s.size : Int) - 1 < 1) = true := decide_eq_true (by omega)
    clear hsz
    go_enter Tryz.func92, Tryz.ntmps92
    go_wp2_with fail
    refine (look_any (b0.toNat : Int) _).mono ?_
    rintro e w1 ⟨A, c, rfl, -, hb⟩
    unfold rowV
    rw [HR.out]
    have R1 := Lib.hid (R0.out.below hb R0.out.lt); have P1 := Lib.hid (P0.out.below hb P0.out.lt); have B1 := Lib.hid (B0.out.trans (hb.mono B0.out.size)); clear hb
    obtain ⟨⟨r0, r1, r2, r3⟩, s0, s1, s2, s3⟩ := R1.out.four
    obtain ⟨⟨c0, c1, c2, c3⟩, f0, f1, f2, f3⟩ := P1.out.four
    have R2 := Lib.hid (R1.out.alloc (.cells #[.int .i64 0, .int .i64 1, .int .i64 2, .int .i64 4] 3))
    have B2 := Lib.hid (B1.out.alloc B1.out.size (.cells #[.int .i64 0, .int .i64 1, .int .i64 2, .int .i64 4] 3))
    have P2 := Lib.hid (P1.out.alloc (.cells #[.int .i64 0, .int .i64 1, .int .i64 2, .int .i64 4] 3))
    obtain ⟨⟨e0, e1, e2, e3⟩, k0, k1, k2, k3⟩ := P2.out.four
    obtain ⟨⟨t0, t1, t2, t3⟩, u0, u1, u2, u3⟩ := R2.out.four
    go_wp2
    refine bodyPost_ret (results_nx rfl _ rfl R2.out.put_four) rfl ?_
    exact nextOut_bad (n := 0) HV.out (by decide) (below_four B2.out (Nat.le_refl _) _ _ _ _)
  · have HV : Hid (valS 1 s 1 = ⟨getL (ls (s.extract 1 2)), ⟨#[]⟩, ⟨#[]⟩, 2, 0⟩) := Lib.hid (by
      have e : needS s 1 0 (1 : Nat) = (s.extract 1 (1 + 1), 1 + 1, 0) := needS_yes hsz
      show (⟨getL (ls (needS s 1 0 1).1), ⟨#[]⟩, ⟨#[]⟩, (needS s 1 0 1).2.1, (needS s 1 0 1).2.2⟩ : VRead) = _
      rw [show (1 : Int) = ((1 : Nat) : Int) from rfl, e])
    have w0 : IntKind.i64.wrap ((s.size : Int) - 1) = (s.size : Int) - 1 := by rw [IntKind.wrap_i64]; omega
    have d0 : decide ((s.size : Int) - 1 < 1) = false := decide_eq_false (by omega)
    have i3 : (2 : Int) ≤ (s.size : Int) := by omega
    have HZ : Hid ((s.extract 1 2).size ≤ 8) := Lib.hid (by rw [ByteArray.size_extract]; omega)
    have HG : Hid (getL (ls (s.extract 1 2)) < 4294967296) := Lib.hid (by
      have h1 := getL_lt (ls (s.extract 1 2))
      rw [ls_len, ByteArray.size_extract, show min 2 s.size - 1 = 1 by omega] at h1
      omega)
    clear hsz
    go_enter Tryz.func92, Tryz.ntmps92
    go_wp2_with fail
    refine (look_any (b0.toNat : Int) _).mono ?_
    rintro e w1 ⟨A, c, rfl, -, hb⟩
    unfold rowV
    rw [HR.out]
    have R1 := Lib.hid (R0.out.below hb R0.out.lt); have P1 := Lib.hid (P0.out.below hb P0.out.lt); have B1 := Lib.hid (B0.out.trans (hb.mono B0.out.size)); clear hb
    obtain ⟨⟨r0, r1, r2, r3⟩, s0, s1, s2, s3⟩ := R1.out.four
    obtain ⟨⟨c0, c1, c2, c3⟩, f0, f1, f2, f3⟩ := P1.out.four
    have R2 := Lib.hid (R1.out.alloc (.cells #[.int .i64 0, .int .i64 1, .int .i64 2, .int .i64 4] 3))
    have P2 := Lib.hid (P1.out.alloc (.cells #[.int .i64 0, .int .i64 1, .int .i64 2, .int .i64 4] 3))
    have B2 := Lib.hid (B1.out.alloc B1.out.size (.cells #[.int .i64 0, .int .i64 1, .int .i64 2, .int .i64 4] 3))
    obtain ⟨⟨e0, e1, e2, e3⟩, k0, k1, k2, k3⟩ := P2.out.four
    obtain ⟨⟨t0, t1, t2, t3⟩, u0, u1, u2, u3⟩ := R2.out.four
    go_wp2_with fail
    refine (refGet_any _ _ HZ.out).mono ?_
    rintro e w2 ⟨rfl, rfl⟩
    generalize getL (ls (s.extract 1 2)) = G at *
    have hwG : IntKind.u32.wrap (G : Int) = (G : Int) := by rw [IntKind.wrap_u32]; have := HG.out; omega
    have R3 := Lib.hid (R2.out.other (p := ⟨w.heap.size + 1, 1, none⟩) (by simp) (.int .u32 (G : Int)))
    have B3 := Lib.hid (B2.out.setCell (show w.heap.size ≤ (⟨w.heap.size + 1, 1, none⟩ : Addr).block by simp) (.int .u32 (G : Int)))
    go_wp2
    refine bodyPost_ret (results_nx rfl _ rfl R3.out.put_four) rfl ?_
    exact nextOut_ok HV.out (below_four B3.out (Nat.le_refl _) _ _ _ _)
set_option maxHeartbeats 4000000 in
set_option maxRecDepth 10000 in
theorem next_2 (s : ByteArray) (b0 : UInt8) (h : 0 < s.size) (hb0 : s[0] = b0) (hsh : shapeOf (b0.toNat : Int) = 2) (w : World) (hs : s.size ≤ 4611686018427387904) :
    Calls Tryz.prog 92 #[.string s] w (NextOut s 2 (b0.toNat : Int) w) := by
  have h0 : (0 : Int) < (s.size : Int) := by omega
  obtain ⟨sh', ki, le, mo, hR⟩ : ∃ sh ki le mo, ruleOf (b0.toNat : Int) = ⟨sh, ki, le, mo⟩ := ⟨_, _, _, _, rfl⟩
  have hs' : sh' = 2 := by
    have : (ruleOf (b0.toNat : Int)).shape = 2 := hsh
    rw [hR] at this
    exact this
  subst hs'
  have HR := Lib.hid hR
  clear hsh hR
  have hw0 : IntKind.i64.wrap (b0.toNat : Int) = (b0.toNat : Int) := by rw [IntKind.wrap_i64]; have := b0.toNat_lt; omega
  have R0 := Lib.hid ((Bk.fresh w PrT #[.int .i64 0, .int .u32 0, .string ⟨#[]⟩, .string ⟨#[]⟩]).alloc (.cells #[.int .i64 (b0.toNat : Int), .int .u32 0, .string ⟨#[]⟩, .string ⟨#[]⟩] PrT))
  have P0 := Lib.hid (Bk.fresh (w.alloc (.cells #[.int .i64 0, .int .u32 0, .string ⟨#[]⟩, .string ⟨#[]⟩] PrT)) PrT #[.int .i64 (b0.toNat : Int), .int .u32 0, .string ⟨#[]⟩, .string ⟨#[]⟩])
  rw [heap_alloc_sz] at P0
  have B0 := Lib.hid (((Below.refl w.heap.size w).alloc (Nat.le_refl _) (.cells #[.int .i64 0, .int .u32 0, .string ⟨#[]⟩, .string ⟨#[]⟩] PrT)).alloc (by simp) (.cells #[.int .i64 (b0.toNat : Int), .int .u32 0, .string ⟨#[]⟩, .string ⟨#[]⟩] PrT))
  by_cases hsz : 1 + 2 ≤ s.size
  rotate_left
  · have HV : Hid ((valS 2 s 1).err = 5) := Lib.hid (by
      have e : needS s 1 0 (2 : Nat) = (⟨#[]⟩, 1, 5) := need_no hsz
      show (needS s 1 0 2).2.2 = 5
      rw [show (2 : Int) = ((2 : Nat) : Int) from rfl, e])
    have w0 : IntKind.i64.wrap ((s.size : Int) - 1) = (s.size : Int) - 1 := by rw [IntKind.wrap_i64]; omega
    have d0 : decide ((s.size : Int) - 1 < 2) = true := decide_eq_true (by omega)
    clear hsz
    go_enter Tryz.func92, Tryz.ntmps92
    go_wp2_with fail
    refine (look_any (b0.toNat : Int) _).mono ?_
    rintro e w1 ⟨A, c, rfl, -, hb⟩
    unfold rowV
    rw [HR.out]
    have R1 := Lib.hid (R0.out.below hb R0.out.lt); have P1 := Lib.hid (P0.out.below hb P0.out.lt); have B1 := Lib.hid (B0.out.trans (hb.mono B0.out.size)); clear hb
    obtain ⟨⟨r0, r1, r2, r3⟩, s0, s1, s2, s3⟩ := R1.out.four
    obtain ⟨⟨c0, c1, c2, c3⟩, f0, f1, f2, f3⟩ := P1.out.four
    have R2 := Lib.hid (R1.out.alloc (.cells #[.int .i64 0, .int .i64 1, .int .i64 2, .int .i64 4] 3))
    have B2 := Lib.hid (B1.out.alloc B1.out.size (.cells #[.int .i64 0, .int .i64 1, .int .i64 2, .int .i64 4] 3))
    have P2 := Lib.hid (P1.out.alloc (.cells #[.int .i64 0, .int .i64 1, .int .i64 2, .int .i64 4] 3))
    obtain ⟨⟨e0, e1, e2, e3⟩, k0, k1, k2, k3⟩ := P2.out.four
    obtain ⟨⟨t0, t1, t2, t3⟩, u0, u1, u2, u3⟩ := R2.out.four
    go_wp2
    refine bodyPost_ret (results_nx rfl _ rfl R2.out.put_four) rfl ?_
    exact nextOut_bad (n := 0) HV.out (by decide) (below_four B2.out (Nat.le_refl _) _ _ _ _)
  · have HV : Hid (valS 2 s 1 = ⟨getL (ls (s.extract 1 3)), ⟨#[]⟩, ⟨#[]⟩, 3, 0⟩) := Lib.hid (by
      have e : needS s 1 0 (2 : Nat) = (s.extract 1 (1 + 2), 1 + 2, 0) := needS_yes hsz
      show (⟨getL (ls (needS s 1 0 2).1), ⟨#[]⟩, ⟨#[]⟩, (needS s 1 0 2).2.1, (needS s 1 0 2).2.2⟩ : VRead) = _
      rw [show (2 : Int) = ((2 : Nat) : Int) from rfl, e])
    have w0 : IntKind.i64.wrap ((s.size : Int) - 1) = (s.size : Int) - 1 := by rw [IntKind.wrap_i64]; omega
    have d0 : decide ((s.size : Int) - 1 < 2) = false := decide_eq_false (by omega)
    have i3 : (3 : Int) ≤ (s.size : Int) := by omega
    have HZ : Hid ((s.extract 1 3).size ≤ 8) := Lib.hid (by rw [ByteArray.size_extract]; omega)
    have HG : Hid (getL (ls (s.extract 1 3)) < 4294967296) := Lib.hid (by
      have h1 := getL_lt (ls (s.extract 1 3))
      rw [ls_len, ByteArray.size_extract, show min 3 s.size - 1 = 2 by omega] at h1
      omega)
    clear hsz
    go_enter Tryz.func92, Tryz.ntmps92
    go_wp2_with fail
    refine (look_any (b0.toNat : Int) _).mono ?_
    rintro e w1 ⟨A, c, rfl, -, hb⟩
    unfold rowV
    rw [HR.out]
    have R1 := Lib.hid (R0.out.below hb R0.out.lt); have P1 := Lib.hid (P0.out.below hb P0.out.lt); have B1 := Lib.hid (B0.out.trans (hb.mono B0.out.size)); clear hb
    obtain ⟨⟨r0, r1, r2, r3⟩, s0, s1, s2, s3⟩ := R1.out.four
    obtain ⟨⟨c0, c1, c2, c3⟩, f0, f1, f2, f3⟩ := P1.out.four
    have R2 := Lib.hid (R1.out.alloc (.cells #[.int .i64 0, .int .i64 1, .int .i64 2, .int .i64 4] 3))
    have P2 := Lib.hid (P1.out.alloc (.cells #[.int .i64 0, .int .i64 1, .int .i64 2, .int .i64 4] 3))
    have B2 := Lib.hid (B1.out.alloc B1.out.size (.cells #[.int .i64 0, .int .i64 1, .int .i64 2, .int .i64 4] 3))
    obtain ⟨⟨e0, e1, e2, e3⟩, k0, k1, k2, k3⟩ := P2.out.four
    obtain ⟨⟨t0, t1, t2, t3⟩, u0, u1, u2, u3⟩ := R2.out.four
    go_wp2_with fail
    refine (refGet_any _ _ HZ.out).mono ?_
    rintro e w2 ⟨rfl, rfl⟩
    generalize getL (ls (s.extract 1 3)) = G at *
    have hwG : IntKind.u32.wrap (G : Int) = (G : Int) := by rw [IntKind.wrap_u32]; have := HG.out; omega
    have R3 := Lib.hid (R2.out.other (p := ⟨w.heap.size + 1, 1, none⟩) (by simp) (.int .u32 (G : Int)))
    have B3 := Lib.hid (B2.out.setCell (show w.heap.size ≤ (⟨w.heap.size + 1, 1, none⟩ : Addr).block by simp) (.int .u32 (G : Int)))
    go_wp2
    refine bodyPost_ret (results_nx rfl _ rfl R3.out.put_four) rfl ?_
    exact nextOut_ok HV.out (below_four B3.out (Nat.le_refl _) _ _ _ _)
set_option maxHeartbeats 4000000 in
set_option maxRecDepth 10000 in
theorem next_3 (s : ByteArray) (b0 : UInt8) (h : 0 < s.size) (hb0 : s[0] = b0) (hsh : shapeOf (b0.toNat : Int) = 3) (w : World) (hs : s.size ≤ 4611686018427387904) :
    Calls Tryz.prog 92 #[.string s] w (NextOut s 3 (b0.toNat : Int) w) := by
  have h0 : (0 : Int) < (s.size : Int) := by omega
  obtain ⟨sh', ki, le, mo, hR⟩ : ∃ sh ki le mo, ruleOf (b0.toNat : Int) = ⟨sh, ki, le, mo⟩ := ⟨_, _, _, _, rfl⟩
  have hs' : sh' = 3 := by
    have : (ruleOf (b0.toNat : Int)).shape = 3 := hsh
    rw [hR] at this
    exact this
  subst hs'
  have HR := Lib.hid hR
  clear hsh hR
  have hw0 : IntKind.i64.wrap (b0.toNat : Int) = (b0.toNat : Int) := by rw [IntKind.wrap_i64]; have := b0.toNat_lt; omega
  have R0 := Lib.hid ((Bk.fresh w PrT #[.int .i64 0, .int .u32 0, .string ⟨#[]⟩, .string ⟨#[]⟩]).alloc (.cells #[.int .i64 (b0.toNat : Int), .int .u32 0, .string ⟨#[]⟩, .string ⟨#[]⟩] PrT))
  have P0 := Lib.hid (Bk.fresh (w.alloc (.cells #[.int .i64 0, .int .u32 0, .string ⟨#[]⟩, .string ⟨#[]⟩] PrT)) PrT #[.int .i64 (b0.toNat : Int), .int .u32 0, .string ⟨#[]⟩, .string ⟨#[]⟩])
  rw [heap_alloc_sz] at P0
  have B0 := Lib.hid (((Below.refl w.heap.size w).alloc (Nat.le_refl _) (.cells #[.int .i64 0, .int .u32 0, .string ⟨#[]⟩, .string ⟨#[]⟩] PrT)).alloc (by simp) (.cells #[.int .i64 (b0.toNat : Int), .int .u32 0, .string ⟨#[]⟩, .string ⟨#[]⟩] PrT))
  by_cases hsz : 1 + 4 ≤ s.size
  rotate_left
  · have HV : Hid ((valS 3 s 1).err = 5) := Lib.hid (by
      have e : needS s 1 0 (4 : Nat) = (⟨#[]⟩, 1, 5) := need_no hsz
      show (needS s 1 0 4).2.2 = 5
      rw [show (4 : Int) = ((4 : Nat) : Int) from rfl, e])
    have w0 : IntKind.i64.wrap ((s.size : Int) - 1) = (s.size : Int) - 1 := by rw [IntKind.wrap_i64]; omega
    have d0 : decide ((s.size : Int) - 1 < 4) = true := decide_eq_true (by omega)
    clear hsz
    go_enter Tryz.func92, Tryz.ntmps92
    go_wp2_with fail
    refine (look_any (b0.toNat : Int) _).mono ?_
    rintro e w1 ⟨A, c, rfl, -, hb⟩
    unfold rowV
    rw [HR.out]
    have R1 := Lib.hid (R0.out.below hb R0.out.lt); have P1 := Lib.hid (P0.out.below hb P0.out.lt); have B1 := Lib.hid (B0.out.trans (hb.mono B0.out.size)); clear hb
    obtain ⟨⟨r0, r1, r2, r3⟩, s0, s1, s2, s3⟩ := R1.out.four
    obtain ⟨⟨c0, c1, c2, c3⟩, f0, f1, f2, f3⟩ := P1.out.four
    have R2 := Lib.hid (R1.out.alloc (.cells #[.int .i64 0, .int .i64 1, .int .i64 2, .int .i64 4] 3))
    have B2 := Lib.hid (B1.out.alloc B1.out.size (.cells #[.int .i64 0, .int .i64 1, .int .i64 2, .int .i64 4] 3))
    have P2 := Lib.hid (P1.out.alloc (.cells #[.int .i64 0, .int .i64 1, .int .i64 2, .int .i64 4] 3))
    obtain ⟨⟨e0, e1, e2, e3⟩, k0, k1, k2, k3⟩ := P2.out.four
    obtain ⟨⟨t0, t1, t2, t3⟩, u0, u1, u2, u3⟩ := R2.out.four
    go_wp2
    refine bodyPost_ret (results_nx rfl _ rfl R2.out.put_four) rfl ?_
    exact nextOut_bad (n := 0) HV.out (by decide) (below_four B2.out (Nat.le_refl _) _ _ _ _)
  · have HV : Hid (valS 3 s 1 = ⟨getL (ls (s.extract 1 5)), ⟨#[]⟩, ⟨#[]⟩, 5, 0⟩) := Lib.hid (by
      have e : needS s 1 0 (4 : Nat) = (s.extract 1 (1 + 4), 1 + 4, 0) := needS_yes hsz
      show (⟨getL (ls (needS s 1 0 4).1), ⟨#[]⟩, ⟨#[]⟩, (needS s 1 0 4).2.1, (needS s 1 0 4).2.2⟩ : VRead) = _
      rw [show (4 : Int) = ((4 : Nat) : Int) from rfl, e])
    have w0 : IntKind.i64.wrap ((s.size : Int) - 1) = (s.size : Int) - 1 := by rw [IntKind.wrap_i64]; omega
    have d0 : decide ((s.size : Int) - 1 < 4) = false := decide_eq_false (by omega)
    have i3 : (5 : Int) ≤ (s.size : Int) := by omega
    have HZ : Hid ((s.extract 1 5).size ≤ 8) := Lib.hid (by rw [ByteArray.size_extract]; omega)
    have HG : Hid (getL (ls (s.extract 1 5)) < 4294967296) := Lib.hid (by
      have h1 := getL_lt (ls (s.extract 1 5))
      rw [ls_len, ByteArray.size_extract, show min 5 s.size - 1 = 4 by omega] at h1
      omega)
    clear hsz
    go_enter Tryz.func92, Tryz.ntmps92
    go_wp2_with fail
    refine (look_any (b0.toNat : Int) _).mono ?_
    rintro e w1 ⟨A, c, rfl, -, hb⟩
    unfold rowV
    rw [HR.out]
    have R1 := Lib.hid (R0.out.below hb R0.out.lt); have P1 := Lib.hid (P0.out.below hb P0.out.lt); have B1 := Lib.hid (B0.out.trans (hb.mono B0.out.size)); clear hb
    obtain ⟨⟨r0, r1, r2, r3⟩, s0, s1, s2, s3⟩ := R1.out.four
    obtain ⟨⟨c0, c1, c2, c3⟩, f0, f1, f2, f3⟩ := P1.out.four
    have R2 := Lib.hid (R1.out.alloc (.cells #[.int .i64 0, .int .i64 1, .int .i64 2, .int .i64 4] 3))
    have P2 := Lib.hid (P1.out.alloc (.cells #[.int .i64 0, .int .i64 1, .int .i64 2, .int .i64 4] 3))
    have B2 := Lib.hid (B1.out.alloc B1.out.size (.cells #[.int .i64 0, .int .i64 1, .int .i64 2, .int .i64 4] 3))
    obtain ⟨⟨e0, e1, e2, e3⟩, k0, k1, k2, k3⟩ := P2.out.four
    obtain ⟨⟨t0, t1, t2, t3⟩, u0, u1, u2, u3⟩ := R2.out.four
    go_wp2_with fail
    refine (refGet_any _ _ HZ.out).mono ?_
    rintro e w2 ⟨rfl, rfl⟩
    generalize getL (ls (s.extract 1 5)) = G at *
    have hwG : IntKind.u32.wrap (G : Int) = (G : Int) := by rw [IntKind.wrap_u32]; have := HG.out; omega
    have R3 := Lib.hid (R2.out.other (p := ⟨w.heap.size + 1, 1, none⟩) (by simp) (.int .u32 (G : Int)))
    have B3 := Lib.hid (B2.out.setCell (show w.heap.size ≤ (⟨w.heap.size + 1, 1, none⟩ : Addr).block by simp) (.int .u32 (G : Int)))
    go_wp2
    refine bodyPost_ret (results_nx rfl _ rfl R3.out.put_four) rfl ?_
    exact nextOut_ok HV.out (below_four B3.out (Nat.le_refl _) _ _ _ _)
set_option maxHeartbeats 4000000 in
set_option maxRecDepth 10000 in
theorem next_4 (s : ByteArray) (b0 : UInt8) (h : 0 < s.size) (hb0 : s[0] = b0) (hsh : shapeOf (b0.toNat : Int) = 4) (w : World) (hs : s.size ≤ 4611686018427387904) :
    Calls Tryz.prog 92 #[.string s] w (NextOut s 4 (b0.toNat : Int) w) := by
  have h0 : (0 : Int) < (s.size : Int) := by omega
  obtain ⟨sh', ki, le, mo, hR⟩ : ∃ sh ki le mo, ruleOf (b0.toNat : Int) = ⟨sh, ki, le, mo⟩ := ⟨_, _, _, _, rfl⟩
  have hs' : sh' = 4 := by
    have : (ruleOf (b0.toNat : Int)).shape = 4 := hsh
    rw [hR] at this
    exact this
  subst hs'
  have HR := Lib.hid hR
  clear hsh hR
  have hw0 : IntKind.i64.wrap (b0.toNat : Int) = (b0.toNat : Int) := by rw [IntKind.wrap_i64]; have := b0.toNat_lt; omega
  have R0 := Lib.hid ((Bk.fresh w PrT #[.int .i64 0, .int .u32 0, .string ⟨#[]⟩, .string ⟨#[]⟩]).alloc (.cells #[.int .i64 (b0.toNat : Int), .int .u32 0, .string ⟨#[]⟩, .string ⟨#[]⟩] PrT))
  have P0 := Lib.hid (Bk.fresh (w.alloc (.cells #[.int .i64 0, .int .u32 0, .string ⟨#[]⟩, .string ⟨#[]⟩] PrT)) PrT #[.int .i64 (b0.toNat : Int), .int .u32 0, .string ⟨#[]⟩, .string ⟨#[]⟩])
  rw [heap_alloc_sz] at P0
  have B0 := Lib.hid (((Below.refl w.heap.size w).alloc (Nat.le_refl _) (.cells #[.int .i64 0, .int .u32 0, .string ⟨#[]⟩, .string ⟨#[]⟩] PrT)).alloc (by simp) (.cells #[.int .i64 (b0.toNat : Int), .int .u32 0, .string ⟨#[]⟩, .string ⟨#[]⟩] PrT))
  have i2 : (1 : Int) ≤ (s.size : Int) := by omega
  have HL : Hid (ls (s.extract 1 s.size) = (ls s).drop 1) := Lib.hid (rest_ls s 1)
  have HZ : Hid ((s.extract 1 s.size).size ≤ 4611686018427387904) := Lib.hid (by rw [ByteArray.size_extract]; omega)
  have HLE : Hid ((s.extract 1 s.size).size + 1 = s.size) := Lib.hid (by rw [ByteArray.size_extract]; omega)
  have HVV : Hid (valS 4 s 1 = ⟨(varS s 1).1, ⟨#[]⟩, ⟨#[]⟩, (varS s 1).2.1, (varS s 1).2.2⟩) := Lib.hid rfl
  have HVR : Hid (varS s 1 = if (readV (ls (s.extract 1 s.size))).2.2 = 0 then ((readV (ls (s.extract 1 s.size))).1, 1 + (readV (ls (s.extract 1 s.size))).2.1, 0) else ((readV (ls (s.extract 1 s.size))).1, 1, 5)) := Lib.hid (by rw [HL.out]; rfl)
  have HBK : Hid (∀ n k, readV (ls (s.extract 1 s.size)) = (n, k, 0) → n ≤ 268435455 ∧ k ≤ 4) := Lib.hid (fun n k hr => by
    obtain ⟨-, h2, h3⟩ := readV_back hr
    refine ⟨h3, ?_⟩
    rw [h2, varL_len]
    split; omega; split; omega; split; omega; omega)
  obtain ⟨N, K, F, hRV⟩ : ∃ N K F, readV (ls (s.extract 1 s.size)) = (N, K, F) := ⟨_, _, _, rfl⟩
  rw [hRV] at HVR HBK
  have HRV := Lib.hid hRV
  clear hRV
  by_cases hF : F = 0
  rotate_left
  · have HV : Hid ((valS 4 s 1).err = 5) := Lib.hid (by rw [HVV.out, HVR.out, if_neg hF])
    have e0 : (F != 0) = true := bne_iff_ne.2 hF
    clear hF
    go_enter Tryz.func92, Tryz.ntmps92
    go_wp2_with fail
    refine (look_any (b0.toNat : Int) _).mono ?_
    rintro e w1 ⟨A, c, rfl, -, hb⟩
    unfold rowV
    rw [HR.out]
    have R1 := Lib.hid (R0.out.below hb R0.out.lt); have P1 := Lib.hid (P0.out.below hb P0.out.lt); have B1 := Lib.hid (B0.out.trans (hb.mono B0.out.size)); clear hb
    obtain ⟨⟨r0, r1, r2, r3⟩, s0, s1, s2, s3⟩ := R1.out.four
    obtain ⟨⟨c0, c1, c2, c3⟩, f0, f1, f2, f3⟩ := P1.out.four
    go_wp2_with fail
    refine (ref2Read_any _ _ HZ.out).mono ?_
    rintro e w2 ⟨rfl, rfl⟩
    rw [HRV.out]
    simp only
    go_wp2
    refine bodyPost_ret (results_nx rfl _ rfl R1.out.put_four) rfl ?_
    exact nextOut_bad (n := 0) HV.out (by decide) (below_four B1.out (Nat.le_refl _) _ _ _ _)
  · subst hF
    have HV : Hid (valS 4 s 1 = ⟨N, ⟨#[]⟩, ⟨#[]⟩, 1 + K, 0⟩) := Lib.hid (by rw [HVV.out, HVR.out, if_pos rfl])
    have hNK := HBK.out N K rfl
    have hwG : IntKind.u32.wrap (N : Int) = (N : Int) := by rw [IntKind.wrap_u32]; omega
    have hwK : IntKind.i64.wrap (1 + (K : Int)) = 1 + (K : Int) := by rw [IntKind.wrap_i64]; omega
    have HK : Hid (((1 + K : Nat) : Int) = 1 + (K : Int)) := Lib.hid (by omega)
    clear hNK
    go_enter Tryz.func92, Tryz.ntmps92
    go_wp2_with fail
    refine (look_any (b0.toNat : Int) _).mono ?_
    rintro e w1 ⟨A, c, rfl, -, hb⟩
    unfold rowV
    rw [HR.out]
    have R1 := Lib.hid (R0.out.below hb R0.out.lt); have P1 := Lib.hid (P0.out.below hb P0.out.lt); have B1 := Lib.hid (B0.out.trans (hb.mono B0.out.size)); clear hb
    obtain ⟨⟨r0, r1, r2, r3⟩, s0, s1, s2, s3⟩ := R1.out.four
    obtain ⟨⟨c0, c1, c2, c3⟩, f0, f1, f2, f3⟩ := P1.out.four
    go_wp2_with fail
    refine (ref2Read_any _ _ HZ.out).mono ?_
    rintro e w2 ⟨rfl, rfl⟩
    rw [HRV.out]
    simp only
    have R3 := Lib.hid (R1.out.other (p := ⟨w.heap.size + 1, 1, none⟩) (by simp) (.int .u32 (N : Int)))
    have B3 := Lib.hid (B1.out.setCell (show w.heap.size ≤ (⟨w.heap.size + 1, 1, none⟩ : Addr).block by simp) (.int .u32 (N : Int)))
    go_wp2
    refine bodyPost_ret (results_nx rfl _ rfl R3.out.put_four) rfl ?_
    have hfin := nextOut_ok (id := (b0.toNat : Int)) HV.out (below_four B3.out (Nat.le_refl _) (.int .i64 (b0.toNat : Int)) (.int .u32 (N : Int)) (.string ⟨#[]⟩) (.string ⟨#[]⟩))
    rw [HK.out] at hfin
    exact hfin
set_option maxHeartbeats 4000000 in
set_option maxRecDepth 10000 in
theorem next_5 (s : ByteArray) (b0 : UInt8) (h : 0 < s.size) (hb0 : s[0] = b0) (hsh : shapeOf (b0.toNat : Int) = 5) (w : World) (hs : s.size ≤ 4611686018427387904) :
    Calls Tryz.prog 92 #[.string s] w (NextOut s 5 (b0.toNat : Int) w) := by
  have h0 : (0 : Int) < (s.size : Int) := by omega
  obtain ⟨sh', ki, le, mo, hR⟩ : ∃ sh ki le mo, ruleOf (b0.toNat : Int) = ⟨sh, ki, le, mo⟩ := ⟨_, _, _, _, rfl⟩
  have hs' : sh' = 5 := by
    have : (ruleOf (b0.toNat : Int)).shape = 5 := hsh
    rw [hR] at this
    exact this
  subst hs'
  have HR := Lib.hid hR
  clear hsh hR
  have hw0 : IntKind.i64.wrap (b0.toNat : Int) = (b0.toNat : Int) := by rw [IntKind.wrap_i64]; have := b0.toNat_lt; omega
  have R0 := Lib.hid ((Bk.fresh w PrT #[.int .i64 0, .int .u32 0, .string ⟨#[]⟩, .string ⟨#[]⟩]).alloc (.cells #[.int .i64 (b0.toNat : Int), .int .u32 0, .string ⟨#[]⟩, .string ⟨#[]⟩] PrT))
  have P0 := Lib.hid (Bk.fresh (w.alloc (.cells #[.int .i64 0, .int .u32 0, .string ⟨#[]⟩, .string ⟨#[]⟩] PrT)) PrT #[.int .i64 (b0.toNat : Int), .int .u32 0, .string ⟨#[]⟩, .string ⟨#[]⟩])
  rw [heap_alloc_sz] at P0
  have B0 := Lib.hid (((Below.refl w.heap.size w).alloc (Nat.le_refl _) (.cells #[.int .i64 0, .int .u32 0, .string ⟨#[]⟩, .string ⟨#[]⟩] PrT)).alloc (by simp) (.cells #[.int .i64 (b0.toNat : Int), .int .u32 0, .string ⟨#[]⟩, .string ⟨#[]⟩] PrT))
  have HA : Hid (1 ≤ s.size) := Lib.hid h
  have HAT : Hid ((txS s 1 5).2.2 = 0 → (txS s 1 5).2.1 ≤ s.size) := Lib.hid (tx_at (sh := 5) h)
  have HVV : Hid ((valS 5 s 1).err = (txS s 1 5).2.2 ∧ ((txS s 1 5).2.2 = 0 → valS 5 s 1 = ⟨0, (txS s 1 5).1, ⟨#[]⟩, (txS s 1 5).2.1, 0⟩)) := Lib.hid (by
    have hh := wr_tx (s := s) (a := 1) (sh := 5) (by decide)
    refine ⟨hh.1, fun h0 => ?_⟩
    show (⟨0, (writS s 1 0).1, ⟨#[]⟩, (writS s 1 0).2.1, (writS s 1 0).2.2⟩ : VRead) = _
    rw [hh.2 h0])
  obtain ⟨T, N, F, hTX⟩ : ∃ T N F, txS s 1 5 = (T, N, F) := ⟨_, _, _, rfl⟩
  rw [hTX] at HVV HAT
  have HTX := Lib.hid hTX; clear hTX
  by_cases hF : F = 0
  rotate_left
  · have HV : Hid ((valS 5 s 1).err = F) := Lib.hid HVV.out.1
    have e0 : (F == 0) = false := beq_eq_false_iff_ne.2 hF
    have HF := Lib.hid hF
    clear hF
    go_enter Tryz.func92, Tryz.ntmps92
    go_wp2_with fail
    refine (look_any (b0.toNat : Int) _).mono ?_
    rintro e w1 ⟨A, c, rfl, -, hb⟩
    unfold rowV
    rw [HR.out]
    have R1 := Lib.hid (R0.out.below hb R0.out.lt); have P1 := Lib.hid (P0.out.below hb P0.out.lt); have B1 := Lib.hid (B0.out.trans (hb.mono B0.out.size)); clear hb
    obtain ⟨⟨r0, r1, r2, r3⟩, s0, s1, s2, s3⟩ := R1.out.four
    obtain ⟨⟨c0, c1, c2, c3⟩, f0, f1, f2, f3⟩ := P1.out.four
    go_wp2_with fail
    refine (refTx_any s 1 1 rfl 5 _ HA.out hs).mono ?_
    rintro e w2 ⟨rfl, rfl⟩
    rw [HTX.out]
    simp only
    have R3 := Lib.hid (R1.out.other (p := ⟨w.heap.size + 1, 2, none⟩) (by simp) (.string T))
    have B3 := Lib.hid (B1.out.setCell (show w.heap.size ≤ (⟨w.heap.size + 1, 2, none⟩ : Addr).block by simp) (.string T))
    go_wp2
    refine bodyPost_ret (results_nx rfl _ rfl R3.out.put_four) rfl ?_
    exact nextOut_bad (n := 0) HV.out HF.out (below_four B3.out (Nat.le_refl _) _ _ _ _)
  · subst hF
    have HV : Hid (valS 5 s 1 = ⟨0, T, ⟨#[]⟩, N, 0⟩) := Lib.hid (HVV.out.2 rfl)
    go_enter Tryz.func92, Tryz.ntmps92
    go_wp2_with fail
    refine (look_any (b0.toNat : Int) _).mono ?_
    rintro e w1 ⟨A, c, rfl, -, hb⟩
    unfold rowV
    rw [HR.out]
    have R1 := Lib.hid (R0.out.below hb R0.out.lt); have P1 := Lib.hid (P0.out.below hb P0.out.lt); have B1 := Lib.hid (B0.out.trans (hb.mono B0.out.size)); clear hb
    obtain ⟨⟨r0, r1, r2, r3⟩, s0, s1, s2, s3⟩ := R1.out.four
    obtain ⟨⟨c0, c1, c2, c3⟩, f0, f1, f2, f3⟩ := P1.out.four
    go_wp2_with fail
    refine (refTx_any s 1 1 rfl 5 _ HA.out hs).mono ?_
    rintro e w2 ⟨rfl, rfl⟩
    rw [HTX.out]
    simp only
    have R3 := Lib.hid (R1.out.other (p := ⟨w.heap.size + 1, 2, none⟩) (by simp) (.string T))
    have B3 := Lib.hid (B1.out.setCell (show w.heap.size ≤ (⟨w.heap.size + 1, 2, none⟩ : Addr).block by simp) (.string T))
    go_wp2
    refine bodyPost_ret (results_nx rfl _ rfl R3.out.put_four) rfl ?_
    exact nextOut_ok HV.out (below_four B3.out (Nat.le_refl _) _ _ _ _)
set_option maxHeartbeats 4000000 in
set_option maxRecDepth 10000 in
theorem next_6 (s : ByteArray) (b0 : UInt8) (h : 0 < s.size) (hb0 : s[0] = b0) (hsh : shapeOf (b0.toNat : Int) = 6) (w : World) (hs : s.size ≤ 4611686018427387904) :
    Calls Tryz.prog 92 #[.string s] w (NextOut s 6 (b0.toNat : Int) w) := by
  have h0 : (0 : Int) < (s.size : Int) := by omega
  obtain ⟨sh', ki, le, mo, hR⟩ : ∃ sh ki le mo, ruleOf (b0.toNat : Int) = ⟨sh, ki, le, mo⟩ := ⟨_, _, _, _, rfl⟩
  have hs' : sh' = 6 := by
    have : (ruleOf (b0.toNat : Int)).shape = 6 := hsh
    rw [hR] at this
    exact this
  subst hs'
  have HR := Lib.hid hR
  clear hsh hR
  have hw0 : IntKind.i64.wrap (b0.toNat : Int) = (b0.toNat : Int) := by rw [IntKind.wrap_i64]; have := b0.toNat_lt; omega
  have R0 := Lib.hid ((Bk.fresh w PrT #[.int .i64 0, .int .u32 0, .string ⟨#[]⟩, .string ⟨#[]⟩]).alloc (.cells #[.int .i64 (b0.toNat : Int), .int .u32 0, .string ⟨#[]⟩, .string ⟨#[]⟩] PrT))
  have P0 := Lib.hid (Bk.fresh (w.alloc (.cells #[.int .i64 0, .int .u32 0, .string ⟨#[]⟩, .string ⟨#[]⟩] PrT)) PrT #[.int .i64 (b0.toNat : Int), .int .u32 0, .string ⟨#[]⟩, .string ⟨#[]⟩])
  rw [heap_alloc_sz] at P0
  have B0 := Lib.hid (((Below.refl w.heap.size w).alloc (Nat.le_refl _) (.cells #[.int .i64 0, .int .u32 0, .string ⟨#[]⟩, .string ⟨#[]⟩] PrT)).alloc (by simp) (.cells #[.int .i64 (b0.toNat : Int), .int .u32 0, .string ⟨#[]⟩, .string ⟨#[]⟩] PrT))
  have HA : Hid (1 ≤ s.size) := Lib.hid h
  have HAT : Hid ((txS s 1 6).2.2 = 0 → (txS s 1 6).2.1 ≤ s.size) := Lib.hid (tx_at (sh := 6) h)
  have HVV : Hid ((valS 6 s 1).err = (txS s 1 6).2.2 ∧ ((txS s 1 6).2.2 = 0 → valS 6 s 1 = ⟨0, (txS s 1 6).1, ⟨#[]⟩, (txS s 1 6).2.1, 0⟩)) := Lib.hid (by
    have hh := da_tx (s := s) (a := 1)
    refine ⟨hh.1, fun h0 => ?_⟩
    show (⟨0, (dataS s 1 0).1, ⟨#[]⟩, (dataS s 1 0).2.1, (dataS s 1 0).2.2⟩ : VRead) = _
    rw [hh.2 h0])
  obtain ⟨T, N, F, hTX⟩ : ∃ T N F, txS s 1 6 = (T, N, F) := ⟨_, _, _, rfl⟩
  rw [hTX] at HVV HAT
  have HTX := Lib.hid hTX; clear hTX
  by_cases hF : F = 0
  rotate_left
  · have HV : Hid ((valS 6 s 1).err = F) := Lib.hid HVV.out.1
    have e0 : (F == 0) = false := beq_eq_false_iff_ne.2 hF
    have HF := Lib.hid hF
    clear hF
    go_enter Tryz.func92, Tryz.ntmps92
    go_wp2_with fail
    refine (look_any (b0.toNat : Int) _).mono ?_
    rintro e w1 ⟨A, c, rfl, -, hb⟩
    unfold rowV
    rw [HR.out]
    have R1 := Lib.hid (R0.out.below hb R0.out.lt); have P1 := Lib.hid (P0.out.below hb P0.out.lt); have B1 := Lib.hid (B0.out.trans (hb.mono B0.out.size)); clear hb
    obtain ⟨⟨r0, r1, r2, r3⟩, s0, s1, s2, s3⟩ := R1.out.four
    obtain ⟨⟨c0, c1, c2, c3⟩, f0, f1, f2, f3⟩ := P1.out.four
    go_wp2_with fail
    refine (refTx_any s 1 1 rfl 6 _ HA.out hs).mono ?_
    rintro e w2 ⟨rfl, rfl⟩
    rw [HTX.out]
    simp only
    have R3 := Lib.hid (R1.out.other (p := ⟨w.heap.size + 1, 2, none⟩) (by simp) (.string T))
    have B3 := Lib.hid (B1.out.setCell (show w.heap.size ≤ (⟨w.heap.size + 1, 2, none⟩ : Addr).block by simp) (.string T))
    go_wp2
    refine bodyPost_ret (results_nx rfl _ rfl R3.out.put_four) rfl ?_
    exact nextOut_bad (n := 0) HV.out HF.out (below_four B3.out (Nat.le_refl _) _ _ _ _)
  · subst hF
    have HV : Hid (valS 6 s 1 = ⟨0, T, ⟨#[]⟩, N, 0⟩) := Lib.hid (HVV.out.2 rfl)
    go_enter Tryz.func92, Tryz.ntmps92
    go_wp2_with fail
    refine (look_any (b0.toNat : Int) _).mono ?_
    rintro e w1 ⟨A, c, rfl, -, hb⟩
    unfold rowV
    rw [HR.out]
    have R1 := Lib.hid (R0.out.below hb R0.out.lt); have P1 := Lib.hid (P0.out.below hb P0.out.lt); have B1 := Lib.hid (B0.out.trans (hb.mono B0.out.size)); clear hb
    obtain ⟨⟨r0, r1, r2, r3⟩, s0, s1, s2, s3⟩ := R1.out.four
    obtain ⟨⟨c0, c1, c2, c3⟩, f0, f1, f2, f3⟩ := P1.out.four
    go_wp2_with fail
    refine (refTx_any s 1 1 rfl 6 _ HA.out hs).mono ?_
    rintro e w2 ⟨rfl, rfl⟩
    rw [HTX.out]
    simp only
    have R3 := Lib.hid (R1.out.other (p := ⟨w.heap.size + 1, 2, none⟩) (by simp) (.string T))
    have B3 := Lib.hid (B1.out.setCell (show w.heap.size ≤ (⟨w.heap.size + 1, 2, none⟩ : Addr).block by simp) (.string T))
    go_wp2
    refine bodyPost_ret (results_nx rfl _ rfl R3.out.put_four) rfl ?_
    exact nextOut_ok HV.out (below_four B3.out (Nat.le_refl _) _ _ _ _)
set_option maxHeartbeats 4000000 in
set_option maxRecDepth 10000 in
theorem next_7 (s : ByteArray) (b0 : UInt8) (h : 0 < s.size) (hb0 : s[0] = b0) (hsh : shapeOf (b0.toNat : Int) = 7) (w : World) (hs : s.size ≤ 4611686018427387904) :
    Calls Tryz.prog 92 #[.string s] w (NextOut s 7 (b0.toNat : Int) w) := by
  have h0 : (0 : Int) < (s.size : Int) := by omega
  obtain ⟨sh', ki, le, mo, hR⟩ : ∃ sh ki le mo, ruleOf (b0.toNat : Int) = ⟨sh, ki, le, mo⟩ := ⟨_, _, _, _, rfl⟩
  have hs' : sh' = 7 := by
    have : (ruleOf (b0.toNat : Int)).shape = 7 := hsh
    rw [hR] at this
    exact this
  subst hs'
  have HR := Lib.hid hR
  clear hsh hR
  have hw0 : IntKind.i64.wrap (b0.toNat : Int) = (b0.toNat : Int) := by rw [IntKind.wrap_i64]; have := b0.toNat_lt; omega
  have R0 := Lib.hid ((Bk.fresh w PrT #[.int .i64 0, .int .u32 0, .string ⟨#[]⟩, .string ⟨#[]⟩]).alloc (.cells #[.int .i64 (b0.toNat : Int), .int .u32 0, .string ⟨#[]⟩, .string ⟨#[]⟩] PrT))
  have P0 := Lib.hid (Bk.fresh (w.alloc (.cells #[.int .i64 0, .int .u32 0, .string ⟨#[]⟩, .string ⟨#[]⟩] PrT)) PrT #[.int .i64 (b0.toNat : Int), .int .u32 0, .string ⟨#[]⟩, .string ⟨#[]⟩])
  rw [heap_alloc_sz] at P0
  have B0 := Lib.hid (((Below.refl w.heap.size w).alloc (Nat.le_refl _) (.cells #[.int .i64 0, .int .u32 0, .string ⟨#[]⟩, .string ⟨#[]⟩] PrT)).alloc (by simp) (.cells #[.int .i64 (b0.toNat : Int), .int .u32 0, .string ⟨#[]⟩, .string ⟨#[]⟩] PrT))
  have HA : Hid (1 ≤ s.size) := Lib.hid h
  have HAT : Hid ((txS s 1 7).2.2 = 0 → (txS s 1 7).2.1 ≤ s.size) := Lib.hid (tx_at (sh := 7) h)
  have HVV : Hid ((valS 7 s 1).err = (if (txS s 1 7).2.2 = 0 then (txS s (txS s 1 7).2.1 7).2.2 else (txS s 1 7).2.2) ∧ ((txS s 1 7).2.2 = 0 → (txS s (txS s 1 7).2.1 7).2.2 = 0 → valS 7 s 1 = ⟨0, (txS s 1 7).1, (txS s (txS s 1 7).2.1 7).1, (txS s (txS s 1 7).2.1 7).2.1, 0⟩)) := Lib.hid (by
    have hh := wr_tx (s := s) (a := 1) (sh := 7) (by decide)
    have hk := wr_tx (s := s) (a := (txS s 1 7).2.1) (sh := 7) (by decide)
    refine ⟨?_, fun h0 h1 => ?_⟩
    · show (writS s (writS s 1 0).2.1 (writS s 1 0).2.2).2.2 = _
      by_cases h0 : (txS s 1 7).2.2 = 0
      · rw [if_pos h0, hh.2 h0]; exact hk.1
      · rw [if_neg h0, writS_err (by rw [hh.1]; exact h0), hh.1]
    · show (⟨0, (writS s 1 0).1, (writS s (writS s 1 0).2.1 (writS s 1 0).2.2).1, (writS s (writS s 1 0).2.1 (writS s 1 0).2.2).2.1, (writS s (writS s 1 0).2.1 (writS s 1 0).2.2).2.2⟩ : VRead) = _
      rw [hh.2 h0]
      simp only
      rw [hk.2 h1])
  obtain ⟨T, N, F, hTX⟩ : ∃ T N F, txS s 1 7 = (T, N, F) := ⟨_, _, _, rfl⟩
  rw [hTX] at HVV HAT
  simp only at HVV HAT
  have HTX := Lib.hid hTX; clear hTX
  by_cases hF : F = 0
  rotate_left
  · have HV : Hid ((valS 7 s 1).err = F) := Lib.hid (by rw [HVV.out.1, if_neg hF])
    have e0 : (F == 0) = false := beq_eq_false_iff_ne.2 hF
    have HF := Lib.hid hF
    clear hF
    go_enter Tryz.func92, Tryz.ntmps92
    go_wp2_with fail
    refine (look_any (b0.toNat : Int) _).mono ?_
    rintro e w1 ⟨A, c, rfl, -, hb⟩
    unfold rowV
    rw [HR.out]
    have R1 := Lib.hid (R0.out.below hb R0.out.lt); have P1 := Lib.hid (P0.out.below hb P0.out.lt); have B1 := Lib.hid (B0.out.trans (hb.mono B0.out.size)); clear hb
    obtain ⟨⟨r0, r1, r2, r3⟩, s0, s1, s2, s3⟩ := R1.out.four
    obtain ⟨⟨c0, c1, c2, c3⟩, f0, f1, f2, f3⟩ := P1.out.four
    go_wp2_with fail
    refine (refTx_any s 1 1 rfl 7 _ HA.out hs).mono ?_
    rintro e w2 ⟨rfl, rfl⟩
    rw [HTX.out]
    simp only
    have R3 := Lib.hid (R1.out.other (p := ⟨w.heap.size + 1, 2, none⟩) (by simp) (.string T))
    have B3 := Lib.hid (B1.out.setCell (show w.heap.size ≤ (⟨w.heap.size + 1, 2, none⟩ : Addr).block by simp) (.string T))
    go_wp2
    refine bodyPost_ret (results_nx rfl _ rfl R3.out.put_four) rfl ?_
    exact nextOut_bad (n := 0) HV.out HF.out (below_four B3.out (Nat.le_refl _) _ _ _ _)
  subst hF
  have HNL : Hid (N ≤ s.size) := Lib.hid (HAT.out rfl)
  have HVW := Lib.hid (And.intro (HVV.out.1.trans (if_pos rfl)) (HVV.out.2 rfl))
  obtain ⟨T2, N2, F2, hTX2⟩ : ∃ T N' F, txS s N 7 = (T, N', F) := ⟨_, _, _, rfl⟩
  rw [hTX2] at HVW
  simp only at HVW
  have HTX2 := Lib.hid hTX2; clear hTX2 HVV HAT
  have HVE := Lib.hid HVW.out.1
  have R3 : ∀ x, Bk x w.heap.size PrT #[.int .i64 0, .int .u32 0, .string ⟨#[]⟩, .string ⟨#[]⟩] → Bk ((x.setCell ⟨w.heap.size + 1, 2, none⟩ (.string T)).setCell ⟨w.heap.size + 1, 3, none⟩ (.string T2)) w.heap.size PrT #[.int .i64 0, .int .u32 0, .string ⟨#[]⟩, .string ⟨#[]⟩] := fun x hx => (hx.other (p := ⟨w.heap.size + 1, 2, none⟩) (by simp) _).other (p := ⟨w.heap.size + 1, 3, none⟩) (by simp) _
  have B3 : ∀ x, Below w.heap.size w x → Below w.heap.size w ((x.setCell ⟨w.heap.size + 1, 2, none⟩ (.string T)).setCell ⟨w.heap.size + 1, 3, none⟩ (.string T2)) := fun x hx => (hx.setCell (show w.heap.size ≤ (⟨w.heap.size + 1, 2, none⟩ : Addr).block by simp) _).setCell (show w.heap.size ≤ (⟨w.heap.size + 1, 3, none⟩ : Addr).block by simp) _
  have HR3 := Lib.hid R3; have HB3 := Lib.hid B3
  clear R3 B3
  go_enter Tryz.func92, Tryz.ntmps92
  go_wp2_with fail
  refine (look_any (b0.toNat : Int) _).mono ?_
  rintro e w1 ⟨A, c, rfl, -, hb⟩
  unfold rowV
  rw [HR.out]
  have R1 := Lib.hid (R0.out.below hb R0.out.lt); have P1 := Lib.hid (P0.out.below hb P0.out.lt); have B1 := Lib.hid (B0.out.trans (hb.mono B0.out.size)); clear hb
  obtain ⟨⟨r0, r1, r2, r3⟩, s0, s1, s2, s3⟩ := R1.out.four
  obtain ⟨⟨c0, c1, c2, c3⟩, f0, f1, f2, f3⟩ := P1.out.four
  go_wp2_with fail
  refine (refTx_any s 1 1 rfl 7 _ HA.out hs).mono ?_
  rintro e w2 ⟨rfl, rfl⟩
  rw [HTX.out]
  simp only
  go_wp2_with fail
  refine (refTx_any s N N rfl 7 _ HNL.out hs).mono ?_
  rintro e w2 ⟨rfl, rfl⟩
  rw [HTX2.out]
  simp only
  have R4 := Lib.hid (HR3.out _ R1.out)
  have B4 := Lib.hid (HB3.out _ B1.out)
  go_wp2
  refine bodyPost_ret (results_nx rfl _ rfl R4.out.put_four) rfl ?_
  by_cases hF : F2 = 0
  · subst hF
    exact nextOut_ok (HVW.out.2 rfl) (below_four B4.out (Nat.le_refl _) _ _ _ _)
  · exact nextOut_bad (n := 0) HVE.out hF (below_four B4.out (Nat.le_refl _) _ _ _ _)
theorem refNext_any (s : ByteArray) (b0 : UInt8) (h : 0 < s.size) (hb0 : s[0] = b0) (sh : Nat) (hsh : shapeOf (b0.toNat : Int) = sh) (h1 : 1 ≤ sh) (h7 : sh ≤ 7) (w : World) (hs : s.size ≤ 4611686018427387904) :
    Calls Tryz.prog 92 #[.string s] w (NextOut s sh (b0.toNat : Int) w) := by
  obtain rfl | rfl | rfl | rfl | rfl | rfl | rfl : sh = 1 ∨ sh = 2 ∨ sh = 3 ∨ sh = 4 ∨ sh = 5 ∨ sh = 6 ∨ sh = 7 := by omega
  · exact next_1 s b0 h hb0 hsh w hs
  · exact next_2 s b0 h hb0 hsh w hs
  · exact next_3 s b0 h hb0 hsh w hs
  · exact next_4 s b0 h hb0 hsh w hs
  · exact next_5 s b0 h hb0 hsh w hs
  · exact next_6 s b0 h hb0 hsh w hs
  · exact next_7 s b0 h hb0 hsh w hs
end Go.Proofs.YtpcaffimahapjaaGreat
