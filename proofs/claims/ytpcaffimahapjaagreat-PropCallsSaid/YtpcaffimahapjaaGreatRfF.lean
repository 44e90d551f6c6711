/- Reference 03: texts and binary data; reference 05: value, Get, twice, lone. -/
import Derived.Test.YtpcaffimahapjaaGreatRfE
import Derived.Test.YtpcaffimahapjaaGreatMPrp
import Derived.Test.YtpcaffimahapjaaGreatUstB
import Derived.Test.YtpcaffimahapjaaGreatPubC
namespace Go.Proofs.YtpcaffimahapjaaGreat
open Go.RowKit
attribute [local go_sem] row_f0 row_f1
set_option maxHeartbeats 1000000 in
set_option maxRecDepth 10000 in
theorem refBinary_any (s : ByteArray) (w : World) (hs : s.size ≤ 65535) :
    Calls Tryz.prog 222 #[.string s] w fun e w' => e = .returned (.tuple #[.string (framedS s), .int .i64 0]) ∧ Below w.heap.size w w' := by
  have HF : Hid (framedS s = ⟨(putL s.size 2).toArray⟩ ++ s) := Lib.hid rfl
  have d1 : decide ((65535 : Int) < (s.size : Int)) = false := decide_eq_false (by omega)
  have HZ : Hid ((⟨(putL s.size 2).toArray⟩ : ByteArray).size = 2) := Lib.hid (by rw [mk_size, putL_len])
  obtain ⟨X, hX⟩ : ∃ X : ByteArray, ⟨(putL s.size 2).toArray⟩ = X := ⟨_, rfl⟩
  rw [hX] at HF HZ
  have HX := Lib.hid hX; clear hX
  have w0 : IntKind.u64.wrap (s.size : Int) = (s.size : Int) := by rw [IntKind.wrap_u64]; omega
  have hsum : ¬ (9223372036854775807 < X.size + s.size) := by have := HZ.out; omega
  go_enter Tryz.func222, Tryz.ntmps222
  go_wp2_with fail
  refine (refPut_any s.size 2 _ (by omega) (by omega) (by omega)).mono ?_
  rintro e w1 ⟨rfl, hb⟩
  rw [HX.out]
  go_wp2
  go_ret2
  exact ⟨by rw [HF.out]; rfl, hb⟩
set_option maxHeartbeats 1000000 in
set_option maxRecDepth 10000 in
theorem refTextU_any (s : ByteArray) (w : World) (hs : s.size ≤ 4611686018427387904) :
    Calls Tryz.prog 145 #[.string s] w fun e w' => e = .returned (.tuple #[.string (textUS s).1, .int .i64 (textUS s).2]) ∧ Below w.heap.size w w' := by
  cases hv : validB s
  · have HX : Hid (textUS s = (⟨#[]⟩, 6)) := Lib.hid (by unfold textUS; rw [hv]; rfl)
    have HV := Lib.hid hv; clear hv
    go_enter Tryz.func145, Tryz.ntmps145
    go_wp2_with fail
    refine (refValid_any s _ hs).mono ?_
    rintro e w1 ⟨rfl, rfl⟩
    rw [HV.out]
    go_wp2
    go_ret2
    exact ⟨by rw [HX.out]; rfl, Below.refl _ _⟩
  · have HX : Hid (textUS s = (framedS s, 0)) := Lib.hid (by unfold textUS; rw [if_pos hv])
    have hsz := valid_size hv
    have HV := Lib.hid hv; clear hv
    have HF : Hid (framedS s = ⟨(putL s.size 2).toArray⟩ ++ s) := Lib.hid rfl
    have HZ : Hid ((⟨(putL s.size 2).toArray⟩ : ByteArray).size = 2) := Lib.hid (by rw [mk_size, putL_len])
    obtain ⟨X, hX⟩ : ∃ X : ByteArray, ⟨(putL s.size 2).toArray⟩ = X := ⟨_, rfl⟩
    rw [hX] at HF HZ
    have HX2 := Lib.hid hX; clear hX
    have w0 : IntKind.u64.wrap (s.size : Int) = (s.size : Int) := by rw [IntKind.wrap_u64]; omega
    have hsum : ¬ (9223372036854775807 < X.size + s.size) := by have := HZ.out; omega
    go_enter Tryz.func145, Tryz.ntmps145
    go_wp2_with fail
    refine (refValid_any s _ hs).mono ?_
    rintro e w1 ⟨rfl, rfl⟩
    rw [HV.out]
    go_wp2_with fail
    refine (refPut_any s.size 2 _ (by omega) (by omega) (by omega)).mono ?_
    rintro e w1 ⟨rfl, hb⟩
    rw [HX2.out]
    go_wp2
    go_ret2
    exact ⟨by rw [HX.out, HF.out]; rfl, hb⟩
set_option maxHeartbeats 1000000 in
set_option maxRecDepth 10000 in
theorem refReadB_any (s : ByteArray) (w : World) (hs : s.size ≤ 4611686018427387904) :
    Calls Tryz.prog 211 #[.string s] w fun e w' => e = .returned (.tuple #[.string (readB s).1, .int .i64 (readB s).2.1, .int .i64 (readB s).2.2]) ∧ w = w' := by
  by_cases h2 : s.size < 2
  · have HX : Hid (readB s = (⟨#[]⟩, 0, 3)) := Lib.hid (by unfold readB; rw [if_pos h2])
    have d2 : decide ((s.size : Int) < 2) = true := decide_eq_true (by omega)
    clear h2
    go_enter Tryz.func211, Tryz.ntmps211
    go_wp2
    go_ret3
    exact ⟨by rw [HX.out]; rfl, rfl⟩
  have d2 : decide ((s.size : Int) < 2) = false := decide_eq_false (by omega)
  have d3 : (2 : Int) ≤ (s.size : Int) := by omega
  have HN : Hid (getL (ls (s.extract 0 2)) = numS s 0 0 2) := Lib.hid (by
    unfold numS takeS
    rw [if_pos rfl, if_pos (by simp [hasC]; omega)]
    rfl)
  have HZ : Hid ((s.extract 0 2).size ≤ 8) := Lib.hid (by rw [ByteArray.size_extract]; omega)
  have HB : Hid (numS s 0 0 2 < 65536) := Lib.hid (by
    rw [← HN.out]
    have h1 := getL_lt (ls (s.extract 0 2))
    rw [ls_len, ByteArray.size_extract, show min 2 s.size - 0 = 2 by omega] at h1
    omega)
  have HXX : Hid (readB s = if s.size < 2 + numS s 0 0 2 then (⟨#[]⟩, 0, 3) else (s.extract 2 (2 + numS s 0 0 2), 2 + numS s 0 0 2, 0)) := Lib.hid (by unfold readB; rw [if_neg h2])
  clear h2
  generalize numS s 0 0 2 = n at *
  have w1 : IntKind.i64.wrap (n : Int) = (n : Int) := by rw [IntKind.wrap_i64]; have := HB.out; omega
  have w2 : IntKind.i64.wrap (2 + (n : Int)) = 2 + (n : Int) := by rw [IntKind.wrap_i64]; have := HB.out; omega
  have w3 : IntKind.i64.wrap ((s.size : Int) - 2) = (s.size : Int) - 2 := by rw [IntKind.wrap_i64]; omega
  by_cases h3 : s.size < 2 + n
  · have HX : Hid (readB s = (⟨#[]⟩, 0, 3)) := Lib.hid (by rw [HXX.out, if_pos h3])
    have d4 : decide ((s.size : Int) - 2 < (n : Int)) = true := decide_eq_true (by omega)
    clear h3
    go_enter Tryz.func211, Tryz.ntmps211
    go_wp2_with fail
    refine (refGet_any _ _ HZ.out).mono ?_
    rintro e w1 ⟨rfl, rfl⟩
    rw [HN.out]
    go_wp2
    go_ret3
    exact ⟨by rw [HX.out]; rfl, rfl⟩
  · have HX : Hid (readB s = (s.extract 2 (2 + n), 2 + n, 0)) := Lib.hid (by rw [HXX.out, if_neg h3])
    have d4 : decide ((s.size : Int) - 2 < (n : Int)) = false := decide_eq_false (by omega)
    have d5 : (2 : Int) + (n : Int) ≤ (s.size : Int) := by omega
    have d6 : ((2 : Int) + (n : Int)).toNat = 2 + n := by omega
    clear h3
    go_enter Tryz.func211, Tryz.ntmps211
    go_wp2_with fail
    refine (refGet_any _ _ HZ.out).mono ?_
    rintro e w1 ⟨rfl, rfl⟩
    rw [HN.out]
    go_wp2
    go_ret3
    exact ⟨by rw [HX.out]; rfl, rfl⟩
set_option maxHeartbeats 1000000 in
set_option maxRecDepth 10000 in
theorem refReadU_any (s : ByteArray) (w : World) (hs : s.size ≤ 4611686018427387904) :
    Calls Tryz.prog 148 #[.string s] w fun e w' => e = .returned (.tuple #[.string (readU s).1, .int .i64 (readU s).2.1, .int .i64 (readU s).2.2]) ∧ w = w' := by
  have HZ : Hid ((readB s).1.size ≤ 4611686018427387904) := Lib.hid (by
    unfold readB
    split
    · exact Nat.zero_le _
    · split
      · exact Nat.zero_le _
      · show (s.extract _ _).size ≤ _
        rw [ByteArray.size_extract]; omega)
  have HXX : Hid (readU s = if (readB s).2.2 = 0 ∧ validB (readB s).1 = false then (⟨#[]⟩, 0, 6) else readB s) := Lib.hid rfl
  have HB : Hid ((readB s).2.2 = 0 ∨ readB s = (⟨#[]⟩, 0, 3)) := Lib.hid (by
    unfold readB
    split
    · exact .inr rfl
    · split
      · exact .inr rfl
      · exact .inl rfl)
  rcases HB.out with hb | hb
  rotate_left
  · have HX : Hid (readU s = (⟨#[]⟩, 0, 3)) := Lib.hid (by rw [HXX.out, hb, if_neg (fun x => by cases x.1)])
    have HB2 := Lib.hid hb; clear hb
    go_enter Tryz.func148, Tryz.ntmps148
    go_wp2_with fail
    refine (refReadB_any s _ hs).mono ?_
    rintro e w1 ⟨rfl, rfl⟩
    rw [HB2.out]
    go_wp2
    go_ret3
    exact ⟨by rw [HX.out]; rfl, rfl⟩
  have HE := Lib.hid hb; clear hb
  obtain ⟨T, N, F, hR⟩ : ∃ T N F, readB s = (T, N, F) := ⟨_, _, _, rfl⟩
  rw [hR] at HZ HXX HE
  simp only at HZ HXX HE
  obtain rfl := HE.out
  have HR := Lib.hid hR; clear hR
  cases hv : validB T
  · have HX : Hid (readU s = (⟨#[]⟩, 0, 6)) := Lib.hid (by rw [HXX.out, if_pos ⟨rfl, hv⟩])
    have HV := Lib.hid hv; clear hv HE
    go_enter Tryz.func148, Tryz.ntmps148
    go_wp2_with fail
    refine (refReadB_any s _ hs).mono ?_
    rintro e w1 ⟨rfl, rfl⟩
    rw [HR.out]
    go_wp2_with fail
    refine (refValid_any T _ HZ.out).mono ?_
    rintro e w1 ⟨rfl, rfl⟩
    rw [HV.out]
    go_wp2
    go_ret3
    exact ⟨by rw [HX.out]; rfl, rfl⟩
  · have HX : Hid (readU s = (T, N, 0)) := Lib.hid (by rw [HXX.out, if_neg (fun x => by rw [hv] at x; cases x.2)])
    have HV := Lib.hid hv; clear hv HE
    go_enter Tryz.func148, Tryz.ntmps148
    go_wp2_with fail
    refine (refReadB_any s _ hs).mono ?_
    rintro e w1 ⟨rfl, rfl⟩
    rw [HR.out]
    go_wp2_with fail
    refine (refValid_any T _ HZ.out).mono ?_
    rintro e w1 ⟨rfl, rfl⟩
    rw [HV.out]
    go_wp2
    go_ret3
    exact ⟨by rw [HX.out]; rfl, rfl⟩
set_option maxHeartbeats 400000 in
set_option maxRecDepth 10000 in
theorem refGetP_any (id : Int) (l : List Pr) (A : Option Addr) (c : Nat) (w : World) (h : Rd w w.heap.size 4 A l.length (prs l)) (hl : l.length ≤ 4611686018427387904) :
    Calls Tryz.prog 21 #[.slice A l.length c, .int .i64 id] w fun e w' => e = .returned (.tuple #[(getR l id).val, .bool (getP l id).isSome]) ∧ Below w.heap.size w w' := by
  have H := Lib.hid h; clear h
  go_enter Tryz.func21, Tryz.ntmps21
  go_wp2
  go_loopw [6] (fun i wr => ∃ k : Nat, k ≤ l.length ∧ i = .int .i64 k ∧ getP l id = getP (l.drop k) id ∧ Bk wr w.heap.size 24 #[.int .i64 0, .int .u32 0, .string ⟨#[]⟩, .string ⟨#[]⟩] ∧ Below w.heap.size w wr) (fun i _ => l.length - (intOf i).toNat)
  case atStart => exact ⟨0, by omega, rfl, rfl, Bk.fresh _ _ _, (Below.refl _ _).alloc (Nat.le_refl _) _⟩
  case round =>
    obtain ⟨k, hk, rfl, hg, hbk, hbel⟩ := hrel
    have HG := Lib.hid hg; have HB := Lib.hid hbk
    have hz := hbel.size
    have hlw := hbk.lt
    clear hg hbk
    by_cases hlt : k < l.length
    · obtain ⟨b, o, rfl, hb, c0, c1, c2, c3⟩ := (H.out.below hbel).atP hlt
      have HD := Lib.hid (List.drop_eq_getElem_cons hlt)
      generalize l[k] = p at *
      obtain ⟨pid, n, t, v⟩ := p
      simp only at c0 c1 c2 c3
      have b1 : (0 : Int) ≤ (k : Int) := by omega
      have b2 : (k : Int) < (l.length : Int) := by omega
      by_cases he : pid = id
      · subst he
        obtain ⟨⟨d0, d1, d2, d3⟩, f0, f1, f2, f3⟩ := HB.out.four
        have HF : Hid (getP l pid = some ⟨pid, n, t, v⟩) := Lib.hid (by rw [HG.out, HD.out]; simp [getP])
        go_wp2
        have HX := Lib.hid ((below_four hbel (Nat.le_refl _) (.int .i64 pid) (.int .u32 n) (.string t) (.string v)))
        exact bodyPost_ret (v := .tuple #[.agg #[.int .i64 pid, .int .u32 n, .string t, .string v], .bool true]) (by simp [results, Tryz.results21, go_sem, hlw, d0, d1, d2, d3]) rfl ⟨by unfold getR; rw [HF.out]; rfl, HX.out⟩
      · have e1 : (pid == id) = false := beq_eq_false_iff_ne.2 he
        have HF : Hid (getP l id = getP (l.drop (k + 1)) id) := Lib.hid (by rw [HG.out, HD.out]; simp [getP, e1])
        have HE := Lib.hid he; clear he
        go_wp2
        go_roundw
        case rel => exact ⟨k + 1, by omega, by go_num, HF.out, HB.out, hbel⟩
        case measure => simp [intOf]; omega
    · obtain rfl : k = l.length := by omega
      have HF : Hid (getP l id = none) := Lib.hid (by rw [HG.out, List.drop_length]; rfl)
      obtain ⟨⟨d0, d1, d2, d3⟩, f0, f1, f2, f3⟩ := HB.out.four
      go_wp2
      have HX := Lib.hid (below_four hbel (Nat.le_refl _) (.int .i64 0) (.int .u32 0) (.string ⟨#[]⟩) (.string ⟨#[]⟩))
      exact bodyPost_ret (v := .tuple #[.agg #[.int .i64 0, .int .u32 0, .string ⟨#[]⟩, .string ⟨#[]⟩], .bool false]) (by simp [results, Tryz.results21, go_sem, d0, d1, d2, d3]) rfl ⟨by unfold getR; rw [HF.out]; rfl, HX.out⟩
set_option maxHeartbeats 2000000 in
set_option maxRecDepth 10000 in
theorem refValue_any (sh : Nat) (p : Pr) (hsh : shapeOf p.id = sh) (h1 : 1 ≤ sh) (h7 : sh ≤ 7) (hn : p.n < 4294967296) (h4 : sh = 4 → p.n ≤ 268435455) (ht : 5 ≤ sh → p.text.size ≤ 65535) (hv : 5 ≤ sh → p.value.size ≤ 65535) (w : World) :
    Calls Tryz.prog 173 #[p.val] w fun e w' => e = .returned (.string (valueS sh p)) ∧ Below w.heap.size w w' := by
  obtain ⟨id, n, t, v⟩ := p
  simp only [Pr.val]
  have HN : Hid (n < 4294967296) := Lib.hid hn
  have H := Lib.hid (And.intro hn (And.intro h4 (And.intro ht hv)))
  obtain ⟨sh', ki, le, mo, hR⟩ : ∃ sh ki le mo, ruleOf id = ⟨sh, ki, le, mo⟩ := ⟨_, _, _, _, rfl⟩
  have hs' : sh' = sh := by
    have : (ruleOf id).shape = sh := hsh
    rw [hR] at this
    exact this
  subst hs'
  have HR := Lib.hid hR
  clear hn h4 ht hv hsh hR
  have hw : IntKind.u64.wrap (n : Int) = n := by rw [IntKind.wrap_u64]; have := HN.out; omega
  have hw2 : IntKind.i64.wrap (n : Int) = n := by rw [IntKind.wrap_i64]; have := HN.out; omega
  have HL := Lib.hid ((Below.refl w.heap.size w).alloc (Nat.le_refl _) (.cells #[.int .i64 id, .int .u32 n, .string t, .string v] 24))
  have HZ := Lib.hid (Bk.fresh w 24 #[.int .i64 id, .int .u32 n, .string t, .string v])
  obtain rfl | rfl | rfl | rfl | hs : sh' = 1 ∨ sh' = 2 ∨ sh' = 3 ∨ sh' = 4 ∨ 5 ≤ sh' := by omega
  · have HV : Hid (valueS 1 ⟨id, n, t, v⟩ = ⟨(putL n 1).toArray⟩) := Lib.hid rfl
    go_enter Tryz.func173, Tryz.ntmps173
    go_wp2_with fail
    refine (look_any id _).mono ?_
    rintro e w1 ⟨A, c, rfl, -, hb⟩
    unfold rowV
    rw [HR.out]
    have Z1 := Lib.hid (HZ.out.below hb HZ.out.lt); have L1 := Lib.hid (HL.out.trans (hb.mono HL.out.size)); clear hb
    obtain ⟨⟨c0, c1, c2, c3⟩, f0, f1, f2, f3⟩ := Z1.out.four
    go_wp2_with fail
    refine (refPut_any n 1 _ (by have := HN.out; omega) (by omega) (by omega)).mono ?_
    rintro e w2 ⟨rfl, hb⟩
    have L2 := Lib.hid (L1.out.trans (hb.mono L1.out.size)); clear hb
    go_wp2
    go_ret
    exact ⟨by rw [HV.out]; rfl, L2.out⟩
  · have HV : Hid (valueS 2 ⟨id, n, t, v⟩ = ⟨(putL n 2).toArray⟩) := Lib.hid rfl
    go_enter Tryz.func173, Tryz.ntmps173
    go_wp2_with fail
    refine (look_any id _).mono ?_
    rintro e w1 ⟨A, c, rfl, -, hb⟩
    unfold rowV
    rw [HR.out]
    have Z1 := Lib.hid (HZ.out.below hb HZ.out.lt); have L1 := Lib.hid (HL.out.trans (hb.mono HL.out.size)); clear hb
    obtain ⟨⟨c0, c1, c2, c3⟩, f0, f1, f2, f3⟩ := Z1.out.four
    go_wp2_with fail
    refine (refPut_any n 2 _ (by have := HN.out; omega) (by omega) (by omega)).mono ?_
    rintro e w2 ⟨rfl, hb⟩
    have L2 := Lib.hid (L1.out.trans (hb.mono L1.out.size)); clear hb
    go_wp2
    go_ret
    exact ⟨by rw [HV.out]; rfl, L2.out⟩
  · have HV : Hid (valueS 3 ⟨id, n, t, v⟩ = ⟨(putL n 4).toArray⟩) := Lib.hid rfl
    go_enter Tryz.func173, Tryz.ntmps173
    go_wp2_with fail
    refine (look_any id _).mono ?_
    rintro e w1 ⟨A, c, rfl, -, hb⟩
    unfold rowV
    rw [HR.out]
    have Z1 := Lib.hid (HZ.out.below hb HZ.out.lt); have L1 := Lib.hid (HL.out.trans (hb.mono HL.out.size)); clear hb
    obtain ⟨⟨c0, c1, c2, c3⟩, f0, f1, f2, f3⟩ := Z1.out.four
    go_wp2_with fail
    refine (refPut_any n 4 _ (by have := HN.out; omega) (by omega) (by omega)).mono ?_
    rintro e w2 ⟨rfl, hb⟩
    have L2 := Lib.hid (L1.out.trans (hb.mono L1.out.size)); clear hb
    go_wp2
    go_ret
    exact ⟨by rw [HV.out]; rfl, L2.out⟩
  · have HV : Hid (valueS 4 ⟨id, n, t, v⟩ = ⟨(varL n).toArray⟩) := Lib.hid rfl
    go_enter Tryz.func173, Tryz.ntmps173
    go_wp2_with fail
    refine (look_any id _).mono ?_
    rintro e w1 ⟨A, c, rfl, -, hb⟩
    unfold rowV
    rw [HR.out]
    have Z1 := Lib.hid (HZ.out.below hb HZ.out.lt); have L1 := Lib.hid (HL.out.trans (hb.mono HL.out.size)); clear hb
    obtain ⟨⟨c0, c1, c2, c3⟩, f0, f1, f2, f3⟩ := Z1.out.four
    go_wp2_with fail
    refine (ref2Bytes_any n _ (H.out.2.1 (by trivial))).mono ?_
    rintro e w2 ⟨rfl, hb⟩
    have L2 := Lib.hid (L1.out.trans (hb.mono L1.out.size)); clear hb
    go_wp2
    go_ret
    exact ⟨by rw [HV.out]; rfl, L2.out⟩
  have HT := Lib.hid (H.out.2.2.1 hs); have HVV := Lib.hid (H.out.2.2.2 hs)
  have q1 : ((sh' : Int) == 1) = false := beq_eq_false_iff_ne.2 (by omega)
  have q2 : ((sh' : Int) == 2) = false := beq_eq_false_iff_ne.2 (by omega)
  have q3 : ((sh' : Int) == 3) = false := beq_eq_false_iff_ne.2 (by omega)
  have q4 : ((sh' : Int) == 4) = false := beq_eq_false_iff_ne.2 (by omega)
  by_cases h7' : sh' = 7
  · have HV : Hid (valueS sh' ⟨id, n, t, v⟩ = framedS t ++ framedS v) := Lib.hid (by unfold valueS; rw [if_neg (by omega), if_neg (by omega), if_neg (by omega), if_pos h7'])
    have hz1 : (framedS t).size ≤ 65537 := by rw [framedS_size]; have := HT.out; simp only at this; omega
    have hz2 : (framedS v).size ≤ 65537 := by rw [framedS_size]; have := HVV.out; simp only at this; omega
    have q7 : ((sh' : Int) == 7) = true := beq_iff_eq.2 (by omega)
    obtain ⟨X, hX⟩ : ∃ X, framedS t = X := ⟨_, rfl⟩
    obtain ⟨Y, hY⟩ : ∃ Y, framedS v = Y := ⟨_, rfl⟩
    rw [hX] at hz1 HV
    rw [hY] at hz2 HV
    have HX := Lib.hid hX; have HY := Lib.hid hY
    have hsum : ¬ (9223372036854775807 < X.size + Y.size) := by omega
    clear h7' hs h1 h7 hX hY
    go_enter Tryz.func173, Tryz.ntmps173
    go_wp2_with fail
    refine (look_any id _).mono ?_
    rintro e w1 ⟨A, c, rfl, -, hb⟩
    unfold rowV
    rw [HR.out]
    have Z1 := Lib.hid (HZ.out.below hb HZ.out.lt); have L1 := Lib.hid (HL.out.trans (hb.mono HL.out.size)); clear hb
    obtain ⟨⟨c0, c1, c2, c3⟩, f0, f1, f2, f3⟩ := Z1.out.four
    go_wp2_with fail
    refine (refBinary_any t _ HT.out).mono ?_
    rintro e w2 ⟨rfl, hb⟩
    rw [HX.out]
    have Z2 := Lib.hid (Z1.out.below hb Z1.out.lt); have L2 := Lib.hid (L1.out.trans (hb.mono L1.out.size)); clear hb c0 c1 c2 c3 f0 f1 f2 f3
    obtain ⟨⟨c0, c1, c2, c3⟩, f0, f1, f2, f3⟩ := Z2.out.four
    go_wp2_with fail
    refine (look_any id _).mono ?_
    rintro e w3 ⟨A, c, rfl, -, hb⟩
    unfold rowV
    rw [HR.out]
    have Z3 := Lib.hid (Z2.out.below hb Z2.out.lt); have L3 := Lib.hid (L2.out.trans (hb.mono L2.out.size)); clear hb c0 c1 c2 c3 f0 f1 f2 f3
    obtain ⟨⟨c0, c1, c2, c3⟩, f0, f1, f2, f3⟩ := Z3.out.four
    go_wp2_with fail
    refine (refBinary_any v _ HVV.out).mono ?_
    rintro e w4 ⟨rfl, hb⟩
    rw [HY.out]
    have L4 := Lib.hid (L3.out.trans (hb.mono L3.out.size)); clear hb
    go_wp2
    go_ret
    exact ⟨by rw [HV.out]; rfl, L4.out⟩
  · have HV : Hid (valueS sh' ⟨id, n, t, v⟩ = framedS t) := Lib.hid (by unfold valueS; rw [if_neg (by omega), if_neg (by omega), if_neg (by omega), if_neg h7'])
    have q7 : ((sh' : Int) == 7) = false := beq_eq_false_iff_ne.2 (by omega)
    clear h7' hs h1 h7
    go_enter Tryz.func173, Tryz.ntmps173
    go_wp2_with fail
    refine (look_any id _).mono ?_
    rintro e w1 ⟨A, c, rfl, -, hb⟩
    unfold rowV
    rw [HR.out]
    have Z1 := Lib.hid (HZ.out.below hb HZ.out.lt); have L1 := Lib.hid (HL.out.trans (hb.mono HL.out.size)); clear hb
    obtain ⟨⟨c0, c1, c2, c3⟩, f0, f1, f2, f3⟩ := Z1.out.four
    go_wp2_with fail
    refine (refBinary_any t _ HT.out).mono ?_
    rintro e w2 ⟨rfl, hb⟩
    have Z2 := Lib.hid (Z1.out.below hb Z1.out.lt); have L2 := Lib.hid (L1.out.trans (hb.mono L1.out.size)); clear hb c0 c1 c2 c3 f0 f1 f2 f3
    obtain ⟨⟨c0, c1, c2, c3⟩, f0, f1, f2, f3⟩ := Z2.out.four
    go_wp2_with fail
    refine (look_any id _).mono ?_
    rintro e w3 ⟨A, c, rfl, -, hb⟩
    unfold rowV
    rw [HR.out]
    have L3 := Lib.hid (L2.out.trans (hb.mono L2.out.size)); clear hb c0 c1 c2 c3 f0 f1 f2 f3
    go_wp2
    go_ret
    exact ⟨by rw [HV.out]; rfl, L3.out⟩
/-- Is there one of an id among some already, that may not come often? -/
def twB (kind : Int) (l : List Pr) (id : Int) : Bool := (getP l id).isSome && !manyP kind id
set_option maxHeartbeats 1000000 in
set_option maxRecDepth 10000 in
theorem refTwice_any (kind id : Int) (l : List Pr) (n : Nat) (hn : l.length = n) (A : Option Addr) (c : Nat) (w : World) (h : Rd w w.heap.size 4 A n (prs l)) (hl : n ≤ 4611686018427387904) :
    Calls Tryz.prog 93 #[.int .i64 kind, .slice A n c, .int .i64 id] w fun e w' => e = .returned (.bool (twB kind l id)) ∧ Below w.heap.size w w' := by
  subst hn
  have H := Lib.hid h; clear h
  have HT : Hid (twB kind l id = ((getP l id).isSome && !manyP kind id)) := Lib.hid rfl
  cases hg : (getP l id).isSome
  · have HX : Hid (twB kind l id = false) := Lib.hid (by rw [HT.out, hg]; rfl)
    have HG := Lib.hid hg; clear hg
    go_enter Tryz.func93, Tryz.ntmps93
    go_wp2_with fail
    refine (refGetP_any id l A c _ H.out hl).mono ?_
    rintro e w1 ⟨rfl, hb⟩
    rw [HG.out]
    unfold Pr.val
    have HB := Lib.hid (hb.alloc hb.size (.cells #[.int .i64 (getR l id).id, .int .u32 (getR l id).n, .string (getR l id).text, .string (getR l id).value] 24)); clear hb
    go_wp2
    go_ret
    exact ⟨by rw [HX.out]; rfl, HB.out⟩
  · have HX : Hid (twB kind l id = !manyP kind id) := Lib.hid (by rw [HT.out, hg]; rfl)
    have HG := Lib.hid hg; clear hg
    go_enter Tryz.func93, Tryz.ntmps93
    go_wp2_with fail
    refine (refGetP_any id l A c _ H.out hl).mono ?_
    rintro e w1 ⟨rfl, hb⟩
    rw [HG.out]
    unfold Pr.val
    have HB := Lib.hid (hb.alloc hb.size (.cells #[.int .i64 (getR l id).id, .int .u32 (getR l id).n, .string (getR l id).text, .string (getR l id).value] 24)); clear hb
    go_wp2_with fail
    refine (refManyP_any kind id _).mono ?_
    rintro e w2 ⟨rfl, hb⟩
    have HB2 := Lib.hid (HB.out.trans (hb.mono HB.out.size)); clear hb
    go_wp2
    go_ret
    exact ⟨by rw [HX.out]; rfl, HB2.out⟩
def loneL (l : List Pr) : Bool := (getP l 22).isSome && !(getP l 21).isSome
set_option maxHeartbeats 1000000 in
set_option maxRecDepth 10000 in
theorem refLone_any (l : List Pr) (n : Nat) (hn : l.length = n) (A : Option Addr) (c : Nat) (w : World) (h : Rd w w.heap.size 4 A n (prs l)) (hl : n ≤ 4611686018427387904) :
    Calls Tryz.prog 94 #[.slice A n c] w fun e w' => e = .returned (.bool (loneL l)) ∧ Below w.heap.size w w' := by
  subst hn
  have H := Lib.hid h; clear h
  have HT : Hid (loneL l = ((getP l 22).isSome && !(getP l 21).isSome)) := Lib.hid rfl
  cases hg : (getP l 22).isSome <;> cases hm : (getP l 21).isSome
  all_goals
    have HX := Lib.hid (HT.out.trans (by rw [hg, hm]))
    have HG := Lib.hid hg; have HM := Lib.hid hm; clear hg hm
    go_enter Tryz.func94, Tryz.ntmps94
    go_wp2_with fail
    refine (refGetP_any 22 l A c _ H.out hl).mono ?_
    rintro e w1 ⟨rfl, hb⟩
    rw [HG.out]
    unfold Pr.val
    have HB := Lib.hid (hb.alloc hb.size (.cells #[.int .i64 (getR l 22).id, .int .u32 (getR l 22).n, .string (getR l 22).text, .string (getR l 22).value] 24)); clear hb
    go_wp2_with fail
    refine (refGetP_any 21 l A c _ ((H.out.below HB.out).wider HB.out.size) hl).mono ?_
    rintro e w2 ⟨rfl, hb⟩
    rw [HM.out]
    unfold Pr.val
    have HB2 := Lib.hid ((HB.out.trans (hb.mono HB.out.size)).alloc (HB.out.trans (hb.mono HB.out.size)).size (.cells #[.int .i64 (getR l 21).id, .int .u32 (getR l 21).n, .string (getR l 21).text, .string (getR l 21).value] 24)); clear hb
    go_wp2
    go_ret
    exact ⟨by rw [HX.out]; rfl, HB2.out⟩
end Go.Proofs.YtpcaffimahapjaaGreat
