/- Reference 05: Check. -/
import Derived.Test.YtpcaffimahapjaaGreatRfD
namespace Go.Proofs.YtpcaffimahapjaaGreat
open Go.RowKit
theorem rule_eight {sh ki le mo : Nat} {id : Int} (h : ruleOf id = ⟨sh, ki, le, mo⟩) (h5 : sh ≠ 5) : (id == 8) = false := by
  refine beq_eq_false_iff_ne.2 fun e => h5 ?_
  subst e
  have : (ruleOf 8).shape = 5 := by decide +kernel
  rw [h] at this
  exact this
set_option maxHeartbeats 4000000 in
set_option maxRecDepth 10000 in
theorem refCheckP_any (kind : Int) (p : Pr) (hp : p.Ok) (w : World) :
    Calls Tryz.prog 29 #[.int .i64 kind, p.val] w fun e w' => e = .returned (.int .i64 (checkE (ruleOf p.id) kind p)) ∧ Below w.heap.size w w' := by
  obtain ⟨id, n, t, v⟩ := p
  obtain ⟨sh, ki, le, mo, hR⟩ : ∃ sh ki le mo, ruleOf id = ⟨sh, ki, le, mo⟩ := ⟨_, _, _, _, rfl⟩
  have h7' := (ruleOf_ok id).1
  rw [hR] at h7'
  have h7 : sh ≤ 7 := h7'
  clear h7'
  obtain ⟨E, hE⟩ : ∃ E, checkE (ruleOf id) kind ⟨id, n, t, v⟩ = E := ⟨_, rfl⟩
  have HE := Lib.hid hE
  have HP : Hid (t.size ≤ 4611686018427387904 ∧ v.size ≤ 4611686018427387904) := Lib.hid hp.2
  have HMP : Hid (mayP kind id = hasR (ruleOf id) kind) := Lib.hid rfl
  simp only [Pr.val, hE]
  have HR := Lib.hid hR
  clear hE hp
  have HX := Lib.hid (Bk.fresh w 24 #[.int .i64 id, .int .u32 n, .string t, .string v])
  have HB := Lib.hid ((Below.refl w.heap.size w).alloc (Nat.le_refl _) (.cells #[.int .i64 id, .int .u32 n, .string t, .string v] 24))
  cases hm : mayP kind id
  · have HF : Hid (E = 9) := Lib.hid (by rw [← HE.out]; unfold checkE; rw [← HMP.out, hm]; rfl)
    have HM := Lib.hid hm
    clear hm hR
    go_enter Tryz.func29, Tryz.ntmps29
    go_wp2_with fail
    refine (refMayP_any kind id _).mono ?_
    rintro e w1 ⟨rfl, hb⟩
    rw [HM.out]
    have B1 := Lib.hid (HB.out.trans (hb.mono HB.out.size)); clear hb
    go_wp2
    go_ret
    exact ⟨by rw [HF.out]; rfl, B1.out⟩
  have HM := Lib.hid hm
  have HCK : Hid (checkE (ruleOf id) kind ⟨id, n, t, v⟩ = (if sh ≤ 4 then (if t.toList.isEmpty = false ∨ v.toList.isEmpty = false then 2 else if n < le ∨ mo < n then 9 else 0)
      else if n ≠ 0 ∨ (v.toList.isEmpty = false ∧ sh ≠ 7) then 2 else if sh = 6 then (if 65535 < t.size then 2 else 0) else if validB t = false ∨ validB v = false then 6 else if id = 8 ∧ nameB t = false then 9 else 0)) :=
    Lib.hid (by unfold checkE; rw [← HMP.out, hm, hR]; rfl)
  clear hm
  by_cases h4 : sh ≤ 4
  · have s4 : decide ((sh : Int) ≤ 4) = true := decide_eq_true (by omega)
    have s7 : ((sh : Int) != 7) = true := bne_iff_ne.2 (by omega)
    have q5 : ((sh : Int) == 5) = false := beq_eq_false_iff_ne.2 (by omega)
    have q7 : ((sh : Int) == 7) = false := beq_eq_false_iff_ne.2 (by omega)
    have q6 : ((sh : Int) == 6) = false := beq_eq_false_iff_ne.2 (by omega)
    have e8 := rule_eight hR (by omega)
    clear hR
    cases ht : t.toList.isEmpty
    · have HF : Hid (E = 2) := Lib.hid (by rw [← HE.out, HCK.out, if_pos h4, if_pos (.inl ht)])
      clear h4 h7
      go_enter Tryz.func29, Tryz.ntmps29
      go_wp2_with fail
      refine (refMayP_any kind id _).mono ?_
      rintro e w1 ⟨rfl, hb⟩
      rw [HM.out]
      have X1 := Lib.hid (HX.out.below hb HX.out.lt); have B1 := Lib.hid (HB.out.trans (hb.mono HB.out.size)); clear hb
      obtain ⟨⟨c0, c1, c2, c3⟩, f0, f1, f2, f3⟩ := X1.out.four
      go_wp2_with fail
      refine (look_any id _).mono ?_
      rintro e w2 ⟨A, c, rfl, -, hb⟩
      unfold rowV
      rw [HR.out]
      clear c0 c1 c2 c3 f0 f1 f2 f3
      have X2 := Lib.hid ((X1.out.below hb X1.out.lt).alloc (.cells #[.int .i64 sh, .slice A (kindsOf id).length c, .int .u32 le, .int .u32 mo] RwT))
      have B2 := Lib.hid ((B1.out.trans (hb.mono B1.out.size)).alloc (B1.out.trans (hb.mono B1.out.size)).size (.cells #[.int .i64 sh, .slice A (kindsOf id).length c, .int .u32 le, .int .u32 mo] RwT)); clear hb
      obtain ⟨⟨c0, c1, c2, c3⟩, f0, f1, f2, f3⟩ := X2.out.four
      go_wp2
      go_ret
      exact ⟨by rw [HF.out]; rfl, B2.out⟩
    cases hv : v.toList.isEmpty
    · have HF : Hid (E = 2) := Lib.hid (by rw [← HE.out, HCK.out, if_pos h4, if_pos (.inr hv)])
      clear h4 h7
      go_enter Tryz.func29, Tryz.ntmps29
      go_wp2_with fail
      refine (refMayP_any kind id _).mono ?_
      rintro e w1 ⟨rfl, hb⟩
      rw [HM.out]
      have X1 := Lib.hid (HX.out.below hb HX.out.lt); have B1 := Lib.hid (HB.out.trans (hb.mono HB.out.size)); clear hb
      obtain ⟨⟨c0, c1, c2, c3⟩, f0, f1, f2, f3⟩ := X1.out.four
      go_wp2_with fail
      refine (look_any id _).mono ?_
      rintro e w2 ⟨A, c, rfl, -, hb⟩
      unfold rowV
      rw [HR.out]
      clear c0 c1 c2 c3 f0 f1 f2 f3
      have X2 := Lib.hid ((X1.out.below hb X1.out.lt).alloc (.cells #[.int .i64 sh, .slice A (kindsOf id).length c, .int .u32 le, .int .u32 mo] RwT))
      have B2 := Lib.hid ((B1.out.trans (hb.mono B1.out.size)).alloc (B1.out.trans (hb.mono B1.out.size)).size (.cells #[.int .i64 sh, .slice A (kindsOf id).length c, .int .u32 le, .int .u32 mo] RwT)); clear hb
      obtain ⟨⟨c0, c1, c2, c3⟩, f0, f1, f2, f3⟩ := X2.out.four
      go_wp2
      go_ret
      exact ⟨by rw [HF.out]; rfl, B2.out⟩
    have HC2 : Hid (E = if n < le ∨ mo < n then 9 else 0) := Lib.hid (by rw [← HE.out, HCK.out, if_pos h4, if_neg (by rw [ht, hv]; simp)])
    clear h4 h7
    by_cases hl : n < le
    · have HF : Hid (E = 9) := Lib.hid (by rw [HC2.out, if_pos (.inl hl)])
      have dl : decide ((n : Int) < (le : Int)) = true := decide_eq_true (by omega)
      have dl' : decide (n < le) = true := decide_eq_true hl
      clear hl
      go_enter Tryz.func29, Tryz.ntmps29
      go_wp2_with fail
      refine (refMayP_any kind id _).mono ?_
      rintro e w1 ⟨rfl, hb⟩
      rw [HM.out]
      have X1 := Lib.hid (HX.out.below hb HX.out.lt); have B1 := Lib.hid (HB.out.trans (hb.mono HB.out.size)); clear hb
      obtain ⟨⟨c0, c1, c2, c3⟩, f0, f1, f2, f3⟩ := X1.out.four
      go_wp2_with fail
      refine (look_any id _).mono ?_
      rintro e w2 ⟨A, c, rfl, -, hb⟩
      unfold rowV
      rw [HR.out]
      clear c0 c1 c2 c3 f0 f1 f2 f3
      have X2 := Lib.hid ((X1.out.below hb X1.out.lt).alloc (.cells #[.int .i64 sh, .slice A (kindsOf id).length c, .int .u32 le, .int .u32 mo] RwT))
      have B2 := Lib.hid ((B1.out.trans (hb.mono B1.out.size)).alloc (B1.out.trans (hb.mono B1.out.size)).size (.cells #[.int .i64 sh, .slice A (kindsOf id).length c, .int .u32 le, .int .u32 mo] RwT)); clear hb
      obtain ⟨⟨c0, c1, c2, c3⟩, f0, f1, f2, f3⟩ := X2.out.four
      go_wp2
      go_ret
      exact ⟨by rw [HF.out]; rfl, B2.out⟩
    have dl : decide ((n : Int) < (le : Int)) = false := decide_eq_false (by omega)
    have dl' : decide (n < le) = false := decide_eq_false hl
    by_cases hu : mo < n
    · have HF : Hid (E = 9) := Lib.hid (by rw [HC2.out, if_pos (.inr hu)])
      have du : decide ((mo : Int) < (n : Int)) = true := decide_eq_true (by omega)
      have du' : decide (mo < n) = true := decide_eq_true hu
      clear hl hu
      go_enter Tryz.func29, Tryz.ntmps29
      go_wp2_with fail
      refine (refMayP_any kind id _).mono ?_
      rintro e w1 ⟨rfl, hb⟩
      rw [HM.out]
      have X1 := Lib.hid (HX.out.below hb HX.out.lt); have B1 := Lib.hid (HB.out.trans (hb.mono HB.out.size)); clear hb
      obtain ⟨⟨c0, c1, c2, c3⟩, f0, f1, f2, f3⟩ := X1.out.four
      go_wp2_with fail
      refine (look_any id _).mono ?_
      rintro e w2 ⟨A, c, rfl, -, hb⟩
      unfold rowV
      rw [HR.out]
      clear c0 c1 c2 c3 f0 f1 f2 f3
      have X2 := Lib.hid ((X1.out.below hb X1.out.lt).alloc (.cells #[.int .i64 sh, .slice A (kindsOf id).length c, .int .u32 le, .int .u32 mo] RwT))
      have B2 := Lib.hid ((B1.out.trans (hb.mono B1.out.size)).alloc (B1.out.trans (hb.mono B1.out.size)).size (.cells #[.int .i64 sh, .slice A (kindsOf id).length c, .int .u32 le, .int .u32 mo] RwT)); clear hb
      obtain ⟨⟨c0, c1, c2, c3⟩, f0, f1, f2, f3⟩ := X2.out.four
      go_wp2
      go_ret
      exact ⟨by rw [HF.out]; rfl, B2.out⟩
    · have HF : Hid (E = 0) := Lib.hid (by rw [HC2.out, if_neg (by omega)])
      have du : decide ((mo : Int) < (n : Int)) = false := decide_eq_false (by omega)
      have du' : decide (mo < n) = false := decide_eq_false hu
      clear hl hu
      go_enter Tryz.func29, Tryz.ntmps29
      go_wp2_with fail
      refine (refMayP_any kind id _).mono ?_
      rintro e w1 ⟨rfl, hb⟩
      rw [HM.out]
      have X1 := Lib.hid (HX.out.below hb HX.out.lt); have B1 := Lib.hid (HB.out.trans (hb.mono HB.out.size)); clear hb
      obtain ⟨⟨c0, c1, c2, c3⟩, f0, f1, f2, f3⟩ := X1.out.four
      go_wp2_with fail
      refine (look_any id _).mono ?_
      rintro e w2 ⟨A, c, rfl, -, hb⟩
      unfold rowV
      rw [HR.out]
      clear c0 c1 c2 c3 f0 f1 f2 f3
      have X2 := Lib.hid ((X1.out.below hb X1.out.lt).alloc (.cells #[.int .i64 sh, .slice A (kindsOf id).length c, .int .u32 le, .int .u32 mo] RwT))
      have B2 := Lib.hid ((B1.out.trans (hb.mono B1.out.size)).alloc (B1.out.trans (hb.mono B1.out.size)).size (.cells #[.int .i64 sh, .slice A (kindsOf id).length c, .int .u32 le, .int .u32 mo] RwT)); clear hb
      obtain ⟨⟨c0, c1, c2, c3⟩, f0, f1, f2, f3⟩ := X2.out.four
      go_wp2
      go_ret
      exact ⟨by rw [HF.out]; rfl, B2.out⟩
  have s4 : decide ((sh : Int) ≤ 4) = false := decide_eq_false (by omega)
  by_cases hn : n = 0
  rotate_left
  · have HF : Hid (E = 2) := Lib.hid (by rw [← HE.out, HCK.out, if_neg h4, if_pos (.inl hn)])
    have n0 : ((n : Int) != 0) = true := bne_iff_ne.2 (by omega)
    clear h4 h7 hn hR
    go_enter Tryz.func29, Tryz.ntmps29
    go_wp2_with fail
    refine (refMayP_any kind id _).mono ?_
    rintro e w1 ⟨rfl, hb⟩
    rw [HM.out]
    have X1 := Lib.hid (HX.out.below hb HX.out.lt); have B1 := Lib.hid (HB.out.trans (hb.mono HB.out.size)); clear hb
    obtain ⟨⟨c0, c1, c2, c3⟩, f0, f1, f2, f3⟩ := X1.out.four
    go_wp2_with fail
    refine (look_any id _).mono ?_
    rintro e w2 ⟨A, c, rfl, -, hb⟩
    unfold rowV
    rw [HR.out]
    clear c0 c1 c2 c3 f0 f1 f2 f3
    have X2 := Lib.hid ((X1.out.below hb X1.out.lt).alloc (.cells #[.int .i64 sh, .slice A (kindsOf id).length c, .int .u32 le, .int .u32 mo] RwT))
    have B2 := Lib.hid ((B1.out.trans (hb.mono B1.out.size)).alloc (B1.out.trans (hb.mono B1.out.size)).size (.cells #[.int .i64 sh, .slice A (kindsOf id).length c, .int .u32 le, .int .u32 mo] RwT)); clear hb
    obtain ⟨⟨c0, c1, c2, c3⟩, f0, f1, f2, f3⟩ := X2.out.four
    go_wp2
    go_ret
    exact ⟨by rw [HF.out]; rfl, B2.out⟩
  have n0 : ((n : Int) != 0) = false := by simp; omega
  by_cases hs7 : sh = 7
  · have s7 : ((sh : Int) != 7) = false := by simp; omega
    have q5 : ((sh : Int) == 5) = false := beq_eq_false_iff_ne.2 (by omega)
    have q7 : ((sh : Int) == 7) = true := beq_iff_eq.2 (by omega)
    have q6 : ((sh : Int) == 6) = false := beq_eq_false_iff_ne.2 (by omega)
    have e8 := rule_eight hR (by omega)
    have HC3 : Hid (E = if validB t = false ∨ validB v = false then 6 else if id = 8 ∧ nameB t = false then 9 else 0) := Lib.hid (by rw [← HE.out, HCK.out, if_neg h4, if_neg (by simp [hn, hs7]), if_neg (by omega)])
    clear h4 h7 hn hs7 hR
    cases hvt : validB t
    · have HF : Hid (E = 6) := Lib.hid (by rw [HC3.out, if_pos (.inl hvt)])
      have HVT := Lib.hid hvt; clear hvt
      go_enter Tryz.func29, Tryz.ntmps29
      go_wp2_with fail
      refine (refMayP_any kind id _).mono ?_
      rintro e w1 ⟨rfl, hb⟩
      rw [HM.out]
      have X1 := Lib.hid (HX.out.below hb HX.out.lt); have B1 := Lib.hid (HB.out.trans (hb.mono HB.out.size)); clear hb
      obtain ⟨⟨c0, c1, c2, c3⟩, f0, f1, f2, f3⟩ := X1.out.four
      go_wp2_with fail
      refine (look_any id _).mono ?_
      rintro e w2 ⟨A, c, rfl, -, hb⟩
      unfold rowV
      rw [HR.out]
      clear c0 c1 c2 c3 f0 f1 f2 f3
      have X2 := Lib.hid ((X1.out.below hb X1.out.lt).alloc (.cells #[.int .i64 sh, .slice A (kindsOf id).length c, .int .u32 le, .int .u32 mo] RwT))
      have B2 := Lib.hid ((B1.out.trans (hb.mono B1.out.size)).alloc (B1.out.trans (hb.mono B1.out.size)).size (.cells #[.int .i64 sh, .slice A (kindsOf id).length c, .int .u32 le, .int .u32 mo] RwT)); clear hb
      obtain ⟨⟨c0, c1, c2, c3⟩, f0, f1, f2, f3⟩ := X2.out.four
      go_wp2_with fail
      refine (refValid_any t _ HP.out.1).mono ?_
      rintro e w3 ⟨rfl, rfl⟩
      rw [HVT.out]
      go_wp2
      go_ret
      exact ⟨by rw [HF.out]; rfl, B2.out⟩
    cases hvv : validB v
    · have HF : Hid (E = 6) := Lib.hid (by rw [HC3.out, if_pos (.inr hvv)])
      have HVT := Lib.hid hvt; have HVV := Lib.hid hvv; clear hvt hvv
      go_enter Tryz.func29, Tryz.ntmps29
      go_wp2_with fail
      refine (refMayP_any kind id _).mono ?_
      rintro e w1 ⟨rfl, hb⟩
      rw [HM.out]
      have X1 := Lib.hid (HX.out.below hb HX.out.lt); have B1 := Lib.hid (HB.out.trans (hb.mono HB.out.size)); clear hb
      obtain ⟨⟨c0, c1, c2, c3⟩, f0, f1, f2, f3⟩ := X1.out.four
      go_wp2_with fail
      refine (look_any id _).mono ?_
      rintro e w2 ⟨A, c, rfl, -, hb⟩
      unfold rowV
      rw [HR.out]
      clear c0 c1 c2 c3 f0 f1 f2 f3
      have X2 := Lib.hid ((X1.out.below hb X1.out.lt).alloc (.cells #[.int .i64 sh, .slice A (kindsOf id).length c, .int .u32 le, .int .u32 mo] RwT))
      have B2 := Lib.hid ((B1.out.trans (hb.mono B1.out.size)).alloc (B1.out.trans (hb.mono B1.out.size)).size (.cells #[.int .i64 sh, .slice A (kindsOf id).length c, .int .u32 le, .int .u32 mo] RwT)); clear hb
      obtain ⟨⟨c0, c1, c2, c3⟩, f0, f1, f2, f3⟩ := X2.out.four
      go_wp2_with fail
      refine (refValid_any t _ HP.out.1).mono ?_
      rintro e w3 ⟨rfl, rfl⟩
      rw [HVT.out]
      go_wp2_with fail
      refine (refValid_any v _ HP.out.2).mono ?_
      rintro e w3 ⟨rfl, rfl⟩
      rw [HVV.out]
      go_wp2
      go_ret
      exact ⟨by rw [HF.out]; rfl, B2.out⟩
    have HVT := Lib.hid hvt; have HVV := Lib.hid hvv
    have HC4 : Hid (E = if id = 8 ∧ nameB t = false then 9 else 0) := Lib.hid (by rw [HC3.out, if_neg (by rw [hvt, hvv]; simp)])
    clear hvt hvv
    have HF : Hid (E = 0) := Lib.hid (by rw [HC4.out, if_neg (fun x => by have := x.1; rw [this] at e8; cases e8)])
    go_enter Tryz.func29, Tryz.ntmps29
    go_wp2_with fail
    refine (refMayP_any kind id _).mono ?_
    rintro e w1 ⟨rfl, hb⟩
    rw [HM.out]
    have X1 := Lib.hid (HX.out.below hb HX.out.lt); have B1 := Lib.hid (HB.out.trans (hb.mono HB.out.size)); clear hb
    obtain ⟨⟨c0, c1, c2, c3⟩, f0, f1, f2, f3⟩ := X1.out.four
    go_wp2_with fail
    refine (look_any id _).mono ?_
    rintro e w2 ⟨A, c, rfl, -, hb⟩
    unfold rowV
    rw [HR.out]
    clear c0 c1 c2 c3 f0 f1 f2 f3
    have X2 := Lib.hid ((X1.out.below hb X1.out.lt).alloc (.cells #[.int .i64 sh, .slice A (kindsOf id).length c, .int .u32 le, .int .u32 mo] RwT))
    have B2 := Lib.hid ((B1.out.trans (hb.mono B1.out.size)).alloc (B1.out.trans (hb.mono B1.out.size)).size (.cells #[.int .i64 sh, .slice A (kindsOf id).length c, .int .u32 le, .int .u32 mo] RwT)); clear hb
    obtain ⟨⟨c0, c1, c2, c3⟩, f0, f1, f2, f3⟩ := X2.out.four
    go_wp2_with fail
    refine (refValid_any t _ HP.out.1).mono ?_
    rintro e w3 ⟨rfl, rfl⟩
    rw [HVT.out]
    go_wp2_with fail
    refine (refValid_any v _ HP.out.2).mono ?_
    rintro e w3 ⟨rfl, rfl⟩
    rw [HVV.out]
    go_wp2
    go_ret
    exact ⟨by rw [HF.out]; rfl, B2.out⟩
  have s7 : ((sh : Int) != 7) = true := bne_iff_ne.2 (by omega)
  cases hv : v.toList.isEmpty
  · have HF : Hid (E = 2) := Lib.hid (by rw [← HE.out, HCK.out, if_neg h4, if_pos (.inr ⟨hv, hs7⟩)])
    clear h4 h7 hn hs7 hR
    go_enter Tryz.func29, Tryz.ntmps29
    go_wp2_with fail
    refine (refMayP_any kind id _).mono ?_
    rintro e w1 ⟨rfl, hb⟩
    rw [HM.out]
    have X1 := Lib.hid (HX.out.below hb HX.out.lt); have B1 := Lib.hid (HB.out.trans (hb.mono HB.out.size)); clear hb
    obtain ⟨⟨c0, c1, c2, c3⟩, f0, f1, f2, f3⟩ := X1.out.four
    go_wp2_with fail
    refine (look_any id _).mono ?_
    rintro e w2 ⟨A, c, rfl, -, hb⟩
    unfold rowV
    rw [HR.out]
    clear c0 c1 c2 c3 f0 f1 f2 f3
    have X2 := Lib.hid ((X1.out.below hb X1.out.lt).alloc (.cells #[.int .i64 sh, .slice A (kindsOf id).length c, .int .u32 le, .int .u32 mo] RwT))
    have B2 := Lib.hid ((B1.out.trans (hb.mono B1.out.size)).alloc (B1.out.trans (hb.mono B1.out.size)).size (.cells #[.int .i64 sh, .slice A (kindsOf id).length c, .int .u32 le, .int .u32 mo] RwT)); clear hb
    obtain ⟨⟨c0, c1, c2, c3⟩, f0, f1, f2, f3⟩ := X2.out.four
    go_wp2
    go_ret
    exact ⟨by rw [HF.out]; rfl, B2.out⟩
  have HC5 : Hid (E = if sh = 6 then (if 65535 < t.size then 2 else 0) else if validB t = false ∨ validB v = false then 6 else if id = 8 ∧ nameB t = false then 9 else 0) := Lib.hid (by rw [← HE.out, HCK.out, if_neg h4, if_neg (by rw [hv]; simp [hn])])
  have q7 : ((sh : Int) == 7) = false := beq_eq_false_iff_ne.2 (by omega)
  by_cases hs6 : sh = 6
  · have q5 : ((sh : Int) == 5) = false := beq_eq_false_iff_ne.2 (by omega)
    have q6 : ((sh : Int) == 6) = true := beq_iff_eq.2 (by omega)
    have e8 := rule_eight hR (by omega)
    by_cases hl : 65535 < t.size
    · have HF : Hid (E = 2) := Lib.hid (by rw [HC5.out, if_pos hs6, if_pos hl])
      have dl : decide ((65535 : Int) < (t.size : Int)) = true := decide_eq_true (by omega)
      clear h4 h7 hn hs7 hs6 hl hR
      go_enter Tryz.func29, Tryz.ntmps29
      go_wp2_with fail
      refine (refMayP_any kind id _).mono ?_
      rintro e w1 ⟨rfl, hb⟩
      rw [HM.out]
      have X1 := Lib.hid (HX.out.below hb HX.out.lt); have B1 := Lib.hid (HB.out.trans (hb.mono HB.out.size)); clear hb
      obtain ⟨⟨c0, c1, c2, c3⟩, f0, f1, f2, f3⟩ := X1.out.four
      go_wp2_with fail
      refine (look_any id _).mono ?_
      rintro e w2 ⟨A, c, rfl, -, hb⟩
      unfold rowV
      rw [HR.out]
      clear c0 c1 c2 c3 f0 f1 f2 f3
      have X2 := Lib.hid ((X1.out.below hb X1.out.lt).alloc (.cells #[.int .i64 sh, .slice A (kindsOf id).length c, .int .u32 le, .int .u32 mo] RwT))
      have B2 := Lib.hid ((B1.out.trans (hb.mono B1.out.size)).alloc (B1.out.trans (hb.mono B1.out.size)).size (.cells #[.int .i64 sh, .slice A (kindsOf id).length c, .int .u32 le, .int .u32 mo] RwT)); clear hb
      obtain ⟨⟨c0, c1, c2, c3⟩, f0, f1, f2, f3⟩ := X2.out.four
      go_wp2
      go_ret
      exact ⟨by rw [HF.out]; rfl, B2.out⟩
    · have HF : Hid (E = 0) := Lib.hid (by rw [HC5.out, if_pos hs6, if_neg hl])
      have dl : decide ((65535 : Int) < (t.size : Int)) = false := decide_eq_false (by omega)
      clear h4 h7 hn hs7 hs6 hl hR
      go_enter Tryz.func29, Tryz.ntmps29
      go_wp2_with fail
      refine (refMayP_any kind id _).mono ?_
      rintro e w1 ⟨rfl, hb⟩
      rw [HM.out]
      have X1 := Lib.hid (HX.out.below hb HX.out.lt); have B1 := Lib.hid (HB.out.trans (hb.mono HB.out.size)); clear hb
      obtain ⟨⟨c0, c1, c2, c3⟩, f0, f1, f2, f3⟩ := X1.out.four
      go_wp2_with fail
      refine (look_any id _).mono ?_
      rintro e w2 ⟨A, c, rfl, -, hb⟩
      unfold rowV
      rw [HR.out]
      clear c0 c1 c2 c3 f0 f1 f2 f3
      have X2 := Lib.hid ((X1.out.below hb X1.out.lt).alloc (.cells #[.int .i64 sh, .slice A (kindsOf id).length c, .int .u32 le, .int .u32 mo] RwT))
      have B2 := Lib.hid ((B1.out.trans (hb.mono B1.out.size)).alloc (B1.out.trans (hb.mono B1.out.size)).size (.cells #[.int .i64 sh, .slice A (kindsOf id).length c, .int .u32 le, .int .u32 mo] RwT)); clear hb
      obtain ⟨⟨c0, c1, c2, c3⟩, f0, f1, f2, f3⟩ := X2.out.four
      go_wp2
      go_ret
      exact ⟨by rw [HF.out]; rfl, B2.out⟩
  have q5 : ((sh : Int) == 5) = true := beq_iff_eq.2 (by omega)
  have q6 : ((sh : Int) == 6) = false := beq_eq_false_iff_ne.2 (by omega)
  have HC3 : Hid (E = if validB t = false ∨ validB v = false then 6 else if id = 8 ∧ nameB t = false then 9 else 0) := Lib.hid (by rw [HC5.out, if_neg hs6])
  clear h4 h7 hn hs7 hs6 hR
  cases hvt : validB t
  · have HF : Hid (E = 6) := Lib.hid (by rw [HC3.out, if_pos (.inl hvt)])
    have HVT := Lib.hid hvt; clear hvt
    go_enter Tryz.func29, Tryz.ntmps29
    go_wp2_with fail
    refine (refMayP_any kind id _).mono ?_
    rintro e w1 ⟨rfl, hb⟩
    rw [HM.out]
    have X1 := Lib.hid (HX.out.below hb HX.out.lt); have B1 := Lib.hid (HB.out.trans (hb.mono HB.out.size)); clear hb
    obtain ⟨⟨c0, c1, c2, c3⟩, f0, f1, f2, f3⟩ := X1.out.four
    go_wp2_with fail
    refine (look_any id _).mono ?_
    rintro e w2 ⟨A, c, rfl, -, hb⟩
    unfold rowV
    rw [HR.out]
    clear c0 c1 c2 c3 f0 f1 f2 f3
    have X2 := Lib.hid ((X1.out.below hb X1.out.lt).alloc (.cells #[.int .i64 sh, .slice A (kindsOf id).length c, .int .u32 le, .int .u32 mo] RwT))
    have B2 := Lib.hid ((B1.out.trans (hb.mono B1.out.size)).alloc (B1.out.trans (hb.mono B1.out.size)).size (.cells #[.int .i64 sh, .slice A (kindsOf id).length c, .int .u32 le, .int .u32 mo] RwT)); clear hb
    obtain ⟨⟨c0, c1, c2, c3⟩, f0, f1, f2, f3⟩ := X2.out.four
    go_wp2_with fail
    refine (refValid_any t _ HP.out.1).mono ?_
    rintro e w3 ⟨rfl, rfl⟩
    rw [HVT.out]
    go_wp2
    go_ret
    exact ⟨by rw [HF.out]; rfl, B2.out⟩
  cases hvv : validB v
  · have HF : Hid (E = 6) := Lib.hid (by rw [HC3.out, if_pos (.inr hvv)])
    have HVT := Lib.hid hvt; have HVV := Lib.hid hvv; clear hvt hvv
    go_enter Tryz.func29, Tryz.ntmps29
    go_wp2_with fail
    refine (refMayP_any kind id _).mono ?_
    rintro e w1 ⟨rfl, hb⟩
    rw [HM.out]
    have X1 := Lib.hid (HX.out.below hb HX.out.lt); have B1 := Lib.hid (HB.out.trans (hb.mono HB.out.size)); clear hb
    obtain ⟨⟨c0, c1, c2, c3⟩, f0, f1, f2, f3⟩ := X1.out.four
    go_wp2_with fail
    refine (look_any id _).mono ?_
    rintro e w2 ⟨A, c, rfl, -, hb⟩
    unfold rowV
    rw [HR.out]
    clear c0 c1 c2 c3 f0 f1 f2 f3
    have X2 := Lib.hid ((X1.out.below hb X1.out.lt).alloc (.cells #[.int .i64 sh, .slice A (kindsOf id).length c, .int .u32 le, .int .u32 mo] RwT))
    have B2 := Lib.hid ((B1.out.trans (hb.mono B1.out.size)).alloc (B1.out.trans (hb.mono B1.out.size)).size (.cells #[.int .i64 sh, .slice A (kindsOf id).length c, .int .u32 le, .int .u32 mo] RwT)); clear hb
    obtain ⟨⟨c0, c1, c2, c3⟩, f0, f1, f2, f3⟩ := X2.out.four
    go_wp2_with fail
    refine (refValid_any t _ HP.out.1).mono ?_
    rintro e w3 ⟨rfl, rfl⟩
    rw [HVT.out]
    go_wp2_with fail
    refine (refValid_any v _ HP.out.2).mono ?_
    rintro e w3 ⟨rfl, rfl⟩
    rw [HVV.out]
    go_wp2
    go_ret
    exact ⟨by rw [HF.out]; rfl, B2.out⟩
  have HVT := Lib.hid hvt; have HVV := Lib.hid hvv
  have HC4 : Hid (E = if id = 8 ∧ nameB t = false then 9 else 0) := Lib.hid (by rw [HC3.out, if_neg (by rw [hvt, hvv]; simp)])
  clear hvt hvv
  by_cases h8 : id = 8
  · have e8 : (id == 8) = true := beq_iff_eq.2 h8
    cases hnm : nameB t
    · have HF : Hid (E = 9) := Lib.hid (by rw [HC4.out, if_pos ⟨h8, hnm⟩])
      have HNM := Lib.hid hnm; clear hnm h8
      go_enter Tryz.func29, Tryz.ntmps29
      go_wp2_with fail
      refine (refMayP_any kind id _).mono ?_
      rintro e w1 ⟨rfl, hb⟩
      rw [HM.out]
      have X1 := Lib.hid (HX.out.below hb HX.out.lt); have B1 := Lib.hid (HB.out.trans (hb.mono HB.out.size)); clear hb
      obtain ⟨⟨c0, c1, c2, c3⟩, f0, f1, f2, f3⟩ := X1.out.four
      go_wp2_with fail
      refine (look_any id _).mono ?_
      rintro e w2 ⟨A, c, rfl, -, hb⟩
      unfold rowV
      rw [HR.out]
      clear c0 c1 c2 c3 f0 f1 f2 f3
      have X2 := Lib.hid ((X1.out.below hb X1.out.lt).alloc (.cells #[.int .i64 sh, .slice A (kindsOf id).length c, .int .u32 le, .int .u32 mo] RwT))
      have B2 := Lib.hid ((B1.out.trans (hb.mono B1.out.size)).alloc (B1.out.trans (hb.mono B1.out.size)).size (.cells #[.int .i64 sh, .slice A (kindsOf id).length c, .int .u32 le, .int .u32 mo] RwT)); clear hb
      obtain ⟨⟨c0, c1, c2, c3⟩, f0, f1, f2, f3⟩ := X2.out.four
      go_wp2_with fail
      refine (refValid_any t _ HP.out.1).mono ?_
      rintro e w3 ⟨rfl, rfl⟩
      rw [HVT.out]
      go_wp2_with fail
      refine (refValid_any v _ HP.out.2).mono ?_
      rintro e w3 ⟨rfl, rfl⟩
      rw [HVV.out]
      go_wp2_with fail
      refine (refName_any t _ HP.out.1).mono ?_
      rintro e w3 ⟨rfl, rfl⟩
      rw [HNM.out]
      go_wp2
      go_ret
      exact ⟨by rw [HF.out]; rfl, B2.out⟩
    · have HF : Hid (E = 0) := Lib.hid (by rw [HC4.out, if_neg (fun x => by rw [hnm] at x; cases x.2)])
      have HNM := Lib.hid hnm; clear hnm h8
      go_enter Tryz.func29, Tryz.ntmps29
      go_wp2_with fail
      refine (refMayP_any kind id _).mono ?_
      rintro e w1 ⟨rfl, hb⟩
      rw [HM.out]
      have X1 := Lib.hid (HX.out.below hb HX.out.lt); have B1 := Lib.hid (HB.out.trans (hb.mono HB.out.size)); clear hb
      obtain ⟨⟨c0, c1, c2, c3⟩, f0, f1, f2, f3⟩ := X1.out.four
      go_wp2_with fail
      refine (look_any id _).mono ?_
      rintro e w2 ⟨A, c, rfl, -, hb⟩
      unfold rowV
      rw [HR.out]
      clear c0 c1 c2 c3 f0 f1 f2 f3
      have X2 := Lib.hid ((X1.out.below hb X1.out.lt).alloc (.cells #[.int .i64 sh, .slice A (kindsOf id).length c, .int .u32 le, .int .u32 mo] RwT))
      have B2 := Lib.hid ((B1.out.trans (hb.mono B1.out.size)).alloc (B1.out.trans (hb.mono B1.out.size)).size (.cells #[.int .i64 sh, .slice A (kindsOf id).length c, .int .u32 le, .int .u32 mo] RwT)); clear hb
      obtain ⟨⟨c0, c1, c2, c3⟩, f0, f1, f2, f3⟩ := X2.out.four
      go_wp2_with fail
      refine (refValid_any t _ HP.out.1).mono ?_
      rintro e w3 ⟨rfl, rfl⟩
      rw [HVT.out]
      go_wp2_with fail
      refine (refValid_any v _ HP.out.2).mono ?_
      rintro e w3 ⟨rfl, rfl⟩
      rw [HVV.out]
      go_wp2_with fail
      refine (refName_any t _ HP.out.1).mono ?_
      rintro e w3 ⟨rfl, rfl⟩
      rw [HNM.out]
      go_wp2
      go_ret
      exact ⟨by rw [HF.out]; rfl, B2.out⟩
  · have HF : Hid (E = 0) := Lib.hid (by rw [HC4.out, if_neg (fun x => h8 x.1)])
    have e8 : (id == 8) = false := beq_eq_false_iff_ne.2 h8
    clear h8
    go_enter Tryz.func29, Tryz.ntmps29
    go_wp2_with fail
    refine (refMayP_any kind id _).mono ?_
    rintro e w1 ⟨rfl, hb⟩
    rw [HM.out]
    have X1 := Lib.hid (HX.out.below hb HX.out.lt); have B1 := Lib.hid (HB.out.trans (hb.mono HB.out.size)); clear hb
    obtain ⟨⟨c0, c1, c2, c3⟩, f0, f1, f2, f3⟩ := X1.out.four
    go_wp2_with fail
    refine (look_any id _).mono ?_
    rintro e w2 ⟨A, c, rfl, -, hb⟩
    unfold rowV
    rw [HR.out]
    clear c0 c1 c2 c3 f0 f1 f2 f3
    have X2 := Lib.hid ((X1.out.below hb X1.out.lt).alloc (.cells #[.int .i64 sh, .slice A (kindsOf id).length c, .int .u32 le, .int .u32 mo] RwT))
    have B2 := Lib.hid ((B1.out.trans (hb.mono B1.out.size)).alloc (B1.out.trans (hb.mono B1.out.size)).size (.cells #[.int .i64 sh, .slice A (kindsOf id).length c, .int .u32 le, .int .u32 mo] RwT)); clear hb
    obtain ⟨⟨c0, c1, c2, c3⟩, f0, f1, f2, f3⟩ := X2.out.four
    go_wp2_with fail
    refine (refValid_any t _ HP.out.1).mono ?_
    rintro e w3 ⟨rfl, rfl⟩
    rw [HVT.out]
    go_wp2_with fail
    refine (refValid_any v _ HP.out.2).mono ?_
    rintro e w3 ⟨rfl, rfl⟩
    rw [HVV.out]
    go_wp2
    go_ret
    exact ⟨by rw [HF.out]; rfl, B2.out⟩
end Go.Proofs.YtpcaffimahapjaaGreat
