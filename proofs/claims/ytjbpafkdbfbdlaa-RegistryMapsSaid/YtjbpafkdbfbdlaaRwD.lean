/-
  The registry, walked: Predefine.
-/
import Derived.Test.YtjbpafkdbfbdlaaRwC
import Derived.Deep.RegionLaw

namespace Go.Proofs.Ytjbpafkdbfbdlaa
open Go.RowKit Go.Maps Go.WideShapes
theorem pre_put {w w1 : World} {F Fc : Nat → Prop} {gp K g bi ba : Nat} {L : Rg} {c n : ByteArray} {cl : Cl} {v : Value} {D : DataW Nat} {i : Nat} (h : NeedOut w F gp L K c w1 Fc g cl bi ba v D) (hn : n.size ≤ maxLen) (hK : K < 100000000) (hi1 : 1 ≤ i) (hi2 : i ≤ 65534) (h1 : tpAt (rgT L c) (i : Int) = none) (h2 : tpOf (rgT L c) n = none) :
    Calls Try.prog 27 #[.pointer (some ⟨g, 0, none⟩), .agg #[.int .i64 (i : Int), .string n, .bool true]] w1 fun e w' => e = .returned (.tuple #[]) ∧ RgTo w F gp (rgSet L c (tpIns ⟨i, n, true⟩ (rgT L c))) (K + 1) w' := by
  have hi : ∀ x ∈ cl.all, x.id ≠ i := fun x hx e => tpAt_none h1 x (by rw [← h.all]; exact hx) (by rw [e])
  have hm : ∀ x ∈ cl.all, x.name ≠ n := fun x hx => tpOf_none h2 x (by rw [← h.all]; exact hx)
  refine (cput_any h.inn ⟨i, n, true⟩ hi2 hn (by have := h.len; unfold maxLen; omega) hi hm).mono ?_
  rintro e w2 ⟨rfl, ⟨D', hC⟩, hM⟩
  have := h.close w2 _ v D' hC (h.ok.fix hi1 hi2 hi hm rfl) tpIns_ne (by show cl.back.length + (tpIns _ _).length ≤ _; rw [tpIns_length]; have := h.len; omega) (FcMods2 h.inn hM)
  rw [← h.all]
  exact ⟨rfl, this⟩
theorem pre_end {w w2 w4 : World} {F : Nat → Prop} {gp K : Nat} {L : Rg} {c n : ByteArray} {i : Nat} (hb : Below w.heap.size w w2) (hN : nameB n = true) (hr : ¬ ((i : Int) < 1 ∨ 65534 < (i : Int))) (h1 : tpAt (rgT L c) (i : Int) = none) (h2 : tpOf (rgT L c) n = none)
    (hto : RgTo w2.drew F gp (rgSet L c (tpIns ⟨i, n, true⟩ (rgT L c))) (K + 1) w4) : Ending.returned (.int .i64 0) = .returned (.int .i64 (rfPre L c n i).1) ∧ RgTo w F gp (rfPre L c n i).2 (K + 1) w4 := by
  have := hto.front (below_drawn hb 1)
  rw [rfPre_new hN hr h1 h2]
  refine ⟨rfl, ?_⟩
  show RgTo _ _ _ (rgSet L c (tpIns ⟨(i : Int).toNat, n, true⟩ (rgT L c))) _ _
  rw [Int.toNat_natCast]
  exact this
set_option maxRecDepth 10000 in
set_option maxHeartbeats 2000000 in
theorem pre_arg {w : World} {F : Nat → Prop} {gp K : Nat} {L : Rg} (h : RgSt w F gp L K) (c n : ByteArray) (i : Int) (hn6 : n.size ≤ 4611686018427387904) (hi : i < 1 ∨ 65534 < i) :
    Calls Try.prog 9 #[.pointer (some ⟨gp, 0, none⟩), .string c, .string n, .int .i64 i] w fun e w' => e = .returned (.int .i64 (rfPre L c n i).1) ∧ RgTo w F gp (rfPre L c n i).2 (K + 1) w' := by
  have HS := Lib.hid h
  have HI := Lib.hid hi
  clear h
  go_enter Try.func9, Try.ntmps9
  go_wp2_with fail
  refine (name_any n w hn6).mono ?_
  rintro e w1 ⟨rfl, hb1⟩
  have HB1 := Lib.hid hb1
  clear hb1
  cases hN : nameB n with
  | false =>
    clear hi
    go_wp2
    go_ret
    rw [rfPre_bad hN]
    exact ⟨rfl, HS.out.to HB1.out (Nat.le_succ K)⟩
  | true =>
    rcases hi with h1 | h1
    · go_wp2
      go_ret
      rw [rfPre_arg hN HI.out]
      exact ⟨rfl, HS.out.to HB1.out (Nat.le_succ K)⟩
    · have h2 : ¬ i < 1 := by omega
      go_wp2
      go_ret
      rw [rfPre_arg hN HI.out]
      exact ⟨rfl, HS.out.to HB1.out (Nat.le_succ K)⟩
set_option maxRecDepth 10000 in
set_option maxHeartbeats 2000000 in
theorem pre_in {w : World} {F : Nat → Prop} {gp K : Nat} {L : Rg} (h : RgSt w F gp L K) (c n : ByteArray) (i : Nat) (hc : c.size ≤ maxLen) (hn6 : n.size ≤ 4611686018427387904) (hK : K < 100000000) (hi1 : 1 ≤ i) (hi2 : i ≤ 65534) :
    Calls Try.prog 9 #[.pointer (some ⟨gp, 0, none⟩), .string c, .string n, .int .i64 (i : Int)] w fun e w' => e = .returned (.int .i64 (rfPre L c n i).1) ∧ RgTo w F gp (rfPre L c n i).2 (K + 1) w' := by
  have hn := maxLen_of hn6
  have hKm : K < maxLen := by unfold maxLen; omega
  have HS := Lib.hid h
  have hwf := wf_id hi2
  have hr : Hid (¬ ((i : Int) < 1 ∨ 65534 < (i : Int))) := Lib.hid (by omega)
  have r1 : ¬ (i : Int) < 1 := by omega
  have r2 : ¬ 65534 < (i : Int) := by omega
  clear h
  go_enter Try.func9, Try.ntmps9
  go_wp2_with fail
  refine (name_any n w hn6).mono ?_
  rintro e w1 ⟨rfl, hb1⟩
  have HB1 := Lib.hid hb1
  clear hb1
  cases hN : nameB n with
  | false =>
    go_wp2
    go_ret
    rw [rfPre_bad hN]
    exact ⟨rfl, HS.out.to HB1.out (Nat.le_succ K)⟩
  | true =>
    have HN := Lib.hid hN
    have ht := Bk.fresh w1 39 #[.int .i64 (i : Int), .string n, .bool true]
    have HB2 := Lib.hid (HB1.out.trans ((Below.refl w1.heap.size w1).alloc (Nat.le_refl _) (.cells #[.int .i64 (i : Int), .string n, .bool true] 39) |>.mono HB1.out.size))
    have ho := of_st (HS.out.below HB2.out) c hc
    have HT := Lib.hid ht
    have hlt := HB1.out.size
    clear ht
    go_wp2_with fail
    refine ho.mono ?_
    rintro e w2 ⟨o, rfl, rfl, hx⟩
    have HS2 := Lib.hid (HS.out.below HB2.out)
    generalize hW2 : w1.alloc (.cells #[.int .i64 (i : Int), .string n, .bool true] 39) = W2 at HB2 HT HS2 hx
    have hs2 : w1.heap.size < W2.heap.size := by rw [← hW2]; simp
    have HW2 := Lib.hid hW2
    clear hN ho
    rcases hx with ⟨rfl, hL⟩ | ⟨g, Fc, cl, bi, ba, v, D, rfl, hC, ok, hall, hne, hlen, hF⟩
    · have h1 : Hid (tpAt (rgT L c) (i : Int) = none) := Lib.hid (by rw [hL]; rfl)
      have h2 : Hid (tpOf (rgT L c) n = none) := Lib.hid (by rw [hL]; rfl)
      clear hL hW2
      go_wp2_with fail
      have hd := HT.out.three.1
      have HTD : Hid (Bk W2.drew w1.heap.size 39 #[.int .i64 (i : Int), .string n, .bool true]) := HT
      have cN := need_any (w := W2.drew) (HS2.out.keep (Nat.le_refl _) fun _ _ => rfl) c hc hKm
      have hnF : Hid (¬ F w1.heap.size) := Lib.hid fun hf => by have := HS.out.lt _ hf; have := HB1.out.size; omega
      go_region_law (first
        | (go_simp; go_at_call 26; refine cN.mono ?_; rintro e w3 ⟨g, Fc, cl, bi, ba, v, D, rfl, hO⟩; have hd3 := (HTD.out.mods hO.mods hnF.out).three.1; have HO := Lib.hid hO; clear hO)
        | (go_simp; go_at_call 27; refine (pre_put HO.out hn hK hi1 hi2 h1.out h2.out).mono ?_; rintro e w4 ⟨rfl, hto⟩; have HTO := Lib.hid hto; clear hto))
      all_goals go_wp2
      all_goals go_ret
      all_goals exact pre_end HB2.out HN.out hr.out h1.out h2.out HTO.out
    · have HALL := Lib.hid hall
      have HC := Lib.hid hC
      have hc4 := hC.blk.client
      have hl := (look_all hC.all hwf).1
      unfold tpV at hl
      obtain ⟨x, HX⟩ : ∃ x, Hid ((tpAt cl.all (i : Int)).getD tp0 = x) := ⟨_, Lib.hid rfl⟩
      rw [HX.out] at hl
      obtain ⟨b, HXB⟩ : ∃ b, Hid ((tpAt cl.all (i : Int)).isSome = b) := ⟨_, Lib.hid rfl⟩
      rw [HXB.out] at hl
      have hx3 := (Bk.fresh W2 39 #[.int .i64 (x.id : Int), .string x.name, .bool x.fixed]).three.1
      have ht3 := (HT.out.alloc (.cells #[.int .i64 (x.id : Int), .string x.name, .bool x.fixed] 39)).three.1
      have hb3 : Below W2.heap.size W2 (W2.alloc (.cells #[.int .i64 (x.id : Int), .string x.name, .bool x.fixed] 39)) := (Below.refl _ W2).alloc (Nat.le_refl _) _
      have HC3 := Lib.hid (hC.keep _ _ _ _ hb3.size fun i hi => hb3.block i (hC.lt i hi))
      have HB3 := Lib.hid (HB2.out.trans (hb3.mono HB2.out.size))
      have HS3 := Lib.hid (HS2.out.below hb3)
      have HT3 := Lib.hid (HT.out.alloc (.cells #[.int .i64 (x.id : Int), .string x.name, .bool x.fixed] 39))
      have hc5 := HC3.out.blk.client
      have hgt := guard_tp
      have hid := look_ids HC3.out.ids HC3.out.idd hn
      have chs := chas_any HC3.out (i : Int) hwf
      rw [HXB.out] at chs
      clear hC hall hne ok hlen hF hb3 hW2
      generalize hW3 : W2.alloc (.cells #[.int .i64 (x.id : Int), .string x.name, .bool x.fixed] 39) = W3 at hx3 ht3 HC3 HB3 HS3 HT3 hc5 hid chs
      cases b with
      | false =>
        have h1 : Hid (tpAt (rgT L c) (i : Int) = none) := Lib.hid (by
          rw [← HALL.out]
          have := HXB.out
          cases e : tpAt cl.all (i : Int) with
          | none => rfl
          | some t => rw [e] at this; cases this)
        cases hto : tpOf cl.all n with
        | some t2 =>
          rw [hto] at hid
          simp only [Option.getD_some, Option.isSome_some] at hid
          have HTO := Lib.hid hto
          clear hto
          go_wp2
          go_ret
          rw [rfPre_twice HS.out.ok HN.out hr.out (fun t ht => by rw [h1.out] at ht; cases ht) (.inr (by rw [← HALL.out, HTO.out]; rfl))]
          exact ⟨rfl, HS.out.to HB3.out (Nat.le_succ K)⟩
        | none =>
          rw [hto] at hid
          simp only [Option.getD_none, Option.isSome_none] at hid
          have h2 : Hid (tpOf (rgT L c) n = none) := Lib.hid (by rw [← HALL.out]; exact hto)
          clear hto
          go_wp2_with fail
          refine chs.mono ?_
          rintro e W5 ⟨rfl, hb5⟩
          have HB5 := Lib.hid (HB3.out.trans (hb5.mono HB3.out.size))
          have HS5 := Lib.hid (HS3.out.below hb5)
          have HT5 := Lib.hid (HT3.out.below hb5 HT3.out.lt)
          clear hb5 chs hid hc4 hc5 hx3 ht3 hW3 hl
          go_wp2_with fail
          have hd := HT5.out.three.1
          have HTD : Hid (Bk W5.drew w1.heap.size 39 #[.int .i64 (i : Int), .string n, .bool true]) := HT5
          have cN := need_any (w := W5.drew) (HS5.out.keep (Nat.le_refl _) fun _ _ => rfl) c hc hKm
          have hnF : Hid (¬ F w1.heap.size) := Lib.hid fun hf => by have := HS.out.lt _ hf; have := HB1.out.size; omega
          go_region_law (first
            | (go_simp; go_at_call 26; refine cN.mono ?_; rintro e w3 ⟨g, Fc, cl, bi, ba, v, D, rfl, hO⟩; have hd3 := (HTD.out.mods hO.mods hnF.out).three.1; have HO := Lib.hid hO; clear hO)
            | (go_simp; go_at_call 27; refine (pre_put HO.out hn hK hi1 hi2 h1.out h2.out).mono ?_; rintro e w4 ⟨rfl, hto⟩; have HTO := Lib.hid hto; clear hto))
          all_goals go_wp2
          all_goals go_ret
          all_goals exact pre_end HB5.out HN.out hr.out h1.out h2.out HTO.out
      | true =>
        have h1 : Hid (tpAt (rgT L c) (i : Int) = some x) := Lib.hid (by
          rw [← HALL.out]
          have := HXB.out
          have hx := HX.out
          cases e : tpAt cl.all (i : Int) with
          | none => rw [e] at this; cases this
          | some t => rw [e] at hx; rw [← hx]; rfl)
        have f1 : (x.id : Int) = (i : Int) := (tpAt_some h1.out).2
        rw [f1] at hW3 hx3 hl
        by_cases f2 : x.name = n
        · have f3 : (x.name.toList == n.toList) = true := by rw [f2]; exact beq_self_eq_true _
          have F2 := Lib.hid f2
          clear f2
          have HXE : Hid (¬ x.fixed = true → rfPre L c n i = (16, L)) := Lib.hid fun hnf => rfPre_twice HS.out.ok HN.out hr.out (fun t ht hh => by
            have hx : x = t := by rw [h1.out] at ht; injection ht
            subst hx
            exact hnf hh.2) (.inl (by rw [h1.out]; rfl))
          cases hto : tpOf cl.all n with
          | some t2 =>
            rw [hto] at hid
            simp only [Option.getD_some, Option.isSome_some] at hid
            clear hto
            go_wp2
            all_goals go_ret
            all_goals first
              | (rw [rfPre_had HN.out hr.out h1.out F2.out (by first | assumption | exact eq_true_of_ne_false (by assumption))]; exact ⟨rfl, HS.out.to HB3.out (Nat.le_succ K)⟩)
              | (rw [HXE.out (by first | assumption | exact fun hx => absurd hx (ne_true_of_eq_false (by assumption)))]; exact ⟨rfl, HS.out.to HB3.out (Nat.le_succ K)⟩)
          | none =>
            rw [hto] at hid
            simp only [Option.getD_none, Option.isSome_none] at hid
            clear hto
            go_wp2_with fail
            all_goals first
              | (go_ret; rw [rfPre_had HN.out hr.out h1.out F2.out (by first | assumption | exact eq_true_of_ne_false (by assumption))]; exact ⟨rfl, HS.out.to HB3.out (Nat.le_succ K)⟩)
              | (refine chs.mono ?_
                 rintro e W5 ⟨rfl, hb5⟩
                 have HB5 := Lib.hid (HB3.out.trans (hb5.mono HB3.out.size))
                 clear hb5
                 go_wp2
                 go_ret
                 rw [HXE.out (by first | assumption | exact fun hx => absurd hx (ne_true_of_eq_false (by assumption)))]
                 exact ⟨rfl, HS.out.to HB5.out (Nat.le_succ K)⟩)
        · have f3 : (x.name.toList == n.toList) = false := by rw [beq_eq_false_iff_ne]; exact fun e => f2 ((tp_toList _ _).1 e)
          have HXE : Hid (rfPre L c n i = (16, L)) := Lib.hid (rfPre_twice HS.out.ok HN.out hr.out (fun t ht hh => by
            have hx : x = t := by rw [h1.out] at ht; injection ht
            subst hx
            exact f2 hh.1) (.inl (by rw [h1.out]; rfl)))
          clear f2
          cases hto : tpOf cl.all n with
          | some t2 =>
            rw [hto] at hid
            simp only [Option.getD_some, Option.isSome_some] at hid
            clear hto
            go_wp2
            go_ret
            rw [HXE.out]
            exact ⟨rfl, HS.out.to HB3.out (Nat.le_succ K)⟩
          | none =>
            rw [hto] at hid
            simp only [Option.getD_none, Option.isSome_none] at hid
            clear hto
            go_wp2_with fail
            refine chs.mono ?_
            rintro e W5 ⟨rfl, hb5⟩
            have HB5 := Lib.hid (HB3.out.trans (hb5.mono HB3.out.size))
            clear hb5
            go_wp2
            go_ret
            rw [HXE.out]
            exact ⟨rfl, HS.out.to HB5.out (Nat.le_succ K)⟩
theorem pre_any {w : World} {F : Nat → Prop} {gp K : Nat} {L : Rg} (h : RgSt w F gp L K) (c n : ByteArray) (i : Int) (hc : c.size ≤ maxLen) (hn6 : n.size ≤ 4611686018427387904) (hK : K < 100000000) :
    Calls Try.prog 9 #[.pointer (some ⟨gp, 0, none⟩), .string c, .string n, .int .i64 i] w fun e w' => e = .returned (.int .i64 (rfPre L c n i).1) ∧ RgTo w F gp (rfPre L c n i).2 (K + 1) w' := by
  by_cases hi : i < 1 ∨ 65534 < i
  · exact pre_arg h c n i hn6 hi
  · obtain ⟨k, rfl⟩ : ∃ k : Nat, i = (k : Int) := ⟨i.toNat, by omega⟩
    exact pre_in h c n k hc hn6 hK (by omega) (by omega)
theorem pre_nil (w : World) (c n : ByteArray) (i : Int) : Calls Try.prog 9 #[.pointer none, .string c, .string n, .int .i64 i] w fun e w' => e = .returned (.int .i64 1) ∧ w = w' := by
  go_enter Try.func9, Try.ntmps9
  go_wp2
  go_ret
  exact ⟨rfl, rfl⟩
theorem reg_nil (w : World) (c n : ByteArray) : Calls Try.prog 12 #[.pointer none, .string c, .string n] w fun e w' => e = .returned (regV (0, false, 1)) ∧ w = w' := by
  go_enter Try.func12, Try.ntmps12
  go_wp2
  go_ret3
  exact ⟨rfl, rfl⟩
end Go.Proofs.Ytjbpafkdbfbdlaa
