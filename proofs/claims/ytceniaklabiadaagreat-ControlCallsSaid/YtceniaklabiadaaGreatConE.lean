/- control: the walks of Body, Read; the examples of the chapter. -/
import Derived.Test.YtceniaklabiadaaGreatConD
import Derived.Test.YtceniaklabiadaaGreatMTai
namespace Go.Proofs.YtceniaklabiadaaGreat
open Go.RowKit
attribute [local go_sem ↓] to_ldPk to_bxPk to_bdPk to_alPk to_stPk
attribute [local go_sem] run_bxPk run_bxPk_agg ld_fresh run_alPk run_bd0 run_bdK run_bdKI run_bdKIC run_bdKC run_bdKICP run_stPk_fresh pkC_0 pkC_1 pkC_2 pkC_3 pkC_4 pkC_5 pkC_6 pkC_7 pkC_8 pkC_9 pkC_10 pkC_11 pkC_12 pkC_13 pkC_14 pkC_15 pkC_16 pkC_17 pkC_18 pkC_19 pkC_20 pkC_21 pkC_22 pkC_23 pkC_24
set_option maxHeartbeats 2000000 in
set_option maxRecDepth 10000 in
theorem conBody_any (v : Int) (p : Pk) (h : Hs) (w : World) (ip : PkIn w w.heap.size p h) (ok : PkOk p) :
    Calls Tryz.prog 23 #[.int .i64 v, pkV p h] w fun e w' => e = .returned (.tuple #[.string ⟨(conB v p).1.toArray⟩, .int .i64 (conB v p).2]) ∧ Below w.heap.size w w' := by
  have OK := Lib.hid ok
  have S0 := Lib.hid ((St.start w).push ip)
  have HE : Hid (conB v p = if conE v p = 0 then (tailS p.code p.props p.kind, 0) else ([], conE v p)) := Lib.hid rfl
  clear ip ok
  go_enter Tryz.func23, Tryz.ntmps23
  go_wp2_with fail
  refine (conValid_any v p h _ (S0.out.into 0 rfl) OK.out).mono ?_
  rintro e w1 ⟨rfl, hb⟩
  have S1 := Lib.hid (S0.out.below hb); clear hb
  by_cases he : conE v p = 0
  · have HX : Hid (conB v p = (tailS p.code p.props p.kind, 0)) := Lib.hid (by rw [HE.out, if_pos he])
    rw [he]
    have k0 := S1.out.cell 0 rfl 0
    rw [pkC_0] at k0
    have k1 := S1.out.cell 0 rfl 21
    rw [pkC_21] at k1
    have k2 := S1.out.cell 0 rfl 24
    rw [pkC_24] at k2
    clear he
    go_wp2_with fail
    refine (tailS_any p.code p.kind p.props _ rfl OK.out.props h.props.a h.props.c _ (S1.out.into 0 rfl).props OK.out.len.2.2.2).mono ?_
    rintro e w2 ⟨rfl, hb⟩
    have S2 := Lib.hid (S1.out.below hb); clear hb
    go_wp2
    go_ret2
    exact ⟨by rw [HX.out]; rfl, S2.out.kept⟩
  · have e0 : (conE v p != 0) = true := bne_iff_ne.2 he
    have HX : Hid (conB v p = ([], conE v p)) := Lib.hid (by rw [HE.out, if_neg he])
    clear he
    go_wp2
    go_ret2
    exact ⟨by rw [HX.out]; rfl, S1.out.kept⟩

/-- What stands while a packet is read: the result's block, the packet's. -/
structure RC (w : World) (g gp : Nat) (k c : Int) (l : List Pr) (A : Option Addr) (n : Nat) (x : World) : Prop where
  kept : Below w.heap.size w x
  res : Bk x g PkT (pkC pk0 hs0)
  pk : Bk x gp PkT (pkC (ackR1 k 0 c l) { hs0 with props := ⟨A, n⟩ })
  rd : Rd x x.heap.size 4 A l.length (prs l)
  cap : l.length ≤ n
  ne : g ≠ gp
  base : w.heap.size ≤ g ∧ w.heap.size ≤ gp
section
variable {w x y : World} {g gp : Nat} {k c : Int} {l : List Pr} {A : Option Addr} {n : Nat}
theorem RC.below (h : RC w g gp k c l A n x) (hb : Below x.heap.size x y) : RC w g gp k c l A n y :=
  ⟨h.kept.trans (hb.mono h.kept.size), h.res.below hb h.res.lt, h.pk.below hb h.pk.lt, (h.rd.below hb).wider hb.size, h.cap, h.ne, h.base⟩
theorem RC.into (h : RC w g gp k c l A n x) : PkIn x x.heap.size (ackR1 k 0 c l) { hs0 with props := ⟨A, n⟩ } := PkIn.R1 h.rd h.cap k 0 c
theorem RC.none (h : RC w g gp k c l A n x) : Below w.heap.size w (putPk x g pk0 hs0) ∧ Bk (putPk x g pk0 hs0) g PkT (pkC pk0 hs0) := ⟨below_put h.kept h.kept.size h.base.1 _ _, put_bk h.res _ _⟩
theorem RC.some (h : RC w g gp k c l A n x) : Below w.heap.size w (putPk x g (ackR1 k 0 c l) { hs0 with props := ⟨A, n⟩ }) ∧ Bk (putPk x g (ackR1 k 0 c l) { hs0 with props := ⟨A, n⟩ }) g PkT (pkC (ackR1 k 0 c l) { hs0 with props := ⟨A, n⟩ }) ∧
    PkIn (putPk x g (ackR1 k 0 c l) { hs0 with props := ⟨A, n⟩ }) (putPk x g (ackR1 k 0 c l) { hs0 with props := ⟨A, n⟩ }).heap.size (ackR1 k 0 c l) { hs0 with props := ⟨A, n⟩ } :=
  ⟨below_put h.kept h.kept.size h.base.1 _ _, put_bk h.res _ _, PkIn.R1 ((h.rd.other h.res (pk_no32 _ _) (putPk_mods _ _ _ _) (Nat.le_refl _)).wider (putPk_mods _ _ _ _).size) h.cap k 0 c⟩
/-- Code, properties stored. -/
theorem RC.put (h : RC w g gp k 0 [] Option.none 0 x) {A' : Option Addr} {n' : Nat} {l' : List Pr} {c' : Int} (hr : Rd x x.heap.size 4 A' l'.length (prs l')) (hn : l'.length ≤ n') :
    RC w g gp k c' l' A' n' ((x.setCell ⟨gp, 21, .none⟩ (.int .i64 c')).setCell ⟨gp, 24, .none⟩ (.slice A' l'.length n')) := by
  have hm := (mod_set x gp 21 (.int .i64 c')).trans (mod_set _ gp 24 (.slice A' l'.length n'))
  exact ⟨below_mod h.kept hm h.kept.size h.base.2, (h.res.other h.ne _).other h.ne _, conQ_put h.pk, (hr.other h.pk (pk_no32 _ _) hm (Nat.le_refl _)).wider hm.size, hn, h.ne, h.base⟩
end
theorem conR_last {v k : Int} {s : ByteArray} (hk : conK v k = 0) :
    ((if (toldV v k s).2.2 = 0 then conE v (conPre v k s) else (toldV v k s).2.2) = 0 ∧ conR v k s = (conPre v k s, 0)) ∨ ((if (toldV v k s).2.2 = 0 then conE v (conPre v k s) else (toldV v k s).2.2) ≠ 0 ∧ conR v k s = (pk0, (if (toldV v k s).2.2 = 0 then conE v (conPre v k s) else (toldV v k s).2.2))) := by
  have e1 : conR v k s = if (toldV v k s).2.2 ≠ 0 then (pk0, (toldV v k s).2.2) else if conE v (conPre v k s) ≠ 0 then (pk0, conE v (conPre v k s)) else (conPre v k s, 0) := by
    unfold conR
    rw [if_neg (fun x => x hk)]
  rw [e1]
  by_cases h3 : (toldV v k s).2.2 = 0
  · rw [if_pos h3, if_neg (fun x => x h3)]
    by_cases h4 : conE v (conPre v k s) = 0
    · rw [if_neg (fun x => x h4)]
      exact .inl ⟨h4, rfl⟩
    · rw [if_pos h4]
      exact .inr ⟨h4, rfl⟩
  · rw [if_neg h3, if_pos h3]
    exact .inr ⟨h3, rfl⟩
set_option maxHeartbeats 4000000 in
set_option maxRecDepth 10000 in
theorem conRead_any (v k : Int) (s : ByteArray) (w : World) (hs : s.size ≤ 140737488351232) :
    Calls Tryz.prog 25 #[.int .i64 v, .int .i64 k, .string s] w (PkOut (conR v k s) w) := by
  have HS := Lib.hid hs
  have HB0 := Lib.hid ((Below.refl w.heap.size w).alloc (Nat.le_refl _) (.cells (pkC pk0 hs0) PkT))
  have H60 := Lib.hid (Bk.fresh w PkT (pkC pk0 hs0))
  go_enter Tryz.func25, Tryz.ntmps25
  go_wp2_with fail
  refine (conKnown_any v k _).mono ?_
  rintro e w1 ⟨rfl, hb⟩
  have HB1 := Lib.hid (HB0.out.trans (hb.mono HB0.out.size)); have H61 := Lib.hid (H60.out.below hb H60.out.lt); clear hb
  by_cases hk : conK v k = 0
  rotate_left
  · have HX : Hid (conR v k s = (pk0, conK v k)) := Lib.hid (by unfold conR; rw [if_pos hk])
    have e0 : (conK v k != 0) = true := bne_iff_ne.2 hk
    have hst := run_stPk H61.out
    generalize conK v k = E at *
    clear hk
    go_wp2
    refine bodyPost_ret (results_pk rfl _ rfl (put_bk H61.out pk0 hs0)) rfl ?_
    exact pkOut_bad HX.out (below_put HB1.out HB1.out.size (Nat.le_refl _) _ _)
  have HW0 := Lib.hid (conR_last (s := s) hk)
  rw [hk]
  clear hk
  have I1 : Hid (RC w w.heap.size w1.heap.size k 0 [] none 0 (w1.alloc (.cells (pkC (ackR1 k 0 0 []) hs0) PkT))) := Lib.hid
    ⟨HB1.out.alloc HB1.out.size _, H61.out.alloc _, Bk.fresh _ _ _, Rd.nil _ _ _ _, Nat.le_refl _, by have := H61.out.lt; omega, Nat.le_refl _, HB1.out.size⟩
  go_wp2_with fail
  rw [ackR1_k]
  refine (says_any v k _).mono ?_
  rintro e w2 ⟨rfl, hb⟩
  have I2 := Lib.hid (I1.out.below hb); clear hb
  cases hm : conMay v k
  · have hem := empty_iff s
    have ht : toldV v k s = (0, [], if s.size ≠ 0 then 5 else 0) := by unfold toldV; rw [if_neg (by rw [hm]; decide)]
    have hp : conPre v k s = ackR1 k 0 0 [] := by unfold conPre; rw [ht]
    by_cases hz : s.size = 0
    · rw [decide_eq_true hz] at hem
      have HW : Hid ((conE v (ackR1 k 0 0 []) = 0 ∧ conR v k s = (ackR1 k 0 0 [], 0)) ∨ (conE v (ackR1 k 0 0 []) ≠ 0 ∧ conR v k s = (pk0, conE v (ackR1 k 0 0 [])))) := Lib.hid (by simpa [ht, hp, hz] using HW0.out)
      have hl := ld_bk I2.out.pk
      clear hm hz ht hp
      go_wp2_with fail
      refine (conValid_any v (ackR1 k 0 0 []) _ _ I2.out.into (pkOk_R1 (by simp) (by simp))).mono ?_
      rintro e w3 ⟨rfl, hb⟩
      have IG := Lib.hid (I2.out.below hb); clear hb hl
      have HW2 := HW
      generalize conE v (ackR1 k 0 0 []) = E2 at *
      have hl := ld_bk IG.out.pk
      have hst := run_stPk IG.out.res
      rcases HW2.out with ⟨h2, hr⟩ | ⟨h2, hr⟩
      · subst h2
        have HR := Lib.hid hr; clear hr
        go_wp2
        refine bodyPost_ret (results_pk rfl _ rfl IG.out.some.2.1) rfl ?_
        exact pkOut_ok HR.out IG.out.some.2.2 IG.out.some.1
      · have e0 : (E2 != 0) = true := bne_iff_ne.2 h2
        have HR := Lib.hid hr; clear hr h2
        go_wp2
        refine bodyPost_ret (results_pk rfl _ rfl IG.out.none.2) rfl ?_
        exact pkOut_bad HR.out IG.out.none.1
    · rw [decide_eq_false hz] at hem
      have HR : Hid (conR v k s = (pk0, 5)) := Lib.hid (by simpa [ht, hp, hz] using HW0.out)
      have hst := run_stPk I2.out.res
      clear hm hz ht hp
      go_wp2
      refine bodyPost_ret (results_pk rfl _ rfl I2.out.none.2) rfl ?_
      exact pkOut_bad HR.out I2.out.none.1
  · have ht : toldV v k s = toldS k s := by unfold toldV; rw [if_pos hm]
    have hp : conPre v k s = ackR1 k 0 (toldS k s).1 (toldS k s).2.1 := by unfold conPre; rw [ht]
    have hgd := toldV_good (v := v) (k := k) HS.out
    rw [ht] at hgd
    have HOK0 : Hid (PkOk (ackR1 k 0 (toldS k s).1 (toldS k s).2.1)) := Lib.hid (pkOk_R1 hgd.1 (by have := hgd.2; omega))
    have HW1 := HW0.out
    rw [hp, ht] at HW1
    have HW := Lib.hid HW1
    clear hm ht hp hgd HW1
    go_wp2_with fail
    refine (told_any k s _ HS.out).mono ?_
    rintro e w3 ⟨A, n, rfl, hcap, hrd, hb⟩
    have I3 := Lib.hid (I2.out.below hb)
    generalize toldS k s = R at *
    obtain ⟨c, l, x⟩ := R
    simp only at hcap hrd HW HOK0 ⊢
    have I4 := Lib.hid (I3.out.put (c' := c) hrd hcap)
    have f1 : w3.cell? ⟨w1.heap.size, 21, none⟩ = some (.int .i64 0) := I3.out.pk.cell 21
    have f2 : w3.cell? ⟨w1.heap.size, 24, none⟩ = some (.slice none 0 0) := I3.out.pk.cell 24
    have g1 := I3.out.pk.free 21
    have g2 := I3.out.pk.free 24
    have HOK := HOK0
    clear hcap hrd hb
    by_cases hx : x = 0
    · subst hx
      have HW3 : Hid ((conE v (ackR1 k 0 c l) = 0 ∧ conR v k s = (ackR1 k 0 c l, 0)) ∨ (conE v (ackR1 k 0 c l) ≠ 0 ∧ conR v k s = (pk0, conE v (ackR1 k 0 c l)))) := Lib.hid (by have := HW.out; rwa [if_pos rfl] at this)
      have hl := ld_bk I4.out.pk
      go_wp2_with fail
      refine (conValid_any v (ackR1 k 0 c l) _ _ I4.out.into HOK.out).mono ?_
      rintro e w4 ⟨rfl, hb⟩
      have IG := Lib.hid (I4.out.below hb); clear hb hl f1 f2 g1 g2
      have HW2 := HW3
      clear HW
      generalize conE v (ackR1 k 0 c l) = E2 at *
      have hl := ld_bk IG.out.pk
      have hst := run_stPk IG.out.res
      rcases HW2.out with ⟨h2, hr⟩ | ⟨h2, hr⟩
      · subst h2
        have HR := Lib.hid hr; clear hr
        go_wp2
        refine bodyPost_ret (results_pk rfl _ rfl IG.out.some.2.1) rfl ?_
        exact pkOut_ok HR.out IG.out.some.2.2 IG.out.some.1
      · have e0 : (E2 != 0) = true := bne_iff_ne.2 h2
        have HR := Lib.hid hr; clear hr h2
        go_wp2
        refine bodyPost_ret (results_pk rfl _ rfl IG.out.none.2) rfl ?_
        exact pkOut_bad HR.out IG.out.none.1
    · have e0 : (x == 0) = false := beq_eq_false_iff_ne.2 hx
      have e1 : (x != 0) = true := bne_iff_ne.2 hx
      have HR : Hid (conR v k s = (pk0, x)) := Lib.hid (by
        have := HW.out
        rw [if_neg hx] at this
        rcases this with ⟨h, _⟩ | ⟨_, h⟩
        · exact absurd h hx
        · exact h)
      have hst := run_stPk I4.out.res
      clear hx HW
      go_wp2
      refine bodyPost_ret (results_pk rfl _ rfl I4.out.none.2) rfl ?_
      exact pkOut_bad HR.out I4.out.none.1
end Go.Proofs.YtceniaklabiadaaGreat
