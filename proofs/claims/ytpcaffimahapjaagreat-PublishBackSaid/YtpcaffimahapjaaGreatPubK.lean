/- The law PublishBack: its walk. -/
import Derived.Test.YtpcaffimahapjaaGreatPubW
import Derived.Test.YtpcaffimahapjaaGreatPubD
import Derived.Test.YtpcaffimahapjaaGreatAckM
import Derived.Deep.RegionHeld3
namespace Go.Proofs.YtpcaffimahapjaaGreat
open Go.RowKit
attribute [local go_sem ↓] to_ldPk to_bxPk to_bdPk to_alPk to_stPk
attribute [local go_sem] run_bxPk run_bxPk_agg ld_fresh run_alPk run_bd0 run_bdK run_bdKI run_bdKIC run_bdKC run_bdKICP run_stPk_fresh pkC_0 pkC_1 pkC_2 pkC_3 pkC_4 pkC_5 pkC_6 pkC_7 pkC_8 pkC_9 pkC_10 pkC_11 pkC_12 pkC_13 pkC_14 pkC_15 pkC_16 pkC_17 pkC_18 pkC_19 pkC_20 pkC_21 pkC_22 pkC_23 pkC_24

set_option maxHeartbeats 1000000 in
set_option maxRecDepth 10000 in
theorem flags9_any (p : Pk) (h : Hs) (w : World) (hq : badQ p = false) :
    Calls Tryz.prog 66 #[pkV p h] w fun e w' => e = .returned (.int .i64 (flagsP p)) ∧ Below w.heap.size w w' := by
  have h0 := of_decide_eq_false hq
  have l0 : 0 ≤ p.qos := by omega
  have l2 : p.qos ≤ 2 := by omega
  have HB := Lib.hid ((Below.refl w.heap.size w).alloc (Nat.le_refl _) (.cells (pkC p h) PkT))
  have HFP : Hid (flagsP p = 2 * p.qos + (if p.retain = true then 1 else 0) + (if p.dup = true then 8 else 0)) := Lib.hid rfl
  have k1a : (w.alloc (.cells (pkC p h) PkT)).cell? ⟨w.heap.size, 3, none⟩ = some (.int .i64 p.qos) := (Bk.fresh w PkT (pkC p h)).cell 3
  have k1b : (w.alloc (.cells (pkC p h) PkT)).cell? ⟨w.heap.size, 1, none⟩ = some (.bool p.dup) := (Bk.fresh w PkT (pkC p h)).cell 1
  have k1c : (w.alloc (.cells (pkC p h) PkT)).cell? ⟨w.heap.size, 2, none⟩ = some (.bool p.retain) := (Bk.fresh w PkT (pkC p h)).cell 2
  clear h0 hq
  generalize p.qos = q at *
  generalize p.dup = d at *
  generalize p.retain = r at *
  go_enter Tryz.func66, Tryz.ntmps66
  cases d <;> cases r
  all_goals
    go_wp2
    go_ret
    refine ⟨?_, HB.out⟩
    rw [HFP.out]
    congr 2
    simp
    try omega
theorem pubR_pk {v f : Int} {s : ByteArray} (hs : s.size ≤ 140737488351232) : PkOk (pubR v f s).1 := by
  have h0 : PkOk pk0 := pkOk_R1 (k := 0) (i := 0) (c := 0) (l := []) (by simp) (by simp)
  have hx : ∀ a b, (s.extract a b).size ≤ 140737488351232 := fun a b => by rw [ByteArray.size_extract]; omega
  have hU : (readU s).1.size ≤ 140737488351232 := by
    have z : (⟨#[]⟩ : ByteArray).size ≤ 140737488351232 := by decide
    unfold readU readB
    split
    · exact z
    · split
      · exact z
      · split
        · exact z
        · exact hx _ _
  have hpre : PkOk (pubFull v f s) := by
    unfold pubFull
    refine ⟨?_, ?_, ?_, ?_, ?_⟩
    · intro q hq; cases hq
    · show ∀ q ∈ (pubPr v f s).1, prGood q
      unfold pubPr
      split
      · exact readP_good (hx _ _)
      · intro q hq; cases hq
    · intro q hq; cases hq
    · exact ⟨hU, hx _ _, Nat.zero_le _, Nat.zero_le _, Nat.zero_le _, Nat.zero_le _, Nat.zero_le _⟩
    · refine ⟨Nat.zero_le _, Nat.zero_le _, Nat.zero_le _, ?_⟩
      show (pubPr v f s).1.length ≤ _
      unfold pubPr
      split
      · by_cases h : (readP 3 (s.extract (pubAt f s) s.size)).2.2 = 0
        · have := readP_len h; omega
        · rw [readP_bad h]; exact Nat.zero_le _
      · exact Nat.zero_le _
  unfold pubR
  repeat' split
  all_goals first | exact h0 | exact hpre
theorem pubS2_size {v : Int} {p : Pk} (h : pubE v p = 0) (y : ByteArray) : y.size ≤ (pubS2 v p ++ y).size ∧ (pubS2 v p ++ y).size ≤ 131140543 + y.size ∧ (pubS2 v p ++ y).extract ((pubS2 v p ++ y).size - y.size) (pubS2 v p ++ y).size = y := by
  have g := pubE_good h
  have hT := valid_size g.topic
  have hP := (bytesS_size 3 p.props g.bytes).2
  rw [← g.kind] at hP
  have hl := pubS2_ls v p y
  have h1 : (pubS2 v p ++ y).size = (pubS2 v p).size + y.size := ByteArray.size_append
  have h2 := congrArg List.length hl
  rw [ls_len] at h2
  simp only [List.length_append, putL_len, ls_len] at h2
  refine ⟨by omega, ?_, ?_⟩
  · split at h2 <;> split at h2 <;> simp only [putL_len, List.length_nil] at h2 <;> omega
  · rw [h1, Nat.add_sub_cancel]
    refine ls_ext ?_
    have := rest_ls (pubS2 v p ++ y) (pubS2 v p).size
    rw [h1] at this
    rw [this, ls_app, ← ls_len, List.drop_left]
/-- What stands through the statement that looks at what is read. -/
abbrev NB (g0 g1 : Nat) (p : Pk) (h k : Hs) (Y : ByteArray) (W x : World) : Prop := (ldPk (.pointer (some ⟨g0, 0, none⟩))).run Tryz.prog x = .ok (pkV p h) x ∧ (ldPk (.pointer (some ⟨g1, 0, none⟩))).run Tryz.prog x = .ok (pkV p k) x ∧ x.cell? ⟨g0, 6, none⟩ = some (.string Y) ∧ Below W.heap.size W x
section
variable {w W x y : World} {g0 g1 : Nat} {p : Pk} {h k : Hs} {Y : ByteArray}
theorem NB.of (s : St w [(g0, p, h), (g1, p, k)] W) (hY : p.payload = Y) (hb : Below W.heap.size W x) : NB g0 g1 p h k Y W x :=
  ⟨(s.below hb).ld 0 rfl, (s.below hb).ld 1 rfl, by rw [← hY]; exact (s.below hb).cell 0 rfl 6, hb⟩
theorem NB.next (n : NB g0 g1 p h k Y W x) (s : St w [(g0, p, h), (g1, p, k)] W) (hY : p.payload = Y) (hb : Below x.heap.size x y) : NB g0 g1 p h k Y W y :=
  NB.of s hY (n.2.2.2.trans (hb.mono n.2.2.2.size))
theorem NB.in0 (n : NB g0 g1 p h k Y W x) (s : St w [(g0, p, h), (g1, p, k)] W) : PkIn x x.heap.size p h := (s.below n.2.2.2).into 0 rfl
theorem NB.in1 (n : NB g0 g1 p h k Y W x) (s : St w [(g0, p, h), (g1, p, k)] W) : PkIn x x.heap.size p k := (s.below n.2.2.2).into 1 rfl
end
set_option maxHeartbeats 8000000 in
set_option maxRecDepth 10000 in
theorem publishBack_any (v : Int) (p : Pk) (h : Hs) (f : Int) (s : ByteArray) (w : World) (ip : PkIn w w.heap.size p h) (ok : PkOk p) (hs : s.size ≤ 140737488351232) :
    Calls Tryz.prog 8 #[.int .i64 v, pkV p h, .int .i64 f, .string s] w fun e w' => e = .returned (.bool true) ∧ Below w.heap.size w w' := by
  have OK := Lib.hid ok
  have HS := Lib.hid hs
  have S0 := Lib.hid ((St.start w).push ip)
  clear ip ok hs
  go_enter Tryz.func8, Tryz.ntmps8
  go_wp2_with fail
  refine (lives9_any _).mono ?_
  rintro e w1 ⟨rfl, hb⟩
  have S1 := Lib.hid (S0.out.below hb); clear hb
  have hl := S1.out.ld 0 rfl
  go_wp2_with fail
  refine (lightK_any p h _ (S1.out.into 0 rfl) OK.out).mono ?_
  rintro e w2 ⟨rfl, hb⟩
  have S2 := Lib.hid (S1.out.below hb); clear hb hl
  cases hL : lightK p
  · go_wp2
    go_ret
    exact ⟨rfl, S2.out.kept⟩
  have HPL : Hid (p.payload.size ≤ 140000) := Lib.hid (by
    unfold lightK szK at hL
    simp only [Bool.and_eq_true, decide_eq_true_eq] at hL
    omega)
  clear hL
  by_cases hs1 : 2000 < s.size
  · have d2 : (2000 : Int) < (s.size : Int) := by omega
    clear hs1
    go_wp2
    go_ret
    exact ⟨rfl, S2.out.kept⟩
  have d2 : (s.size : Int) ≤ 2000 := by omega
  clear hs1
  have hl := S2.out.ld 0 rfl
  go_wp2_with fail
  refine (pubBody_any v p h _ (S2.out.into 0 rfl) OK.out).mono ?_
  rintro e w3 ⟨rfl, hb⟩
  have S3 := Lib.hid (S2.out.below hb); clear hb hl
  have hl := S3.out.ld 0 rfl
  go_wp2_with fail
  refine (pubValid_any v p h _ (S3.out.into 0 rfl) OK.out).mono ?_
  rintro e w4 ⟨rfl, hb⟩
  have S4 := Lib.hid (S3.out.below hb); clear hb hl
  by_cases hE : pubE v p = 0
  · have G := Lib.hid (pubE_good hE)
    have hB : pubB v p = (pubS2 v p ++ p.payload, 0) := by unfold pubB; rw [if_pos hE]
    rw [hB, hE]
    simp only
    have hsz := pubS2_size hE p.payload
    have hn : ∀ q ∈ p.props, q.n < 4294967296 := fun q hq => (OK.out.props q hq).1
    have hr1 : pubR v (flagsP p) (pubS2 v p ++ p.payload) = (p, 0) := pubR_body hE hn p.payload
    have hr2 := pubR_body hE hn (p.payload ++ ⟨#[33]⟩)
    rw [← ByteArray.append_assoc] at hr2
    obtain ⟨X, hX⟩ : ∃ X : ByteArray, pubS2 v p ++ p.payload = X := ⟨_, rfl⟩
    obtain ⟨Y, hY⟩ : ∃ Y : ByteArray, p.payload = Y := ⟨_, rfl⟩
    rw [hX] at hsz hr1 hr2 ⊢
    rw [hY] at hsz hr2
    have HYY := Lib.hid hY
    obtain ⟨P9, hP9, hP9y⟩ : ∃ P9 : Pk, ({ p with payload := Y ++ ⟨#[33]⟩ } : Pk) = P9 ∧ P9.payload = Y ++ ⟨#[33]⟩ := ⟨_, rfl, rfl⟩
    rw [hP9] at hr2
    have HP9 := Lib.hid hP9y
    clear hP9 hP9y
    have HY : Hid (Y.size ≤ 140000) := Lib.hid (by rw [← hY]; exact HPL.out)
    have HR1 := Lib.hid hr1
    have HR2 := Lib.hid hr2
    have c1 : (Y.size : Int) ≤ (X.size : Int) := by omega
    have HXS : Hid (X.size ≤ 131280543) := Lib.hid (by have := HY.out; omega)
    have HCUT := Lib.hid hsz.2.2
    clear hsz hr1 hr2 hn hX hY hB hE
    have hl := S4.out.ld 0 rfl
    go_wp2_with fail
    refine (flags9_any p h _ G.out.flags).mono ?_
    rintro e w5 ⟨rfl, hb⟩
    have S5 := Lib.hid (S4.out.below hb); clear hb hl
    go_wp2_with fail
    refine (pubRead_any v (flagsP p) X _ (by have := HXS.out; omega)).mono ?_
    rintro e w6 hO
    rw [HR1.out] at hO
    obtain ⟨k6, rfl, hi, hb⟩ := hO
    have S6 := Lib.hid ((S5.out.below hb).push hi)
    clear hi hb
    simp only at S6 ⊢
    have dl1 : decide ((X.size : Int) < (Y.size : Int)) = false := decide_eq_false (by omega)
    have dl2 : decide (X.size < Y.size) = false := decide_eq_false (by omega)
    have cl0 : (0 : Int) ≤ (X.size : Int) - (Y.size : Int) := by omega
    have cl1 : ((X.size : Int) - (Y.size : Int)).toNat = X.size - Y.size := by omega
    have cl2 : IntKind.i64.wrap ((X.size : Int) - (Y.size : Int)) = (X.size : Int) - (Y.size : Int) := by rw [IntKind.wrap_i64]; have := HXS.out; omega
    have cl3 : (X.size : Int) - (Y.size : Int) ≤ (X.size : Int) := by omega
    have cut := HCUT.out
    go_wp2_with fail
    obtain ⟨W, hW⟩ : ∃ W, w6.alloc (.cells (pkC p k6) PkT) = W := ⟨_, rfl⟩
    rw [hW] at S6 ⊢
    have HW := Lib.hid hW; clear hW
    go_region_held3 (fun x => (ldPk (.pointer (some ⟨w.heap.size, 0, none⟩))).run Tryz.prog x = .ok (pkV p h) x ∧ (ldPk (.pointer (some ⟨w6.heap.size, 0, none⟩))).run Tryz.prog x = .ok (pkV p k6) x ∧ x.cell? ⟨w.heap.size, 6, none⟩ = some (.string Y) ∧ Below W.heap.size W x)
      (first | exact NB.of S6.out HYY.out (below_drawn (Below.refl _ _) _) | exact NB.next (by with_reducible assumption) S6.out HYY.out hbz | go_keep)
      ((go_at_call 44; with_reducible refine (samePk_any p p k6 h _ (NB.in1 (by with_reducible assumption) S6.out) (NB.in0 (by with_reducible assumption) S6.out) OK.out.len OK.out.len).mono ?_; rintro e z ⟨rfl, hbz⟩; rw [decide_eq_true rfl]))
    have hNB : NB w.heap.size w6.heap.size p h k6 Y W z := by with_reducible assumption
    have S7 := Lib.hid (S6.out.below hNB.2.2.2); clear hNB
    have hl := S7.out.ld 0 rfl
    go_wp2_with fail
    refine (flags9_any p h _ G.out.flags).mono ?_
    rintro e w8 ⟨rfl, hb⟩
    have S8 := Lib.hid (S7.out.below hb); clear hb hl
    have HX1 : Hid ((X ++ ⟨#[33]⟩).size ≤ 140737488351232) := Lib.hid (by rw [ByteArray.size_append]; have := HXS.out; show X.size + 1 ≤ _; omega)
    have hsum : ¬ (9223372036854775807 < X.size + 1) := by have := HXS.out; omega
    go_wp2_with fail
    with_reducible refine (pubRead_any v (flagsP p) (X ++ ⟨#[33]⟩) _ HX1.out).mono ?_
    rintro e w9 hO
    rw [HR2.out] at hO
    obtain ⟨k9, rfl, hi, hb⟩ := hO
    have S9 := Lib.hid ((S8.out.below hb).push hi)
    clear hi hb hsum
    have j0 := S9.out.cell 0 rfl 6
    rw [pkC_6, HYY.out] at j0
    have j1 := S9.out.cell 2 rfl 6
    rw [pkC_6] at j1
    simp only at j1
    rw [HP9.out] at j1
    have hsum2 : ¬ (9223372036854775807 < Y.size + 1) := by have := HY.out; omega
    simp only at S9 j0 j1 ⊢
    go_wp2_with fail
    refine (pubRead_any v f s _ HS.out).mono ?_
    rintro e w10 hO
    by_cases h0 : (pubR v f s).2 = 0
    rotate_left
    · have hr := pubR_none h0
      generalize pubR v f s = R at *
      obtain ⟨q, E⟩ := R
      simp only at h0 hr hO
      subst hr
      obtain ⟨kk, rfl, hi, hb⟩ := hO
      have e9 : (E != 0) = true := bne_iff_ne.2 h0
      have T7 := Lib.hid ((S9.out.below hb).push hi)
      have hl7 := T7.out.ld 3 rfl
      clear h0 hi hb
      simp only at T7 hl7 ⊢
      go_wp2_with fail
      refine (none_any pk0 kk _ (T7.out.into 3 rfl) pk0_len).mono ?_
      rintro e w11 ⟨rfl, hb⟩
      have T8 := Lib.hid (T7.out.below hb); clear hb
      rw [decide_eq_true rfl]
      go_wp2
      go_ret
      exact ⟨rfl, T8.out.kept⟩
    · have hq := pubR_pk (v := v) (f := f) HS.out
      generalize hR : pubR v f s = R at *
      obtain ⟨q, E⟩ := R
      simp only at h0 hO hq
      subst h0
      obtain ⟨kk, rfl, hi, hb⟩ := hO
      obtain ⟨hE, hS, hF⟩ := pubR_back hR
      have HQ := Lib.hid hq
      have HB2 : Hid (pubB v q = (s, 0)) := Lib.hid (by unfold pubB; rw [if_pos hE, hS])
      have HG : Hid (badQ q = false) := Lib.hid (pubE_good hE).flags
      have HF := Lib.hid hF
      have T7 := Lib.hid ((S9.out.below hb).push hi)
      have hl7 := T7.out.ld 3 rfl
      clear hR hE hS hF hi hb hq
      simp only at T7 hl7 ⊢
      go_wp2_with fail
      refine (pubBody_any v q kk _ (T7.out.into 3 rfl) HQ.out).mono ?_
      rintro e w11 ⟨rfl, hb⟩
      have T8 := Lib.hid (T7.out.below hb); clear hb hl7
      rw [HB2.out]
      simp only
      have hl8 := T8.out.ld 3 rfl
      go_wp2_with fail
      refine (flags9_any q kk _ HG.out).mono ?_
      rintro e w12 ⟨rfl, hb⟩
      have T9 := Lib.hid (T8.out.below hb); clear hb hl8
      rw [HF.out]
      go_wp2
      go_ret
      exact ⟨rfl, T9.out.kept⟩
  · have hB : pubB v p = (⟨#[]⟩, pubE v p) := by unfold pubB; rw [if_neg hE]
    rw [hB]
    generalize pubE v p = E at *
    have e0 : (E == 0) = false := beq_eq_false_iff_ne.2 hE
    clear hB hE
    simp only
    go_wp2_with fail
    refine (pubRead_any v f s _ HS.out).mono ?_
    rintro e w5 hO
    by_cases h0 : (pubR v f s).2 = 0
    rotate_left
    · have hr := pubR_none h0
      generalize pubR v f s = R at *
      obtain ⟨q, E⟩ := R
      simp only at h0 hr hO
      subst hr
      obtain ⟨kk, rfl, hi, hb⟩ := hO
      have e9 : (E != 0) = true := bne_iff_ne.2 h0
      have T7 := Lib.hid ((S4.out.below hb).push hi)
      have hl7 := T7.out.ld 1 rfl
      clear h0 hi hb
      simp only at T7 hl7 ⊢
      go_wp2_with fail
      refine (none_any pk0 kk _ (T7.out.into 1 rfl) pk0_len).mono ?_
      rintro e w6 ⟨rfl, hb⟩
      have T8 := Lib.hid (T7.out.below hb); clear hb
      rw [decide_eq_true rfl]
      go_wp2
      go_ret
      exact ⟨rfl, T8.out.kept⟩
    · have hq := pubR_pk (v := v) (f := f) HS.out
      generalize hR : pubR v f s = R at *
      obtain ⟨q, E⟩ := R
      simp only at h0 hO hq
      subst h0
      obtain ⟨kk, rfl, hi, hb⟩ := hO
      obtain ⟨hE, hS, hF⟩ := pubR_back hR
      have HQ := Lib.hid hq
      have HB2 : Hid (pubB v q = (s, 0)) := Lib.hid (by unfold pubB; rw [if_pos hE, hS])
      have HG : Hid (badQ q = false) := Lib.hid (pubE_good hE).flags
      have HF := Lib.hid hF
      have T7 := Lib.hid ((S4.out.below hb).push hi)
      have hl7 := T7.out.ld 1 rfl
      clear hR hE hS hF hi hb hq
      simp only at T7 hl7 ⊢
      go_wp2_with fail
      refine (pubBody_any v q kk _ (T7.out.into 1 rfl) HQ.out).mono ?_
      rintro e w6 ⟨rfl, hb⟩
      have T8 := Lib.hid (T7.out.below hb); clear hb hl7
      rw [HB2.out]
      simp only
      have hl8 := T8.out.ld 1 rfl
      go_wp2_with fail
      refine (flags9_any q kk _ HG.out).mono ?_
      rintro e w7 ⟨rfl, hb⟩
      have T9 := Lib.hid (T8.out.below hb); clear hb hl8
      rw [HF.out]
      go_wp2
      go_ret
      exact ⟨rfl, T9.out.kept⟩
end Go.Proofs.YtpcaffimahapjaaGreat
