/-
  Reference 08: what it reads, against what the program reads.
  Reference 08: what stands while a CONNECT is read; the walk of connect.
  Reference 08: the walk of connect.
  Reference 08: Read.
  Reference 08: the walk of Read.
-/
import Derived.Test.YtmkkjiogokfnmaaDoorMCnr
import Derived.Deep.DeepCutAuto
import Derived.Test.YtmkkjiogokfnmaaDoorRfX

namespace Go.Proofs.YtmkkjiogokfnmaaDoor
open Go.RowKit
theorem bin_bad {t : ByteArray} {a : Nat} {e : Int} (he : e ≠ 0) : binC t a e = (⟨#[]⟩, a, e) := by
  unfold binC
  rw [takeS_bad he]
  exact takeS_bad he
theorem txt_bad {t : ByteArray} {a : Nat} {e : Int} (he : e ≠ 0) : (txtC t a e).2.2 = e := by
  unfold txtC
  rw [bin_bad he]
  simp only
  split
  · rfl
  · exact if_neg he
theorem prp_bad {v k : Int} {t : ByteArray} {a : Nat} {e : Int} (he : e ≠ 0) : (prpC v k t a e).2.2 = e := by
  unfold prpC
  rw [if_pos (.inr he)]
theorem rb_bin {t : ByteArray} {a : Nat} (h : a ≤ t.size) (e : Int) : (rbC t a e).2.2 = (binC t a e).2.2 ∧ ((binC t a e).2.2 = 0 → rbC t a e = binC t a e) := by
  by_cases he : e = 0
  rotate_left
  · have h1 : rbC t a e = binC t a e := by rw [bin_bad he]; exact if_pos he
    exact ⟨by rw [h1], fun _ => h1⟩
  subst he
  have hz : (t.extract a t.size).size = t.size - a := by rw [ByteArray.size_extract]; omega
  by_cases h2 : t.size < a + 2
  · have h1 : rbC t a 0 = binC t a 0 := by
      unfold rbC binC
      rw [if_neg (fun x => x rfl), show (2 : Int) = ((2 : Nat) : Int) from rfl, take_no (by omega)]
      simp only
      rw [takeS_bad (by decide)]
      unfold readB
      rw [if_pos (by omega)]
      rfl
    exact ⟨by rw [h1], fun _ => h1⟩
  have hn : numS (t.extract a t.size) 0 0 2 = numS t a 0 2 := by
    unfold numS
    rw [show (2 : Int) = ((2 : Nat) : Int) from rfl, take_yes (t := t.extract a t.size) (by omega), take_yes (t := t) (by omega)]
    simp only
    rw [extract_ls, extract_ls, rest_ls, List.drop_zero]
  have hB : binC t a 0 = takeS t (a + 2) 0 (numS t a 0 2 : Nat) := by
    unfold binC
    rw [show takeS t a 0 2 = (t.extract a (a + 2), a + 2, 0) from take_yes (k := 2) (by omega)]
  have hR : rbC t a 0 = ((readB (t.extract a t.size)).1, a + (readB (t.extract a t.size)).2.1, (readB (t.extract a t.size)).2.2) := if_neg (fun x => x rfl)
  rw [hB, hR]
  unfold readB
  rw [if_neg (by omega), hn]
  generalize numS t a 0 2 = n
  by_cases h3 : t.size < a + 2 + n
  · rw [take_no (by omega), if_pos (by omega)]
    exact ⟨rfl, fun x => by cases x⟩
  · rw [take_yes (by omega), if_neg (by omega)]
    refine ⟨rfl, fun _ => ?_⟩
    have e1 : (t.extract a t.size).extract 2 (2 + n) = t.extract (a + 2) (a + 2 + n) := ls_ext (by
      rw [extract_ls, extract_ls, rest_ls, List.drop_drop])
    simp only
    rw [e1, Nat.add_assoc]
theorem rt_txt {t : ByteArray} {a : Nat} (h : a ≤ t.size) (e : Int) : (rtC t a e).2.2 = (txtC t a e).2.2 ∧ ((txtC t a e).2.2 = 0 → rtC t a e = txtC t a e) := by
  by_cases he : e = 0
  rotate_left
  · have h1 : (rtC t a e).2.2 = e := by rw [show rtC t a e = (⟨#[]⟩, a, e) from if_pos he]
    exact ⟨by rw [h1, txt_bad he], fun x => absurd ((txt_bad he).symm.trans x) he⟩
  subst he
  have hR : rtC t a 0 = ((readU (t.extract a t.size)).1, a + (readU (t.extract a t.size)).2.1, (readU (t.extract a t.size)).2.2) := if_neg (fun x => x rfl)
  have hb : rbC t a 0 = ((readB (t.extract a t.size)).1, a + (readB (t.extract a t.size)).2.1, (readB (t.extract a t.size)).2.2) := if_neg (fun x => x rfl)
  obtain ⟨g1, g2⟩ := rb_bin h 0
  rw [hR]
  by_cases hz : (binC t a 0).2.2 = 0
  · have g3 := g2 hz
    rw [hb] at g3
    have g4 : (readB (t.extract a t.size)).1 = (binC t a 0).1 := by rw [← g3]
    have g5 : (readB (t.extract a t.size)).2.2 = 0 := by rw [← hz, ← g3]
    by_cases hv : validB (binC t a 0).1 = true
    · have hU : readU (t.extract a t.size) = readB (t.extract a t.size) := by
        unfold readU
        rw [if_neg (fun y => by rw [g4, hv] at y; cases y.2)]
      have hT : txtC t a 0 = binC t a 0 := by unfold txtC; rw [if_pos hv]
      rw [hU, hT, ← g3]
      exact ⟨rfl, fun _ => rfl⟩
    · have hU : readU (t.extract a t.size) = (⟨#[]⟩, 0, 6) := by
        unfold readU
        rw [if_pos ⟨g5, by rw [g4]; simpa using hv⟩]
      have hT : (txtC t a 0).2.2 = 6 := by
        unfold txtC
        rw [if_neg hv]
        simp only
        rw [hz]
        rfl
      rw [hU, hT]
      exact ⟨rfl, fun x => by cases x⟩
  · have g5 : (readB (t.extract a t.size)).2.2 = (binC t a 0).2.2 := by rw [← g1, hb]
    have hU : readU (t.extract a t.size) = readB (t.extract a t.size) := by
      unfold readU
      rw [if_neg (fun y => hz (g5.symm.trans y.1))]
    have hT : (txtC t a 0).2.2 = (binC t a 0).2.2 := by
      unfold txtC
      simp only
      split
      · rfl
      · exact if_neg hz
    rw [hU, hT]
    exact ⟨g5, fun x => absurd x hz⟩
/-- What the reference reads as a CONNECT, and the program. -/
def rc1 (v : Int) (s : ByteArray) : Pk × Nat × Int := (cnPk (cnF v s).1 (cnK v s).1 (rtC s (cnP v s).2.1 (cnP v s).2.2).1 (cnP v s).1, (rtC s (cnP v s).2.1 (cnP v s).2.2).2.1, (rtC s (cnP v s).2.1 (cnP v s).2.2).2.2)
def rcWP (v : Int) (s : ByteArray) (a : Nat) (e : Int) : List Pr × Nat × Int := prpC v 16 s a e
def rcWT (v : Int) (s : ByteArray) (a : Nat) (e : Int) : ByteArray × Nat × Int := rtC s (rcWP v s a e).2.1 (rcWP v s a e).2.2
def rcWB (v : Int) (s : ByteArray) (a : Nat) (e : Int) : ByteArray × Nat × Int := rbC s (rcWT v s a e).2.1 (rcWT v s a e).2.2
def rc2 (v : Int) (s : ByteArray) (r : Pk × Nat × Int) : Pk × Nat × Int :=
  if r.1.hasWill = true then ({ r.1 with will := { r.1.will with props := (rcWP v s r.2.1 r.2.2).1, topic := (rcWT v s r.2.1 r.2.2).1, payload := (rcWB v s r.2.1 r.2.2).1 } }, (rcWB v s r.2.1 r.2.2).2.1, (rcWB v s r.2.1 r.2.2).2.2) else r
def rc3 (s : ByteArray) (r : Pk × Nat × Int) : Pk × Nat × Int := if r.1.hasUser = true then ({ r.1 with user := (rtC s r.2.1 r.2.2).1 }, (rtC s r.2.1 r.2.2).2.1, (rtC s r.2.1 r.2.2).2.2) else r
def rc4 (s : ByteArray) (r : Pk × Nat × Int) : Pk × Nat × Int := if r.1.hasPass = true then ({ r.1 with pass := (rbC s r.2.1 r.2.2).1 }, (rbC s r.2.1 r.2.2).2.1, (rbC s r.2.1 r.2.2).2.2) else r
def rcRd (v : Int) (s : ByteArray) : Pk × Nat × Int := rc4 s (rc3 s (rc2 v s (rc1 v s)))
/-- The same error; without one the same packet and place; the same branches ahead. -/
structure Alike (s : ByteArray) (r q : Pk × Nat × Int) : Prop where
  err : r.2.2 = q.2.2
  same : q.2.2 = 0 → r = q
  will : r.1.hasWill = q.1.hasWill
  user : r.1.hasUser = q.1.hasUser
  pass : r.1.hasPass = q.1.hasPass
  le : q.2.1 ≤ s.size
  le' : r.2.1 ≤ s.size
theorem rt_bad {t : ByteArray} {a : Nat} {e : Int} (he : e ≠ 0) : rtC t a e = (⟨#[]⟩, a, e) := if_pos he
theorem rb_bad {t : ByteArray} {a : Nat} {e : Int} (he : e ≠ 0) : rbC t a e = (⟨#[]⟩, a, e) := if_pos he
theorem txt_le (t : ByteArray) (a : Nat) (e : Int) (h : a ≤ t.size) : (txtC t a e).2.1 ≤ t.size := binC_le t a e h
theorem alike4 {s : ByteArray} {r q : Pk × Nat × Int} (x : Alike s r q) : Alike s (rc4 s r) (cn4 s q) := by
  unfold rc4 cn4
  by_cases hp : q.1.hasPass = true
  · rw [if_pos (x.pass.trans hp), if_pos hp]
    refine ⟨?_, fun h0 => ?_, x.will, x.user, x.pass, binC_le _ _ _ x.le, (rbC_le x.le').1⟩
    · simp only
      by_cases he : q.2.2 = 0
      · rw [x.same he]; exact (rb_bin x.le _).1
      · rw [rb_bad (by rw [x.err]; exact he), bin_bad he, x.err]
    · simp only at h0 ⊢
      have he : q.2.2 = 0 := (bin_ok h0).1
      rw [x.same he, (rb_bin x.le _).2 h0]
  · rw [if_neg (fun y => hp (x.pass.symm.trans y)), if_neg hp]
    exact x
theorem alike3 {s : ByteArray} {r q : Pk × Nat × Int} (x : Alike s r q) : Alike s (rc3 s r) (cn3 s q) := by
  unfold rc3 cn3
  by_cases hp : q.1.hasUser = true
  · rw [if_pos (x.user.trans hp), if_pos hp]
    refine ⟨?_, fun h0 => ?_, x.will, x.user, x.pass, txt_le _ _ _ x.le, (rtC_le x.le').1⟩
    · simp only
      by_cases he : q.2.2 = 0
      · rw [x.same he]; exact (rt_txt x.le _).1
      · rw [rt_bad (by rw [x.err]; exact he), txt_bad he, x.err]
    · simp only at h0 ⊢
      have he : q.2.2 = 0 := (txt_ok h0).1
      rw [x.same he, (rt_txt x.le _).2 h0]
  · rw [if_neg (fun y => hp (x.user.symm.trans y)), if_neg hp]
    exact x
theorem prp_le8 (v k : Int) {t : ByteArray} {a : Nat} (e : Int) (h : a ≤ t.size) : (prpC v k t a e).2.1 ≤ t.size := by
  unfold prpC
  split
  · exact h
  · have := readP_at k (t.extract a t.size)
    rw [ByteArray.size_extract] at this
    simp only
    omega
theorem alike2 {v : Int} {s : ByteArray} {r q : Pk × Nat × Int} (x : Alike s r q) : Alike s (rc2 v s r) (cn2 v s q) := by
  unfold rc2 cn2
  by_cases hp : q.1.hasWill = true
  · rw [if_pos (x.will.trans hp), if_pos hp]
    have l1 := prp_le8 v 16 q.2.2 x.le
    have l2 := txt_le s _ (prpC v 16 s q.2.1 q.2.2).2.2 l1
    refine ⟨?_, fun h0 => ?_, x.will, x.user, x.pass, binC_le _ _ _ (txt_le _ _ _ (prp_le8 _ _ _ x.le)), (rbC_le (rtC_le (prp_le8 _ _ _ x.le')).1).1⟩
    · simp only
      by_cases he : q.2.2 = 0
      · rw [x.same he]
        unfold rcWB cnWB rcWT cnWT rcWP cnWP
        obtain ⟨g1, g2⟩ := rt_txt l1 (prpC v 16 s q.2.1 q.2.2).2.2
        by_cases hz : (txtC s (prpC v 16 s q.2.1 q.2.2).2.1 (prpC v 16 s q.2.1 q.2.2).2.2).2.2 = 0
        · rw [g2 hz]; exact (rb_bin l2 _).1
        · rw [rb_bad (by rw [g1]; exact hz), bin_bad hz, g1]
      · unfold rcWB cnWB rcWT cnWT rcWP cnWP
        have he' : r.2.2 ≠ 0 := by rw [x.err]; exact he
        have b1 : (prpC v 16 s q.2.1 q.2.2).2.2 = q.2.2 := prp_bad he
        have b2 : (prpC v 16 s r.2.1 r.2.2).2.2 = r.2.2 := prp_bad he'
        rw [b1, b2]
        have b3 := txt_bad (t := s) (a := (prpC v 16 s q.2.1 q.2.2).2.1) he
        rw [rt_bad he']
        simp only
        rw [rb_bad he', b3, bin_bad he, x.err]
    · simp only at h0 ⊢
      unfold rcWB rcWT rcWP cnWB cnWT cnWP at *
      have z1 := (bin_ok h0).1
      have z2 := (txt_ok z1).1
      have he : q.2.2 = 0 := Decidable.byContradiction fun hn => hn ((prp_bad hn).symm.trans z2)
      rw [x.same he, (rt_txt l1 _).2 z1, (rb_bin l2 _).2 h0]
  · rw [if_neg (fun y => hp (x.will.symm.trans y)), if_neg hp]
    exact x
theorem cnP_le (v : Int) (s : ByteArray) : (cnP v s).2.1 ≤ s.size :=
  prp_le8 _ _ _ (takeS_le (takeS_le (takeS_le (takeS_le (Nat.zero_le _) _ _) _ _) _ _) _ _)
theorem alike1 (v : Int) (s : ByteArray) : Alike s (rc1 v s) (cn1 v s) := by
  obtain ⟨g1, g2⟩ := rt_txt (cnP_le v s) (cnP v s).2.2
  refine ⟨g1, fun h0 => ?_, rfl, rfl, rfl, txt_le _ _ _ (cnP_le v s), (rtC_le (cnP_le v s)).1⟩
  have h1 := g2 h0
  unfold rc1
  rw [h1]
  rfl
theorem alike (v : Int) (s : ByteArray) : Alike s (rcRd v s) (cnRd v s) := alike4 (alike3 (alike2 (alike1 v s)))
theorem done_alike {v : Int} {s : ByteArray} {r q : Pk × Nat × Int} (x : Alike s r q) : cnDone v s r = cnDone v s q := by
  by_cases he : q.2.2 = 0
  · rw [x.same he]
  · have he' : r.2.2 ≠ 0 := by rw [x.err]; exact he
    have g : ∀ z : Pk × Nat × Int, z.2.2 ≠ 0 → cnEnd s z = z.2.2 := fun z hz => by
      unfold cnEnd
      split
      · rfl
      · exact if_neg hz
    unfold cnDone
    rw [g r he', g q he, if_pos he', if_pos he, x.err]
/-- What the reference's Read hands back. -/
theorem cntR_ref {v k : Int} {s : ByteArray} (h : hdKnown v = true) (hk : cntOurs k = true) : cntR v k s = cnDone v s (if k = 1 then rcRd v s else caRd v s) := by
  unfold cntR
  rw [if_neg (fun y => by rw [h, hk] at y; cases y <;> contradiction)]
  by_cases h1 : k = 1
  · rw [if_pos h1, if_pos h1]; exact (done_alike (alike v s)).symm
  · rw [if_neg h1, if_neg h1]
end Go.Proofs.YtmkkjiogokfnmaaDoor

namespace Go.Proofs.YtmkkjiogokfnmaaDoor
open Go.RowKit
attribute [local go_sem ↓] to_ldPk to_bxPk to_bdPk to_alPk to_stPk
attribute [local go_sem] run_bxPk run_bxPk_agg ld_fresh run_alPk run_bd0 run_bdK run_bdKI run_bdKIC run_bdKC run_bdKICP run_stPk_fresh pkC_0 pkC_1 pkC_2 pkC_3 pkC_4 pkC_5 pkC_6 pkC_7 pkC_8 pkC_9 pkC_10 pkC_11 pkC_12 pkC_13 pkC_14 pkC_15 pkC_16 pkC_17 pkC_18 pkC_19 pkC_20 pkC_21 pkC_22 pkC_23 pkC_24
section
variable {w x y : World} {gc : Nat} {p p' : Pk} {h h' : Hs} {t : ByteArray} {a a' : Nat} {e e' : Int}
end
def rcT (v : Int) (s : ByteArray) : ByteArray × Nat × Int := rtC s (cnP v s).2.1 (cnP v s).2.2
end Go.Proofs.YtmkkjiogokfnmaaDoor

namespace Go.Proofs.YtmkkjiogokfnmaaDoor
open Go.RowKit
attribute [local go_sem ↓] to_ldPk to_bxPk to_bdPk to_alPk to_stPk
attribute [local go_sem] run_bxPk run_bxPk_agg ld_fresh run_alPk run_bd0 run_bdK run_bdKI run_bdKIC run_bdKC run_bdKICP run_stPk_fresh pkC_0 pkC_1 pkC_2 pkC_3 pkC_4 pkC_5 pkC_6 pkC_7 pkC_8 pkC_9 pkC_10 pkC_11 pkC_12 pkC_13 pkC_14 pkC_15 pkC_16 pkC_17 pkC_18 pkC_19 pkC_20 pkC_21 pkC_22 pkC_23 pkC_24

theorem props_eq (v k : Int) (t : ByteArray) (a : Nat) (e : Int) : propsC v k t a e = prpC v k t a e := rfl
theorem bit_of {f : Nat} (k : Nat) (_hk : k = 2 ∨ k = 4 ∨ k = 32 ∨ k = 64 ∨ k = 128) (hf : f < 256) : ((wrap64 ((f : Int) / (k : Int))).tmod 2 == 1) = decide (f / k % 2 = 1) := by
  have e1 : ((f : Int) / (k : Int)) = ((f / k : Nat) : Int) := rfl
  have e2 : f / k ≤ f := Nat.div_le_self _ _
  rw [e1]
  generalize f / k = q at *
  have w1 : wrap64 (q : Int) = (q : Int) := by simp only [wrap64]; omega
  rw [w1, Int.tmod_eq_emod_of_nonneg (by omega), Bool.eq_iff_iff, decide_eq_true_iff, beq_iff_eq]
  omega
theorem qos_of {f : Nat} (hf : f < 256) : (wrap64 ((f : Int) / 8)).tmod 4 = ((f / 8 % 4 : Nat) : Int) := by
  have w1 : wrap64 ((f : Int) / 8) = (f : Int) / 8 := by simp only [wrap64]; omega
  rw [w1, Int.tmod_eq_emod_of_nonneg (by omega)]
  omega

end Go.Proofs.YtmkkjiogokfnmaaDoor

namespace Go.Proofs.YtmkkjiogokfnmaaDoor
open Go.RowKit
attribute [local go_sem ↓] to_ldPk to_bxPk to_bdPk to_alPk to_stPk
attribute [local go_sem] run_bxPk run_bxPk_agg ld_fresh run_alPk run_bd0 run_bdK run_bdKI run_bdKIC run_bdKC run_bdKICP run_stPk_fresh pkC_0 pkC_1 pkC_2 pkC_3 pkC_4 pkC_5 pkC_6 pkC_7 pkC_8 pkC_9 pkC_10 pkC_11 pkC_12 pkC_13 pkC_14 pkC_15 pkC_16 pkC_17 pkC_18 pkC_19 pkC_20 pkC_21 pkC_22 pkC_23 pkC_24

theorem rt_lt (t : ByteArray) (a : Nat) (e : Int) (ha : a ≤ t.size) : (rtC t a e).1.size ≤ 65535 ∧ (rtC t a e).2.1 ≤ t.size := ⟨(rtC_le ha).2, (rtC_le ha).1⟩
theorem rb_lt (t : ByteArray) (a : Nat) (e : Int) (ha : a ≤ t.size) : (rbC t a e).1.size ≤ 65535 := (rbC_le ha).2
theorem rb_le (t : ByteArray) (a : Nat) (e : Int) (ha : a ≤ t.size) : (rbC t a e).2.1 ≤ t.size := (rbC_le ha).1
theorem rc1_ok {v : Int} {t : ByteArray} (ht : t.size ≤ 140737488351232) : RdOk t (rc1 v t) := by
  have h0 : (takeS t 0 0 6).2.1 ≤ t.size := takeS_le (Nat.zero_le _) _ _
  have h1 : (cnV v t).1 ≤ t.size := takeS_le h0 _ _
  have h2 : (cnF v t).2.1 ≤ t.size := takeS_le h1 _ _
  have h3 : (cnK v t).2.1 ≤ t.size := takeS_le h2 _ _
  have h4 : (cnP v t).2.1 ≤ t.size := prp_le h3
  have h5 := rt_lt t (cnP v t).2.1 (cnP v t).2.2 h4
  have h6 : (∀ p ∈ (cnP v t).1, prGood p) ∧ (cnP v t).1.length ≤ 1000 := prp_good ht
  have hc : (rcT v t).1.size ≤ 65535 := h5.1
  exact ⟨⟨fun _ h => (nomatch h), h6.1, fun _ h => (nomatch h), ⟨Nat.zero_le _, Nat.zero_le _, Nat.le_trans hc (by decide), Nat.zero_le _, Nat.zero_le _, Nat.zero_le _, Nat.zero_le _⟩, Nat.zero_le _, Nat.zero_le _, Nat.zero_le _, Nat.le_trans h6.2 (by decide)⟩, h5.2⟩
theorem rc2_ok {v : Int} {t : ByteArray} (ht : t.size ≤ 140737488351232) {r : Pk × Nat × Int} (g : RdOk t r) : RdOk t (rc2 v t r) := by
  unfold rc2
  split
  · have h1 : (rcWP v t r.2.1 r.2.2).2.1 ≤ t.size := prp_le g.le
    have h2 := rt_lt t _ (rcWP v t r.2.1 r.2.2).2.2 h1
    have h3 : (rcWB v t r.2.1 r.2.2).1.size ≤ 65535 := rb_lt t _ _ h2.2
    have h4 : (rcWB v t r.2.1 r.2.2).2.1 ≤ t.size := rb_le t _ _ h2.2
    have h5 : (∀ p ∈ (rcWP v t r.2.1 r.2.2).1, prGood p) ∧ (rcWP v t r.2.1 r.2.2).1.length ≤ 1000 := prp_good ht
    have hc : (rcWT v t r.2.1 r.2.2).1.size ≤ 65535 := h2.1
    have hg := g.ok.texts
    exact ⟨⟨h5.1, g.ok.props, g.ok.topics, ⟨hg.1, hg.2.1, hg.2.2.1, hg.2.2.2.1, hg.2.2.2.2.1, Nat.le_trans hc (by decide), Nat.le_trans h3 (by decide)⟩, Nat.le_trans h5.2 (by decide), g.ok.lens.2⟩, h4⟩
  · exact g
theorem rc3_ok {t : ByteArray} {r : Pk × Nat × Int} (g : RdOk t r) : RdOk t (rc3 t r) := by
  unfold rc3
  split
  · have h2 := rt_lt t r.2.1 r.2.2 g.le
    have hg := g.ok.texts
    exact ⟨⟨g.ok.wp, g.ok.props, g.ok.topics, ⟨hg.1, hg.2.1, hg.2.2.1, Nat.le_trans h2.1 (by decide), hg.2.2.2.2.1, hg.2.2.2.2.2⟩, g.ok.lens⟩, h2.2⟩
  · exact g
theorem rc4_ok {t : ByteArray} {r : Pk × Nat × Int} (g : RdOk t r) : RdOk t (rc4 t r) := by
  unfold rc4
  split
  · have h2 := rb_lt t r.2.1 r.2.2 g.le
    have hg := g.ok.texts
    exact ⟨⟨g.ok.wp, g.ok.props, g.ok.topics, ⟨hg.1, hg.2.1, hg.2.2.1, hg.2.2.2.1, Nat.le_trans h2 (by decide), hg.2.2.2.2.2⟩, g.ok.lens⟩, rb_le t _ _ g.le⟩
  · exact g
theorem rcRd_ok {v : Int} {t : ByteArray} (ht : t.size ≤ 140737488351232) : RdOk t (rcRd v t) := rc4_ok (rc3_ok (rc2_ok ht (rc1_ok ht)))
/-- Done, as the program has it. -/
theorem done_ref {v : Int} {t : ByteArray} {r : Pk × Nat × Int} (h : r.2.1 ≤ t.size) : doneR r.1 t r.2.1 r.2.2 (cntE v r.1) = cnDone v t r := by
  have e1 : (if r.2.2 = 0 ∧ r.2.1 < t.size then 5 else r.2.2) = cnEnd t r := by
    unfold cnEnd failE
    by_cases h0 : r.2.2 = 0
    · by_cases hl : r.2.1 < t.size
      · rw [if_pos ⟨h0, hl⟩, if_neg (by omega), if_pos h0]
      · rw [if_neg (fun y => hl y.2), if_pos (by omega)]
    · rw [if_neg (fun y => h0 y.1), if_neg h0]
      split <;> rfl
  unfold doneR doneE cnDone
  rw [e1]
  by_cases hz : cnEnd t r = 0
  · rw [if_pos hz, if_neg (show ¬ (cnEnd t r ≠ 0) from fun y => y hz)]
  · rw [if_neg hz, if_pos hz, if_pos hz]
section
variable {w x y : World} {gc gp : Nat} {p p' : Pk} {h h' : Hs} {t : ByteArray} {a a' : Nat} {e e' : Int}
end
end Go.Proofs.YtmkkjiogokfnmaaDoor

namespace Go.Proofs.YtmkkjiogokfnmaaDoor
open Go.RowKit
attribute [local go_sem ↓] to_ldPk to_bxPk to_bdPk to_alPk to_stPk
attribute [local go_sem] run_bxPk run_bxPk_agg ld_fresh run_alPk run_bd0 run_bdK run_bdKI run_bdKIC run_bdKC run_bdKICP run_stPk_fresh pkC_0 pkC_1 pkC_2 pkC_3 pkC_4 pkC_5 pkC_6 pkC_7 pkC_8 pkC_9 pkC_10 pkC_11 pkC_12 pkC_13 pkC_14 pkC_15 pkC_16 pkC_17 pkC_18 pkC_19 pkC_20 pkC_21 pkC_22 pkC_23 pkC_24

section
variable {w x y : World} {gc gp : Nat} {p : Pk} {h : Hs} {t : ByteArray} {a : Nat} {e : Int}
end
theorem run_bdKSC (k : Int) (b : Bool) (c : Int) (w : World) : (bdPk #[(0, .int .i64 k), (16, .bool b), (17, .int .i64 c)]).run Tryd.prog w = .ok (pkV { pk0 with kind := k, session := b, code := c } hs0) w := by kernel_rfl
theorem pkT_in (w : World) (B : Nat) (b : Bool) (c : Int) : PkIn w B { pk0 with kind := 2, session := b, code := c } hs0 := ⟨Rd.nil _ _ _ _, Rd.nil _ _ _ _, Rd.nil _ _ _ _, Rd.nil _ _ _ _, Nat.zero_le _, Nat.zero_le _, Nat.zero_le _, Nat.zero_le _⟩
end Go.Proofs.YtmkkjiogokfnmaaDoor
