/- connect, plain: the flags' byte alone decides on ErrFlags. -/
import Derived.Test.YtngnaenbnmajdaaGreatCntR
namespace Go.Proofs.YtngnaenbnmajdaaGreat
open Go.RowKit

theorem numE_ne7 (r : Rule) (p : Pr) : numE r p ≠ 7 := by
  unfold numE
  repeat' split
  all_goals decide
theorem checkE_ne7 (r : Rule) (k : Int) (p : Pr) : checkE r k p ≠ 7 := by
  unfold checkE
  repeat' split
  all_goals first
    | decide
    | exact numE_ne7 _ _
theorem bytesGo_ne7 (kind : Int) : ∀ (l : List Pr) (f : Nat → Nat) (o : List UInt8), (bytesGo kind l f o).2 ≠ 7
  | [], f, o => by
    rw [bytesGo]
    split
    · decide
    · exact (by decide : (0 : Int) ≠ 7)
  | p :: l, f, o => by
    rw [bytesGo]
    split
    · exact checkE_ne7 _ _ _
    · split
      · decide
      · exact bytesGo_ne7 kind l _ _
theorem bytesS_ne7 (kind : Int) (l : List Pr) : (bytesS kind l).2 ≠ 7 := by
  unfold bytesS
  split
  · decide
  · exact bytesGo_ne7 kind l _ _
theorem needS_ne7 {t : ByteArray} {a : Nat} {e n : Int} (h : e ≠ 7) : (needS t a e n).2.2 ≠ 7 := by
  unfold needS
  split
  · split
    · exact (by decide : (0 : Int) ≠ 7)
    · exact (by decide : (5 : Int) ≠ 7)
  · exact h
theorem dataS_ne7 {t : ByteArray} {a : Nat} {e : Int} (h : e ≠ 7) : (dataS t a e).2.2 ≠ 7 := needS_ne7 (needS_ne7 h)
theorem writS_ne7 {t : ByteArray} {a : Nat} {e : Int} (h : e ≠ 7) : (writS t a e).2.2 ≠ 7 := by
  show (if (dataS t a e).2.2 = 0 ∧ validB (dataS t a e).1 = false then (6 : Int) else (dataS t a e).2.2) ≠ 7
  split
  · decide
  · exact dataS_ne7 h
theorem pairS_ne7 {t : ByteArray} {a : Nat} {e : Int} (h : e ≠ 7) : (pairS t a e).2.2 ≠ 7 := writS_ne7 (writS_ne7 h)
theorem varS_ne7 (t : ByteArray) (a : Nat) : (varS t a).2.2 ≠ 7 := by
  unfold varS
  split
  · exact (by decide : (0 : Int) ≠ 7)
  · exact (by decide : (5 : Int) ≠ 7)
theorem valS_ne7 (sh : Nat) (t : ByteArray) (a : Nat) : (valS sh t a).err ≠ 7 := by
  have h0 : (0 : Int) ≠ 7 := by decide
  unfold valS
  repeat' split
  · exact needS_ne7 h0
  · exact needS_ne7 h0
  · exact needS_ne7 h0
  · exact varS_ne7 _ _
  · exact writS_ne7 h0
  · exact dataS_ne7 h0
  · exact pairS_ne7 h0
theorem listGo_ne7 (kind : Int) (t : ByteArray) : ∀ (m a : Nat) (f : Nat → Nat) (o : List Pr), (listGo kind t m a f o).2 ≠ 7
  | 0, a, f, o => by rw [listGo]; decide
  | m + 1, a, f, o => by
    rw [listGo]
    repeat' split
    · decide
    · exact (by decide : (0 : Int) ≠ 7)
    · decide
    · exact valS_ne7 _ _ _
    · exact checkE_ne7 _ _ _
    · decide
    · decide
    · exact listGo_ne7 kind t m _ _ _
theorem rv_ne7 : ∀ (l : List UInt8) (n k : Nat), (rv l n k).2.2 ≠ 7
  | [], _, _ => by rw [rv]; decide
  | b :: l, n, k => by
    rw [rv]
    split
    · split
      · decide
      · exact rv_ne7 l _ _
    · split
      · decide
      · exact (by decide : (0 : Int) ≠ 7)
theorem readV_ne7 (l : List UInt8) : (readV l).2.2 ≠ 7 := rv_ne7 l 0 0
theorem readP_ne7 (kind : Int) (s : ByteArray) : (readP kind s).2.2 ≠ 7 := by
  unfold readP
  split
  · exact readV_ne7 _
  · split
    · decide
    · split
      · exact listGo_ne7 _ _ _ _ _ _
      · exact (by decide : (0 : Int) ≠ 7)
theorem take_ne7 {t : ByteArray} {a : Nat} {e n : Int} (h : e ≠ 7) : (takeS t a e n).2.2 ≠ 7 := by
  unfold takeS
  split
  · split
    · exact (by decide : (0 : Int) ≠ 7)
    · exact (by decide : (3 : Int) ≠ 7)
  · exact h
theorem fail_ne7 {e n : Int} (h : e ≠ 7) (hn : n ≠ 7) : failE e n ≠ 7 := by
  unfold failE
  split
  · exact hn
  · exact h
theorem bin_ne7 {t : ByteArray} {a : Nat} {e : Int} (h : e ≠ 7) : (binC t a e).2.2 ≠ 7 := take_ne7 (take_ne7 h)
theorem txt_ne7 {t : ByteArray} {a : Nat} {e : Int} (h : e ≠ 7) : (txtC t a e).2.2 ≠ 7 := by
  show (if validB (binC t a e).1 = true then (binC t a e).2.2 else failE (binC t a e).2.2 6) ≠ 7
  split
  · exact bin_ne7 h
  · exact fail_ne7 (bin_ne7 h) (by decide)
theorem prp_ne7 {v k : Int} {t : ByteArray} {a : Nat} {e : Int} (h : e ≠ 7) : (prpC v k t a e).2.2 ≠ 7 := by
  unfold prpC
  split
  · exact h
  · exact readP_ne7 _ _
/-- An error stays. -/
theorem bin_seven (t : ByteArray) (a : Nat) : binC t a 7 = (⟨#[]⟩, a, 7) := by
  unfold binC
  rw [takeS_bad (t := t) (a := a) (e := 7) (n := 2) (by decide)]
  exact takeS_bad (e := 7) (by decide)
theorem txt_seven (t : ByteArray) (a : Nat) : (txtC t a 7).2.2 = 7 := by
  show (if validB (binC t a 7).1 = true then (binC t a 7).2.2 else failE (binC t a 7).2.2 6) = 7
  rw [bin_seven]
  split <;> rfl
theorem prp_seven (v k : Int) (t : ByteArray) (a : Nat) : prpC v k t a 7 = ([], a, 7) := by
  unfold prpC
  rw [if_pos (.inr (by decide))]
theorem cnRd_seven {v : Int} {t : ByteArray} (h : (cnF v t).2.2 = 7) : (cnRd v t).2.2 = 7 := by
  have hK : (cnK v t).2.2 = 7 := by
    show (takeS t (cnF v t).2.1 (cnF v t).2.2 2).2.2 = 7
    rw [h, takeS_bad (by decide)]
  have hP : (cnP v t).2.2 = 7 := by unfold cnP; rw [hK, prp_seven]
  have h1 : (cn1 v t).2.2 = 7 := by
    show (txtC t (cnP v t).2.1 (cnP v t).2.2).2.2 = 7
    rw [hP]; exact txt_seven _ _
  have h2 : (cn2 v t (cn1 v t)).2.2 = 7 := by
    unfold cn2
    split
    · show (binC t (txtC t (prpC v 16 t (cn1 v t).2.1 (cn1 v t).2.2).2.1 (prpC v 16 t (cn1 v t).2.1 (cn1 v t).2.2).2.2).2.1 (txtC t (prpC v 16 t (cn1 v t).2.1 (cn1 v t).2.2).2.1 (prpC v 16 t (cn1 v t).2.1 (cn1 v t).2.2).2.2).2.2).2.2 = 7
      rw [h1, prp_seven]
      simp only
      rw [txt_seven, bin_seven]
    · exact h1
  have h3 : (cn3 t (cn2 v t (cn1 v t))).2.2 = 7 := by
    unfold cn3
    split
    · show (txtC t (cn2 v t (cn1 v t)).2.1 (cn2 v t (cn1 v t)).2.2).2.2 = 7
      rw [h2]; exact txt_seven _ _
    · exact h2
  show (cn4 t (cn3 t (cn2 v t (cn1 v t)))).2.2 = 7
  unfold cn4
  split
  · show (binC t (cn3 t (cn2 v t (cn1 v t))).2.1 (cn3 t (cn2 v t (cn1 v t))).2.2).2.2 = 7
    rw [h3, bin_seven]
  · exact h3
theorem cnRd_ne7 {v : Int} {t : ByteArray} (h : (cnF v t).2.2 ≠ 7) : (cnRd v t).2.2 ≠ 7 := by
  have hK : (cnK v t).2.2 ≠ 7 := take_ne7 h
  have hP : (cnP v t).2.2 ≠ 7 := prp_ne7 hK
  have h1 : (cn1 v t).2.2 ≠ 7 := txt_ne7 hP
  have h2 : (cn2 v t (cn1 v t)).2.2 ≠ 7 := by
    unfold cn2
    split
    · exact bin_ne7 (txt_ne7 (prp_ne7 h1))
    · exact h1
  have h3 : (cn3 t (cn2 v t (cn1 v t))).2.2 ≠ 7 := by
    unfold cn3
    split
    · exact txt_ne7 h2
    · exact h2
  show (cn4 t (cn3 t (cn2 v t (cn1 v t)))).2.2 ≠ 7
  unfold cn4
  split
  · exact bin_ne7 h3
  · exact h3
theorem cntE_ne7 (v : Int) (p : Pk) : cntE v p ≠ 7 := by
  unfold cntE
  repeat' split
  all_goals first
    | decide
    | exact bytesS_ne7 _ _
theorem cntR_seven {v : Int} {t : ByteArray} (hv : hdKnown v = true) : (cntR v 1 t).2 = 7 ↔ (cnF v t).2.2 = 7 := by
  rw [cntR_is hv rfl]
  have hr : rdK v 1 t = cnRd v t := if_pos rfl
  rw [hr]
  unfold cnDone cnEnd
  by_cases h : (cnF v t).2.2 = 7
  · have h7 := cnRd_seven h
    rw [h7]
    have : (if t.size - (cnRd v t).2.1 = 0 then (7 : Int) else failE 7 5) = 7 := by split <;> rfl
    rw [this, if_pos (by decide)]
    exact ⟨fun _ => h, fun _ => rfl⟩
  · have h7 := cnRd_ne7 h
    refine ⟨fun x => ?_, fun x => absurd x h⟩
    have he : (if t.size - (cnRd v t).2.1 = 0 then (cnRd v t).2.2 else failE (cnRd v t).2.2 5) ≠ 7 := by
      split
      · exact h7
      · exact fail_ne7 h7 (by decide)
    generalize (if t.size - (cnRd v t).2.1 = 0 then (cnRd v t).2.2 else failE (cnRd v t).2.2 5) = E at x he
    by_cases h1 : E = 0
    · rw [if_neg (fun y => y h1)] at x
      by_cases h2 : cntE v (cnRd v t).1 = 0
      · rw [if_neg (fun y => y h2)] at x; cases x
      · rw [if_pos h2] at x; exact absurd x (cntE_ne7 _ _)
    · rw [if_pos h1] at x; exact absurd x he
/-- A body with other flags. -/
theorem cnF_put {v : Int} (hv : v = 4 ∨ v = 5) {t : ByteArray} {c : UInt8} {R : List UInt8} (ht : ls t = ls cntName ++ (putL v.toNat 1 ++ ([c] ++ R))) : (cnF v t).2.2 = if flOk v c.toNat = true then 0 else 7 := by
  have hl := congrArg List.length ht
  rw [ls_len] at hl
  simp only [List.length_append, putL_len, name_len, List.length_singleton] at hl
  have d6 := congrArg (List.drop 6) ht
  rw [drop_two name_len] at d6
  have d7 := congrArg (List.drop 1) d6
  rw [List.drop_drop, drop_two (putL_len _ _)] at d7
  replace d7 : (ls t).drop 7 = _ := d7
  have hv2 : v.toNat < 256 ∧ ((v.toNat : Nat) : Int) = v := by omega
  have hN : stN t = (6, 0) := by
    unfold stN
    have h6 : takeS t 0 0 6 = (t.extract 0 (0 + 6), 0 + 6, 0) := take_yes (k := 6) (by omega)
    have hx : t.extract 0 (0 + 6) = cntName := ls_ext (by
      rw [extract_ls, List.drop_zero, ht]
      exact List.take_left' name_len)
    rw [h6, hx]
    show ((0 + 6 : Nat), if cntName = cntName then (0 : Int) else failE 0 5) = _
    rw [if_pos rfl]
  have hV : cnV v t = (7, 0) := by
    unfold cnV stV
    rw [hN]
    simp only
    have h1 : takeS t 6 0 1 = (t.extract 6 (6 + 1), 6 + 1, 0) := take_yes (k := 1) (by omega)
    have h2 : numS t 6 0 1 = v.toNat := by rw [show ((1 : Int)) = ((1 : Nat) : Int) from rfl, num_front (k := 1) d6 (putL_len _ _) (by omega), get_put1 _ hv2.1]
    rw [h1, h2, if_pos hv2.2]
  unfold cnF stG
  rw [hV]
  simp only
  have h1 : takeS t 7 0 1 = (t.extract 7 (7 + 1), 7 + 1, 0) := take_yes (k := 1) (by omega)
  have h2 : numS t 7 0 1 = c.toNat := by
    rw [show ((1 : Int)) = ((1 : Nat) : Int) from rfl, num_front (k := 1) d7 rfl (by omega)]
    simp [getL]
  rw [h1, h2]
  rfl
/-- What the law says of flags. -/
def wrongB (v : Int) (c : Nat) : Bool := decide (c % 2 = 1) || decide (c / 8 % 4 = 3) || (!decide (c / 4 % 2 = 1) && decide (c / 8 % 8 ≠ 0)) || (decide (v = 4) && decide (c / 64 = 1))
theorem six_bit : ∀ c : Fin 256, (!decide (c.1 / 64 % 2 = 1) || decide (c.1 / 128 % 2 = 1)) = !decide (c.1 / 64 = 1) := by decide +kernel
theorem wrong_fl {v : Int} (hv : v = 4 ∨ v = 5) {c : Nat} (hc : c < 256) : wrongB v c = !flOk v c := by
  have := six_bit ⟨c, hc⟩
  simp only at this
  unfold wrongB flOk
  rcases hv with rfl | rfl
  · rw [Bool.or_assoc (decide ((4 : Int) = 5)), this]
    simp only [decide_true, show decide ((4 : Int) = 5) = false from rfl, Bool.false_or, Bool.true_and]
    generalize (decide (c % 2 = 1) || decide (c / 8 % 4 = 3) || (!decide (c / 4 % 2 = 1) && decide (c / 8 % 8 ≠ 0))) = x
    generalize decide (c / 64 = 1) = y
    cases x <;> cases y <;> rfl
  · simp only [decide_true, show decide ((5 : Int) = 4) = false from rfl, Bool.false_and, Bool.or_false, Bool.true_or, Bool.and_true, Bool.not_not]
end Go.Proofs.YtngnaenbnmajdaaGreat
