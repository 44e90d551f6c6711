/-
  References 10 and 12, plain: what they answer is what the program answers.
  Reference 10: right, Valid, Short, Body, Next, Rest; reference 08: Done.
  Reference 10: Body, Next, Rest; reference 08: Done.
-/
import Derived.Test.YtmkkjiogokfnmaaDoorMRfC
import Derived.Test.YtmkkjiogokfnmaaDoorMTai
import Derived.Test.YtmkkjiogokfnmaaDoorMRfB
import Derived.Test.YtmkkjiogokfnmaaDoorMReaB
import Derived.Deep.RegionLaw

namespace Go.Proofs.YtmkkjiogokfnmaaDoor
open Go.RowKit

/-- May an acknowledgement's fields be, but properties? -/
def ackRB (v : Int) (p : Pk) : Bool := decide (ackK v p.kind = true ∧ p = ackP p ∧ ¬ (v = 4 ∧ (p.code ≠ 0 ∨ 0 < p.props.length)) ∧ 1 ≤ p.id ∧ p.id ≤ 65535 ∧ may p.kind p.code = true)
theorem right_none {v k : Int} {l : List Pr} (h : v = 4 → l.length = 0) : rightE v k l = (bytesS k l).2 := by
  unfold rightE
  by_cases h4 : v = 4
  · have h0 := h h4
    have hl : l = [] := List.eq_nil_of_length_eq_zero h0
    subst hl
    rw [if_pos h4, if_neg (by simp), bytesS_none]
  · rw [if_neg h4]
theorem ackE_ref (v : Int) (p : Pk) : ackE v p = if ackRB v p = true then rightE v p.kind p.props else 2 := by
  by_cases h : ackRB v p = true
  · obtain ⟨g1, g2, g3, g4, g5, g6⟩ := of_decide_eq_true (show decide _ = true from h)
    have h0 : v = 4 → p.props.length = 0 := fun h4 => by
      have : ¬ (0 < p.props.length) := fun x => g3 ⟨h4, .inr x⟩
      omega
    rw [if_pos h, right_none h0]
    unfold ackE
    rw [if_neg, if_neg, if_neg]
    · exact fun x => x g2
    · rintro ⟨x, y | y⟩
      · exact g3 ⟨x, .inl y⟩
      · exact y (h0 x)
    · rintro (x | x | x | x)
      · rw [g1] at x; cases x
      · omega
      · omega
      · rw [g6] at x; cases x
  · rw [if_neg h]
    have hn : ¬ (ackK v p.kind = true ∧ p = ackP p ∧ ¬ (v = 4 ∧ (p.code ≠ 0 ∨ 0 < p.props.length)) ∧ 1 ≤ p.id ∧ p.id ≤ 65535 ∧ may p.kind p.code = true) := fun x => h (decide_eq_true x)
    unfold ackE
    by_cases c1 : ackK v p.kind = false ∨ p.id ≤ 0 ∨ 65536 ≤ p.id ∨ may p.kind p.code = false
    · rw [if_pos c1]
    rw [if_neg c1]
    by_cases c2 : v = 4 ∧ (p.code ≠ 0 ∨ p.props.length ≠ 0)
    · rw [if_pos c2]
    rw [if_neg c2]
    by_cases c3 : p = ackP p
    · exfalso
      apply hn
      refine ⟨?_, c3, ?_, ?_, ?_, ?_⟩
      · cases e : ackK v p.kind
        · exact absurd (.inl e) c1
        · rfl
      · rintro ⟨x, y | y⟩
        · exact c2 ⟨x, .inl y⟩
        · exact c2 ⟨x, .inr (by omega)⟩
      · have : ¬ p.id ≤ 0 := fun x => c1 (.inr (.inl x))
        omega
      · have : ¬ 65536 ≤ p.id := fun x => c1 (.inr (.inr (.inl x)))
        omega
      · cases e : may p.kind p.code
        · exact absurd (.inr (.inr (.inr e))) c1
        · rfl
    · rw [if_pos c3]
/-- Code and properties, as far as they need be. -/
def shortB (v k c : Int) (l : List Pr) : ByteArray := if v = 5 then ⟨(tailL k c l).toArray⟩ else ⟨#[]⟩
/-- What the reference's Rest finds: the code, the properties, the place, the error. -/
def rkP (v k : Int) (t : ByteArray) (a : Nat) : List Pr × Nat × Int := if a + 1 < t.size then propsC v k t (a + 1) 0 else ([], a + 1, 0)
def rkE (v k : Int) (t : ByteArray) (a : Nat) : Int := if (rkP v k t a).2.2 = 0 ∧ t.size ≤ (rkP v k t a).2.1 ∧ shortB v k (numS t a 0 1 : Nat) (rkP v k t a).1 ≠ t.extract a t.size then 5 else (rkP v k t a).2.2
def rkRest (v k : Int) (t : ByteArray) (a : Nat) (e : Int) : Int × List Pr × Nat × Int :=
  if v = 4 ∨ e ≠ 0 ∨ t.size ≤ a then (0, [], a, e) else ((numS t a 0 1 : Nat), (rkP v k t a).1, (rkP v k t a).2.1, rkE v k t a)
/-- The error behind a packet that was read, and what is handed back. -/
def doneE (t : ByteArray) (a : Nat) (e x : Int) : Int := if (if e = 0 ∧ a < t.size then 5 else e) = 0 then x else (if e = 0 ∧ a < t.size then 5 else e)
def doneR (p : Pk) (t : ByteArray) (a : Nat) (e x : Int) : Pk × Int := if doneE t a e x ≠ 0 then (pk0, doneE t a e x) else (p, 0)
def leftE (t : ByteArray) (a : Nat) (e : Int) : Int := if e ≠ 0 then e else if a < t.size then 5 else 0
theorem leftE_eq (t : ByteArray) (a : Nat) (e : Int) : (if e = 0 ∧ a < t.size then 5 else e) = leftE t a e := by
  unfold leftE
  by_cases h : e = 0
  · subst h
    by_cases h2 : a < t.size
    · rw [if_pos ⟨rfl, h2⟩, if_neg (fun x => x rfl), if_pos h2]
    · rw [if_neg (fun x => h2 x.2), if_neg (fun x => x rfl), if_neg h2]
  · rw [if_neg (fun y => h y.1), if_pos h]
theorem ls_inj {a b : ByteArray} (h : ls a = ls b) : a = b := ls_ext h
/-- The reference's Rest and the program's: the same code, the same properties, the same error in the end. -/
theorem rest_ref {k : Int} {t : ByteArray} {a : Nat} (ha : a ≤ t.size) : (rkRest 5 k t a 0).1 = (restS k t a).1 ∧ (rkRest 5 k t a 0).2.1 = (restS k t a).2.1 ∧
    ∀ x, doneE t (rkRest 5 k t a 0).2.2.1 (rkRest 5 k t a 0).2.2.2 x = doneE t (restS k t a).2.2.1 (restS k t a).2.2.2 x := by
  by_cases h1 : t.size ≤ a
  · have e1 : rkRest 5 k t a 0 = (0, [], a, 0) := by unfold rkRest; rw [if_pos (.inr (.inr h1))]
    have e2 : restS k t a = (0, [], a, 0) := by unfold restS; rw [if_pos h1]
    rw [e1, e2]
    exact ⟨rfl, rfl, fun _ => rfl⟩
  have e1 : rkRest 5 k t a 0 = (((numS t a 0 1 : Nat) : Int), (rkP 5 k t a).1, (rkP 5 k t a).2.1, rkE 5 k t a) := by
    unfold rkRest
    rw [if_neg]
    rintro (x | x | x)
    · exact absurd x (by decide)
    · exact x rfl
    · exact h1 x
  have hwl : ls (t.extract a t.size) = (ls t).drop a := by
    have hx := extract_ls t a (t.size - a)
    rw [show a + (t.size - a) = t.size by omega] at hx
    rw [hx, List.take_of_length_le]
    rw [List.length_drop, ls_len]; exact Nat.le_refl _
  have hsh : ∀ l, (ls t).drop a = tailL k (numS t a 0 1 : Nat) l → ¬ (shortB 5 k (numS t a 0 1 : Nat) l ≠ t.extract a t.size) := fun l h x => x (by
    apply ls_ext
    unfold shortB
    rw [if_pos rfl, ls_mk, hwl, h])
  have hback := rest_back (k := k) ha
  by_cases h2 : t.size = a + 1
  · have p1 : rkP 5 k t a = ([], a + 1, 0) := by unfold rkP; rw [if_neg (by omega)]
    have e2 : restS k t a = (((numS t a 0 1 : Nat) : Int), [], a + 1, if numS t a 0 1 = 0 then 5 else 0) := by unfold restS; rw [if_neg h1, if_pos h2]
    have e3 : rkE 5 k t a = if numS t a 0 1 = 0 then 5 else 0 := by
      unfold rkE
      rw [p1]
      simp only
      by_cases h0 : numS t a 0 1 = 0
      · rw [if_pos h0, if_pos]
        refine ⟨trivial, by omega, fun x => ?_⟩
        have hs := congrArg ByteArray.size x
        rw [ByteArray.size_extract, shortB, if_pos rfl, mk_size, h0] at hs
        have : (tailL k ((0 : Nat) : Int) []).length = 0 := by unfold tailL; rw [if_pos ⟨rfl, rfl⟩]; rfl
        omega
      · rw [if_neg h0, if_neg]
        rintro ⟨-, -, x⟩
        rw [e2, if_neg h0] at hback
        exact hsh _ (hback rfl (by show t.size ≤ a + 1; omega)).1 x
    rw [e1, e2, p1, e3]
    exact ⟨rfl, rfl, fun _ => rfl⟩
  have p1 : rkP 5 k t a = ((readP k (t.extract (a + 1) t.size)).1, a + 1 + (readP k (t.extract (a + 1) t.size)).2.1, (readP k (t.extract (a + 1) t.size)).2.2) := by
    unfold rkP propsC
    rw [if_pos (by omega), if_neg]
    rintro (x | x)
    · exact absurd x (by decide)
    · exact x rfl
  have e2 : restS k t a = (((numS t a 0 1 : Nat) : Int), (readP k (t.extract (a + 1) t.size)).1, a + 1 + (readP k (t.extract (a + 1) t.size)).2.1, if (readP k (t.extract (a + 1) t.size)).2.2 ≠ 0 then (readP k (t.extract (a + 1) t.size)).2.2 else if (readP k (t.extract (a + 1) t.size)).1.length = 0 then 5 else 0) := by unfold restS; rw [if_neg h1, if_neg h2]
  refine ⟨by rw [e1, e2], by rw [e1, e2, p1], fun x => ?_⟩
  rw [e1, p1]
  unfold rkE
  rw [p1]
  simp only
  rw [e2] at hback ⊢
  simp only at hback ⊢
  generalize readP k (t.extract (a + 1) t.size) = R at *
  obtain ⟨l, n, e⟩ := R
  simp only at hback ⊢
  by_cases he : e = 0
  rotate_left
  · rw [if_neg (fun y => he y.1), if_pos he]
  subst he
  rw [if_neg (fun y => y rfl)] at hback
  rw [if_neg (show ¬ ((0 : Int) ≠ 0) from fun y => y rfl)]
  by_cases hl : l.length = 0
  · rw [if_pos hl]
    have hl' : l = [] := List.eq_nil_of_length_eq_zero hl
    subst hl'
    by_cases hend : t.size ≤ a + 1 + n
    · rw [if_pos]
      refine ⟨rfl, hend, fun y => ?_⟩
      have hs := congrArg ByteArray.size y
      rw [ByteArray.size_extract, shortB, if_pos rfl, mk_size] at hs
      have : (tailL k ((numS t a 0 1 : Nat) : Int) []).length ≤ 1 := by
        unfold tailL
        split
        · exact Nat.zero_le _
        · show (putL _ 1 ++ []).length ≤ 1
          rw [List.append_nil, putL_len]; exact Nat.le_refl _
      omega
    · rw [if_neg (fun y => hend y.2.1)]
      unfold doneE
      rw [leftE_eq, leftE_eq]
      unfold leftE
      rw [if_neg (show ¬ ((0 : Int) ≠ 0) from fun y => y rfl), if_pos (show a + 1 + n < t.size by omega), if_pos (show (5 : Int) ≠ 0 by decide)]
  · rw [if_neg hl] at hback ⊢
    rw [if_neg]
    rintro ⟨-, hend, y⟩
    exact hsh _ (hback rfl hend).1 y
theorem doneR_zero {p : Pk} {t : ByteArray} {a : Nat} {e x : Int} : doneR p t a e x = if leftE t a e ≠ 0 then (pk0, leftE t a e) else if x ≠ 0 then (pk0, x) else (p, 0) := by
  unfold doneR doneE
  rw [leftE_eq]
  by_cases h : leftE t a e = 0
  · rw [if_pos h, if_neg (show ¬ (leftE t a e ≠ 0) from fun y => y h)]
  · rw [if_neg h, if_pos h, if_pos h]
/-- The acknowledgement that the reference reads. -/
def rkR (v k : Int) (s : ByteArray) : Int × List Pr × Nat × Int := rkRest v k s (takeS s 0 0 2).2.1 (takeS s 0 0 2).2.2
def rkQ (v k : Int) (s : ByteArray) : Pk := ackR1 k (numS s 0 0 2 : Nat) (rkR v k s).1 (rkR v k s).2.1
theorem ackR_ref {v k : Int} {s : ByteArray} (hk : ackK v k = true) : ackR v k s = doneR (rkQ v k s) s (rkR v k s).2.2.1 (rkR v k s).2.2.2 (ackE v (rkQ v k s)) := by
  unfold ackR
  rw [if_neg (fun x => by rw [hk] at x; cases x)]
  by_cases h2 : s.size < 2
  · have h3 : takeS s 0 0 (2 : Nat) = (⟨#[]⟩, 0, 3) := take_no (by omega)
    rw [show ((2 : Nat) : Int) = 2 from rfl] at h3
    have h4 : rkR v k s = (0, [], 0, 3) := by
      unfold rkR rkRest
      rw [h3]
      exact if_pos (.inr (.inl (by decide)))
    rw [if_pos h2, doneR_zero, h4]
    rfl
  rw [if_neg h2]
  have h3 : takeS s 0 0 (2 : Nat) = (s.extract 0 (0 + 2), 0 + 2, 0) := take_yes (by omega)
  rw [show ((2 : Nat) : Int) = 2 from rfl] at h3
  have h4 : rkR v k s = rkRest v k s 2 0 := by unfold rkR; rw [h3]
  have hv := ackK_four hk
  have hd : (rkRest v k s 2 0).1 = (restV v k s).1 ∧ (rkRest v k s 2 0).2.1 = (restV v k s).2.1 ∧ ∀ x, doneE s (rkRest v k s 2 0).2.2.1 (rkRest v k s 2 0).2.2.2 x = doneE s (restV v k s).2.2.1 (restV v k s).2.2.2 x := by
    unfold restV
    by_cases h5 : v = 5
    · subst h5
      rw [if_pos rfl]
      exact rest_ref (by omega)
    · have h : rkRest v k s 2 0 = (0, [], 2, 0) := by unfold rkRest; exact if_pos (.inl (by omega))
      rw [if_neg h5, h]
      exact ⟨rfl, rfl, fun _ => rfl⟩
  have hq : rkQ v k s = ackPre v k s := by unfold rkQ ackPre; rw [h4, hd.1, hd.2.1]
  have hdr : doneR (rkQ v k s) s (rkR v k s).2.2.1 (rkR v k s).2.2.2 (ackE v (rkQ v k s)) = doneR (rkQ v k s) s (restV v k s).2.2.1 (restV v k s).2.2.2 (ackE v (rkQ v k s)) := by
    unfold doneR
    rw [h4, hd.2.2]
  rw [hdr, doneR_zero, hq]
  rfl
theorem rkP_good {v k : Int} {t : ByteArray} {a : Nat} (ht : t.size ≤ 140737488351232) : (∀ p ∈ (rkP v k t a).1, prGood p) ∧ (rkP v k t a).1.length ≤ 1000 := by
  unfold rkP
  split
  · unfold propsC
    split
    · exact ⟨fun q hq => (nomatch hq), Nat.zero_le _⟩
    · show (∀ q ∈ (readP k (t.extract (a + 1) t.size)).1, prGood q) ∧ (readP k (t.extract (a + 1) t.size)).1.length ≤ 1000
      have hz : (t.extract (a + 1) t.size).size ≤ 140737488351232 := by rw [ByteArray.size_extract]; omega
      generalize t.extract (a + 1) t.size = Z at *
      refine ⟨readP_good (kind := k) (s := Z) hz, ?_⟩
      by_cases h : (readP k Z).2.2 = 0
      · exact readP_len h
      · rw [readP_bad h]; exact Nat.zero_le _
  · exact ⟨fun q hq => (nomatch hq), Nat.zero_le _⟩
theorem rkRest_good {v k : Int} {t : ByteArray} {a : Nat} {e : Int} (ht : t.size ≤ 140737488351232) : (∀ p ∈ (rkRest v k t a e).2.1, prGood p) ∧ (rkRest v k t a e).2.1.length ≤ 1000 := by
  unfold rkRest
  split
  · exact ⟨fun q hq => (nomatch hq), Nat.zero_le _⟩
  · exact rkP_good ht
theorem rkRest_ok {v k i : Int} {t : ByteArray} {a : Nat} {e : Int} (ht : t.size ≤ 140737488351232) : PkOk (ackR1 k i (rkRest v k t a e).1 (rkRest v k t a e).2.1) :=
  pkOk_R1 (rkRest_good ht).1 (Nat.le_trans (rkRest_good ht).2 (by decide))
theorem tailB_all (v k : Int) (l : List Pr) : (tailB v k l).size ≤ 131075004 := by
  unfold tailB
  split
  · exact Nat.zero_le _
  · rw [mk_size]
    by_cases h : (bytesS k l).2 = 0
    · exact (bytesS_size k l h).2
    · rw [bytesS_bad k l h]; exact Nat.zero_le _
theorem shortB_all (v k c : Int) (l : List Pr) : (shortB v k c l).size ≤ 131075005 := by
  unfold shortB
  split
  · rw [mk_size]
    unfold tailL
    split
    · exact Nat.zero_le _
    · rw [List.length_append, putL_len]
      split
      · exact Nat.le_trans (Nat.le_refl 1) (by decide)
      · by_cases h : (bytesS k l).2 = 0
        · have := (bytesS_size k l h).2; omega
        · rw [bytesS_bad k l h]; exact Nat.le_trans (Nat.le_refl 1) (by decide)
  · exact Nat.zero_le _
end Go.Proofs.YtmkkjiogokfnmaaDoor

namespace Go.Proofs.YtmkkjiogokfnmaaDoor
open Go.RowKit
attribute [local go_sem ↓] to_ldPk to_bxPk to_bdPk to_alPk to_stPk
attribute [local go_sem] run_bxPk run_bxPk_agg ld_fresh run_alPk run_bd0 run_bdK run_bdKI run_bdKIC run_bdKC run_stPk_fresh pkC_0 pkC_1 pkC_2 pkC_3 pkC_4 pkC_5 pkC_6 pkC_7 pkC_8 pkC_9 pkC_10 pkC_11 pkC_12 pkC_13 pkC_14 pkC_15 pkC_16 pkC_17 pkC_18 pkC_19 pkC_20 pkC_21 pkC_22 pkC_23 pkC_24

theorem run_bdAckP (p : Pk) (h : Hs) (w : World) : (bdPk #[(0, .int .i64 p.kind), (4, .int .i64 p.id), (17, .int .i64 p.code), (20, .slice h.props.a p.props.length h.props.c)]).run Tryd.prog w = .ok (pkV (ackP p) (ackH h)) w := by kernel_rfl
end Go.Proofs.YtmkkjiogokfnmaaDoor

namespace Go.Proofs.YtmkkjiogokfnmaaDoor
open Go.RowKit
attribute [local go_sem ↓] to_ldPk to_bxPk to_bdPk to_alPk to_stPk
attribute [local go_sem] run_bxPk run_bxPk_agg ld_fresh run_alPk run_bd0 run_bdK run_bdKI run_bdKIC run_bdKC run_bdKICP run_stPk_fresh pkC_0 pkC_1 pkC_2 pkC_3 pkC_4 pkC_5 pkC_6 pkC_7 pkC_8 pkC_9 pkC_10 pkC_11 pkC_12 pkC_13 pkC_14 pkC_15 pkC_16 pkC_17 pkC_18 pkC_19 pkC_20 pkC_21 pkC_22 pkC_23 pkC_24

theorem ack_short {v : Int} {p : Pk} (g : AckGood v p) : shortB v p.kind p.code p.props = ⟨(ackT p).toArray⟩ := by
  unfold shortB
  by_cases h5 : v = 5
  · rw [if_pos h5]
    rfl
  · obtain ⟨e1, e2⟩ := g.old ((ackK_four g.k).resolve_right h5)
    rw [if_neg h5, ackT, if_pos ⟨e1, by rw [e2]; rfl⟩]
/-- What Done leaves. -/
def DoneOut (g : Nat) (r : Pk × Int) (w : World) (e : Ending) (w' : World) : Prop := ∃ k, e = .returned (.tuple #[pkV r.1 k, .int .i64 r.2]) ∧ PkIn w' w'.heap.size r.1 k ∧ w.grownBy w' (some g)
section
variable {w x y : World} {g a : Nat} {p : Pk} {h : Hs} {t : ByteArray} {e : Int}
theorem Mods.grown {w x : World} {g : Nat} (h : Mods (fun z => z = g) w x) : w.grownBy x (some g) := ⟨h.os, h.tape, h.output, h.size, fun i hi hn => h.block i hi (fun e => hn (by rw [e]))⟩
end
end Go.Proofs.YtmkkjiogokfnmaaDoor
