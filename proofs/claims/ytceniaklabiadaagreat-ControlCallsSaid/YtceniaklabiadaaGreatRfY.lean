/- Reference 12, plain: what it answers is what the program answers. -/
import Derived.Test.YtceniaklabiadaaGreatRfT
import Derived.Test.YtceniaklabiadaaGreatConA
namespace Go.Proofs.YtceniaklabiadaaGreat
open Go.RowKit

/-- Has a kind nothing but itself? -/
def conPl (v k : Int) : Bool := decide (k = 12 ∨ k = 13 ∨ (k = 14 ∧ v = 4))
theorem conK_is {v k : Int} (h : conK v k = 0) : (12 ≤ k ∧ k ≤ 15) ∧ (v = 4 ∨ v = 5) ∧ ¬ (k = 15 ∧ v = 4) := by
  unfold conK at h
  split at h
  · cases h
  · next h1 =>
    split at h
    · cases h
    · next h2 =>
      refine ⟨?_, Decidable.not_not.1 fun x => h1 (.inr x), h2⟩
      exact of_decide_eq_true (show decide (12 ≤ k ∧ k ≤ 15) = true from by
        cases e : decide (12 ≤ k ∧ k ≤ 15)
        · exact absurd (.inl e) h1
        · rfl)
theorem conPl_may {v k : Int} (h : conK v k = 0) : conPl v k = !conMay v k := by
  obtain ⟨h1, h2, h3⟩ := conK_is h
  unfold conPl conMay
  by_cases c : (k = 14 ∨ k = 15) ∧ v = 5
  · rw [decide_eq_true c]
    exact decide_eq_false (by omega)
  · rw [decide_eq_false c]
    exact decide_eq_true (by omega)
theorem conE_ref (v : Int) (p : Pk) : conE v p = if conK v p.kind ≠ 0 then conK v p.kind
    else if p ≠ conQ v p ∨ (conPl v p.kind = false ∧ may p.kind p.code = false) then 2 else rightE v p.kind p.props := by
  unfold conE
  by_cases hk : conK v p.kind ≠ 0
  · rw [if_pos hk, if_pos hk]
  rw [if_neg hk, if_neg hk]
  have hk0 := Decidable.not_not.1 hk
  have hpl := conPl_may hk0
  by_cases h1 : conMay v p.kind = true ∧ may p.kind p.code = false
  · rw [if_pos h1, if_pos (.inr ⟨by rw [hpl, h1.1]; rfl, h1.2⟩)]
  rw [if_neg h1]
  by_cases h2 : p ≠ conQ v p
  · rw [if_pos h2, if_pos (.inl h2)]
  rw [if_neg h2, if_neg, right_none]
  · intro h4
    have hm : conMay v p.kind = false := decide_eq_false (fun x => by omega)
    have hq : conQ v p = ackR1 p.kind 0 0 [] := by unfold conQ; rw [if_neg (by rw [hm]; decide)]
    have hp := Decidable.not_not.1 h2
    rw [hq] at hp
    have : p.props = [] := congrArg Pk.props hp
    rw [this]
    rfl
  · rintro (x | ⟨x, y⟩)
    · exact h2 x
    · refine h1 ⟨?_, y⟩
      rw [hpl] at x
      cases e : conMay v p.kind
      · rw [e] at x; cases x
      · rfl
theorem conB_plain {v : Int} {p : Pk} (h : conE v p = 0) (hp : conPl v p.kind = true) : conB v p = ([], 0) := by
  have g := conE_good h
  have hm : conMay v p.kind = false := by
    have := conPl_may g.k
    rw [hp] at this
    cases e : conMay v p.kind
    · rfl
    · rw [e] at this; cases this
  obtain ⟨e1, e2⟩ := g.old hm
  unfold conB
  rw [if_pos h, g.tail]
  unfold tailL
  rw [if_pos ⟨e1, by rw [e2]; rfl⟩]
theorem tailS_ref (c k : Int) (l : List Pr) : (⟨(tailS c l k).toArray⟩ : ByteArray) = if c < 0 ∨ 255 < c ∨ (bytesS k l).2 ≠ 0 then ⟨#[]⟩ else shortB 5 k c l := by
  unfold tailS shortB
  split
  · rfl
  · rw [if_pos rfl]
/-- What the reference reads. -/
def conRR (v k : Int) (s : ByteArray) : Int × List Pr × Nat × Int := if conPl v k = true then (0, [], 0, 0) else rkRest v k s 0 0
def conRQ (v k : Int) (s : ByteArray) : Pk := ackR1 k 0 (conRR v k s).1 (conRR v k s).2.1
theorem conR_ref {v k : Int} {s : ByteArray} (hk : conK v k = 0) : conR v k s = doneR (conRQ v k s) s (conRR v k s).2.2.1 (conRR v k s).2.2.2 (conE v (conRQ v k s)) := by
  have hpl := conPl_may hk
  unfold conR
  rw [if_neg (fun x => x hk)]
  cases hm : conMay v k
  · rw [hm] at hpl
    have h1 : conRR v k s = (0, [], 0, 0) := by unfold conRR; rw [if_pos (by rw [hpl]; rfl)]
    have h2 : conRQ v k s = conPre v k s := by unfold conRQ conPre toldV; rw [h1, hm]; rfl
    have h3 : (toldV v k s).2.2 = leftE s 0 0 := by
      unfold toldV leftE
      rw [hm, if_neg (by decide)]
      show (if s.size ≠ 0 then (5 : Int) else 0) = if (0 : Int) ≠ 0 then 0 else if 0 < s.size then 5 else 0
      by_cases hz : s.size = 0
      · rw [if_neg (fun x => x hz), if_neg (by decide), if_neg (by omega)]
      · rw [if_pos hz, if_neg (by decide), if_pos (by omega)]
    rw [doneR_zero, h2, h1, h3]
  · rw [hm] at hpl
    have h5 : v = 5 := (of_decide_eq_true (show decide ((k = 14 ∨ k = 15) ∧ v = 5) = true from hm)).2
    have h1 : conRR v k s = rkRest v k s 0 0 := by unfold conRR; rw [if_neg (by rw [hpl]; decide)]
    have hr := rest_ref (k := k) (t := s) (a := 0) (Nat.zero_le _)
    rw [← h5] at hr
    have h2 : conRQ v k s = ackR1 k 0 (restS k s 0).1 (restS k s 0).2.1 := by unfold conRQ; rw [h1, hr.1, hr.2.1]
    have h3 : toldE k s = leftE s (restS k s 0).2.2.1 (restS k s 0).2.2.2 := rfl
    have h4 : ∀ p x, doneR p s (conRR v k s).2.2.1 (conRR v k s).2.2.2 x = doneR p s (restS k s 0).2.2.1 (restS k s 0).2.2.2 x := fun p x => by unfold doneR; rw [h1, hr.2.2]
    rw [h4, doneR_zero, h2]
    unfold conPre toldV
    rw [hm, if_pos rfl]
    by_cases he : toldE k s = 0
    · have hT : toldS k s = ((restS k s 0).1, (restS k s 0).2.1, 0) := by unfold toldS; rw [if_neg (fun x => x he)]
      rw [hT, ← h3, he]
    · have hT : toldS k s = (0, [], toldE k s) := by unfold toldS; rw [if_pos he]
      rw [hT, ← h3]
      simp only
      rw [if_pos he, if_pos he]
theorem conRR_good {v k : Int} {s : ByteArray} (hs : s.size ≤ 140737488351232) : (∀ p ∈ (conRR v k s).2.1, prGood p) ∧ (conRR v k s).2.1.length ≤ 1000 := by
  unfold conRR
  split
  · exact ⟨fun q hq => (nomatch hq), Nat.zero_le _⟩
  · exact rkRest_good hs
theorem conRQ_ok {v k : Int} {s : ByteArray} (hs : s.size ≤ 140737488351232) : PkOk (conRQ v k s) :=
  pkOk_R1 (conRR_good hs).1 (Nat.le_trans (conRR_good hs).2 (by decide))
end Go.Proofs.YtceniaklabiadaaGreat
