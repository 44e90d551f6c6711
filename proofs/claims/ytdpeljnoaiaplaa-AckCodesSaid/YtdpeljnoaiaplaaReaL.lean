/- Plain laws on the codes of a kind and their texts. -/
import Derived.Test.YtdpeljnoaiaplaaReaG
namespace Go.Proofs.Ytdpeljnoaiaplaa
open Go.RowKit

theorem all_get (kind : Int) {k : Nat} (h : k < (allL kind).length) : (allL kind)[k] < 256 ∧ may kind ((allL kind)[k] : Nat) = true := by
  have := List.getElem_mem h
  have h2 := List.mem_filter.1 this
  exact ⟨by simpa using h2.1, by simpa using h2.2⟩
theorem all_sorted (kind : Int) {k : Nat} (h : k + 1 < (allL kind).length) : (allL kind)[k] < (allL kind)[k + 1] := by
  have hp : (allL kind).Pairwise (· < ·) := List.Pairwise.filter _ List.pairwise_lt_range
  exact List.pairwise_iff_getElem.1 hp k (k + 1) (by omega) h (by omega)
theorem hasB_zero (c : Int) : hasB wzero c = false := by simp [hasB, wzero]
theorem may_other {kind : Int} (h : ¬ (kind = 2 ∨ kind = 4 ∨ kind = 5 ∨ kind = 6 ∨ kind = 7 ∨ kind = 9 ∨ kind = 11 ∨ kind = 14 ∨ kind = 15)) (c : Int) : may kind c = false := by
  have : codes kind = wzero := by
    unfold codes
    rw [if_neg (by omega), if_neg (by omega), if_neg (by omega), if_neg (by omega), if_neg (by omega), if_neg (by omega), if_neg (by omega)]
  unfold may
  rw [this, hasB_zero]
theorem may_zero {kind c : Int} (h : may kind c = true) : may kind 0 = true := by
  by_cases hk : kind = 2 ∨ kind = 4 ∨ kind = 5 ∨ kind = 6 ∨ kind = 7 ∨ kind = 9 ∨ kind = 11 ∨ kind = 14 ∨ kind = 15
  · obtain rfl | rfl | rfl | rfl | rfl | rfl | rfl | rfl | rfl := hk
    all_goals decide +kernel
  · rw [may_other hk] at h; cases h
theorem all_head (kind : Int) (h : 0 < (allL kind).length) : (allL kind)[0] = 0 := by
  have h0 := may_zero (all_get kind h).2
  have hm : 0 ∈ allL kind := List.mem_filter.2 ⟨by simp, by simpa using h0⟩
  obtain ⟨i, hi, he⟩ := List.getElem_of_mem hm
  rcases Nat.eq_zero_or_pos i with rfl | hp
  · exact he
  · have hpw : (allL kind).Pairwise (· < ·) := List.Pairwise.filter _ List.pairwise_lt_range
    have := List.pairwise_iff_getElem.1 hpw 0 i h hi hp
    omega
theorem all_mem (kind a : Int) : ((allL kind).any fun c => ((c : Int) == a)) = may kind a := by
  rw [Bool.eq_iff_iff, List.any_eq_true]
  constructor
  · rintro ⟨c, hc, he⟩
    have : (c : Int) = a := by simpa using he
    subst this
    exact by simpa using (List.mem_filter.1 hc).2
  · intro h
    have hr := may_range h
    refine ⟨a.toNat, List.mem_filter.2 ⟨by simp; omega, ?_⟩, by simp; omega⟩
    rw [show ((a.toNat : Nat) : Int) = a by omega]
    exact h
theorem any_take_succ {l : List Nat} {k : Nat} (h : k < l.length) (a : Int) : ((l.take (k + 1)).any fun c => ((c : Int) == a)) = (((l.take k).any fun c => ((c : Int) == a)) || ((l[k] : Int) == a)) := by
  rw [List.take_succ_eq_append_getElem h, List.any_append]
  simp
theorem someKind_iff (c : Int) : someKind c = true ↔ ∃ k : Nat, k < 14 ∧ may ((k : Int) + 2) c = true := by
  unfold someKind
  rw [List.any_eq_true]
  constructor
  · rintro ⟨k, hk, hm⟩
    exact ⟨k, List.mem_range.1 hk, by simpa using hm⟩
  · rintro ⟨k, hk, hm⟩
    exact ⟨k, List.mem_range.2 hk, by simpa using hm⟩
theorem some_of_may {kind c : Int} (h : may kind c = true) : someKind c = true := by
  by_cases hk : 2 ≤ kind ∧ kind ≤ 15
  · rw [someKind_iff]
    refine ⟨(kind - 2).toNat, by omega, ?_⟩
    rw [show (((kind - 2).toNat : Nat) : Int) + 2 = kind by omega]
    exact h
  · rw [may_other (by omega)] at h; cases h
theorem some_range {c : Int} (h : someKind c = true) : 0 ≤ c ∧ c < 256 := by
  obtain ⟨k, _, hm⟩ := (someKind_iff c).1 h
  exact may_range hm
theorem text_yes {c : Int} (h : someKind c = true) : (textL c == [63]) = false := by
  unfold textL
  rw [if_pos h]
  simp
theorem text_no {c : Int} (h : someKind c = false) : textL c = [63] := by
  unfold textL
  rw [h]
  rfl
theorem hexd_inj : ∀ i j : Fin 16, hexd i.1 = hexd j.1 → i = j := by decide
theorem text_apart {a b : Int} (ha : someKind a = true) (hab : a ≠ b) : (textL a == textL b) = false := by
  rw [beq_eq_false_iff_ne]
  intro h
  have hr := some_range ha
  by_cases hb : someKind b = true
  · have hr' := some_range hb
    unfold textL at h
    rw [if_pos ha, if_pos hb] at h
    simp only [List.cons.injEq, and_true] at h
    have h1 := hexd_inj ⟨a.toNat / 16, by omega⟩ ⟨b.toNat / 16, by omega⟩ h.1
    have h2 := hexd_inj ⟨a.toNat % 16, by omega⟩ ⟨b.toNat % 16, by omega⟩ h.2
    simp only [Fin.mk.injEq] at h1 h2
    omega
  · have hb' : someKind b = false := by simpa using hb
    rw [text_no hb'] at h
    have := text_yes ha
    rw [h] at this
    simp at this

end Go.Proofs.Ytdpeljnoaiaplaa
