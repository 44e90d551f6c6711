/- Slices that are cut: as the walk computes them, and as they read. -/
import Derived.Test.YtdpeljnoaiaplaaKit
namespace Go.Proofs.Ytdpeljnoaiaplaa
open Go.RowKit

def cutA (A : Option Addr) (c k s : Nat) : Option Addr := if c = k then A else A.map (·.add (k * s))
section
variable {P : Program} {t e : TypeId} {s : Nat} (ht : P.underlying t = some (.slice e)) (hz : ∀ w, (sizeOf e).run P w = .ok s w)
include ht hz
/-- x[k:] -/
theorem run_from (A : Option Addr) (n c k : Nat) (hk : k ≤ n) (W : World) : (Instr.slice t (.slice A n c) (some (.int .i64 (k : Int))) none none).run P W = .ok (.slice (cutA A c k s) (n - k) (c - k)) W := by
  have h0 : (0 : Int) ≤ (k : Int) := by omega
  have h1 : (k : Int) ≤ (n : Int) := by omega
  simp [Instr.slice, run_underlying ht, Instr.sliceBounds, run_sliceBound, hz, cutA, hk]
/-- x[:k] -/
theorem run_to (A : Option Addr) (n c k : Nat) (hk : k ≤ c) (W : World) : (Instr.slice t (.slice A n c) none (some (.int .i64 (k : Int))) none).run P W = .ok (.slice A k c) W := by
  have h0 : (0 : Int) ≤ (k : Int) := by omega
  have h1 : (k : Int) ≤ (c : Int) := by omega
  simp [Instr.slice, run_underlying ht, Instr.sliceBounds, run_sliceBound, hz, hk]
  intro _
  cases A <;> simp [Addr.add]
end
section
variable {w : World} {B s n : Nat} {A : Option Addr} {xs : List Value}
theorem Rd.cut_from (h : Rd w B s A n xs) {k c : Nat} (hk : k ≤ n) (hc : n ≤ c) : Rd w B s (cutA A c k s) (n - k) (xs.drop (k * s)) := by
  have hl : (xs.drop (k * s)).length = (n - k) * s := by rw [List.length_drop, h.1, Nat.sub_mul]
  refine ⟨hl, ?_⟩
  rcases h.2 with h0 | ⟨b, o, rfl, hb, hcell⟩
  · left; subst h0; simp
  · by_cases hck : c = k
    · left
      apply List.eq_nil_of_length_eq_zero
      rw [hl, show n - k = 0 by omega, Nat.zero_mul]
    · right
      refine ⟨b, o + k * s, ?_, hb, fun j u hu => ?_⟩
      · unfold cutA
        rw [if_neg hck]
        simp [Addr.add_lit]
      · rw [List.getElem?_drop] at hu
        rw [Nat.add_assoc]
        exact hcell _ u hu
theorem Rd.cut_to (h : Rd w B s A n xs) {k : Nat} (hk : k ≤ n) : Rd w B s A k (xs.take (k * s)) := by
  have hle : k * s ≤ n * s := Nat.mul_le_mul_right _ hk
  refine ⟨by rw [List.length_take, h.1]; omega, ?_⟩
  rcases h.2 with h0 | ⟨b, o, rfl, hb, hcell⟩
  · left; subst h0; simp
  · right
    refine ⟨b, o, rfl, hb, fun j u hu => hcell j u ?_⟩
    rw [List.getElem?_take] at hu
    split at hu
    · exact hu
    · cases hu
end
/-- An empty row that the call has just made. -/
theorem own_empty (w : World) (base : Nat) (e : TypeId) (k : Nat) (hb : base ≤ w.heap.size) : (w.alloc (.cells #[] e)).ownsRow base e k (.slice (some ⟨w.heap.size, 0, none⟩) 0 0) 0 [] :=
  ⟨by simp, .inr ⟨w.heap.size, 0, #[], rfl, hb, heap_alloc_new w _, Nat.le_refl _, by unfold maxLen; omega, by simp, by simp⟩⟩
end Go.Proofs.Ytdpeljnoaiaplaa
