/-
  The laws of the registry: two registries that stand apart.
-/
import Derived.Test.YtdpndphecdhlaaaLwD

namespace Go.Proofs.Ytdpndphecdhlaaa
open Go.RowKit
/-- Two registries of one's own, apart, in a world that has grown: they touch no block of Ex. -/
structure RgD (w0 : World) (Ex : Nat → Prop) (g1 : Nat) (L1 : Rg) (g2 : Nat) (L2 : Rg) (K : Nat) (w : World) : Prop where
  st : ∃ F1 F2, RgSt w F1 g1 L1 K ∧ RgSt w F2 g2 L2 K ∧ (∀ i, F1 i → ¬ F2 i) ∧ ∀ i, F1 i ∨ F2 i → w0.heap.size ≤ i ∧ ¬ Ex i
  ex : ∀ i, Ex i → i < w.heap.size
  below : Below w0.heap.size w0 w
section
variable {w0 w w' : World} {Ex Ex' : Nat → Prop} {g1 g2 K K' : Nat} {L1 L2 : Rg}
theorem RgD.swap (h : RgD w0 Ex g1 L1 g2 L2 K w) : RgD w0 Ex g2 L2 g1 L1 K w := by
  obtain ⟨F1, F2, a, b, c, d⟩ := h.st
  exact ⟨⟨F2, F1, b, a, fun i hi hj => c i hj hi, fun i hi => d i hi.symm⟩, h.ex, h.below⟩
theorem RgD.keep (h : RgD w0 Ex g1 L1 g2 L2 K w) (hb : Below w.heap.size w w') : RgD w0 Ex g1 L1 g2 L2 K w' := by
  obtain ⟨F1, F2, a, b, c, d⟩ := h.st
  exact ⟨⟨F1, F2, a.below hb, b.below hb, c, d⟩, fun i hi => Nat.lt_of_lt_of_le (h.ex i hi) hb.size, h.below.trans (hb.mono h.below.size)⟩
theorem RgD.more (h : RgD w0 Ex g1 L1 g2 L2 K w) (hK : K ≤ K') : RgD w0 Ex g1 L1 g2 L2 K' w := by
  obtain ⟨F1, F2, a, b, c, d⟩ := h.st
  exact ⟨⟨F1, F2, a.more hK, b.more hK, c, d⟩, h.ex, h.below⟩
theorem RgD.less (h : RgD w0 Ex g1 L1 g2 L2 K w) (he : ∀ i, Ex' i → Ex i) : RgD w0 Ex' g1 L1 g2 L2 K w := by
  obtain ⟨F1, F2, a, b, c, d⟩ := h.st
  exact ⟨⟨F1, F2, a, b, c, fun i hi => ⟨(d i hi).1, fun hx => (d i hi).2 (he i hx)⟩⟩, fun i hi => h.ex i (he i hi), h.below⟩
/-- A block is made that is left alone. -/
theorem RgD.add (h : RgD w0 Ex g1 L1 g2 L2 K w) (hb : Below w.heap.size w w') (hs : w.heap.size < w'.heap.size) : RgD w0 (fun i => i = w.heap.size) g1 L1 g2 L2 K w' := by
  obtain ⟨F1, F2, a, b, c, d⟩ := h.st
  refine ⟨⟨F1, F2, a.below hb, b.below hb, c, fun i hi => ⟨(d i hi).1, ?_⟩⟩, fun i hi => by rw [hi]; exact hs, h.below.trans (hb.mono h.below.size)⟩
  rintro rfl
  rcases hi with hi | hi
  · exact Nat.lt_irrefl _ (a.lt _ hi)
  · exact Nat.lt_irrefl _ (b.lt _ hi)
theorem RgD.go {F1 F2 : Nat → Prop} {L' : Rg} (hw : Below w0.heap.size w0 w) (hx : ∀ i, Ex i → i < w.heap.size) (b : RgSt w F2 g2 L2 K) (c : ∀ i, F1 i → ¬ F2 i) (d : ∀ i, F1 i ∨ F2 i → w0.heap.size ≤ i ∧ ¬ Ex i) (ht : RgTo w F1 g1 L' K' w') (hK : K ≤ K') : RgD w0 Ex g1 L' g2 L2 K' w' ∧ Mods (fun i => ¬ Ex i) w w' := by
  obtain ⟨F', h1, h2, h3⟩ := ht
  refine ⟨⟨⟨F', F2, h1, (b.keep h3.size fun i hi => h3.block i (b.lt i hi) fun hf => c i hf hi).more hK, fun i hi hj => ?_, fun i hi => ?_⟩, fun i hi => Nat.lt_of_lt_of_le (hx i hi) h3.size, Mods.below hw h3 hw.size fun i hi => (d i (.inl hi)).1⟩, h3.mono fun i _ hi => (d i (.inl hi)).2⟩
  · rcases h2 i hi with h4 | h4
    · exact c i h4 hj
    · exact absurd (b.lt i hj) (by omega)
  · rcases hi with hi | hi
    · rcases h2 i hi with h4 | h4
      · exact d i (.inl h4)
      · exact ⟨Nat.le_trans hw.size h4, fun he => absurd (hx i he) (by omega)⟩
    · exact d i (.inr hi)
theorem regD (h : RgD w0 Ex g1 L1 g2 L2 K w) (c n : ByteArray) (hc : c.size ≤ maxLen) (hn : n.size ≤ 4611686018427387904) (hK : K < 100000000) :
    Calls Try.prog 12 #[.pointer (some ⟨g1, 0, none⟩), .string c, .string n] w fun e w' => e = .returned (regV (rfReg L1 c n).1) ∧ RgD w0 Ex g1 (rfReg L1 c n).2 g2 L2 (K + 1) w' ∧ Mods (fun i => ¬ Ex i) w w' := by
  obtain ⟨F1, F2, a, b, q, d⟩ := h.st
  refine (reg_any a c n hc hn hK).mono ?_
  rintro e w' ⟨he, ht⟩
  exact ⟨he, RgD.go h.below h.ex b q d ht (by omega)⟩
theorem preD (h : RgD w0 Ex g1 L1 g2 L2 K w) (c n : ByteArray) (i : Int) (hc : c.size ≤ maxLen) (hn : n.size ≤ 4611686018427387904) (hK : K < 100000000) :
    Calls Try.prog 10 #[.pointer (some ⟨g1, 0, none⟩), .string c, .string n, .int .i64 i] w fun e w' => e = .returned (.int .i64 (rfPre L1 c n i).1) ∧ RgD w0 Ex g1 (rfPre L1 c n i).2 g2 L2 (K + 1) w' ∧ Mods (fun i => ¬ Ex i) w w' := by
  obtain ⟨F1, F2, a, b, q, d⟩ := h.st
  refine (pre_any a c n i hc hn hK).mono ?_
  rintro e w' ⟨he, ht⟩
  exact ⟨he, RgD.go h.below h.ex b q d ht (by omega)⟩
theorem clrD (h : RgD w0 Ex g1 L1 g2 L2 K w) (c : ByteArray) (hc : c.size ≤ maxLen) (hK : K < 100000000) :
    Calls Try.prog 14 #[.pointer (some ⟨g1, 0, none⟩), .string c] w fun e w' => e = .returned (.int .i64 (rfClr L1 c).1) ∧ RgD w0 Ex g1 (rfClr L1 c).2 g2 L2 K w' ∧ Mods (fun i => ¬ Ex i) w w' := by
  obtain ⟨F1, F2, a, b, q, d⟩ := h.st
  refine (clear_any a c hc hK).mono ?_
  rintro e w' ⟨he, ht⟩
  exact ⟨he, RgD.go h.below h.ex b q d ht (Nat.le_refl _)⟩
theorem lenD (h : RgD w0 Ex g1 L1 g2 L2 K w) (c : ByteArray) (hc : c.size ≤ maxLen) :
    Calls Try.prog 13 #[.pointer (some ⟨g1, 0, none⟩), .string c] w fun e w' => e = .returned (.int .i64 ((rgT L1 c).length : Int)) ∧ w = w' := by
  obtain ⟨F1, F2, a, -⟩ := h.st
  exact rlen_any a c hc
theorem topD (h : RgD w0 Ex g1 L1 g2 L2 K w) (c : ByteArray) (hc : c.size ≤ maxLen) (hK : K < 100000000) :
    Calls Try.prog 16 #[.pointer (some ⟨g1, 0, none⟩), .string c] w fun e w' => ∃ A q, e = .returned (.slice A (rgT L1 c).length q) ∧ Rd w' w'.heap.size 3 A (rgT L1 c).length (tpCs (rgT L1 c)) ∧ Below w.heap.size w w' ∧ RgD w0 Ex g1 L1 g2 L2 K w' := by
  obtain ⟨F1, F2, a, -⟩ := h.st
  refine (topics_any a c hc hK).mono ?_
  rintro e w' ⟨v, he, hr, hb⟩
  obtain ⟨A, q, rfl, -, hrd⟩ := own_rd hr
  exact ⟨A, q, he, hrd, hb, h.keep hb⟩
theorem cliD (h : RgD w0 Ex g1 L1 g2 L2 K w) (hK : K < 100000000) :
    Calls Try.prog 22 #[.pointer (some ⟨g1, 0, none⟩)] w fun e w' => ∃ A q, e = .returned (.slice A L1.length q) ∧ Rd w' w'.heap.size 1 A L1.length (nmV (kvNames L1)) ∧ Below w.heap.size w w' ∧ RgD w0 Ex g1 L1 g2 L2 K w' := by
  obtain ⟨F1, F2, a, -⟩ := h.st
  refine (clients_any a hK).mono ?_
  rintro e w' ⟨v, he, hr, hb⟩
  obtain ⟨A, q, rfl, -, hrd⟩ := own_rd hr
  exact ⟨A, q, he, hrd, hb, h.keep hb⟩
theorem RgD.ok (h : RgD w0 Ex g1 L1 g2 L2 K w) : RgOk L1 := by
  obtain ⟨F1, F2, a, -⟩ := h.st
  exact a.ok
theorem RgD.len (h : RgD w0 Ex g1 L1 g2 L2 K w) : L1.length ≤ K := by
  obtain ⟨F1, F2, ⟨bm, M, -, rfl, hM, -⟩, -⟩ := h.st
  have : (rgOf M).length = M.length := by simp [rgOf, kvMap]
  omega
/-- A second registry is made. -/
theorem newD (h : RgN w0 (fun _ => False) g1 L1 0 w) : Calls Try.prog 9 #[] w fun e w' => e = .returned (.pointer (some ⟨w.heap.size + 1, 0, none⟩)) ∧ RgD w0 (fun _ => False) g1 L1 (w.heap.size + 1) [] 0 w' := by
  refine (rnew_any w).mono ?_
  rintro e w' ⟨he, hs, hbl, hsz⟩
  obtain ⟨F, h1, h2⟩ := h.st
  refine ⟨he, ⟨⟨F, _, h1.below hbl, hs, fun i hi hj => absurd (h1.lt i hi) (by omega), fun i hi => ⟨?_, id⟩⟩, fun i hi => hi.elim, h.below.trans (hbl.mono h.below.size)⟩⟩
  rcases hi with hi | hi
  · exact (h2 i hi).1
  · exact Nat.le_trans h.below.size hi.1
end
end Go.Proofs.Ytdpndphecdhlaaa
