/-
  The laws of the registry: what they call besides the registry.
-/
import Derived.Test.YtjbpafkdbfbdlaaRwI
import Derived.Test.YtjbpafkdbfbdlaaRwH
import Derived.Test.YtjbpafkdbfbdlaaRegH
import Derived.Test.YtjbpafkdbfbdlaaOrdG

namespace Go.Proofs.Ytjbpafkdbfbdlaa
open Go.RowKit
def pickR (n m : Int) : Int := if m < 1 then 0 else n % m

set_option maxHeartbeats 400000 in
set_option maxRecDepth 10000 in
theorem pickR_any (n m : Int) (w : World) (hm : m < 9223372036854775808) :
    Calls Try.prog 8 #[.int .i64 n, .int .i64 m] w fun e w' => e = .returned (.int .i64 (pickR n m)) ∧ w = w' := by
  by_cases h1 : m < 1
  · have HF : Hid (pickR n m = 0) := Lib.hid (by rw [pickR, if_pos h1])
    clear hm
    go_enter Try.func8, Try.ntmps8
    go_wp2
    go_ret
    exact ⟨by rw [HF.out]; rfl, rfl⟩
  · have HF : Hid (pickR n m = n % m) := Lib.hid (by rw [pickR, if_neg h1])
    have hm0 : (m == 0) = false := beq_eq_false_iff_ne.2 (by omega)
    have h1' : decide (m < 1) = false := decide_eq_false h1
    have h5 := Int.emod_nonneg n (show m ≠ 0 by omega)
    have h6 := Int.emod_lt_of_pos n (show 0 < m by omega)
    have ht := @Int.tmod_eq_emod n m
    obtain ⟨r, hr⟩ : ∃ r, n % m = r := ⟨_, rfl⟩
    rw [hr] at HF h5 h6 ht
    have hab : (m.natAbs : Int) = m := by omega
    have ht' : n.tmod m = r ∨ n.tmod m = r - m := by
      rw [ht]
      split
      · left; omega
      · right; omega
    rcases ht' with h | h
    · have d1 : decide (r < 0) = false := decide_eq_false (by omega)
      have H := Lib.hid (And.intro h5 h6)
      clear ht hab hr hm h5 h6
      go_enter Try.func8, Try.ntmps8
      go_wp2
      go_ret
      exact ⟨by rw [HF.out]; rfl, rfl⟩
    · have d1 : decide (r - m < 0) = true := decide_eq_true (by omega)
      have d2 : wrap64 r = r := by unfold wrap64; omega
      have H := Lib.hid (And.intro h5 h6)
      clear ht hab hr hm h5 h6
      go_enter Try.func8, Try.ntmps8
      go_wp2
      go_ret
      exact ⟨by rw [HF.out]; rfl, rfl⟩
/-- A registry of one's own, in a world that has grown: it touches no block of Ex. -/
structure RgN (w0 : World) (Ex : Nat → Prop) (gp : Nat) (L : Rg) (K : Nat) (w : World) : Prop where
  st : ∃ F, RgSt w F gp L K ∧ ∀ i, F i → w0.heap.size ≤ i ∧ ¬ Ex i
  ex : ∀ i, Ex i → i < w.heap.size
  below : Below w0.heap.size w0 w
theorem RgN.go {w0 w w' : World} {Ex F : Nat → Prop} {gp K K' : Nat} {L L' : Rg} (h : RgN w0 Ex gp L K w) (hF : ∀ i, F i → w0.heap.size ≤ i ∧ ¬ Ex i) (ht : RgTo w F gp L' K' w') : RgN w0 Ex gp L' K' w' ∧ Mods (fun i => ¬ Ex i) w w' := by
  obtain ⟨F', h1, h2, h3⟩ := ht
  refine ⟨⟨⟨F', h1, fun i hi => ?_⟩, fun i hi => Nat.lt_of_lt_of_le (h.ex i hi) h3.size, Mods.below h.below h3 h.below.size fun i hi => (hF i hi).1⟩, h3.mono fun i _ hi => (hF i hi).2⟩
  rcases h2 i hi with h4 | h4
  · exact hF i h4
  · exact ⟨Nat.le_trans h.below.size h4, fun he => Nat.lt_irrefl _ (Nat.lt_of_lt_of_le (h.ex i he) h4)⟩
theorem RgN.keep {w0 w w' : World} {Ex : Nat → Prop} {gp K : Nat} {L : Rg} (h : RgN w0 Ex gp L K w) (hb : Below w.heap.size w w') : RgN w0 Ex gp L K w' := by
  obtain ⟨F, h1, h2⟩ := h.st
  exact ⟨⟨F, h1.below hb, h2⟩, fun i hi => Nat.lt_of_lt_of_le (h.ex i hi) hb.size, h.below.trans (hb.mono h.below.size)⟩
theorem RgN.less {w0 w : World} {Ex Ex' : Nat → Prop} {gp K : Nat} {L : Rg} (h : RgN w0 Ex gp L K w) (he : ∀ i, Ex' i → Ex i) : RgN w0 Ex' gp L K w := by
  obtain ⟨F, h1, h2⟩ := h.st
  exact ⟨⟨F, h1, fun i hi => ⟨(h2 i hi).1, fun hx => (h2 i hi).2 (he i hx)⟩⟩, fun i hi => h.ex i (he i hi), h.below⟩
theorem RgN.more {w0 w w' : World} {Ex Ex' : Nat → Prop} {gp K : Nat} {L : Rg} (h : RgN w0 Ex gp L K w) (hb : Below w.heap.size w w') (he : ∀ i, Ex' i → Ex i ∨ (w.heap.size ≤ i ∧ i < w'.heap.size)) : RgN w0 Ex' gp L K w' := by
  obtain ⟨F, h1, h2⟩ := h.st
  refine ⟨⟨F, h1.below hb, fun i hi => ⟨(h2 i hi).1, fun hx => ?_⟩⟩, fun i hi => ?_, h.below.trans (hb.mono h.below.size)⟩
  · rcases he i hx with h3 | h3
    · exact (h2 i hi).2 h3
    · exact absurd (h1.lt i hi) (by omega)
  · rcases he i hi with h3 | h3
    · exact Nat.lt_of_lt_of_le (h.ex i h3) hb.size
    · exact h3.2
theorem newN (w0 w : World) (hb : Below w0.heap.size w0 w) : Calls Try.prog 6 #[] w fun e w' => e = .returned (.pointer (some ⟨w.heap.size + 1, 0, none⟩)) ∧ RgN w0 (fun _ => False) (w.heap.size + 1) [] 0 w' := by
  refine (rnew_any w).mono ?_
  rintro e w' ⟨he, hs, hbl, hsz⟩
  exact ⟨he, ⟨_, hs, fun i hi => ⟨Nat.le_trans hb.size hi.1, id⟩⟩, fun i hi => hi.elim, hb.trans (hbl.mono hb.size)⟩
theorem regN {w0 w : World} {Ex : Nat → Prop} {gp K : Nat} {L : Rg} (h : RgN w0 Ex gp L K w) (c n : ByteArray) (hc : c.size ≤ maxLen) (hn : n.size ≤ 4611686018427387904) (hK : K < 100000000) :
    Calls Try.prog 12 #[.pointer (some ⟨gp, 0, none⟩), .string c, .string n] w fun e w' => e = .returned (regV (rfReg L c n).1) ∧ RgN w0 Ex gp (rfReg L c n).2 (K + 1) w' ∧ Mods (fun i => ¬ Ex i) w w' := by
  obtain ⟨F, h1, h2⟩ := h.st
  refine (reg_any h1 c n hc hn hK).mono ?_
  rintro e w' ⟨he, ht⟩
  exact ⟨he, h.go h2 ht⟩
theorem preN {w0 w : World} {Ex : Nat → Prop} {gp K : Nat} {L : Rg} (h : RgN w0 Ex gp L K w) (c n : ByteArray) (i : Int) (hc : c.size ≤ maxLen) (hn : n.size ≤ 4611686018427387904) (hK : K < 100000000) :
    Calls Try.prog 9 #[.pointer (some ⟨gp, 0, none⟩), .string c, .string n, .int .i64 i] w fun e w' => e = .returned (.int .i64 (rfPre L c n i).1) ∧ RgN w0 Ex gp (rfPre L c n i).2 (K + 1) w' ∧ Mods (fun i => ¬ Ex i) w w' := by
  obtain ⟨F, h1, h2⟩ := h.st
  refine (pre_any h1 c n i hc hn hK).mono ?_
  rintro e w' ⟨he, ht⟩
  exact ⟨he, h.go h2 ht⟩
theorem clrN {w0 w : World} {Ex : Nat → Prop} {gp K : Nat} {L : Rg} (h : RgN w0 Ex gp L K w) (c : ByteArray) (hc : c.size ≤ maxLen) (hK : K < 100000000) :
    Calls Try.prog 10 #[.pointer (some ⟨gp, 0, none⟩), .string c] w fun e w' => e = .returned (.int .i64 (rfClr L c).1) ∧ RgN w0 Ex gp (rfClr L c).2 K w' ∧ Mods (fun i => ¬ Ex i) w w' := by
  obtain ⟨F, h1, h2⟩ := h.st
  refine (clear_any h1 c hc hK).mono ?_
  rintro e w' ⟨he, ht⟩
  exact ⟨he, h.go h2 ht⟩
theorem lenN {w0 w : World} {Ex : Nat → Prop} {gp K : Nat} {L : Rg} (h : RgN w0 Ex gp L K w) (c : ByteArray) (hc : c.size ≤ maxLen) :
    Calls Try.prog 11 #[.pointer (some ⟨gp, 0, none⟩), .string c] w fun e w' => e = .returned (.int .i64 ((rgT L c).length : Int)) ∧ w = w' := by
  obtain ⟨F, h1, h2⟩ := h.st
  exact rlen_any h1 c hc
theorem nmL_step {n : Nat} (h : ¬ n < 26) : nmS n = nmS (n / 26) ++ ⟨#[UInt8.ofNat (97 + n % 26)]⟩ := by
  refine ls_ext ?_
  rw [ls_nmS, nmL, if_neg h, ← ls_nmS]
  simp [ls]
theorem nmL_one {n : Nat} (h : n < 26) : nmS n = ⟨#[UInt8.ofNat (97 + n % 26)]⟩ := by
  refine ls_ext ?_
  rw [ls_nmS, nmL, if_pos h, Nat.mod_eq_of_lt h]
  rfl
end Go.Proofs.Ytjbpafkdbfbdlaa
