/-
  The law RegistryScript: the program's registry and the reference's, apart.
-/
import Derived.Test.YtjbpafkdbfbdlaaGreatRxF
import Derived.Test.YtjbpafkdbfbdlaaGreatLwC
import Derived.Test.YtjbpafkdbfbdlaaGreatLwF

namespace Go.Proofs.YtjbpafkdbfbdlaaGreat
open Go.RowKit
theorem mxX {n : Nat} (h : n ≤ 140737488351232) : n ≤ maxLen := by unfold maxLen; omega
/-- The program's registry and the reference's in a world that has grown: they touch no block of Ex. -/
structure ScD (w0 : World) (Ex : Nat → Prop) (g1 : Nat) (L1 : Rg) (g2 : Nat) (L2 : Rg) (K : Nat) (w : World) : Prop where
  st : ∃ F1 F2, RgSt w F1 g1 L1 K ∧ RfSt w F2 g2 L2 K ∧ (∀ i, F1 i → ¬ F2 i) ∧ ∀ i, F1 i ∨ F2 i → w0.heap.size ≤ i ∧ ¬ Ex i
  ex : ∀ i, Ex i → i < w.heap.size
  below : Below w0.heap.size w0 w
section
variable {w0 w w' : World} {Ex Ex' : Nat → Prop} {g1 g2 K K' : Nat} {L1 L2 : Rg}
theorem ScD.keep (h : ScD w0 Ex g1 L1 g2 L2 K w) (hb : Below w.heap.size w w') : ScD w0 Ex g1 L1 g2 L2 K w' := by
  obtain ⟨F1, F2, a, b, c, d⟩ := h.st
  exact ⟨⟨F1, F2, a.below hb, b.below hb, c, d⟩, fun i hi => Nat.lt_of_lt_of_le (h.ex i hi) hb.size, h.below.trans (hb.mono h.below.size)⟩
theorem ScD.more (h : ScD w0 Ex g1 L1 g2 L2 K w) (hK : K ≤ K') : ScD w0 Ex g1 L1 g2 L2 K' w := by
  obtain ⟨F1, F2, a, b, c, d⟩ := h.st
  exact ⟨⟨F1, F2, a.more hK, b.more hK, c, d⟩, h.ex, h.below⟩
theorem ScD.less (h : ScD w0 Ex g1 L1 g2 L2 K w) (he : ∀ i, Ex' i → Ex i) : ScD w0 Ex' g1 L1 g2 L2 K w := by
  obtain ⟨F1, F2, a, b, c, d⟩ := h.st
  exact ⟨⟨F1, F2, a, b, c, fun i hi => ⟨(d i hi).1, fun hx => (d i hi).2 (he i hx)⟩⟩, fun i hi => h.ex i (he i hi), h.below⟩
theorem ScD.add (h : ScD w0 Ex g1 L1 g2 L2 K w) (hb : Below w.heap.size w w') (hs : w.heap.size < w'.heap.size) : ScD w0 (fun i => i = w.heap.size) g1 L1 g2 L2 K w' := by
  obtain ⟨F1, F2, a, b, c, d⟩ := h.st
  refine ⟨⟨F1, F2, a.below hb, b.below hb, c, fun i hi => ⟨(d i hi).1, ?_⟩⟩, fun i hi => by rw [hi]; exact hs, h.below.trans (hb.mono h.below.size)⟩
  rintro rfl
  rcases hi with hi | hi
  · exact Nat.lt_irrefl _ (a.lt _ hi)
  · exact Nat.lt_irrefl _ (b.lt _ hi)
theorem ScD.ok (h : ScD w0 Ex g1 L1 g2 L2 K w) : RgOk L1 := by
  obtain ⟨F1, F2, a, -⟩ := h.st
  exact a.ok
theorem ScD.top_len (h : ScD w0 Ex g1 L1 g2 L2 K w) (c : ByteArray) : (rgT L2 c).length ≤ K := by
  obtain ⟨F1, F2, a, b, -⟩ := h.st
  exact b.top_len c
theorem ScD.len (h : ScD w0 Ex g1 L1 g2 L2 K w) : L1.length ≤ K := by
  obtain ⟨F1, F2, ⟨bm, M, -, rfl, hM, -⟩, -⟩ := h.st
  have : (rgOf M).length = M.length := by simp [rgOf, kvMap]
  omega
/-- The program's registry has turned. -/
theorem ScD.go1 {F1 F2 : Nat → Prop} {L' : Rg} (hw : Below w0.heap.size w0 w) (hx : ∀ i, Ex i → i < w.heap.size) (b : RfSt w F2 g2 L2 K) (c : ∀ i, F1 i → ¬ F2 i) (d : ∀ i, F1 i ∨ F2 i → w0.heap.size ≤ i ∧ ¬ Ex i) (ht : RgTo w F1 g1 L' K' w') (hK : K ≤ K') : ScD w0 Ex g1 L' g2 L2 K' w' ∧ Mods (fun i => ¬ Ex i) w w' := by
  obtain ⟨F', h1, h2, h3⟩ := ht
  refine ⟨⟨⟨F', F2, h1, (b.keep h3.size fun i hi => h3.block i (b.lt i hi) fun hf => c i hf hi).more hK, fun i hi hj => ?_, fun i hi => ?_⟩, fun i hi => Nat.lt_of_lt_of_le (hx i hi) h3.size, Mods.below hw h3 hw.size fun i hi => (d i (.inl hi)).1⟩, h3.mono fun i _ hi => (d i (.inl hi)).2⟩
  · rcases h2 i hi with h4 | h4
    · exact c i h4 hj
    · exact absurd (b.lt i hj) (by omega)
  · rcases hi with hi | hi
    · rcases h2 i hi with h4 | h4
      · exact d i (.inl h4)
      · exact ⟨Nat.le_trans hw.size h4, fun he => absurd (hx i he) (by omega)⟩
    · exact d i (.inr hi)
/-- The reference's registry has turned. -/
theorem ScD.go2 {F1 F2 : Nat → Prop} {L' : Rg} (hw : Below w0.heap.size w0 w) (hx : ∀ i, Ex i → i < w.heap.size) (a : RgSt w F1 g1 L1 K) (c : ∀ i, F1 i → ¬ F2 i) (d : ∀ i, F1 i ∨ F2 i → w0.heap.size ≤ i ∧ ¬ Ex i) (ht : RfTo w w.heap.size F2 g2 L' K' w') (hK : K ≤ K') : ScD w0 Ex g1 L1 g2 L' K' w' ∧ Mods (fun i => ¬ Ex i) w w' := by
  obtain ⟨F', h1, h2, h3⟩ := ht
  refine ⟨⟨⟨F1, F', (a.keep h3.size fun i hi => h3.block i (a.lt i hi) fun hf => c i hi hf).more hK, h1, fun i hi hj => ?_, fun i hi => ?_⟩, fun i hi => Nat.lt_of_lt_of_le (hx i hi) h3.size, Mods.below hw h3 hw.size fun i hi => (d i (.inr hi)).1⟩, h3.mono fun i _ hi => (d i (.inr hi)).2⟩
  · rcases h2 i hj with h4 | h4
    · exact c i hi h4
    · exact absurd (a.lt i hi) (by omega)
  · rcases hi with hi | hi
    · exact d i (.inl hi)
    · rcases h2 i hi with h4 | h4
      · exact d i (.inr h4)
      · exact ⟨Nat.le_trans hw.size h4, fun he => absurd (hx i he) (by omega)⟩
end
/-- In a round: the call's own block too. -/
structure ScM (w0 : World) (g1 g2 x : Nat) (p : Ac) (L1 L2 : Rg) (K : Nat) (w : World) : Prop where
  st : ScD w0 (fun i => i = x) g1 L1 g2 L2 K w
  bk : Bk w x 30 #[.int .i64 p.kind, .string p.client, .string p.name, .int .i64 p.id]
def ScR (w0 : World) (g1 g2 i : Nat) (w : World) : Prop := ∃ L, ScD w0 (fun _ => False) g1 L g2 L (2 * i) w
section
variable {w0 w w' : World} {g1 g2 x K K' : Nat} {p : Ac} {L1 L2 L1' L2' : Rg}
theorem ScM.keep (h : ScM w0 g1 g2 x p L1 L2 K w) (hb : Below w.heap.size w w') : ScM w0 g1 g2 x p L1 L2 K w' := ⟨h.st.keep hb, h.bk.below hb h.bk.lt⟩
theorem ScM.more (h : ScM w0 g1 g2 x p L1 L2 K w) (hK : K ≤ K') : ScM w0 g1 g2 x p L1 L2 K' w := ⟨h.st.more hK, h.bk⟩
theorem ScM.go (h : ScM w0 g1 g2 x p L1 L2 K w) (h' : ScD w0 (fun i => i = x) g1 L1' g2 L2' K' w' ∧ Mods (fun i => ¬ i = x) w w') : ScM w0 g1 g2 x p L1' L2' K' w' := ⟨h'.1, (h'.2.block x h.bk.lt fun hn => hn rfl).trans h.bk⟩
theorem ScM.reg1 (h : ScM w0 g1 g2 x p L1 L2 K w) (c n : ByteArray) (hc : c.size ≤ maxLen) (hn : n.size ≤ 4611686018427387904) (hK : K < 100000000) :
    Calls Tryz.prog 13 #[.pointer (some ⟨g1, 0, none⟩), .string c, .string n] w fun e w' => e = .returned (regV (rfReg L1 c n).1) ∧ ScM w0 g1 g2 x p (rfReg L1 c n).2 L2 (K + 1) w' := by
  obtain ⟨F1, F2, a, b, q, d⟩ := h.st.st
  refine (reg_any a c n hc hn hK).mono ?_
  rintro e w' ⟨he, ht⟩
  exact ⟨he, h.go (ScD.go1 h.st.below h.st.ex b q d ht (by omega))⟩
theorem ScM.pre1 (h : ScM w0 g1 g2 x p L1 L2 K w) (c n : ByteArray) (i : Int) (hc : c.size ≤ maxLen) (hn : n.size ≤ 4611686018427387904) (hK : K < 100000000) :
    Calls Tryz.prog 9 #[.pointer (some ⟨g1, 0, none⟩), .string c, .string n, .int .i64 i] w fun e w' => e = .returned (.int .i64 (rfPre L1 c n i).1) ∧ ScM w0 g1 g2 x p (rfPre L1 c n i).2 L2 (K + 1) w' := by
  obtain ⟨F1, F2, a, b, q, d⟩ := h.st.st
  refine (pre_any a c n i hc hn hK).mono ?_
  rintro e w' ⟨he, ht⟩
  exact ⟨he, h.go (ScD.go1 h.st.below h.st.ex b q d ht (by omega))⟩
theorem ScM.clr1 (h : ScM w0 g1 g2 x p L1 L2 K w) (c : ByteArray) (hc : c.size ≤ maxLen) (hK : K < 100000000) :
    Calls Tryz.prog 11 #[.pointer (some ⟨g1, 0, none⟩), .string c] w fun e w' => e = .returned (.int .i64 (rfClr L1 c).1) ∧ ScM w0 g1 g2 x p (rfClr L1 c).2 L2 K w' := by
  obtain ⟨F1, F2, a, b, q, d⟩ := h.st.st
  refine (clear_any a c hc hK).mono ?_
  rintro e w' ⟨he, ht⟩
  exact ⟨he, h.go (ScD.go1 h.st.below h.st.ex b q d ht (Nat.le_refl _))⟩
theorem ScM.reg2 (h : ScM w0 g1 g2 x p L1 L2 K w) (c n : ByteArray) (hn : n.size ≤ 4611686018427387904) (hK : K < 1000000) :
    Calls Tryz.prog 14 #[.pointer (some ⟨g2, 0, none⟩), .string c, .string n] w fun e w' => e = .returned (regV (rfReg L2 c n).1) ∧ ScM w0 g1 g2 x p L1 (rfReg L2 c n).2 (K + 1) w' := by
  obtain ⟨F1, F2, a, b, q, d⟩ := h.st.st
  refine (xreg_any b c n hn hK).mono ?_
  rintro e w' ⟨he, ht⟩
  exact ⟨he, h.go (ScD.go2 h.st.below h.st.ex a q d ht (by omega))⟩
theorem ScM.pre2 (h : ScM w0 g1 g2 x p L1 L2 K w) (c n : ByteArray) (i : Int) (hn : n.size ≤ 4611686018427387904) (hK : K < 1000000) :
    Calls Tryz.prog 10 #[.pointer (some ⟨g2, 0, none⟩), .string c, .string n, .int .i64 i] w fun e w' => e = .returned (.int .i64 (rfPre L2 c n i).1) ∧ ScM w0 g1 g2 x p L1 (rfPre L2 c n i).2 (K + 1) w' := by
  obtain ⟨F1, F2, a, b, q, d⟩ := h.st.st
  refine (xpre_any b c n i hn hK).mono ?_
  rintro e w' ⟨he, ht⟩
  exact ⟨he, h.go (ScD.go2 h.st.below h.st.ex a q d ht (by omega))⟩
theorem ScM.clr2 (h : ScM w0 g1 g2 x p L1 L2 K w) (hok : RgOk L2) (c : ByteArray) (hK : K < 1000000) :
    Calls Tryz.prog 12 #[.pointer (some ⟨g2, 0, none⟩), .string c] w fun e w' => e = .returned (.int .i64 (rfClr L2 c).1) ∧ ScM w0 g1 g2 x p L1 (rfClr L2 c).2 (K + 1) w' := by
  obtain ⟨F1, F2, a, b, q, d⟩ := h.st.st
  refine (xclr_any b hok c hK).mono ?_
  rintro e w' ⟨he, ht⟩
  exact ⟨he, h.go (ScD.go2 h.st.below h.st.ex a q d ht (by omega))⟩
theorem ScM.name1 (h : ScM w0 g1 g2 x p L1 L2 K w) (c : ByteArray) (hc : c.size ≤ maxLen) (i : Int) (hi : (Lit.int .i64 i).wf = true) :
    Calls Tryz.prog 15 #[.pointer (some ⟨g1, 0, none⟩), .string c, .int .i64 i] w fun e w' => e = .returned (.tuple #[.string (rfName L1 c i).1, .int .i64 (rfName L1 c i).2]) ∧ Below w.heap.size w w' := by
  obtain ⟨F1, F2, a, -⟩ := h.st.st
  exact rname_any a c hc i hi
theorem ScM.name2 (h : ScM w0 g1 g2 x p L1 L2 K w) (c : ByteArray) (i : Int) (hK : K < 1000000) :
    Calls Tryz.prog 16 #[.pointer (some ⟨g2, 0, none⟩), .string c, .int .i64 i] w fun e w' => e = .returned (.tuple #[.string (rfName L2 c i).1, .int .i64 (rfName L2 c i).2]) ∧ Below w.heap.size w w' := by
  obtain ⟨F1, F2, a, b, -⟩ := h.st.st
  exact xname_any b c i (by omega)
theorem ScM.id1 (h : ScM w0 g1 g2 x p L1 L2 K w) (c n : ByteArray) (hc : c.size ≤ maxLen) (hn : n.size ≤ maxLen) :
    Calls Tryz.prog 17 #[.pointer (some ⟨g1, 0, none⟩), .string c, .string n] w fun e w' => e = .returned (.tuple #[.int .i64 (rfID L1 c n).1, .int .i64 (rfID L1 c n).2]) ∧ Below w.heap.size w w' := by
  obtain ⟨F1, F2, a, -⟩ := h.st.st
  exact (rid_any a c n hc hn).mono fun e y hy => ⟨hy.1, by rw [← hy.2]; exact Below.refl _ _⟩
theorem ScM.id2 (h : ScM w0 g1 g2 x p L1 L2 K w) (c n : ByteArray) (hK : K < 1000000) :
    Calls Tryz.prog 18 #[.pointer (some ⟨g2, 0, none⟩), .string c, .string n] w fun e w' => e = .returned (.tuple #[.int .i64 (rfID L2 c n).1, .int .i64 (rfID L2 c n).2]) ∧ Below w.heap.size w w' := by
  obtain ⟨F1, F2, a, b, -⟩ := h.st.st
  exact xid_any b c n (by omega)
theorem ScM.fix1 (h : ScM w0 g1 g2 x p L1 L2 K w) (c : ByteArray) (hc : c.size ≤ maxLen) (i : Int) (hi : (Lit.int .i64 i).wf = true) :
    Calls Tryz.prog 19 #[.pointer (some ⟨g1, 0, none⟩), .string c, .int .i64 i] w fun e w' => e = .returned (.bool (rfFix L1 c i)) ∧ Below w.heap.size w w' := by
  obtain ⟨F1, F2, a, -⟩ := h.st.st
  exact (rfix_any a c hc i hi).mono fun e y hy => ⟨hy.1, by rw [← hy.2]; exact Below.refl _ _⟩
theorem ScM.fix2 (h : ScM w0 g1 g2 x p L1 L2 K w) (c : ByteArray) (i : Int) (hK : K < 1000000) :
    Calls Tryz.prog 20 #[.pointer (some ⟨g2, 0, none⟩), .string c, .int .i64 i] w fun e w' => e = .returned (.bool (rfFix L2 c i)) ∧ Below w.heap.size w w' := by
  obtain ⟨F1, F2, a, b, -⟩ := h.st.st
  exact xfix_any b c i (by omega)
theorem ScM.len1 (h : ScM w0 g1 g2 x p L1 L2 K w) (c : ByteArray) (hc : c.size ≤ maxLen) :
    Calls Tryz.prog 27 #[.pointer (some ⟨g1, 0, none⟩), .string c] w fun e w' => e = .returned (.int .i64 ((rgT L1 c).length : Int)) ∧ Below w.heap.size w w' := by
  obtain ⟨F1, F2, a, -⟩ := h.st.st
  exact (rlen_any a c hc).mono fun e y hy => ⟨hy.1, by rw [← hy.2]; exact Below.refl _ _⟩
theorem ScM.len2 (h : ScM w0 g1 g2 x p L1 L2 K w) (c : ByteArray) (hK : K < 1000000) :
    Calls Tryz.prog 28 #[.pointer (some ⟨g2, 0, none⟩), .string c] w fun e w' => e = .returned (.int .i64 ((rgT L2 c).length : Int)) ∧ Below w.heap.size w w' := by
  obtain ⟨F1, F2, a, b, -⟩ := h.st.st
  exact xlen_any b c (by omega)
/-- A slice of topics that reads so. -/
def TopV (l : List Tp) (v : Value) (y : World) : Prop := ∃ A q, v = .slice A l.length q ∧ Rd y y.heap.size 3 A l.length (tpCs l)
def NamV (l : List ByteArray) (v : Value) (y : World) : Prop := ∃ A q, v = .slice A l.length q ∧ Rd y y.heap.size 1 A l.length (nmV l)
theorem TopV.keep {l : List Tp} {v : Value} {y z : World} (h : TopV l v y) (hb : Below y.heap.size y z) : TopV l v z := by
  obtain ⟨A, q, e, hr⟩ := h
  exact ⟨A, q, e, (hr.below hb).wider hb.size⟩
theorem NamV.keep {l : List ByteArray} {v : Value} {y z : World} (h : NamV l v y) (hb : Below y.heap.size y z) : NamV l v z := by
  obtain ⟨A, q, e, hr⟩ := h
  exact ⟨A, q, e, (hr.below hb).wider hb.size⟩
theorem ScM.top1 (h : ScM w0 g1 g2 x p L1 L2 K w) (c : ByteArray) (hc : c.size ≤ maxLen) (hK : K < 1000000) :
    Calls Tryz.prog 22 #[.pointer (some ⟨g1, 0, none⟩), .string c] w fun e w' => ∃ v, e = .returned v ∧ TopV (rgT L1 c) v w' ∧ Below w.heap.size w w' := by
  obtain ⟨F1, F2, a, -⟩ := h.st.st
  refine (topics_any a c hc (by omega)).mono ?_
  rintro e w' ⟨v, he, hr, hb⟩
  obtain ⟨A, q, rfl, -, hrd⟩ := own_rd hr
  exact ⟨_, he, ⟨A, q, rfl, hrd⟩, hb⟩
theorem ScM.top2 (h : ScM w0 g1 g2 x p L1 L2 K w) (c : ByteArray) (hK : K < 1000000) :
    Calls Tryz.prog 23 #[.pointer (some ⟨g2, 0, none⟩), .string c] w fun e w' => ∃ v, e = .returned v ∧ TopV (rgT L2 c) v w' ∧ Below w.heap.size w w' := by
  obtain ⟨F1, F2, a, b, -⟩ := h.st.st
  refine (xtop_any b c (by omega)).mono ?_
  rintro e w' ⟨v, he, hr, hb⟩
  obtain ⟨A, q, rfl, -, hrd⟩ := own_rd hr
  exact ⟨_, he, ⟨A, q, rfl, hrd⟩, hb⟩
theorem ScM.cli1 (h : ScM w0 g1 g2 x p L1 L2 K w) (hK : K < 1000000) :
    Calls Tryz.prog 25 #[.pointer (some ⟨g1, 0, none⟩)] w fun e w' => ∃ v, e = .returned v ∧ NamV (kvNames L1) v w' ∧ Below w.heap.size w w' := by
  obtain ⟨F1, F2, a, -⟩ := h.st.st
  refine (clients_any a (by omega)).mono ?_
  rintro e w' ⟨v, he, hr, hb⟩
  obtain ⟨A, q, rfl, -, hrd⟩ := own_rd hr
  have hl : (kvNames L1).length = L1.length := by simp [kvNames]
  rw [← hl] at hrd he
  exact ⟨_, he, ⟨A, q, rfl, hrd⟩, hb⟩
theorem ScM.cli2 (h : ScM w0 g1 g2 x p L1 L2 K w) (hK : K < 1000000) :
    Calls Tryz.prog 26 #[.pointer (some ⟨g2, 0, none⟩)] w fun e w' => ∃ v, e = .returned v ∧ NamV (kvNames L2) v w' ∧ Below w.heap.size w w' := by
  obtain ⟨F1, F2, a, b, -⟩ := h.st.st
  refine (xcli_any b hK).mono ?_
  rintro e w' ⟨v, he, hr, hb⟩
  obtain ⟨A, q, rfl, -, hrd⟩ := own_rd hr
  have hl : (kvNames L2).length = L2.length := by simp [kvNames]
  rw [← hl] at hrd he
  exact ⟨_, he, ⟨A, q, rfl, hrd⟩, hb⟩
theorem sameT_any (l : List Tp) (v v' : Value) (w : World) (h : TopV l v w) (h' : TopV l v' w) (hn : l.length ≤ 4611686018427387904) :
    Calls Tryz.prog 21 #[v, v'] w fun e w' => e = .returned (.bool true) ∧ Below w.heap.size w w' := by
  obtain ⟨A, q, rfl, h1⟩ := h
  obtain ⟨A', q', rfl, h2⟩ := h'
  exact sameTp_any A A' _ _ q q' l w h1 h2 hn
theorem sameN_any (l : List ByteArray) (v v' : Value) (w : World) (h : NamV l v w) (h' : NamV l v' w) (hn : l.length ≤ 4611686018427387904) :
    Calls Tryz.prog 24 #[v, v'] w fun e w' => e = .returned (.bool true) ∧ Below w.heap.size w w' := by
  obtain ⟨A, q, rfl, h1⟩ := h
  obtain ⟨A', q', rfl, h2⟩ := h'
  exact sameNm_any A A' _ _ q q' l w h1 h2 hn
/-- The reference's registry is made. -/
theorem newX (h : RgN w0 (fun _ => False) g1 L1 0 w) : Calls Tryz.prog 7 #[] w fun e w' => e = .returned (.pointer (some ⟨w.heap.size, 0, none⟩)) ∧ ScD w0 (fun _ => False) g1 L1 w.heap.size [] 0 w' := by
  refine (xnew_any w).mono ?_
  rintro e w' ⟨he, hs, hbl, hsz⟩
  obtain ⟨F, h1, h2⟩ := h.st
  refine ⟨he, ⟨⟨F, _, h1.below hbl, hs, fun i hi hj => absurd (h1.lt i hi) (by omega), fun i hi => ⟨?_, id⟩⟩, fun i hi => hi.elim, h.below.trans (hbl.mono h.below.size)⟩⟩
  rcases hi with hi | hi
  · exact (h2 i hi).1
  · have := h.below.size; omega
end
end Go.Proofs.YtjbpafkdbfbdlaaGreat
