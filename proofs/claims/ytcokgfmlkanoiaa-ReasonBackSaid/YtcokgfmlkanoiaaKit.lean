/- Small words on memory that all walks of this seat share: a slice that reads as a list of cells; the block that a call has made. -/
import Derived.WalkKit
import Derived.WalkSpells
import Derived.WalkLawsBesides
import Derived.Lib.Hide
import Derived.Deep.Draws
import Derived.Deep.QuietTactic
import Derived.BigQuiet
namespace Go.Proofs.Ytcokgfmlkanoiaa
open Go.RowKit

theorem addr_block (a : Addr) (n : Nat) : (a.add n).block = a.block := by unfold Addr.add; split <;> rfl
theorem addr_twice (a : Addr) (i j : Nat) : (a.add i).add j = a.add (i + j) := by
  unfold Addr.add
  rcases Nat.eq_zero_or_pos i with hi | hi <;> rcases Nat.eq_zero_or_pos j with hj | hj
  all_goals simp [*, Nat.ne_of_gt]
  all_goals omega

/-- The slice (A, n), of k cells an element, holds the cells xs; they lie below block B. -/
def Rd (w : World) (B k : Nat) (A : Option Addr) (n : Nat) (xs : List Value) : Prop :=
  xs.length = n * k ∧ (n = 0 ∨ ∃ ad : Addr, A = some ad ∧ ad.block < B ∧ ∀ j u, xs[j]? = some u → w.cell? (ad.add j) = some u)

section
variable {w w' : World} {B B' k n : Nat} {A : Option Addr} {xs : List Value}
theorem Rd.len (h : Rd w B k A n xs) : xs.length = n * k := h.1
theorem Rd.nil (w : World) (B k : Nat) (A : Option Addr) : Rd w B k A 0 [] := ⟨by simp, .inl rfl⟩
theorem Rd.by_cells (h : Rd w B k A n xs) (hk : ∀ p : Addr, p.block < B → w'.cell? p = w.cell? p) : Rd w' B k A n xs := by
  refine ⟨h.1, ?_⟩
  rcases h.2 with h0 | ⟨ad, rfl, hb, hc⟩
  · exact .inl h0
  · exact .inr ⟨ad, rfl, hb, fun j u hu => (hk _ (by rw [addr_block]; exact hb)).trans (hc j u hu)⟩
theorem Rd.wider (h : Rd w B k A n xs) (hB : B ≤ B') : Rd w B' k A n xs := by
  refine ⟨h.1, ?_⟩
  rcases h.2 with h0 | ⟨ad, rfl, hb, hc⟩
  · exact .inl h0
  · exact .inr ⟨ad, rfl, by omega, hc⟩
theorem Rd.below (h : Rd w B k A n xs) (hb : Below B w w') : Rd w' B k A n xs := h.by_cells fun _ hp => hb.cell hp
theorem Rd.drewN (h : Rd w B k A n xs) (m : Nat) : Rd (w.drewN m) B k A n xs := h
theorem Rd.alloc (h : Rd w B k A n xs) (hB : B ≤ w.heap.size) (o : Obj) : Rd (w.alloc o) B k A n xs := h.by_cells fun p hp => World.cell?_alloc_lt w o p (by omega)
theorem Rd.at1 (h : Rd w B 1 A n xs) {i : Nat} (hi : i < n) : ∃ ad u, A = some ad ∧ ad.block < B ∧ xs[i]? = some u ∧ w.cell? (ad.add i) = some u := by
  rcases h.2 with h0 | ⟨ad, rfl, hb, hc⟩
  · omega
  · have hl : i < xs.length := by have := h.1; omega
    exact ⟨ad, xs[i], rfl, hb, List.getElem?_eq_getElem hl, hc i _ (List.getElem?_eq_getElem hl)⟩
end

theorem Rd.fresh (w : World) (cs : Array Value) (t : TypeId) : Rd (w.alloc (.cells cs t)) (w.heap.size + 1) 1 (some ⟨w.heap.size, 0, none⟩) cs.size cs.toList := by
  refine ⟨by simp, .inr ⟨_, rfl, by simp, fun j v hv => ?_⟩⟩
  have e : (⟨w.heap.size, 0, none⟩ : Addr).add j = ⟨w.heap.size, j, none⟩ := by
    unfold Addr.add
    split
    · rename_i h; subst h; rfl
    · simp
  rw [e, cell_of_row _ w.heap.size j cs t (0, 0) (heap_alloc_new w _)]
  simpa using hv

theorem Rd.lit (w : World) (cs : Array Value) (t : TypeId) {g B : Nat} {xs : List Value} (hg : w.heap.size = g) (hB : g < B) (hx : cs.toList = xs) :
    Rd (w.alloc (.cells cs t)) B 1 (some ⟨g, 0, none⟩) xs.length xs := by
  subst hg hx
  exact (Rd.fresh w cs t).wider hB

/-- Block g is just the cells cs, none frozen. -/
def Bk (w : World) (g : Nat) (t : TypeId) (cs : Array Value) : Prop := w.heap[g]? = some (.cells cs t (0, 0))
section
variable {w w' : World} {g : Nat} {t : TypeId} {cs : Array Value}
theorem Bk.lt (h : Bk w g t cs) : g < w.heap.size := by
  unfold Bk at h
  exact (Array.getElem?_eq_some_iff.1 h).1
theorem Bk.cell (h : Bk w g t cs) (i : Nat) : w.cell? ⟨g, i, none⟩ = cs[i]? := cell_of_row w g i cs t (0, 0) h
theorem Bk.free (h : Bk w g t cs) (i : Nat) : w.frozen? ⟨g, i, none⟩ = false := by
  unfold Bk at h
  simp [World.frozen?, h]
theorem Bk.fresh (w : World) (t : TypeId) (cs : Array Value) : Bk (w.alloc (.cells cs t)) w.heap.size t cs := heap_alloc_new w _
theorem Bk.drewN (h : Bk w g t cs) (n : Nat) : Bk (w.drewN n) g t cs := h
theorem Bk.alloc (h : Bk w g t cs) (o : Obj) : Bk (w.alloc o) g t cs := (Below.heap_alloc w o g h.lt).trans h
theorem Bk.put (h : Bk w g t cs) (i : Nat) (u : Value) : Bk (w.setCell ⟨g, i, none⟩ u) g t (cs.setIfInBounds i u) := by
  unfold Bk at h ⊢
  simp [World.setCell, Array.getElem?_modify, h]
theorem Bk.other (h : Bk w g t cs) {p : Addr} (hp : g ≠ p.block) (u : Value) : Bk (w.setCell p u) g t cs := (Below.heap_setCell w p u g hp).trans h
theorem Bk.below {B : Nat} (h : Bk w g t cs) (hb : Below B w w') (hg : g < B) : Bk w' g t cs := (hb.block g hg).trans h
theorem Bk.one {a : Value} (h : Bk w g t #[a]) : w.cell? ⟨g, 0, none⟩ = some a ∧ w.frozen? ⟨g, 0, none⟩ = false := ⟨h.cell 0, h.free 0⟩
theorem Bk.two {a b : Value} (h : Bk w g t #[a, b]) : (w.cell? ⟨g, 0, none⟩ = some a ∧ w.cell? ⟨g, 1, none⟩ = some b) ∧ w.frozen? ⟨g, 0, none⟩ = false ∧ w.frozen? ⟨g, 1, none⟩ = false :=
  ⟨⟨h.cell 0, h.cell 1⟩, h.free 0, h.free 1⟩
theorem Bk.three {a b c : Value} (h : Bk w g t #[a, b, c]) : (w.cell? ⟨g, 0, none⟩ = some a ∧ w.cell? ⟨g, 1, none⟩ = some b ∧ w.cell? ⟨g, 2, none⟩ = some c) ∧ w.frozen? ⟨g, 0, none⟩ = false ∧ w.frozen? ⟨g, 1, none⟩ = false ∧ w.frozen? ⟨g, 2, none⟩ = false :=
  ⟨⟨h.cell 0, h.cell 1, h.cell 2⟩, h.free 0, h.free 1, h.free 2⟩
theorem Bk.four {a b c d : Value} (h : Bk w g t #[a, b, c, d]) : (w.cell? ⟨g, 0, none⟩ = some a ∧ w.cell? ⟨g, 1, none⟩ = some b ∧ w.cell? ⟨g, 2, none⟩ = some c ∧ w.cell? ⟨g, 3, none⟩ = some d) ∧
    w.frozen? ⟨g, 0, none⟩ = false ∧ w.frozen? ⟨g, 1, none⟩ = false ∧ w.frozen? ⟨g, 2, none⟩ = false ∧ w.frozen? ⟨g, 3, none⟩ = false :=
  ⟨⟨h.cell 0, h.cell 1, h.cell 2, h.cell 3⟩, h.free 0, h.free 1, h.free 2, h.free 3⟩
theorem Bk.put_four {a b c d a' b' c' d' : Value} (h : Bk w g t #[a, b, c, d]) : Bk ((((w.setCell ⟨g, 0, none⟩ a').setCell ⟨g, 1, none⟩ b').setCell ⟨g, 2, none⟩ c').setCell ⟨g, 3, none⟩ d') g t #[a', b', c', d'] := by
  have := (((h.put 0 a').put 1 b').put 2 c').put 3 d'
  simpa using this
theorem below_four {B : Nat} {a w : World} (h : Below B a w) {g : Nat} (hg : B ≤ g) (a' b' c' d' : Value) : Below B a ((((w.setCell ⟨g, 0, none⟩ a').setCell ⟨g, 1, none⟩ b').setCell ⟨g, 2, none⟩ c').setCell ⟨g, 3, none⟩ d') :=
  (((h.setCell hg _).setCell hg _).setCell hg _).setCell hg _
theorem Bk.put_other {g' : Nat} {a' b' c' d' : Value} (h : Bk w g t cs) (hn : g ≠ g') : Bk ((((w.setCell ⟨g', 0, none⟩ a').setCell ⟨g', 1, none⟩ b').setCell ⟨g', 2, none⟩ c').setCell ⟨g', 3, none⟩ d') g t cs :=
  (((h.other hn _).other hn _).other hn _).other hn _

/-- What a call that makes memory leaves of the old cells and marks, as two rules for the walk. -/
theorem below_rules {W w1 : World} (hb : Below W.heap.size W w1) : (∀ b o, b < W.heap.size → w1.cell? ⟨b, o, none⟩ = W.cell? ⟨b, o, none⟩) ∧ (∀ b o, b < W.heap.size → w1.frozen? ⟨b, o, none⟩ = W.frozen? ⟨b, o, none⟩) :=
  ⟨fun b o h => hb.cell (p := ⟨b, o, none⟩) h, fun b o h => hb.frozen (p := ⟨b, o, none⟩) h⟩
end
theorem below_drawn {B : Nat} {a w : World} (h : Below B a w) (n : Nat) : Below B a (w.drewN n) := ⟨h.os, h.tape, h.output, h.size, h.block⟩


theorem bv_of_nat (a : Nat) (ha : a < 9223372036854775808) : (BitVec.ofInt 64 (a : Int)).toNat = a := by
  rw [BitVec.ofInt_natCast, BitVec.toNat_ofNat]
  omega
/-- Go's and of two ints that are not below 0. -/
theorem int_and (a b : Nat) (ha : a < 9223372036854775808) (hb : b < 9223372036854775808) : bits BinOp.and IntKind.i64 (a : Int) (b : Int) = ((a &&& b : Nat) : Int) := by
  have h : a &&& b ≤ a := Nat.and_le_left
  show IntKind.i64.wrap ((BitVec.ofInt 64 (a : Int) &&& BitVec.ofInt 64 (b : Int)).toNat : Int) = _
  rw [BitVec.toNat_and, bv_of_nat a ha, bv_of_nat b hb, IntKind.wrap_i64]
  omega
/-- Go's or of two ints that are not below 0. -/
theorem int_or (a b : Nat) (ha : a < 9223372036854775808) (hb : b < 9223372036854775808) : bits BinOp.or IntKind.i64 (a : Int) (b : Int) = ((a ||| b : Nat) : Int) := by
  have h : a ||| b < 2 ^ 63 := Nat.or_lt_two_pow (by omega) (by omega)
  show IntKind.i64.wrap ((BitVec.ofInt 64 (a : Int) ||| BitVec.ofInt 64 (b : Int)).toNat : Int) = _
  rw [BitVec.toNat_or, bv_of_nat a ha, bv_of_nat b hb, IntKind.wrap_i64]
  omega
/-- The low bits of an int that is not below 0. -/
theorem int_low (a k : Nat) (ha : a < 9223372036854775808) (hk : k ≤ 62) : bits BinOp.and IntKind.i64 (a : Int) ((2 ^ k - 1 : Nat) : Int) = ((a % 2 ^ k : Nat) : Int) := by
  have h1 : (2 : Nat) ^ k ≤ 2 ^ 62 := Nat.pow_le_pow_right (by omega) hk
  rw [int_and _ _ ha (by omega), Nat.and_two_pow_sub_one_eq_mod]

/-- A text's bytes, as the cells of a slice of bytes. -/
def bys (l : List UInt8) : List Value := l.map fun b => Value.int .u8 (b.toNat : Int)
/-- string(x) of a slice of bytes that reads as l. -/
theorem conv_rd {P : Program} {w : World} {B n : Nat} {A : Option Addr} {l : List UInt8} (src dst e : TypeId) (hs : P.underlying src = some (.slice e)) (he : P.underlying e = some (.int .u8)) (hd : P.underlying dst = some .string)
    (c : Nat) (h : Rd w B 1 A n (bys l)) : (convert src dst (.slice A n c)).run P w = .ok (.string ⟨l.toArray⟩) w := by
  have hn : n = l.length := by have := h.len; simp [bys] at this; omega
  rw [run_convert_bytes_string w src dst e _ _ _ hs he hd]
  rcases A with _ | ad
  · have h0 : n = 0 := by
      rcases h.2 with h0 | ⟨ad, h1, _⟩
      · exact h0
      · cases h1
    have : l = [] := List.eq_nil_of_length_eq_zero (by omega)
    subst this
    simp [Conv.bytesToString, ByteArray.empty, ByteArray.emptyWithCapacity]
    rfl
  · have hc : ∀ j v, (bys l)[j]? = some v → w.cell? (ad.add j) = some v := by
      rcases h.2 with h0 | ⟨ad', h1, _, hc⟩
      · have : l = [] := List.eq_nil_of_length_eq_zero (by omega)
        subst this
        intro j v hv
        simp [bys] at hv
      · cases h1
        exact hc
    have hl : (loadCells ad n).run P w = .ok ((l.map fun b => (b.toNat : Int)).map (Value.int .u8)).toArray w := by
      have := run_loadCells_list (P := P) w ad (bys l) (fun j v hj => hc j v hj)
      simpa [hn, bys, Function.comp_def] using this
    rw [run_bytesToString w _ _ _ _ hl, foldl_push_bytes]
    simp [ByteArray.empty, ByteArray.emptyWithCapacity, Function.comp_def]
    rfl

/-- string([]byte{a, b}), the slice just built. -/
theorem conv_two {P : Program} (src dst e : TypeId) (hs : P.underlying src = some (.slice e)) (he : P.underlying e = some (.int .u8)) (hd : P.underlying dst = some .string) (W : World) (a b : UInt8) :
    (convert src dst (.slice (some ⟨W.heap.size, 0, none⟩) 2 2)).run P (W.alloc (.cells #[.int .u8 (a.toNat : Int), .int .u8 (b.toNat : Int)] e)).drew = .ok (.string ⟨#[a, b]⟩) (W.alloc (.cells #[.int .u8 (a.toNat : Int), .int .u8 (b.toNat : Int)] e)).drew := by
  have h := Rd.lit W #[.int .u8 (a.toNat : Int), .int .u8 (b.toNat : Int)] e (xs := bys [a, b]) rfl (Nat.lt_succ_self _) rfl
  exact conv_rd src dst e hs he hd 2 (h.drewN 1)

end Go.Proofs.Ytcokgfmlkanoiaa
