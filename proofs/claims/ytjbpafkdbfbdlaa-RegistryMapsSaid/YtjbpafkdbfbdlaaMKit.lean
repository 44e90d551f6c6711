/-
  Small words on memory that all walks of this seat share: a slice that reads as a list of cells; the block that a call has made.
  Slices that are cut: as the walk computes them, and as they read.
  Maps that the program writes out, with keys that are ints; what turns in some blocks alone.
  polyglotkit.Same over ints.
-/
import Derived.WalkKit
import Derived.WalkSpells
import Derived.WalkLawsBesides
import Derived.Lib.Hide
import Derived.Deep.Draws
import Derived.Deep.QuietTactic
import Derived.BigQuiet
import Derived.Maps.AppendAt
import Derived.Deep.AppendLies
import Derived.Lib.AppendStr
import Derived.Maps.Own
import Derived.MapKept
import Derived.Test.YtjbpafkdbfbdlaaProg

namespace Go.Proofs.Ytjbpafkdbfbdlaa
open Go.RowKit

/-- The slice (A, n), of k cells an element, holds the cells xs; they lie below block B. -/
def Rd (w : World) (B k : Nat) (A : Option Addr) (n : Nat) (xs : List Value) : Prop :=
  xs.length = n * k ∧ (xs = [] ∨ ∃ b o : Nat, A = some ⟨b, o, none⟩ ∧ b < B ∧ ∀ j u, xs[j]? = some u → w.cell? ⟨b, o + j, none⟩ = some u)

section
variable {w w' : World} {B B' k n : Nat} {A : Option Addr} {xs : List Value}
theorem Rd.len (h : Rd w B k A n xs) : xs.length = n * k := h.1
theorem Rd.nil (w : World) (B k : Nat) (A : Option Addr) : Rd w B k A 0 [] := ⟨by simp, .inl rfl⟩
theorem Rd.of_addr {ad : Addr} (hl : xs.length = n * k) (hb : ad.block < B) (hc : ∀ j u, xs[j]? = some u → w.cell? (ad.add j) = some u) : Rd w B k (some ad) n xs := by
  refine ⟨hl, ?_⟩
  cases xs with
  | nil => exact .inl rfl
  | cons x xs =>
    obtain ⟨b, o, sp⟩ := ad
    have h0 := hc 0 x rfl
    have hs : sp = none := by simpa [Addr.add] using World.cell?_spot h0
    subst hs
    exact .inr ⟨b, o, rfl, hb, fun j u hu => by rw [← Addr.add_lit]; exact hc j u hu⟩
theorem Rd.addr (h : Rd w B k A n xs) (hx : xs ≠ []) : ∃ ad : Addr, A = some ad ∧ ad.block < B ∧ ∀ j u, xs[j]? = some u → w.cell? (ad.add j) = some u := by
  rcases h.2 with h0 | ⟨b, o, rfl, hb, hc⟩
  · exact absurd h0 hx
  · exact ⟨_, rfl, hb, fun j u hu => by rw [Addr.add_lit]; exact hc j u hu⟩
theorem Rd.by_cells (h : Rd w B k A n xs) (hk : ∀ p : Addr, p.block < B → w'.cell? p = w.cell? p) : Rd w' B k A n xs := by
  refine ⟨h.1, ?_⟩
  rcases h.2 with h0 | ⟨b, o, rfl, hb, hc⟩
  · exact .inl h0
  · exact .inr ⟨b, o, rfl, hb, fun j u hu => (hk _ hb).trans (hc j u hu)⟩
theorem Rd.wider (h : Rd w B k A n xs) (hB : B ≤ B') : Rd w B' k A n xs := by
  refine ⟨h.1, ?_⟩
  rcases h.2 with h0 | ⟨b, o, rfl, hb, hc⟩
  · exact .inl h0
  · exact .inr ⟨b, o, rfl, by omega, hc⟩
theorem Rd.below (h : Rd w B k A n xs) (hb : Below B w w') : Rd w' B k A n xs := h.by_cells fun _ hp => hb.cell hp
theorem Rd.drewN (h : Rd w B k A n xs) (m : Nat) : Rd (w.drewN m) B k A n xs := h
theorem Rd.alloc (h : Rd w B k A n xs) (hB : B ≤ w.heap.size) (o : Obj) : Rd (w.alloc o) B k A n xs := h.by_cells fun p hp => World.cell?_alloc_lt w o p (by omega)
theorem Rd.at1 (h : Rd w B 1 A n xs) {i : Nat} (hi : i < n) : ∃ b o u, A = some ⟨b, o, none⟩ ∧ b < B ∧ xs[i]? = some u ∧ w.cell? ⟨b, o + i, none⟩ = some u := by
  have hl : i < xs.length := by have := h.1; omega
  rcases h.2 with h0 | ⟨b, o, rfl, hb, hc⟩
  · subst h0; simp at hl
  · exact ⟨b, o, xs[i], rfl, hb, List.getElem?_eq_getElem hl, hc i _ (List.getElem?_eq_getElem hl)⟩
end

theorem Rd.fresh (w : World) (cs : Array Value) (t : TypeId) : Rd (w.alloc (.cells cs t)) (w.heap.size + 1) 1 (some ⟨w.heap.size, 0, none⟩) cs.size cs.toList := by
  refine ⟨by simp, .inr ⟨_, 0, rfl, by simp, fun j v hv => ?_⟩⟩
  rw [Nat.zero_add, cell_of_row _ w.heap.size j cs t (0, 0) (heap_alloc_new w _)]
  simpa using hv

theorem Rd.lit (w : World) (cs : Array Value) (t : TypeId) {g B : Nat} {xs : List Value} (hg : w.heap.size = g) (hB : g < B) (hx : cs.toList = xs) :
    Rd (w.alloc (.cells cs t)) B 1 (some ⟨g, 0, none⟩) xs.length xs := by
  subst hg hx
  exact (Rd.fresh w cs t).wider hB

/-- Block g is just the cells cs, none frozen. -/
def Bk (w : World) (g : Nat) (t : TypeId) (cs : Array Value) : Prop := w.heap[g]? = some (.cells cs t (0, 0))
section
variable {w w' : World} {g : Nat} {t : TypeId} {cs : Array Value}
theorem Bk.lt (h : Bk w g t cs) : g < w.heap.size := by
  unfold Bk at h
  exact (Array.getElem?_eq_some_iff.1 h).1
theorem Bk.cell (h : Bk w g t cs) (i : Nat) : w.cell? ⟨g, i, none⟩ = cs[i]? := cell_of_row w g i cs t (0, 0) h
theorem Bk.free (h : Bk w g t cs) (i : Nat) : w.frozen? ⟨g, i, none⟩ = false := by
  unfold Bk at h
  simp [World.frozen?, h]
theorem Bk.fresh (w : World) (t : TypeId) (cs : Array Value) : Bk (w.alloc (.cells cs t)) w.heap.size t cs := heap_alloc_new w _
theorem Bk.drewN (h : Bk w g t cs) (n : Nat) : Bk (w.drewN n) g t cs := h
theorem Bk.alloc (h : Bk w g t cs) (o : Obj) : Bk (w.alloc o) g t cs := (Below.heap_alloc w o g h.lt).trans h
theorem Bk.put (h : Bk w g t cs) (i : Nat) (u : Value) : Bk (w.setCell ⟨g, i, none⟩ u) g t (cs.setIfInBounds i u) := by
  unfold Bk at h ⊢
  simp [World.setCell, Array.getElem?_modify, h]
theorem Bk.other (h : Bk w g t cs) {p : Addr} (hp : g ≠ p.block) (u : Value) : Bk (w.setCell p u) g t cs := (Below.heap_setCell w p u g hp).trans h
theorem Bk.below {B : Nat} (h : Bk w g t cs) (hb : Below B w w') (hg : g < B) : Bk w' g t cs := (hb.block g hg).trans h
theorem Bk.one {a : Value} (h : Bk w g t #[a]) : w.cell? ⟨g, 0, none⟩ = some a ∧ w.frozen? ⟨g, 0, none⟩ = false := ⟨h.cell 0, h.free 0⟩
theorem Bk.two {a b : Value} (h : Bk w g t #[a, b]) : (w.cell? ⟨g, 0, none⟩ = some a ∧ w.cell? ⟨g, 1, none⟩ = some b) ∧ w.frozen? ⟨g, 0, none⟩ = false ∧ w.frozen? ⟨g, 1, none⟩ = false :=
  ⟨⟨h.cell 0, h.cell 1⟩, h.free 0, h.free 1⟩
theorem Bk.three {a b c : Value} (h : Bk w g t #[a, b, c]) : (w.cell? ⟨g, 0, none⟩ = some a ∧ w.cell? ⟨g, 1, none⟩ = some b ∧ w.cell? ⟨g, 2, none⟩ = some c) ∧ w.frozen? ⟨g, 0, none⟩ = false ∧ w.frozen? ⟨g, 1, none⟩ = false ∧ w.frozen? ⟨g, 2, none⟩ = false :=
  ⟨⟨h.cell 0, h.cell 1, h.cell 2⟩, h.free 0, h.free 1, h.free 2⟩
theorem Bk.four {a b c d : Value} (h : Bk w g t #[a, b, c, d]) : (w.cell? ⟨g, 0, none⟩ = some a ∧ w.cell? ⟨g, 1, none⟩ = some b ∧ w.cell? ⟨g, 2, none⟩ = some c ∧ w.cell? ⟨g, 3, none⟩ = some d) ∧
    w.frozen? ⟨g, 0, none⟩ = false ∧ w.frozen? ⟨g, 1, none⟩ = false ∧ w.frozen? ⟨g, 2, none⟩ = false ∧ w.frozen? ⟨g, 3, none⟩ = false :=
  ⟨⟨h.cell 0, h.cell 1, h.cell 2, h.cell 3⟩, h.free 0, h.free 1, h.free 2, h.free 3⟩
theorem Bk.put_four {a b c d a' b' c' d' : Value} (h : Bk w g t #[a, b, c, d]) : Bk ((((w.setCell ⟨g, 0, none⟩ a').setCell ⟨g, 1, none⟩ b').setCell ⟨g, 2, none⟩ c').setCell ⟨g, 3, none⟩ d') g t #[a', b', c', d'] := by
  have := (((h.put 0 a').put 1 b').put 2 c').put 3 d'
  simpa using this
theorem below_four {B : Nat} {a w : World} (h : Below B a w) {g : Nat} (hg : B ≤ g) (a' b' c' d' : Value) : Below B a ((((w.setCell ⟨g, 0, none⟩ a').setCell ⟨g, 1, none⟩ b').setCell ⟨g, 2, none⟩ c').setCell ⟨g, 3, none⟩ d') :=
  (((h.setCell hg _).setCell hg _).setCell hg _).setCell hg _
theorem Bk.put_other {g' : Nat} {a' b' c' d' : Value} (h : Bk w g t cs) (hn : g ≠ g') : Bk ((((w.setCell ⟨g', 0, none⟩ a').setCell ⟨g', 1, none⟩ b').setCell ⟨g', 2, none⟩ c').setCell ⟨g', 3, none⟩ d') g t cs :=
  (((h.other hn _).other hn _).other hn _).other hn _

/-- What a call that makes memory leaves of the old cells and marks, as two rules for the walk. -/
theorem below_rules {W w1 : World} (hb : Below W.heap.size W w1) : (∀ b o, b < W.heap.size → w1.cell? ⟨b, o, none⟩ = W.cell? ⟨b, o, none⟩) ∧ (∀ b o, b < W.heap.size → w1.frozen? ⟨b, o, none⟩ = W.frozen? ⟨b, o, none⟩) :=
  ⟨fun b o h => hb.cell (p := ⟨b, o, none⟩) h, fun b o h => hb.frozen (p := ⟨b, o, none⟩) h⟩
end
theorem below_drawn {B : Nat} {a w : World} (h : Below B a w) (n : Nat) : Below B a (w.drewN n) := ⟨h.os, h.tape, h.output, h.size, h.block⟩


theorem bv_of_nat (a : Nat) (ha : a < 9223372036854775808) : (BitVec.ofInt 64 (a : Int)).toNat = a := by
  rw [BitVec.ofInt_natCast, BitVec.toNat_ofNat]
  omega
/-- Go's and of two ints that are not below 0. -/
theorem int_and (a b : Nat) (ha : a < 9223372036854775808) (hb : b < 9223372036854775808) : bits BinOp.and IntKind.i64 (a : Int) (b : Int) = ((a &&& b : Nat) : Int) := by
  have h : a &&& b ≤ a := Nat.and_le_left
  show IntKind.i64.wrap ((BitVec.ofInt 64 (a : Int) &&& BitVec.ofInt 64 (b : Int)).toNat : Int) = _
  rw [BitVec.toNat_and, bv_of_nat a ha, bv_of_nat b hb, IntKind.wrap_i64]
  omega
/-- Go's or of two ints that are not below 0. -/
theorem int_or (a b : Nat) (ha : a < 9223372036854775808) (hb : b < 9223372036854775808) : bits BinOp.or IntKind.i64 (a : Int) (b : Int) = ((a ||| b : Nat) : Int) := by
  have h : a ||| b < 2 ^ 63 := Nat.or_lt_two_pow (by omega) (by omega)
  show IntKind.i64.wrap ((BitVec.ofInt 64 (a : Int) ||| BitVec.ofInt 64 (b : Int)).toNat : Int) = _
  rw [BitVec.toNat_or, bv_of_nat a ha, bv_of_nat b hb, IntKind.wrap_i64]
  omega
/-- The low bits of an int that is not below 0. -/
theorem int_low (a k : Nat) (ha : a < 9223372036854775808) (hk : k ≤ 62) : bits BinOp.and IntKind.i64 (a : Int) ((2 ^ k - 1 : Nat) : Int) = ((a % 2 ^ k : Nat) : Int) := by
  have h1 : (2 : Nat) ^ k ≤ 2 ^ 62 := Nat.pow_le_pow_right (by omega) hk
  rw [int_and _ _ ha (by omega), Nat.and_two_pow_sub_one_eq_mod]

/-- A text's bytes, as the cells of a slice of bytes. -/
def bys (l : List UInt8) : List Value := l.map fun b => Value.int .u8 (b.toNat : Int)
/-- string(x) of a slice of bytes that reads as l. -/
theorem conv_rd {P : Program} {w : World} {B n : Nat} {A : Option Addr} {l : List UInt8} (src dst e : TypeId) (hs : P.underlying src = some (.slice e)) (he : P.underlying e = some (.int .u8)) (hd : P.underlying dst = some .string)
    (c : Nat) (h : Rd w B 1 A n (bys l)) : (convert src dst (.slice A n c)).run P w = .ok (.string ⟨l.toArray⟩) w := by
  have hn : n = l.length := by have := h.len; simp [bys] at this; omega
  rw [run_convert_bytes_string w src dst e _ _ _ hs he hd]
  rcases A with _ | ad
  · have : l = [] := by
      rcases h.2 with h0 | ⟨b, o, h1, _⟩
      · simpa [bys] using h0
      · cases h1
    subst this
    simp [Conv.bytesToString, ByteArray.empty, ByteArray.emptyWithCapacity]
    rfl
  · have hc : ∀ j v, (bys l)[j]? = some v → w.cell? (ad.add j) = some v := by
      rcases h.2 with h0 | ⟨b, o, h1, _, hc⟩
      · rw [h0]
        intro j v hv
        simp at hv
      · cases h1
        intro j v hv
        rw [Addr.add_lit]
        exact hc j v hv
    have hl : (loadCells ad n).run P w = .ok ((l.map fun b => (b.toNat : Int)).map (Value.int .u8)).toArray w := by
      have := run_loadCells_list (P := P) w ad (bys l) (fun j v hj => hc j v hj)
      simpa [hn, bys, Function.comp_def] using this
    rw [run_bytesToString w _ _ _ _ hl, foldl_push_bytes]
    simp [ByteArray.empty, ByteArray.emptyWithCapacity, Function.comp_def]
    rfl

/-- string([]byte{a, b}), the slice just built. -/
theorem conv_two {P : Program} (src dst e : TypeId) (hs : P.underlying src = some (.slice e)) (he : P.underlying e = some (.int .u8)) (hd : P.underlying dst = some .string) (W : World) (a b : UInt8) :
    (convert src dst (.slice (some ⟨W.heap.size, 0, none⟩) 2 2)).run P (W.alloc (.cells #[.int .u8 (a.toNat : Int), .int .u8 (b.toNat : Int)] e)).drew = .ok (.string ⟨#[a, b]⟩) (W.alloc (.cells #[.int .u8 (a.toNat : Int), .int .u8 (b.toNat : Int)] e)).drew := by
  have h := Rd.lit W #[.int .u8 (a.toNat : Int), .int .u8 (b.toNat : Int)] e (xs := bys [a, b]) rfl (Nat.lt_succ_self _) rfl
  exact conv_rd src dst e hs he hd 2 (h.drewN 1)

/-! ### Slices that the call owns; append -/
/-- An owned slice, read. -/
theorem own_rd {w : World} {base : Nat} {e : TypeId} {k : Nat} {v : Value} {n : Nat} {xs : List Value} (h : w.ownsRow base e k v n xs) : ∃ A c, v = .slice A n c ∧ n ≤ c ∧ Rd w w.heap.size k A n xs := by
  have h0 := h
  rcases h.2 with ⟨rfl, rfl⟩ | ⟨g, cap, cur, rfl, hb, hg, hc, _⟩
  · exact ⟨none, 0, rfl, Nat.le_refl _, h.1, .inl (List.eq_nil_of_length_eq_zero (by rw [h.1, Nat.zero_mul]))⟩
  · exact ⟨_, cap, rfl, hc, Rd.of_addr h.1 (Array.getElem?_eq_some_iff.1 hg).1 (h0.cells (g := g) rfl)⟩
theorem own_below {w w' : World} {base : Nat} {e : TypeId} {k : Nat} {v : Value} {n : Nat} {xs : List Value} (h : w.ownsRow base e k v n xs) (hb : Below w.heap.size w w') : w'.ownsRow base e k v n xs := by
  refine ⟨h.1, ?_⟩
  rcases h.2 with h2 | ⟨g, cap, cur, rfl, h3, hg, hr⟩
  · exact .inl h2
  · exact .inr ⟨g, cap, cur, rfl, h3, (hb.block g (Array.getElem?_eq_some_iff.1 hg).1).trans hg, hr⟩
theorem own_drewN {w : World} {base : Nat} {e : TypeId} {k : Nat} {v : Value} {n : Nat} {xs : List Value} (h : w.ownsRow base e k v n xs) (m : Nat) : (w.drewN m).ownsRow base e k v n xs := h
theorem own_wider {w : World} {base base' : Nat} {e : TypeId} {k : Nat} {v : Value} {n : Nat} {xs : List Value} (h : w.ownsRow base e k v n xs) (hb : base' ≤ base) : w.ownsRow base' e k v n xs := by
  refine ⟨h.1, ?_⟩
  rcases h.2 with h2 | ⟨g, cap, cur, rfl, h3, hr⟩
  · exact .inl h2
  · exact .inr ⟨g, cap, cur, rfl, Nat.le_trans hb h3, hr⟩
theorem own_block {w : World} {base : Nat} {e : TypeId} {k : Nat} {v : Value} {n : Nat} {xs : List Value} (h : w.ownsRow base e k v n xs) : ∀ g, v.ownBlock = some g → base ≤ g ∧ g < w.heap.size := h.lt

section
variable {P : Program} (w : World)
theorem run_app_none (base : Nat) (t ty e : TypeId) (i : TypeInfo) (size : Nat) (ht : P.underlying t = some (.slice e)) (hi : P.info? e = some i)
    (v : Value) (n : Nat) (xs : List Value) (hown : w.ownsRow base e size v n xs) (c : Nat) : (Builtin.append_ #[t, t] ty #[v, .slice none 0 c]).run P w = .ok v w := by
  rcases hown.2 with ⟨rfl, rfl⟩ | ⟨g, cap, cur, rfl, _, _, hnc, _⟩
  · simp [Builtin.append_, run_underlying ht, sizeOf, typeInfo, hi, Builtin.lenOf, Builtin.firstCells]
  · simp [Builtin.append_, run_underlying ht, sizeOf, typeInfo, hi, Builtin.lenOf, Builtin.firstCells, hnc, storeCells]

/-- append(v, x...) onto a slice that the call owns, x any slice that reads. -/
theorem run_app (base : Nat) (t ty e : TypeId) (z : Value) (size bytes : Nat) (ht : P.underlying t = some (.slice e)) (hinfo : (P.info? e).map (fun i => (i.zero, i.size, i.bytes)) = some (some z, size, bytes))
    (hzs : z.cells.size = size) (hsz : 0 < size) (v : Value) (n : Nat) (xs : List Value) (hown : w.ownsRow base e size v n xs)
    (B : Nat) (A : Option Addr) (m c : Nat) (news : List Value) (hr : Rd w B size A m news) (h1 : ∀ u ∈ news, u.oneCell' = true)
    (h63 : n + m ≤ maxLen) (hbytes : (n + m) * bytes ≤ 140737488355328) (hbase : base ≤ w.heap.size) :
    ∃ v' w', (Builtin.append_ #[t, t] ty #[v, .slice A m c]).run P w = .ok v' w' ∧ w'.ownsRow base e size v' (n + m) (xs ++ news) ∧ w.grownBy w' v.ownBlock ∧
      (v'.ownBlock = v.ownBlock ∨ v'.ownBlock = some w.heap.size) := by
  obtain ⟨i, hi, hz, hsize, hby⟩ := info_parts hinfo
  rcases A with _ | ad
  · have hn : news = [] := by
      rcases hr.2 with h0 | ⟨b, o, h, _⟩
      · exact h0
      · cases h
    subst hn
    have hm : m = 0 := by
      have := hr.1
      rcases Nat.eq_zero_or_pos m with h0 | h0
      · exact h0
      · have := Nat.mul_pos h0 hsz
        simp at *
        omega
    subst hm
    exact ⟨v, w, run_app_none w base t ty e i size ht hi v n xs hown c, by simpa using hown, World.grownBy.refl w _, .inl rfl⟩
  · have hc : ∀ j u, news[j]? = some u → w.cell? (ad.add j) = some u := by
      rcases hr.2 with h0 | ⟨b, o, h, _, hc⟩
      · subst h0
        intro j u hu
        simp at hu
      · cases h
        intro j u hu
        rw [Addr.add_lit]
        exact hc j u hu
    obtain ⟨v', w', hrun, h2, h3, _, h5⟩ := run_append_own_at (P := P) w base t ty e i z size bytes ht hi hz hsize hby hzs hsz v n xs hown ad m c news hr.1 hc h1 h63 hbytes hbase
    exact ⟨v', w', hrun, h2, h3, h5⟩

theorem wp_app {o : Oper} {a : Act} {K : Act → World → Prop} {Q : Exit → Act → World → Prop} (s x : Operand) (t : TypeId)
    (ho : o.op = .call { callee := .builtin .append, args := #[s, x], argTypes := #[t, t] })
    (base : Nat) (e : TypeId) (z : Value) (size bytes : Nat) (ht : P.underlying t = some (.slice e)) (hinfo : (P.info? e).map (fun i => (i.zero, i.size, i.bytes)) = some (some z, size, bytes))
    (hzs : z.cells.size = size) (hsz : 0 < size) (v : Value) (n : Nat) (xs : List Value) (hs : a.eval s = v) (hown : w.ownsRow base e size v n xs)
    (B : Nat) (A : Option Addr) (m c : Nat) (news : List Value) (hx : a.eval x = .slice A m c) (hr : Rd w B size A m news) (h1 : ∀ u ∈ news, u.oneCell' = true)
    (h63 : n + m ≤ maxLen) (hbytes : (n + m) * bytes ≤ 140737488355328) (hbase : base ≤ w.heap.size)
    (h : ∀ v' w', w'.ownsRow base e size v' (n + m) (xs ++ news) → w.grownBy w' v.ownBlock → (v'.ownBlock = v.ownBlock ∨ v'.ownBlock = some w.heap.size) → K (a.put o.dst v') w') : o.wp P a w K Q := by
  obtain ⟨v', w', hrun, h2, h3, h4⟩ := run_app (P := P) w base t o.type e z size bytes ht hinfo hzs hsz v n xs hown B A m c news hr h1 h63 hbytes hbase
  unfold Oper.wp execOp
  simp only [ho, resolve, invoke, builtin, Sem.run_bind, Sem.run_pure, Result.andThen_ok, List.map_toArray, List.map_cons, List.map_nil, hs, hx, hrun]
  exact h v' w' h2 h3 h4

theorem wpList_app {ops : Array Oper} {rest : List Oper} {o : Oper} {a : Act} {Q : Exit → Act → World → Prop} (hgd : o.guard = none) (s x : Operand) (t : TypeId)
    (ho : o.op = .call { callee := .builtin .append, args := #[s, x], argTypes := #[t, t] })
    (base : Nat) (e : TypeId) (z : Value) (size bytes : Nat) (ht : P.underlying t = some (.slice e)) (hinfo : (P.info? e).map (fun i => (i.zero, i.size, i.bytes)) = some (some z, size, bytes))
    (hzs : z.cells.size = size) (hsz : 0 < size) (v : Value) (n : Nat) (xs : List Value) (hs : a.eval s = v) (hown : w.ownsRow base e size v n xs)
    (B : Nat) (A : Option Addr) (m c : Nat) (news : List Value) (hx : a.eval x = .slice A m c) (hr : Rd w B size A m news) (h1 : ∀ u ∈ news, u.oneCell' = true)
    (h63 : n + m ≤ maxLen) (hbytes : (n + m) * bytes ≤ 140737488355328) (hbase : base ≤ w.heap.size)
    (h : ∀ v' w', w'.ownsRow base e size v' (n + m) (xs ++ news) → w.grownBy w' v.ownBlock → (v'.ownBlock = v.ownBlock ∨ v'.ownBlock = some w.heap.size) → wpList P ops Q rest (a.put o.dst v') w') : wpList P ops Q (o :: rest) a w :=
  wpList_plain hgd fun _ hK => wp_app w s x t ho base e z size bytes ht hinfo hzs hsz v n xs hs hown B A m c news hx hr h1 h63 hbytes hbase fun v' w' h2 h3 h4 => hK _ _ (h v' w' h2 h3 h4)
end
/-- Below, behind an append onto a slice of the call's own. -/
theorem below_app {B : Nat} {a w w' : World} {v : Value} (h : Below B a w) (hg : w.grownBy w' v.ownBlock) (hB : B ≤ w.heap.size) (hv : ∀ g, v.ownBlock = some g → B ≤ g) : Below B a w' := h.grown hg hB hv
theorem Rd.app {w w' : World} {B k n : Nat} {A : Option Addr} {xs : List Value} {v : Value} (h : Rd w B k A n xs) (hg : w.grownBy w' v.ownBlock) (hB : B ≤ w.heap.size) (hv : ∀ g, v.ownBlock = some g → B ≤ g) : Rd w' B k A n xs :=
  h.by_cells fun p hp => World.cell?_of_block (hg.block p.block (by omega) (fun e => by have := hv _ e.symm; omega))
theorem Bk.app {w w' : World} {g : Nat} {t : TypeId} {cs : Array Value} {v : Value} (h : Bk w g t cs) (hg : w.grownBy w' v.ownBlock) (hv : v.ownBlock ≠ some g) : Bk w' g t cs :=
  (hg.block g h.lt (fun e => hv e.symm)).trans h
theorem own_ne {w : World} {base : Nat} {e : TypeId} {k : Nat} {v : Value} {n : Nat} {xs : List Value} {g : Nat} {t : TypeId} {cs : Array Value} (h : w.ownsRow base e k v n xs) (hg : Bk w g t cs) (hne : e ≠ t) : v.ownBlock ≠ some g := by
  rcases h.2 with ⟨rfl, _⟩ | ⟨g', cap, cur, rfl, _, hh, _⟩
  · simp [Value.ownBlock]
  · intro he
    obtain rfl : g' = g := by simpa [Value.ownBlock] using he
    unfold Bk at hg
    rw [hh] at hg
    simp only [Option.some.injEq, Obj.cells.injEq] at hg
    exact hne hg.2.1
theorem ints_one (l : List Nat) : ∀ u ∈ (l.map fun c : Nat => Value.int .i64 (c : Int)), u.oneCell' = true := by
  intro u hu
  obtain ⟨c, _, rfl⟩ := List.mem_map.1 hu
  rfl

end Go.Proofs.Ytjbpafkdbfbdlaa

namespace Go.Proofs.Ytjbpafkdbfbdlaa
open Go.RowKit

def cutA (A : Option Addr) (c k s : Nat) : Option Addr := if c = k then A else A.map (·.add (k * s))
section
variable {P : Program} {t e : TypeId} {s : Nat} (ht : P.underlying t = some (.slice e)) (hz : ∀ w, (sizeOf e).run P w = .ok s w)
include ht hz
/-- x[k:] -/
theorem run_from (A : Option Addr) (n c k : Nat) (hk : k ≤ n) (W : World) : (Instr.slice t (.slice A n c) (some (.int .i64 (k : Int))) none none).run P W = .ok (.slice (cutA A c k s) (n - k) (c - k)) W := by
  have h0 : (0 : Int) ≤ (k : Int) := by omega
  have h1 : (k : Int) ≤ (n : Int) := by omega
  simp [Instr.slice, run_underlying ht, Instr.sliceBounds, run_sliceBound, hz, cutA, hk]
/-- x[:k] -/
theorem run_to (A : Option Addr) (n c k : Nat) (hk : k ≤ c) (W : World) : (Instr.slice t (.slice A n c) none (some (.int .i64 (k : Int))) none).run P W = .ok (.slice A k c) W := by
  have h0 : (0 : Int) ≤ (k : Int) := by omega
  have h1 : (k : Int) ≤ (c : Int) := by omega
  simp [Instr.slice, run_underlying ht, Instr.sliceBounds, run_sliceBound, hz, hk]
  intro _
  cases A <;> simp [Addr.add]
end
section
variable {w : World} {B s n : Nat} {A : Option Addr} {xs : List Value}
theorem Rd.cut_from (h : Rd w B s A n xs) {k c : Nat} (hk : k ≤ n) (hc : n ≤ c) : Rd w B s (cutA A c k s) (n - k) (xs.drop (k * s)) := by
  have hl : (xs.drop (k * s)).length = (n - k) * s := by rw [List.length_drop, h.1, Nat.sub_mul]
  refine ⟨hl, ?_⟩
  rcases h.2 with h0 | ⟨b, o, rfl, hb, hcell⟩
  · left; subst h0; simp
  · by_cases hck : c = k
    · left
      apply List.eq_nil_of_length_eq_zero
      rw [hl, show n - k = 0 by omega, Nat.zero_mul]
    · right
      refine ⟨b, o + k * s, ?_, hb, fun j u hu => ?_⟩
      · unfold cutA
        rw [if_neg hck]
        simp [Addr.add_lit]
      · rw [List.getElem?_drop] at hu
        rw [Nat.add_assoc]
        exact hcell _ u hu
theorem Rd.cut_to (h : Rd w B s A n xs) {k : Nat} (hk : k ≤ n) : Rd w B s A k (xs.take (k * s)) := by
  have hle : k * s ≤ n * s := Nat.mul_le_mul_right _ hk
  refine ⟨by rw [List.length_take, h.1]; omega, ?_⟩
  rcases h.2 with h0 | ⟨b, o, rfl, hb, hcell⟩
  · left; subst h0; simp
  · right
    refine ⟨b, o, rfl, hb, fun j u hu => hcell j u ?_⟩
    rw [List.getElem?_take] at hu
    split at hu
    · exact hu
    · cases hu
end
/-- An empty row that the call has just made. -/
theorem own_empty (w : World) (base : Nat) (e : TypeId) (k : Nat) (hb : base ≤ w.heap.size) : (w.alloc (.cells #[] e)).ownsRow base e k (.slice (some ⟨w.heap.size, 0, none⟩) 0 0) 0 [] :=
  ⟨by simp, .inr ⟨w.heap.size, 0, #[], rfl, hb, heap_alloc_new w _, Nat.le_refl _, by unfold maxLen; omega, by simp, by simp⟩⟩
end Go.Proofs.Ytjbpafkdbfbdlaa

namespace Go.Proofs.Ytjbpafkdbfbdlaa
open Go.RowKit

def mentry (kd : IntKind) (i : Nat) (p : Int × Value) : MapEntry := { key := .int kd p.1, val := p.2, born := i }
def mentries (kd : IntKind) : Nat → List (Int × Value) → List MapEntry
  | _, [] => []
  | i, p :: l => mentry kd i p :: mentries kd (i + 1) l
theorem mentries_snoc (kd : IntKind) (i : Nat) (l : List (Int × Value)) (p : Int × Value) : mentries kd i (l ++ [p]) = mentries kd i l ++ [mentry kd (i + l.length) p] := by
  induction l generalizing i with
  | nil => rfl
  | cons q l ih => simp [mentries, ih, Nat.add_assoc, Nat.add_comm 1]
/-- Block r is the map of these entries, in the order in which they came. -/
def IMap (kd : IntKind) (w : World) (r : Nat) (l : List (Int × Value)) : Prop := w.heap[r]? = some (.map (mentries kd 0 l).toArray l.length)
def lookI (l : List (Int × Value)) (x : Int) : Option Value := (l.find? fun p => p.1 == x).map (·.2)
section
variable {kd : IntKind} {w w' : World} {r : Nat} {l : List (Int × Value)}
theorem IMap.lt (h : IMap kd w r l) : r < w.heap.size := (Array.getElem?_eq_some_iff.1 h).1
theorem IMap.below {B : Nat} (h : IMap kd w r l) (hb : Below B w w') (hr : r < B) : IMap kd w' r l := (hb.block r hr).trans h
theorem IMap.alloc (h : IMap kd w r l) (o : Obj) : IMap kd (w.alloc o) r l := (Below.heap_alloc w o r h.lt).trans h
theorem IMap.other (h : IMap kd w r l) {p : Addr} (hp : r ≠ p.block) (u : Value) : IMap kd (w.setCell p u) r l := (Below.heap_setCell w p u r hp).trans h
theorem IMap.drewN (h : IMap kd w r l) (k : Nat) : IMap kd (w.drewN k) r l := h
theorem IMap.made (w : World) (kd : IntKind) : IMap kd (w.alloc (.map #[] 0)) w.heap.size [] := heap_alloc_new w _

theorem mfind_none (key : Int) : ∀ (l : List (Int × Value)) (i j : Nat), (∀ p ∈ l, p.1 ≠ key) → Instr.findNow (.int kd) (.int kd key) (mentries kd i l) j = some none
  | [], _, _, _ => rfl
  | p :: l, i, j, h => by
    have h0 := h p (.head _)
    have : (key == p.1) = false := by simpa using fun e => h0 e.symm
    simp [mentries, mentry, Instr.findNow, Instr.sameNow, this]
    exact mfind_none key l _ _ (fun q hq => h q (.tail _ hq))
theorem mfind_some (key : Int) : ∀ (l : List (Int × Value)) (i j : Nat), ∃ o, Instr.findNow (.int kd) (.int kd key) (mentries kd i l) j = some o ∧ o.map (·.2) = lookI l key
  | [], _, _ => ⟨none, rfl, rfl⟩
  | p :: l, i, j => by
    by_cases h : key = p.1
    · refine ⟨some (j, p.2), ?_, ?_⟩
      · subst h; simp [mentries, mentry, Instr.findNow, Instr.sameNow]
      · subst h; simp [lookI]
    · have h1 : (key == p.1) = false := by simpa using h
      have h2 : (p.1 == key) = false := by simpa using fun e => h e.symm
      obtain ⟨o, ho, hm⟩ := mfind_some key l (i + 1) (j + 1)
      exact ⟨o, by simp [mentries, mentry, Instr.findNow, Instr.sameNow, h1]; exact ho, by simp [lookI, List.find?, h2]; simpa [lookI] using hm⟩

theorem mput_run {P : Program} {t k e : TypeId} (ht : P.underlying t = some (.map k e)) (hk : P.underlying k = some (.int kd)) (h : IMap kd w r l) (x : Int) (v : Value) (hu : ∀ q ∈ l, q.1 ≠ x) :
    ∃ w', (Instr.mapUpdate t (.map (some r)) (.int kd x) v).run P w = .ok () w' ∧ IMap kd w' r (l ++ [(x, v)]) ∧ w.grownBy w' (some r) := by
  have hg := MapKept.run_getObj_map (P := P) h
  have hc := MapKept.run_checkKey (P := P) (w := w) (kt := k) (d := .int kd) (k := .int kd x) hk rfl false 9999
  have hf := MapKept.run_findKey (P := P) (w := w) (kt := k) (d := .int kd) (k := .int kd x) (l := mentries kd 0 l) (a := none) hk (mfind_none _ _ _ _ hu)
  have hs := fun o => MapKept.run_setObj_map (P := P) o h
  refine ⟨_, by
    unfold Instr.mapUpdate
    simp only [Sem.run_bind, run_underlying ht, hg, hc, hf, Result.andThen]
    exact hs _, ?_, ?_⟩
  · unfold IMap
    rw [mentries_snoc]
    simp [h.lt, mentry]
  · exact ⟨rfl, rfl, rfl, by simp, fun i _ hi => by
      have : r ≠ i := fun e => hi (by rw [e])
      simp [this]⟩
theorem wpList_mput {P : Program} (w : World) {ops : Array Oper} {rest : List Oper} {o : Oper} {a : Act} {Q : Exit → Act → World → Prop}
    (hg : o.guard = none) (m x v : Operand) (t : TypeId) (hop : o.op = Op.insert t m x v) (k e : TypeId) (ht : P.underlying t = some (.map k e)) (hk : P.underlying k = some (.int kd))
    (r : Nat) (l : List (Int × Value)) (hm : a.eval m = .map (some r)) (h : IMap kd w r l) (z : Int) (u : Value) (hx : a.eval x = .int kd z) (hv : a.eval v = u)
    (hu : (l.all fun q => q.1 != z) = true) (hK : ∀ w', IMap kd w' r (l ++ [(z, u)]) → w.grownBy w' (some r) → wpList P ops Q rest (a.put o.dst undef) w') :
    wpList P ops Q (o :: rest) a w := by
  refine wpList_plain hg fun K' hK' => ?_
  obtain ⟨w', hrun, r1, r2⟩ := mput_run ht hk h z u (fun q hq => by simpa using List.all_eq_true.1 hu q hq)
  unfold Oper.wp
  simp [execOp, hop, hm, hx, hv, hrun, Result.andThen]
  exact hK' _ _ (hK w' r1 r2)
theorem mlook_run {P : Program} {t k e : TypeId} {z : Value} (ht : P.underlying t = some (.map k e)) (hk : P.underlying k = some (.int kd)) (hz : (zeroValue e).run P w = .ok z w) (h : IMap kd w r l) (x : Int) :
    (Instr.lookup t (.map (some r)) (.int kd x) false).run P w = .ok ((lookI l x).getD z) w ∧ (Instr.lookup t (.map (some r)) (.int kd x) true).run P w = .ok (.tuple #[(lookI l x).getD z, .bool (lookI l x).isSome]) w := by
  have hg := MapKept.run_getObj_map (P := P) h
  have hc := fun b => MapKept.run_checkKey (P := P) (w := w) (kt := k) (d := .int kd) (k := .int kd x) hk rfl b 9999
  obtain ⟨o, ho, hm⟩ := mfind_some (kd := kd) x l 0 0
  have hf := MapKept.run_findKey (P := P) (w := w) (kt := k) (d := .int kd) (k := .int kd x) (l := mentries kd 0 l) (a := o) hk ho
  unfold Instr.lookup
  simp only [Sem.run_bind, run_underlying ht, hg, hc, Result.andThen, Sem.run_pure, hf]
  rw [← hm]
  cases o with
  | none => simp [hz]
  | some a => simp [Sem.run_pure]
end

/-! ### Worlds that differ in some blocks alone -/
structure Mods (S : Nat → Prop) (w w' : World) : Prop where
  os : w'.os = w.os
  tape : w'.tape = w.tape
  output : w'.output = w.output
  size : w.heap.size ≤ w'.heap.size
  block : ∀ i, i < w.heap.size → ¬ S i → w'.heap[i]? = w.heap[i]?
section
variable {S T : Nat → Prop} {w w' w'' : World}
theorem Mods.refl (w : World) : Mods S w w := ⟨rfl, rfl, rfl, Nat.le_refl _, fun _ _ _ => rfl⟩
theorem Mods.trans (h : Mods S w w') (h' : Mods S w' w'') : Mods S w w'' :=
  ⟨h'.os.trans h.os, h'.tape.trans h.tape, h'.output.trans h.output, Nat.le_trans h.size h'.size, fun i hi hs => (h'.block i (Nat.lt_of_lt_of_le hi h.size) hs).trans (h.block i hi hs)⟩
theorem Mods.mono (h : Mods S w w') (hs : ∀ i, i < w.heap.size → S i → T i) : Mods T w w' := ⟨h.os, h.tape, h.output, h.size, fun i hi ht => h.block i hi (fun x => ht (hs i hi x))⟩
theorem Mods.of_below (h : Below w.heap.size w w') : Mods S w w' := ⟨h.os, h.tape, h.output, h.size, fun i hi _ => h.block i hi⟩
theorem Mods.of_grown {g : Nat} (h : w.grownBy w' (some g)) (hg : S g) : Mods S w w' := ⟨h.os, h.tape, h.output, h.size, fun i hi hs => h.block i hi (fun e => hs (by cases e; exact hg))⟩
theorem Mods.drewN (h : Mods S w w') (n : Nat) : Mods S w (w'.drewN n) := ⟨h.os, h.tape, h.output, h.size, h.block⟩
theorem Mods.alloc (h : Mods S w w') (o : Obj) : Mods S w (w'.alloc o) := h.trans (Mods.of_below ((Below.refl _ _).alloc (Nat.le_refl _) o))
theorem Mods.set (h : Mods S w w') (g i : Nat) (hg : S g ∨ w.heap.size ≤ g) (u : Value) : Mods S w (w'.setCell ⟨g, i, none⟩ u) :=
  ⟨h.os, h.tape, h.output, by simpa [World.setCell] using h.size, fun k hk hs => (Below.heap_setCell w' ⟨g, i, none⟩ u k (by
    rintro rfl
    rcases hg with hg | hg
    · exact hs hg
    · omega)).trans (h.block k hk hs)⟩
/-- What lies below a bound is kept, if all that may turn lies above it. -/
theorem Mods.below {B : Nat} {w0 : World} (h0 : Below B w0 w) (h : Mods S w w') (hB : B ≤ w.heap.size) (hs : ∀ i, S i → B ≤ i) : Below B w0 w' :=
  ⟨h.os.trans h0.os, h.tape.trans h0.tape, h.output.trans h0.output, Nat.le_trans h0.size h.size, fun k hk => (h.block k (by omega) (fun x => by have := hs k x; omega)).trans (h0.block k hk)⟩
theorem Bk.mods {g : Nat} {t : TypeId} {cs : Array Value} (h : Bk w g t cs) (hm : Mods S w w') (hg : ¬ S g) : Bk w' g t cs := (hm.block g h.lt hg).trans h
theorem IMap.mods {kd : IntKind} {r : Nat} {l : List (Int × Value)} (h : IMap kd w r l) (hm : Mods S w w') (hg : ¬ S r) : IMap kd w' r l := (hm.block r h.lt hg).trans h
theorem Rd.mods {B k n : Nat} {A : Option Addr} {xs : List Value} (h : Rd w B k A n xs) (hm : Mods S w w') (hB : B ≤ w.heap.size) (hs : ∀ i, S i → B ≤ i) : Rd w' B k A n xs :=
  h.by_cells fun p hp => World.cell?_of_block (hm.block p.block (by omega) (fun x => by have := hs _ x; omega))
theorem own_mods {base : Nat} {e : TypeId} {k n : Nat} {v : Value} {xs : List Value} (h : w.ownsRow base e k v n xs) (hm : Mods S w w') (hs : ∀ g, v.ownBlock = some g → ¬ S g) : w'.ownsRow base e k v n xs := by
  refine ⟨h.1, ?_⟩
  rcases h.2 with h2 | ⟨g, cap, cur, rfl, h3, hg, hr⟩
  · exact .inl h2
  · exact .inr ⟨g, cap, cur, rfl, h3, (hm.block g (Array.getElem?_eq_some_iff.1 hg).1 (hs g rfl)).trans hg, hr⟩
end
end Go.Proofs.Ytjbpafkdbfbdlaa

namespace Go.Proofs.Ytjbpafkdbfbdlaa
open Go.RowKit

def iv (l : List Int) : List Value := l.map (Value.int .i64)
theorem ints_iv (l : List Nat) : (l.map fun c : Nat => Value.int .i64 (c : Int)) = iv (l.map fun c : Nat => (c : Int)) := by simp [iv, Function.comp_def]
theorem iv_len (l : List Int) : (iv l).length = l.length := by simp [iv]
theorem eq_of_all {l m : List Int} (hl : l.length = m.length) (h : ∀ (i : Nat) (h1 : i < l.length) (h2 : i < m.length), l[i] = m[i]) : l = m := List.ext_getElem hl h
theorem Rd.atI {w : World} {B n : Nat} {A : Option Addr} {l : List Int} (h : Rd w B 1 A n (iv l)) {i : Nat} (hi : i < n) : ∃ b o z, A = some ⟨b, o, none⟩ ∧ b < B ∧ l[i]? = some z ∧ w.cell? ⟨b, o + i, none⟩ = some (.int .i64 z) := by
  obtain ⟨b, o, u, e, hb, hu, hc⟩ := h.at1 hi
  have hl : i < l.length := by have := h.len; simp [iv] at this; omega
  refine ⟨b, o, l[i], e, hb, List.getElem?_eq_getElem hl, ?_⟩
  have : u = .int .i64 l[i] := by simpa [iv, hl] using hu.symm
  rw [← this]; exact hc

end Go.Proofs.Ytjbpafkdbfbdlaa
