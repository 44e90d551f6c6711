/-
  The reference's registry in memory: a row of entries, each with a row of topics.
-/
import Derived.Test.YtjbpafkdbfbdlaaRegM
import Derived.Test.YtjbpafkdbfbdlaaRegI

namespace Go.Proofs.Ytjbpafkdbfbdlaa
open Go.RowKit Go.Maps Go.WideShapes
section
variable {α : Type} {f : α → List Value} {k : Nat}
theorem fm_len (hf : ∀ x, (f x).length = k) (l : List α) : (l.flatMap f).length = l.length * k := by
  induction l with
  | nil => simp
  | cons x l ih => rw [List.flatMap_cons, List.length_append, ih, hf, List.length_cons, Nat.succ_mul]; omega
theorem fm_at (hf : ∀ x, (f x).length = k) : ∀ (l : List α) (i j : Nat) (h : i < l.length), j < k → (l.flatMap f)[i * k + j]? = (f l[i])[j]?
  | x :: l, 0, j, _, hj => by
    rw [List.flatMap_cons, List.getElem?_append_left (by rw [hf]; omega)]
    simp
  | x :: l, i + 1, j, h, hj => by
    rw [List.flatMap_cons, List.getElem?_append_right (by rw [hf, Nat.succ_mul]; omega), hf]
    rw [show (i + 1) * k + j - k = i * k + j by rw [Nat.succ_mul]; omega]
    exact fm_at hf l i j (by simpa using h) hj
theorem fm_take (hf : ∀ x, (f x).length = k) (l : List α) (i : Nat) : (l.flatMap f).take (i * k) = (l.take i).flatMap f := by
  induction l generalizing i with
  | nil => simp
  | cons x l ih =>
    cases i with
    | zero => simp
    | succ i =>
      rw [List.flatMap_cons, List.take_succ_cons, List.flatMap_cons, List.take_append, hf, show (i + 1) * k - k = i * k by rw [Nat.succ_mul]; omega, ih, List.take_of_length_le (by rw [hf, Nat.succ_mul]; omega)]
end
/-- A topic's cells. -/
def tpC (t : Tp) : List Value := [.int .i64 (t.id : Int), .string t.name, .bool t.fixed]
def tpCs (l : List Tp) : List Value := l.flatMap tpC
theorem tpC_len (t : Tp) : (tpC t).length = 3 := rfl
theorem tpCs_len (l : List Tp) : (tpCs l).length = l.length * 3 := fm_len tpC_len l
theorem tpCs_at (l : List Tp) (i j : Nat) (h : i < l.length) (hj : j < 3) : (tpCs l)[i * 3 + j]? = (tpC l[i])[j]? := fm_at tpC_len l i j h hj
theorem tpCs_app (a b : List Tp) : tpCs (a ++ b) = tpCs a ++ tpCs b := by simp [tpCs]
theorem tpCs_one (l : List Tp) : ∀ u ∈ tpCs l, u.oneCell' = true := by
  intro u hu
  unfold tpCs at hu
  obtain ⟨t, _, h⟩ := List.mem_flatMap.1 hu
  simp only [tpC, List.mem_cons, List.not_mem_nil, or_false] at h
  rcases h with rfl | rfl | rfl <;> rfl
/-- A list of topics with the row that it lies in. -/
structure Tl where
  A : Option Addr
  cap : Nat
  l : List Tp
/-- An entry's cells. -/
def enC (x : ByteArray × Tl) : List Value := [.string x.1, .slice x.2.A x.2.l.length x.2.cap]
def enCs (E : List (ByteArray × Tl)) : List Value := E.flatMap enC
theorem enC_len (x : ByteArray × Tl) : (enC x).length = 2 := rfl
theorem enCs_len (E : List (ByteArray × Tl)) : (enCs E).length = E.length * 2 := fm_len enC_len E
theorem enCs_at (E : List (ByteArray × Tl)) (i j : Nat) (h : i < E.length) (hj : j < 2) : (enCs E)[i * 2 + j]? = (enC E[i])[j]? := fm_at enC_len E i j h hj
theorem enCs_app (a b : List (ByteArray × Tl)) : enCs (a ++ b) = enCs a ++ enCs b := by simp [enCs]
theorem enCs_one (E : List (ByteArray × Tl)) : ∀ u ∈ enCs E, u.oneCell' = true := by
  intro u hu
  unfold enCs at hu
  obtain ⟨x, _, h⟩ := List.mem_flatMap.1 hu
  simp only [enC, List.mem_cons, List.not_mem_nil, or_false] at h
  rcases h with rfl | rfl <;> rfl
section
variable (tE tF : TypeId)
/-- A row of topics that lies in F. -/
def TlIn (w : World) (F : Nat → Prop) (x : Tl) : Prop :=
  Rd w w.heap.size 3 x.A x.l.length (tpCs x.l) ∧ x.l.length ≤ x.cap ∧ (x.l ≠ [] → ∀ a, x.A = some a → F a.block)
/-- The reference's registry in memory: F: its blocks. -/
structure RfIn (w : World) (F : Nat → Prop) (gr : Nat) (v : Value) (E : List (ByteArray × Tl)) : Prop where
  blk : Bk w gr tF #[v]
  row : w.ownsRow 0 tE 2 v E.length (enCs E)
  each : ∀ x ∈ E, TlIn w F x.2
  fg : F gr
  fr : ∀ k, v.ownBlock = some k → F k ∧ k ≠ gr
  lt : ∀ i, F i → i < w.heap.size
theorem TlIn.keep {w w' : World} {F : Nat → Prop} {x : Tl} (h : TlIn w F x) (hs : w.heap.size ≤ w'.heap.size) (hk : ∀ i, F i → w'.heap[i]? = w.heap[i]?) : TlIn w' F x := by
  obtain ⟨⟨h1, h2⟩, h3, h4⟩ := h
  refine ⟨⟨h1, ?_⟩, h3, h4⟩
  rcases h2 with h2 | ⟨b, o, e, hb, hc⟩
  · exact .inl h2
  · refine .inr ⟨b, o, e, Nat.lt_of_lt_of_le hb hs, fun j u hu => ?_⟩
    have hne : x.l ≠ [] := by
      intro e0
      rw [e0] at hu
      simp [tpCs] at hu
    have hb' := hk b (h4 hne _ e)
    rw [← hc j u hu]
    exact World.cell?_of_block hb'
theorem RfIn.keep {w w' : World} {F : Nat → Prop} {gr : Nat} {v : Value} {E : List (ByteArray × Tl)} (h : RfIn tE tF w F gr v E) (hs : w.heap.size ≤ w'.heap.size) (hk : ∀ i, F i → w'.heap[i]? = w.heap[i]?) : RfIn tE tF w' F gr v E where
  blk := (hk gr h.fg).trans h.blk
  row := ownsRow_keep h.row fun k e => hk k (h.fr k e).1
  each := fun x hx => (h.each x hx).keep hs hk
  fg := h.fg
  fr := h.fr
  lt := fun i hi => Nat.lt_of_lt_of_le (h.lt i hi) hs
end
/-- What it has. -/
def rfOf (E : List (ByteArray × Tl)) : Rg := kvMap (fun x => x.l) E
theorem rfOf_at {E : List (ByteArray × Tl)} {c : ByteArray} : rgT (rfOf E) c = ((kvAt c E).map fun x => x.l).getD [] := by
  unfold rgT rfOf
  rw [kvMap_at]
end Go.Proofs.Ytjbpafkdbfbdlaa
