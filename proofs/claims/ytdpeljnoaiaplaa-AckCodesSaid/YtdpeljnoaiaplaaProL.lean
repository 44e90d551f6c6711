/- The laws PropHalves, PropTurns: words that both share. -/
import Derived.Test.YtdpeljnoaiaplaaProK
import Derived.Test.YtdpeljnoaiaplaaRefV
import Derived.Test.YtdpeljnoaiaplaaVarD
import Derived.Deep.RegionHeld3
namespace Go.Proofs.Ytdpeljnoaiaplaa
open Go.RowKit
attribute [local go_sem ↓] Go.wp_at_zero Go.wp_at_succ

/-- Nothing that was there has turned. -/
def Kept (w0 x : World) : Prop := Below w0.heap.size w0 x
section
variable {w0 x y : World}
theorem Kept.refl (w : World) : Kept w w := Below.refl _ _
theorem Kept.below (h : Kept w0 x) (hb : Below x.heap.size x y) : Kept w0 y := Below.trans h (hb.mono (Below.size h))
theorem Kept.drewN (h : Kept w0 x) (n : Nat) : Kept w0 (x.drewN n) := below_drawn h n
theorem Kept.drew (h : Kept w0 x) : Kept w0 x.drew := below_drawn h 1
theorem Kept.alloc (h : Kept w0 x) (o : Obj) : Kept w0 (x.alloc o) := Below.alloc h (Below.size h) o
theorem Kept.app {v : Value} (h : Kept w0 x) (hg : x.grownBy y v.ownBlock) (hv : ∀ k, v.ownBlock = some k → w0.heap.size ≤ k) : Kept w0 y := Below.grown h hg (Below.size h) hv
theorem Kept.rd {k n : Nat} {A : Option Addr} {xs : List Value} (hk : Kept w0 x) (h : Rd w0 w0.heap.size k A n xs) : Rd x x.heap.size k A n xs := (h.below hk).wider (Below.size hk)
theorem Kept.to (h : Kept w0 x) : Below w0.heap.size w0 x := h
theorem Kept.size (h : Kept w0 x) : w0.heap.size ≤ x.heap.size := Below.size h
theorem Kept.own {e : TypeId} {k n : Nat} {v : Value} {xs : List Value} (_ : Kept w0 x) (h : y.ownsRow x.heap.size e k v n xs) (hk : w0.heap.size ≤ x.heap.size) : ∀ g, v.ownBlock = some g → w0.heap.size ≤ g := fun g hg => Nat.le_trans hk (own_block h g hg).1
end

theorem bytesP_n (kind : Int) (l : List Pr) (n : Nat) (hn : l.length = n) (hok : ∀ p ∈ l, prGood p) (A : Option Addr) (cap : Nat) (w : World) (h : Rd w w.heap.size 4 A n (prs l)) (hl : n ≤ 4611686018427387904) :
    Calls Try.prog 38 #[.int .i64 kind, .slice A n cap] w fun e w' => e = .returned (.tuple #[.string ⟨(bytesS kind l).1.toArray⟩, .int .i64 (bytesS kind l).2]) ∧ Below w.heap.size w w' := by
  subst hn
  exact bytesP_any kind l (fun p hp => prGood_ok (hok p hp)) A cap w h hl
theorem validP_n (kind : Int) (l : List Pr) (n : Nat) (hn : l.length = n) (hok : ∀ p ∈ l, prGood p) (A : Option Addr) (cap : Nat) (w : World) (h : Rd w w.heap.size 4 A n (prs l)) (hl : n ≤ 4611686018427387904) :
    Calls Try.prog 44 #[.int .i64 kind, .slice A n cap] w fun e w' => e = .returned (.int .i64 (bytesS kind l).2) ∧ Below w.heap.size w w' := by
  subst hn
  exact validP_any kind l (fun p hp => prGood_ok (hok p hp)) A cap w h hl
theorem Rd.one4 (w : World) (p : Pr) : Rd (w.alloc (.cells #[.int .i64 p.id, .int .u32 p.n, .string p.text, .string p.value] 46)) (w.heap.size + 1) 4 (some ⟨w.heap.size, 0, none⟩) 1 (prs [p]) := by
  have := Rd.lit4 w #[.int .i64 p.id, .int .u32 p.n, .string p.text, .string p.value] 46 [p] rfl
  simpa using this
theorem rest_at (t : ByteArray) (a : Nat) : ls (t.extract a t.size) = (ls t).drop a := by
  unfold ls
  rw [Lib.extract_data, List.take_of_length_le]
  simp
end Go.Proofs.Ytdpeljnoaiaplaa
