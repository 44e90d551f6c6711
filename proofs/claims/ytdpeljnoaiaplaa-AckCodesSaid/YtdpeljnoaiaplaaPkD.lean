/- Packets compared: the walks of head.sameWill, head.Same. -/
import Derived.Test.YtdpeljnoaiaplaaPkC
namespace Go.Proofs.Ytdpeljnoaiaplaa
open Go.RowKit

theorem ret_bool {a b : Bool} (h : a = b) : Ending.returned (.bool a) = .returned (.bool b) := by rw [h]
theorem below_two (w : World) (a b : Obj) : Below w.heap.size w ((w.alloc a).alloc b) := ((Below.refl _ _).alloc (Nat.le_refl _) a).alloc (by simp) b
theorem below_two_then {w w' : World} {a b : Obj} (h : Below ((w.alloc a).alloc b).heap.size ((w.alloc a).alloc b) w') : Below w.heap.size w w' := (below_two w a b).trans (h.mono (below_two w a b).size)
theorem Rd.two {w : World} {k n : Nat} {A : Option Addr} {xs : List Value} (h : Rd w w.heap.size k A n xs) (a b : Obj) : Rd ((w.alloc a).alloc b) ((w.alloc a).alloc b).heap.size k A n xs := (h.below (below_two w a b)).wider (below_two w a b).size

set_option maxHeartbeats 1000000 in
set_option maxRecDepth 10000 in
theorem sameWill_any (x y : Wl) (hx hy : Hd) (w : World) (rx : Rd w w.heap.size 4 hx.a x.props.length (prs x.props)) (ry : Rd w w.heap.size 4 hy.a y.props.length (prs y.props)) (lx : x.props.length ≤ 4611686018427387904) (ly : y.props.length ≤ 4611686018427387904) :
    Calls Try.prog 89 #[wlV x hx, wlV y hy] w fun e w' => e = .returned (.bool (decide (x = y))) ∧ Below w.heap.size w w' := by
  obtain ⟨t, l, q, r, ps⟩ := x
  obtain ⟨t', l', q', r', ps'⟩ := y
  simp only at rx ry lx ly
  simp only [wlV, wlC]
  have RX := Lib.hid rx; have RY := Lib.hid ry; clear rx ry
  go_enter Try.func89, Try.ntmps89
  go_wp2_with (first | (refine (listP_any _ _ _ _ _ _ ps ps' _ rfl rfl (RX.out.two _ _) (RY.out.two _ _) lx ly).mono ?_; rintro e w2 ⟨rfl, hb2⟩))
  all_goals
    go_ret
    refine ⟨ret_bool (by simp_all [wl_eq_iff, toList_inj]), ?_⟩
    first | exact below_two_then hb2 | exact below_two _ _ _
end Go.Proofs.Ytdpeljnoaiaplaa
