/-
  The registry's ids that were had, walked: container/heap over a field that holds a row of ids: Less, Swap, down, up.
-/
import Derived.Test.YtjbpafkdbfbdlaaRegM
import Derived.RegionTactic
import Derived.BigRegion
import Derived.LoopN

namespace Go.Proofs.Ytjbpafkdbfbdlaa
open Go.RowKit
/-- The cells of a row of ids. -/
def RowC (W : World) (k n : Nat) (G : Nat → Int) : Prop := ∀ t, t < n → W.cell? ⟨k, t, none⟩ = some (.int .i64 (G t)) ∧ W.frozen? ⟨k, t, none⟩ = false
theorem RowC.drewN {W : World} {k n : Nat} {G : Nat → Int} (h : RowC W k n G) (m : Nat) : RowC (W.drewN m) k n G := h
set_option maxRecDepth 10000 in
set_option maxHeartbeats 1000000 in
theorem hless_any (k c n : Nat) (W : World) (G : Nat → Int) (hc : RowC W k n G) (i j : Nat) (hi : i < n) (hj : j < n) (_hn : n < 4611686018427387904) :
    Calls Try.prog 92 #[.slice (some ⟨k, 0, none⟩) n c, .int .i64 i, .int .i64 j] W fun e w' => e = .returned (.bool (decide (G i < G j))) ∧ ∃ q, w' = W.drewN q := by
  have ci := (hc i hi).1
  have cj := (hc j hj).1
  clear hc
  go_enter Try.func92, Try.ntmps92
  go_wp2
  go_quiet (fail)
  go_wp2
  go_ret
  exact ⟨rfl, nq, rfl⟩
set_option maxRecDepth 10000 in
set_option maxHeartbeats 1000000 in
theorem hswap_any (k c n : Nat) (W : World) (x y : Int) (i j : Nat) (hi : i < n) (hj : j < n) (_hn : n < 4611686018427387904)
    (ci : W.cell? ⟨k, i, none⟩ = some (.int .i64 x)) (cj : W.cell? ⟨k, j, none⟩ = some (.int .i64 y)) (fi : W.frozen? ⟨k, i, none⟩ = false) (fj : W.frozen? ⟨k, j, none⟩ = false) :
    Calls Try.prog 93 #[.slice (some ⟨k, 0, none⟩) n c, .int .i64 i, .int .i64 j] W fun e w' => e = .returned (.tuple #[]) ∧ ∃ q, w' = ((W.setCell ⟨k, i, none⟩ (.int .i64 y)).setCell ⟨k, j, none⟩ (.int .i64 x)).drewN q := by
  obtain ⟨v', hy'⟩ := cell?_setCell_some (w := W) (p := ⟨k, i, none⟩) (x := .int .i64 y) (q := ⟨k, j, none⟩) cj
  go_enter Try.func93, Try.ntmps93
  go_wp2
  go_region
  all_goals (try go_wp2)
  all_goals go_end0
  all_goals exact ⟨rfl, 1, rfl⟩
/-- A method's row, found: its function, and the receiver that is handed on. -/
theorem meth_row {P : Program} {t f : Nat} {b : Bool} {name : String} (k : Nat) (h : ((P.info? t).bind fun i => (i.methods.find? fun m => m.name == name).map fun m => (m.path.size, m.func)) = some (0, some (f, b))) (v : Value) (W : World) {r : Value}
    (hr : ∀ o, Sem.run P (receiverAt t (.val v) b (some o)) W = .ok r W) : Sem.run P (method (k + 1) t v name) W = .ok (f, r) W := by
  rw [Option.bind_eq_some_iff] at h
  obtain ⟨i, hi, h⟩ := h
  rw [Option.map_eq_some_iff] at h
  obtain ⟨m, hm, h⟩ := h
  simp only [Prod.mk.injEq] at h
  have hp : m.path = #[] := Array.eq_empty_of_size_eq_zero h.1
  have ht : Sem.run P (typeInfo t) W = .ok i W := run_typeInfo (w := W) hi
  unfold method
  simp [Sem.run_bind, ht, hm, hp, h.2, follow, hr, Result.andThen]
theorem recv_ptr {P : Program} {t e : Nat} (ht : P.underlying t = some (.pointer e)) (v : Value) (W : World) (o : Option String) : Sem.run P (receiverAt t (.val v) true o) W = .ok v W := by
  simp [receiverAt, run_underlying ht, Place.get, Result.andThen, Sem.run_bind]
theorem recv_chk {P : Program} (xt : TypeId) (a : Addr) (o : String) (W : World) : Sem.run P (Builtin.ssaWrapNilChk_ #[xt] xt #[.pointer (some a), strVal "", strVal o]) W = .ok (.pointer (some a)) W := rfl
theorem recv_val {P : Program} {t e : Nat} (ht : P.underlying t = some (.pointer e)) (he : ∀ w, (isAgg e).run P w = .ok false w) {a : Addr} {v : Value} {W : World} (h : W.cell? a = some v) (o : String) : Sem.run P (receiverAt t (.val (.pointer (some a))) false (some o)) W = .ok v W := by
  simp [receiverAt, run_underlying ht, Place.get, Result.andThen, Sem.run_bind, recv_chk, asAddr, loadVar, he, h]
/-- The methods of a pointer to the field. -/
theorem meth_less (m : Nat) {W : World} {g : Nat} {v : Value} (h : W.cell? ⟨g, 2, none⟩ = some v) :
    Sem.run Try.prog (method (m + 1) 68 (.pointer (some ⟨g, 2, none⟩)) "Less") W = .ok (92, v) W :=
  meth_row m (by kernel_rfl) _ W fun o => recv_val Try.underlying68 Try.isAgg58 h o
theorem meth_swap (m : Nat) {W : World} {g : Nat} {v : Value} (h : W.cell? ⟨g, 2, none⟩ = some v) :
    Sem.run Try.prog (method (m + 1) 68 (.pointer (some ⟨g, 2, none⟩)) "Swap") W = .ok (93, v) W :=
  meth_row m (by kernel_rfl) _ W fun o => recv_val Try.underlying68 Try.isAgg58 h o
theorem meth_len (m : Nat) {W : World} {g : Nat} {v : Value} (h : W.cell? ⟨g, 2, none⟩ = some v) :
    Sem.run Try.prog (method (m + 1) 68 (.pointer (some ⟨g, 2, none⟩)) "Len") W = .ok (91, v) W :=
  meth_row m (by kernel_rfl) _ W fun o => recv_val Try.underlying68 Try.isAgg58 h o
theorem meth_pop (m : Nat) (W : World) (v : Value) : Sem.run Try.prog (method (m + 1) 68 v "Pop") W = .ok (94, v) W :=
  meth_row m (by kernel_rfl) _ W fun o => recv_ptr Try.underlying68 v W (some o)
theorem meth_push (m : Nat) (W : World) (v : Value) : Sem.run Try.prog (method (m + 1) 68 v "Push") W = .ok (95, v) W :=
  meth_row m (by kernel_rfl) _ W fun o => recv_ptr Try.underlying68 v W (some o)
end Go.Proofs.Ytjbpafkdbfbdlaa
