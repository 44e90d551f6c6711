/- Packets compared: the walks of head.strip, head.sameWill, head.Same. -/
import Derived.Test.YtdpeljnoaiaplaaPkB
import Derived.Lib.QuietBelow
namespace Go.Proofs.Ytdpeljnoaiaplaa
open Go.RowKit

/-- What head.strip gives of a packet. -/
def bareC (p : Pk) : Array Value := #[.int .i64 p.kind, .int .i64 p.qos, .int .i64 p.id, .int .i64 p.alive, .int .i64 p.code, .bool p.dup, .bool p.retain, .bool p.clean, .bool p.hasUser, .bool p.hasPass, .bool p.hasWill, .bool p.session, .string p.topic, .string p.payload, .string p.client, .string p.user, .string p.pass]
def bareB (a b : Pk) : Bool := decide (a.kind = b.kind ∧ a.qos = b.qos ∧ a.id = b.id ∧ a.alive = b.alive ∧ a.code = b.code ∧ a.dup = b.dup ∧ a.retain = b.retain ∧ a.clean = b.clean ∧ a.hasUser = b.hasUser ∧ a.hasPass = b.hasPass ∧ a.hasWill = b.hasWill ∧ a.session = b.session ∧
  a.topic = b.topic ∧ a.payload = b.payload ∧ a.client = b.client ∧ a.user = b.user ∧ a.pass = b.pass)
theorem same_iff (a b : Pk) : a = b ↔ bareB a b = true ∧ a.will = b.will ∧ a.codes = b.codes ∧ a.filters = b.filters ∧ a.props = b.props := by
  rw [pk_eq_iff]
  unfold bareB
  rw [decide_eq_true_iff]
  constructor
  · rintro ⟨h1, h2, h3, h4, h5, h6, h7, h8, h9, h10, h11, h12, h13, h14, h15, h16, h17, h18, h19, h20, h21⟩
    exact ⟨⟨h1, h4, h5, h9, h18, h2, h3, h8, h11, h13, h15, h17, h6, h7, h10, h12, h14⟩, h16, h19, h20, h21⟩
  · rintro ⟨⟨h1, h4, h5, h9, h18, h2, h3, h8, h11, h13, h15, h17, h6, h7, h10, h12, h14⟩, h16, h19, h20, h21⟩
    exact ⟨h1, h2, h3, h4, h5, h6, h7, h8, h9, h10, h11, h12, h13, h14, h15, h16, h17, h18, h19, h20, h21⟩
theorem guard_bare : Try.prog.eqGuardType Try.prog.depth 112 = false := by kernel_rfl

set_option maxHeartbeats 1000000 in
set_option maxRecDepth 100000 in
theorem strip_any (p : Pk) (h : Hs) (w : World) : Calls Try.prog 88 #[pkV p h] w fun e w' => e = .returned (.agg (bareC p)) ∧ Below w.heap.size w w' := by
  have HL := Lib.hid ((Below.refl w.heap.size w).alloc (Nat.le_refl _) (.cells (pkC p h) PkT))
  simp only [pkV, pkC]
  go_enter Try.func88, Try.ntmps88
  go_wp2
  exact bodyPost_ret (v := .agg (bareC p)) (by simp [results, Try.results88, go_sem, bareC]) rfl ⟨rfl, HL.out.alloc (by simp) _⟩

end Go.Proofs.Ytdpeljnoaiaplaa
