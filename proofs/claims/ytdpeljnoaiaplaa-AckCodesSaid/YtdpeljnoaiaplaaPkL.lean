/- A packet's value kept whole in the walk: loads, boxes and stores of it go by laws, not cell by cell. -/
import Derived.Test.YtdpeljnoaiaplaaPkA
import Derived.Deep.MidRow
import Derived.Lib.QuietBelow
namespace Go.Proofs.Ytdpeljnoaiaplaa
open Go.RowKit

def ldPk (v : Value) : Sem Value := Instr.loadAt PkT v
def bxPk (v : Value) : Sem Value := Instr.box PkT v
theorem to_ldPk (v : Value) : Instr.loadAt PkT v = ldPk v := rfl
theorem to_bxPk (v : Value) : Instr.box PkT v = bxPk v := rfl
theorem pkC_size (p : Pk) (h : Hs) : (pkC p h).size = 25 := rfl
theorem run_bxPk (p : Pk) (h : Hs) (w : World) : (bxPk (pkV p h)).run Try.prog w = .ok (.pointer (some ⟨w.heap.size, 0, none⟩)) (w.alloc (.cells (pkC p h) PkT)) := rfl
theorem run_bxPk_agg (cs : Array Value) (w : World) : (bxPk (.agg cs)).run Try.prog w = .ok (.pointer (some ⟨w.heap.size, 0, none⟩)) (w.alloc (.cells cs PkT)) := rfl
theorem info_pk : (Try.prog.info? PkT).map (·.size) = some 25 := by kernel_rfl
/-- A block that holds a packet, loaded whole. -/
theorem ld_bk {w : World} {g : Nat} {p : Pk} {h : Hs} (hb : Bk w g PkT (pkC p h)) : (ldPk (.pointer (some ⟨g, 0, none⟩))).run Try.prog w = .ok (pkV p h) w := by
  unfold ldPk
  have hc : w.rangeAt g 0 (pkC p h).toList := fun j v hv => by
    rw [Nat.zero_add, hb.cell]
    simpa using hv
  exact run_loadAt_mid w g 0 PkT (pkC p h).toList _ hc Try.underlying31 rfl (by rw [Array.length_toList, pkC_size]; exact info_pk)
theorem ld_fresh (p : Pk) (h : Hs) (w : World) : (ldPk (.pointer (some ⟨w.heap.size, 0, none⟩))).run Try.prog (w.alloc (.cells (pkC p h) PkT)) = .ok (pkV p h) (w.alloc (.cells (pkC p h) PkT)) := ld_bk (Bk.fresh w PkT (pkC p h))
theorem pkC_0 (p : Pk) (h : Hs) : (pkC p h)[0]? = some (.int .i64 p.kind) := rfl
theorem pkC_1 (p : Pk) (h : Hs) : (pkC p h)[1]? = some (.bool p.dup) := rfl
theorem pkC_2 (p : Pk) (h : Hs) : (pkC p h)[2]? = some (.bool p.retain) := rfl
theorem pkC_3 (p : Pk) (h : Hs) : (pkC p h)[3]? = some (.int .i64 p.qos) := rfl
theorem pkC_4 (p : Pk) (h : Hs) : (pkC p h)[4]? = some (.int .i64 p.id) := rfl
theorem pkC_5 (p : Pk) (h : Hs) : (pkC p h)[5]? = some (.string p.topic) := rfl
theorem pkC_6 (p : Pk) (h : Hs) : (pkC p h)[6]? = some (.string p.payload) := rfl
theorem pkC_7 (p : Pk) (h : Hs) : (pkC p h)[7]? = some (.bool p.clean) := rfl
theorem pkC_8 (p : Pk) (h : Hs) : (pkC p h)[8]? = some (.int .i64 p.alive) := rfl
theorem pkC_9 (p : Pk) (h : Hs) : (pkC p h)[9]? = some (.string p.client) := rfl
theorem pkC_10 (p : Pk) (h : Hs) : (pkC p h)[10]? = some (.bool p.hasUser) := rfl
theorem pkC_11 (p : Pk) (h : Hs) : (pkC p h)[11]? = some (.string p.user) := rfl
theorem pkC_12 (p : Pk) (h : Hs) : (pkC p h)[12]? = some (.bool p.hasPass) := rfl
theorem pkC_13 (p : Pk) (h : Hs) : (pkC p h)[13]? = some (.string p.pass) := rfl
theorem pkC_14 (p : Pk) (h : Hs) : (pkC p h)[14]? = some (.bool p.hasWill) := rfl
theorem pkC_15 (p : Pk) (h : Hs) : (pkC p h)[15]? = some (.string p.will.topic) := rfl
theorem pkC_16 (p : Pk) (h : Hs) : (pkC p h)[16]? = some (.string p.will.payload) := rfl
theorem pkC_17 (p : Pk) (h : Hs) : (pkC p h)[17]? = some (.int .i64 p.will.qos) := rfl
theorem pkC_18 (p : Pk) (h : Hs) : (pkC p h)[18]? = some (.bool p.will.retain) := rfl
theorem pkC_19 (p : Pk) (h : Hs) : (pkC p h)[19]? = some (.slice h.wp.a p.will.props.length h.wp.c) := rfl
theorem pkC_20 (p : Pk) (h : Hs) : (pkC p h)[20]? = some (.bool p.session) := rfl
theorem pkC_21 (p : Pk) (h : Hs) : (pkC p h)[21]? = some (.int .i64 p.code) := rfl
theorem pkC_22 (p : Pk) (h : Hs) : (pkC p h)[22]? = some (.slice h.codes.a p.codes.length h.codes.c) := rfl
theorem pkC_23 (p : Pk) (h : Hs) : (pkC p h)[23]? = some (.slice h.filters.a p.filters.length h.filters.c) := rfl
theorem pkC_24 (p : Pk) (h : Hs) : (pkC p h)[24]? = some (.slice h.props.a p.props.length h.props.c) := rfl
/-- A block that is known, in every world of the class. -/
theorem bk_regrown {W : World} {g : Nat} {t : TypeId} {cs : Array Value} (h : Bk W g t cs) : ∀ (d : Nat) (os : Array Obj) (i : Nat), (Sort.grow (redrawn W d) os).cell? ⟨g, i, none⟩ = cs[i]? := fun d os i => (h.below (below_regrown W d os) h.lt).cell i
theorem ld_regrown {W : World} {g : Nat} {p : Pk} {h : Hs} (hb : Bk W g PkT (pkC p h)) : ∀ (d : Nat) (os : Array Obj), (ldPk (.pointer (some ⟨g, 0, none⟩))).run Try.prog (Sort.grow (redrawn W d) os) = .ok (pkV p h) (Sort.grow (redrawn W d) os) := fun d os => ld_bk (hb.below (below_regrown W d os) hb.lt)
/-- A contract that makes memory, in every world of the class. -/
theorem regrown {P : Program} {f : FuncId} {args : Array Value} {v : Value} {W : World} (h : ∀ x, Below W.heap.size W x → Calls P f args x fun e w' => e = .returned v ∧ Below x.heap.size x w') :
    ∀ (d : Nat) (os : Array Obj), Calls P f args (Sort.grow (redrawn W d) os) fun e w'' => e = .returned v ∧ ∃ p : Regrown, w'' = Sort.grow (redrawn W p.d) p.os := fun d os => Calls.regrown_of (h _ (below_regrown W d os))
end Go.Proofs.Ytdpeljnoaiaplaa
