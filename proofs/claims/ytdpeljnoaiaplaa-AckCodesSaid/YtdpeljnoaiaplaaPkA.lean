/- Packets: as plain data, as the cells of the program's struct; their parts compared by the model's '=='. -/
import Derived.Test.YtdpeljnoaiaplaaSamP
import Derived.Test.YtdpeljnoaiaplaaSameI
import Derived.Test.YtdpeljnoaiaplaaOpen
namespace Go.Proofs.Ytdpeljnoaiaplaa
open Go.RowKit

/-- A filter. -/
structure Fi where
  topic : ByteArray
  qos : Int
  noLocal : Bool
  asPub : Bool
  handling : Int
instance : Inhabited Fi := ⟨⟨⟨#[]⟩, 0, false, false, 0⟩⟩
theorem fi_eq_iff (a b : Fi) : a = b ↔ a.topic = b.topic ∧ a.qos = b.qos ∧ a.noLocal = b.noLocal ∧ a.asPub = b.asPub ∧ a.handling = b.handling := by cases a; cases b; simp
instance : DecidableEq Fi := fun a b => decidable_of_iff _ (fi_eq_iff a b).symm
def fiC (f : Fi) : List Value := [.string f.topic, .int .i64 f.qos, .bool f.noLocal, .bool f.asPub, .int .i64 f.handling]
def fis (l : List Fi) : List Value := l.flatMap fiC
theorem fiC_len (f : Fi) : (fiC f).length = 5 := rfl
theorem fis_len (l : List Fi) : (fis l).length = l.length * 5 := flat_len fiC_len l
/-- A will; its properties apart. -/
structure Wl where
  topic : ByteArray
  payload : ByteArray
  qos : Int
  retain : Bool
  props : List Pr
theorem wl_eq_iff (a b : Wl) : a = b ↔ a.topic = b.topic ∧ a.payload = b.payload ∧ a.qos = b.qos ∧ a.retain = b.retain ∧ a.props = b.props := by cases a; cases b; simp
instance : DecidableEq Wl := fun a b => decidable_of_iff _ (wl_eq_iff a b).symm
/-- A packet. -/
structure Pk where
  kind : Int
  dup : Bool
  retain : Bool
  qos : Int
  id : Int
  topic : ByteArray
  payload : ByteArray
  clean : Bool
  alive : Int
  client : ByteArray
  hasUser : Bool
  user : ByteArray
  hasPass : Bool
  pass : ByteArray
  hasWill : Bool
  will : Wl
  session : Bool
  code : Int
  codes : List Int
  filters : List Fi
  props : List Pr
theorem pk_eq_iff (a b : Pk) : a = b ↔ a.kind = b.kind ∧ a.dup = b.dup ∧ a.retain = b.retain ∧ a.qos = b.qos ∧ a.id = b.id ∧ a.topic = b.topic ∧ a.payload = b.payload ∧ a.clean = b.clean ∧ a.alive = b.alive ∧ a.client = b.client ∧
    a.hasUser = b.hasUser ∧ a.user = b.user ∧ a.hasPass = b.hasPass ∧ a.pass = b.pass ∧ a.hasWill = b.hasWill ∧ a.will = b.will ∧ a.session = b.session ∧ a.code = b.code ∧ a.codes = b.codes ∧ a.filters = b.filters ∧ a.props = b.props := by cases a; cases b; simp
instance : DecidableEq Pk := fun a b => decidable_of_iff _ (pk_eq_iff a b).symm
/-- Where a slice lies: its address, its capacity. -/
structure Hd where
  a : Option Addr
  c : Nat
/-- Where a packet's slices lie. -/
structure Hs where
  wp : Hd
  codes : Hd
  filters : Hd
  props : Hd
def hd0 : Hd := ⟨none, 0⟩
def hs0 : Hs := ⟨hd0, hd0, hd0, hd0⟩
abbrev WlT : TypeId := 27
abbrev PkT : TypeId := 31
def wlC (x : Wl) (h : Hd) : Array Value := #[.string x.topic, .string x.payload, .int .i64 x.qos, .bool x.retain, .slice h.a x.props.length h.c]
def pkC (p : Pk) (h : Hs) : Array Value := #[.int .i64 p.kind, .bool p.dup, .bool p.retain, .int .i64 p.qos, .int .i64 p.id, .string p.topic, .string p.payload, .bool p.clean, .int .i64 p.alive, .string p.client, .bool p.hasUser, .string p.user, .bool p.hasPass, .string p.pass, .bool p.hasWill,
  .string p.will.topic, .string p.will.payload, .int .i64 p.will.qos, .bool p.will.retain, .slice h.wp.a p.will.props.length h.wp.c, .bool p.session, .int .i64 p.code, .slice h.codes.a p.codes.length h.codes.c, .slice h.filters.a p.filters.length h.filters.c, .slice h.props.a p.props.length h.props.c]
def wlV (x : Wl) (h : Hd) : Value := .agg (wlC x h)
def pkV (p : Pk) (h : Hs) : Value := .agg (pkC p h)
/-- Its slices read, below block B. -/
structure PkIn (w : World) (B : Nat) (p : Pk) (h : Hs) : Prop where
  wp : Rd w B 4 h.wp.a p.will.props.length (prs p.will.props)
  codes : Rd w B 1 h.codes.a p.codes.length (iv p.codes)
  filters : Rd w B 5 h.filters.a p.filters.length (fis p.filters)
  props : Rd w B 4 h.props.a p.props.length (prs p.props)
  caps : p.will.props.length ≤ h.wp.c ∧ p.codes.length ≤ h.codes.c ∧ p.filters.length ≤ h.filters.c ∧ p.props.length ≤ h.props.c
section
variable {w w' : World} {B : Nat} {p : Pk} {h : Hs}
theorem PkIn.below (x : PkIn w B p h) (hb : Below B w w') : PkIn w' B p h := ⟨x.wp.below hb, x.codes.below hb, x.filters.below hb, x.props.below hb, x.caps⟩
theorem PkIn.wider {B' : Nat} (x : PkIn w B p h) (hB : B ≤ B') : PkIn w B' p h := ⟨x.wp.wider hB, x.codes.wider hB, x.filters.wider hB, x.props.wider hB, x.caps⟩
theorem PkIn.next (x : PkIn w w.heap.size p h) (hb : Below w.heap.size w w') : PkIn w' w'.heap.size p h := (x.below hb).wider hb.size
theorem PkIn.drewN (x : PkIn w B p h) (n : Nat) : PkIn (w.drewN n) B p h := ⟨x.wp, x.codes, x.filters, x.props, x.caps⟩
end
theorem Kept.pk {w0 x : World} {p : Pk} {h : Hs} (hk : Kept w0 x) (hp : PkIn w0 w0.heap.size p h) : PkIn x x.heap.size p h := (hp.below hk).wider (Below.size hk)
/-- What a packet's parts are bounded by. -/
structure PkOk (p : Pk) : Prop where
  wp : ∀ q ∈ p.will.props, prGood q
  props : ∀ q ∈ p.props, prGood q
  topics : ∀ f ∈ p.filters, f.topic.size ≤ 140737488351232
  texts : p.topic.size ≤ 140737488351232 ∧ p.payload.size ≤ 140737488351232 ∧ p.client.size ≤ 140737488351232 ∧ p.user.size ≤ 140737488351232 ∧ p.pass.size ≤ 140737488351232 ∧ p.will.topic.size ≤ 140737488351232 ∧ p.will.payload.size ≤ 140737488351232
  lens : p.will.props.length ≤ 140737488351232 ∧ p.codes.length ≤ 140737488351232 ∧ p.filters.length ≤ 140737488351232 ∧ p.props.length ≤ 140737488351232

theorem Rd.atF {w : World} {B : Nat} {A : Option Addr} {l : List Fi} (h : Rd w B 5 A l.length (fis l)) {i : Nat} (hi : i < l.length) : ∃ b o, A = some ⟨b, o, none⟩ ∧ b < B ∧
    w.cell? ⟨b, o + i * 5, none⟩ = some (.string l[i].topic) ∧ w.cell? ⟨b, o + i * 5 + 1, none⟩ = some (.int .i64 l[i].qos) ∧ w.cell? ⟨b, o + i * 5 + 2, none⟩ = some (.bool l[i].noLocal) ∧ w.cell? ⟨b, o + i * 5 + 3, none⟩ = some (.bool l[i].asPub) ∧ w.cell? ⟨b, o + i * 5 + 4, none⟩ = some (.int .i64 l[i].handling) := by
  rcases h.2 with h0 | ⟨b, o, rfl, hb, hc⟩
  · have := fis_len l
    rw [h0] at this
    simp at this
    omega
  · have hat := fun j hj => flat_at fiC_len l i j hi hj
    refine ⟨b, o, rfl, hb, ?_, ?_, ?_, ?_, ?_⟩
    · exact hc (i * 5 + 0) _ (hat 0 (by omega))
    · rw [Nat.add_assoc]; exact hc (i * 5 + 1) _ (hat 1 (by omega))
    · rw [Nat.add_assoc]; exact hc (i * 5 + 2) _ (hat 2 (by omega))
    · rw [Nat.add_assoc]; exact hc (i * 5 + 3) _ (hat 3 (by omega))
    · rw [Nat.add_assoc]; exact hc (i * 5 + 4) _ (hat 4 (by omega))

theorem guard_filter : Try.prog.eqGuardType Try.prog.depth 65 = false := by kernel_rfl
theorem eql_filter (p q : Fi) (w : World) : (binOp .eql 65 (.agg #[.string p.topic, .int .i64 p.qos, .bool p.noLocal, .bool p.asPub, .int .i64 p.handling]) (.agg #[.string q.topic, .int .i64 q.qos, .bool q.noLocal, .bool q.asPub, .int .i64 q.handling])).run Try.prog w = .ok (.bool (decide (p = q))) w := by
  have u1 := Try.underlying3
  have u2 := Try.underlying4
  have u3 := Try.underlying9
  have hS : Try.prog.underlying 65 = some (.struct (Try.prog.fieldsOf 65)) := by kernel_rfl
  have hp : Try.prog.stoodInHeld 65 = false := by kernel_rfl
  rw [run_eql_struct, show (10000 : Nat) = 9999 + 1 from rfl, run_equalIn_agg w 9999 65 _ _ hS hp]
  simp only [Program.fieldsOf, Try.underlying65]
  go_simp
  by_cases h1 : p.topic = q.topic <;> by_cases h2 : p.qos = q.qos <;> by_cases h3 : p.noLocal = q.noLocal <;> by_cases h4 : p.asPub = q.asPub <;> by_cases h5 : p.handling = q.handling <;> simp [fi_eq_iff, h1, h2, h3, h4, h5, toList_inj]
theorem neq_of_eql {P : Program} {t : TypeId} {x y : Array Value} {b : Bool} {w : World} (h : (binOp .eql t (.agg x) (.agg y)).run P w = .ok (.bool b) w) : (binOp .neq t (.agg x) (.agg y)).run P w = .ok (.bool (!b)) w := by
  rw [run_eql_struct] at h
  rw [run_neq_struct]
  generalize (Op.equalIn 10000 _ _ _).run P w = r at h ⊢
  cases r with
  | ok b w' => simp [Result.andThen] at h ⊢; obtain ⟨rfl, rfl⟩ := h; simp
  | halt x w' => simp [Result.andThen] at h
theorem neq_filter (p q : Fi) (w : World) : (binOp .neq 65 (.agg #[.string p.topic, .int .i64 p.qos, .bool p.noLocal, .bool p.asPub, .int .i64 p.handling]) (.agg #[.string q.topic, .int .i64 q.qos, .bool q.noLocal, .bool q.asPub, .int .i64 q.handling])).run Try.prog w = .ok (.bool (!decide (p = q))) w :=
  neq_of_eql (eql_filter p q w)
end Go.Proofs.Ytdpeljnoaiaplaa
