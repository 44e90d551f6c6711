/- A part of what the laws stand on: MPk. -/
import Derived.Test.YtbdgkkmbnahgiaaGreatDoorMsG0MPrp
import Derived.Lib.QuietBelow
import Derived.Deep.MidRow
import Derived.Laws.NewBlocks
namespace Go.Proofs.YtbdgkkmbnahgiaaGreatDoor
open Go.RowKit

/-- A filter. -/
structure Fi where
  topic : ByteArray
  qos : Int
  noLocal : Bool
  asPub : Bool
  handling : Int
instance : Inhabited Fi := ⟨⟨⟨#[]⟩, 0, false, false, 0⟩⟩
theorem fi_eq_iff (a b : Fi) : a = b ↔ a.topic = b.topic ∧ a.qos = b.qos ∧ a.noLocal = b.noLocal ∧ a.asPub = b.asPub ∧ a.handling = b.handling := by cases a; cases b; simp
instance : DecidableEq Fi := fun a b => decidable_of_iff _ (fi_eq_iff a b).symm
def fiC (f : Fi) : List Value := [.string f.topic, .int .i64 f.qos, .bool f.noLocal, .bool f.asPub, .int .i64 f.handling]
def fis (l : List Fi) : List Value := l.flatMap fiC
theorem fiC_len (f : Fi) : (fiC f).length = 5 := rfl
theorem fis_len (l : List Fi) : (fis l).length = l.length * 5 := flat_len fiC_len l
/-- A will; its properties apart. -/
structure Wl where
  topic : ByteArray
  payload : ByteArray
  qos : Int
  retain : Bool
  props : List Pr
theorem wl_eq_iff (a b : Wl) : a = b ↔ a.topic = b.topic ∧ a.payload = b.payload ∧ a.qos = b.qos ∧ a.retain = b.retain ∧ a.props = b.props := by cases a; cases b; simp
instance : DecidableEq Wl := fun a b => decidable_of_iff _ (wl_eq_iff a b).symm
/-- A packet. -/
structure Pk where
  kind : Int
  dup : Bool
  retain : Bool
  qos : Int
  id : Int
  topic : ByteArray
  payload : ByteArray
  clean : Bool
  alive : Int
  client : ByteArray
  hasUser : Bool
  user : ByteArray
  hasPass : Bool
  pass : ByteArray
  hasWill : Bool
  will : Wl
  session : Bool
  code : Int
  codes : List Int
  filters : List Fi
  props : List Pr
theorem pk_eq_iff (a b : Pk) : a = b ↔ a.kind = b.kind ∧ a.dup = b.dup ∧ a.retain = b.retain ∧ a.qos = b.qos ∧ a.id = b.id ∧ a.topic = b.topic ∧ a.payload = b.payload ∧ a.clean = b.clean ∧ a.alive = b.alive ∧ a.client = b.client ∧
    a.hasUser = b.hasUser ∧ a.user = b.user ∧ a.hasPass = b.hasPass ∧ a.pass = b.pass ∧ a.hasWill = b.hasWill ∧ a.will = b.will ∧ a.session = b.session ∧ a.code = b.code ∧ a.codes = b.codes ∧ a.filters = b.filters ∧ a.props = b.props := by cases a; cases b; simp
instance : DecidableEq Pk := fun a b => decidable_of_iff _ (pk_eq_iff a b).symm
/-- Where a slice lies: its address, its capacity. -/
structure Hd where
  a : Option Addr
  c : Nat
/-- Where a packet's slices lie. -/
structure Hs where
  wp : Hd
  codes : Hd
  filters : Hd
  props : Hd
def hd0 : Hd := ⟨none, 0⟩
def hs0 : Hs := ⟨hd0, hd0, hd0, hd0⟩
abbrev WlT : TypeId := 25
abbrev PkT : TypeId := 29
def wlC (x : Wl) (h : Hd) : Array Value := #[.string x.topic, .string x.payload, .int .i64 x.qos, .bool x.retain, .slice h.a x.props.length h.c]
def pkC (p : Pk) (h : Hs) : Array Value := #[.int .i64 p.kind, .bool p.dup, .bool p.retain, .int .i64 p.qos, .int .i64 p.id, .string p.topic, .string p.payload, .bool p.clean, .int .i64 p.alive, .string p.client, .bool p.hasUser, .string p.user, .bool p.hasPass, .string p.pass, .bool p.hasWill,
  .string p.will.topic, .string p.will.payload, .int .i64 p.will.qos, .bool p.will.retain, .slice h.wp.a p.will.props.length h.wp.c, .bool p.session, .int .i64 p.code, .slice h.codes.a p.codes.length h.codes.c, .slice h.filters.a p.filters.length h.filters.c, .slice h.props.a p.props.length h.props.c]
def wlV (x : Wl) (h : Hd) : Value := .agg (wlC x h)
def pkV (p : Pk) (h : Hs) : Value := .agg (pkC p h)
/-- Its slices read, below block B. -/
structure PkIn (w : World) (B : Nat) (p : Pk) (h : Hs) : Prop where
  wp : Rd w B 4 h.wp.a p.will.props.length (prs p.will.props)
  codes : Rd w B 1 h.codes.a p.codes.length (iv p.codes)
  filters : Rd w B 5 h.filters.a p.filters.length (fis p.filters)
  props : Rd w B 4 h.props.a p.props.length (prs p.props)
  caps : p.will.props.length ≤ h.wp.c ∧ p.codes.length ≤ h.codes.c ∧ p.filters.length ≤ h.filters.c ∧ p.props.length ≤ h.props.c
section
variable {w w' : World} {B : Nat} {p : Pk} {h : Hs}
theorem PkIn.below (x : PkIn w B p h) (hb : Below B w w') : PkIn w' B p h := ⟨x.wp.below hb, x.codes.below hb, x.filters.below hb, x.props.below hb, x.caps⟩
theorem PkIn.wider {B' : Nat} (x : PkIn w B p h) (hB : B ≤ B') : PkIn w B' p h := ⟨x.wp.wider hB, x.codes.wider hB, x.filters.wider hB, x.props.wider hB, x.caps⟩
theorem PkIn.next (x : PkIn w w.heap.size p h) (hb : Below w.heap.size w w') : PkIn w' w'.heap.size p h := (x.below hb).wider hb.size
theorem PkIn.drewN (x : PkIn w B p h) (n : Nat) : PkIn (w.drewN n) B p h := ⟨x.wp, x.codes, x.filters, x.props, x.caps⟩
end
theorem Kept.pk {w0 x : World} {p : Pk} {h : Hs} (hk : Kept w0 x) (hp : PkIn w0 w0.heap.size p h) : PkIn x x.heap.size p h := (hp.below hk).wider (Below.size hk)
/-- What a packet's parts are bounded by. -/
structure PkOk (p : Pk) : Prop where
  wp : ∀ q ∈ p.will.props, prGood q
  props : ∀ q ∈ p.props, prGood q
  topics : ∀ f ∈ p.filters, f.topic.size ≤ 140737488351232
  texts : p.topic.size ≤ 140737488351232 ∧ p.payload.size ≤ 140737488351232 ∧ p.client.size ≤ 140737488351232 ∧ p.user.size ≤ 140737488351232 ∧ p.pass.size ≤ 140737488351232 ∧ p.will.topic.size ≤ 140737488351232 ∧ p.will.payload.size ≤ 140737488351232
  lens : p.will.props.length ≤ 140737488351232 ∧ p.codes.length ≤ 140737488351232 ∧ p.filters.length ≤ 140737488351232 ∧ p.props.length ≤ 140737488351232

theorem Rd.atF {w : World} {B : Nat} {A : Option Addr} {l : List Fi} (h : Rd w B 5 A l.length (fis l)) {i : Nat} (hi : i < l.length) : ∃ b o, A = some ⟨b, o, none⟩ ∧ b < B ∧
    w.cell? ⟨b, o + i * 5, none⟩ = some (.string l[i].topic) ∧ w.cell? ⟨b, o + i * 5 + 1, none⟩ = some (.int .i64 l[i].qos) ∧ w.cell? ⟨b, o + i * 5 + 2, none⟩ = some (.bool l[i].noLocal) ∧ w.cell? ⟨b, o + i * 5 + 3, none⟩ = some (.bool l[i].asPub) ∧ w.cell? ⟨b, o + i * 5 + 4, none⟩ = some (.int .i64 l[i].handling) := by
  rcases h.2 with h0 | ⟨b, o, rfl, hb, hc⟩
  · have := fis_len l
    rw [h0] at this
    simp at this
    omega
  · have hat := fun j hj => flat_at fiC_len l i j hi hj
    refine ⟨b, o, rfl, hb, ?_, ?_, ?_, ?_, ?_⟩
    · exact hc (i * 5 + 0) _ (hat 0 (by omega))
    · rw [Nat.add_assoc]; exact hc (i * 5 + 1) _ (hat 1 (by omega))
    · rw [Nat.add_assoc]; exact hc (i * 5 + 2) _ (hat 2 (by omega))
    · rw [Nat.add_assoc]; exact hc (i * 5 + 3) _ (hat 3 (by omega))
    · rw [Nat.add_assoc]; exact hc (i * 5 + 4) _ (hat 4 (by omega))

theorem guard_filter : Tryz.prog.eqGuardType Tryz.prog.depth 32 = false := by kernel_rfl
theorem eql_filter (p q : Fi) (w : World) : (binOp .eql 32 (.agg #[.string p.topic, .int .i64 p.qos, .bool p.noLocal, .bool p.asPub, .int .i64 p.handling]) (.agg #[.string q.topic, .int .i64 q.qos, .bool q.noLocal, .bool q.asPub, .int .i64 q.handling])).run Tryz.prog w = .ok (.bool (decide (p = q))) w := by
  have u1 := Tryz.underlying3
  have u2 := Tryz.underlying4
  have u3 := Tryz.underlying9
  have hS : Tryz.prog.underlying 32 = some (.struct (Tryz.prog.fieldsOf 32)) := by kernel_rfl
  have hp : Tryz.prog.stoodInHeld 32 = false := by kernel_rfl
  rw [run_eql_struct, show (10000 : Nat) = 9999 + 1 from rfl, run_equalIn_agg w 9999 32 _ _ hS hp]
  simp only [Program.fieldsOf, Tryz.underlying32]
  go_simp
  by_cases h1 : p.topic = q.topic <;> by_cases h2 : p.qos = q.qos <;> by_cases h3 : p.noLocal = q.noLocal <;> by_cases h4 : p.asPub = q.asPub <;> by_cases h5 : p.handling = q.handling <;> simp [fi_eq_iff, h1, h2, h3, h4, h5, toList_inj]
theorem neq_of_eql {P : Program} {t : TypeId} {x y : Array Value} {b : Bool} {w : World} (h : (binOp .eql t (.agg x) (.agg y)).run P w = .ok (.bool b) w) : (binOp .neq t (.agg x) (.agg y)).run P w = .ok (.bool (!b)) w := by
  rw [run_eql_struct] at h
  rw [run_neq_struct]
  generalize (Op.equalIn 10000 _ _ _).run P w = r at h ⊢
  cases r with
  | ok b w' => simp [Result.andThen] at h ⊢; obtain ⟨rfl, rfl⟩ := h; simp
  | halt x w' => simp [Result.andThen] at h
theorem neq_filter (p q : Fi) (w : World) : (binOp .neq 32 (.agg #[.string p.topic, .int .i64 p.qos, .bool p.noLocal, .bool p.asPub, .int .i64 p.handling]) (.agg #[.string q.topic, .int .i64 q.qos, .bool q.noLocal, .bool q.asPub, .int .i64 q.handling])).run Tryz.prog w = .ok (.bool (!decide (p = q))) w :=
  neq_of_eql (eql_filter p q w)
end Go.Proofs.YtbdgkkmbnahgiaaGreatDoor

namespace Go.Proofs.YtbdgkkmbnahgiaaGreatDoor
open Go.RowKit
set_option maxHeartbeats 1000000 in
set_option maxRecDepth 10000 in
theorem sameF_any (A A' : Option Addr) (n m c c' : Nat) (l l' : List Fi) (w : World) (e1 : l.length = n) (e2 : l'.length = m) (hl : Rd w w.heap.size 5 A n (fis l)) (hm : Rd w w.heap.size 5 A' m (fis l')) (hn : n ≤ 4611686018427387904) (hn' : m ≤ 4611686018427387904) :
    Calls Tryz.prog 70 #[.slice A n c, .slice A' m c'] w fun e w' => e = .returned (.bool (decide (l = l'))) ∧ Below w.heap.size w w' := by
  have hgt := guard_filter
  by_cases hlen : n = m
  · subst hlen
    have E1 := Lib.hid e1; have E2 := Lib.hid e2; clear e1 e2
    have HL := Lib.hid hl; have HM := Lib.hid hm; clear hl hm
    go_enter Tryz.func70, Tryz.ntmps70
    go_wp2
    go_loopw [5] (fun i wr => ∃ k : Nat, k ≤ n ∧ i = .int .i64 k ∧ (∀ j, j < k → l[j]? = l'[j]?) ∧ Below w.heap.size w wr) (fun i _ => n - (intOf i).toNat)
    case atStart => exact ⟨0, by omega, rfl, fun j hj => by omega, Below.refl _ _⟩
    case round =>
      obtain ⟨k, hk, rfl, hall, hbel⟩ := hrel
      have HA := Lib.hid hall; clear hall
      by_cases hlt : k < n
      · obtain ⟨bA, oA, rfl, hb, c0, c1, c2, c3, c4⟩ := (show Rd w w.heap.size 5 A l.length (fis l) by rw [E1.out]; exact HL.out).below hbel |>.atF (show k < l.length by rw [E1.out]; exact hlt)
        obtain ⟨bA', oA', rfl, hb', d0, d1, d2, d3, d4⟩ := (show Rd w w.heap.size 5 A' l'.length (fis l') by rw [E2.out]; exact HM.out).below hbel |>.atF (show k < l'.length by rw [E2.out]; exact hlt)
        have HZ : Hid (l[k]? = some (l[k]'(by rw [E1.out]; exact hlt))) := Lib.hid (List.getElem?_eq_getElem _)
        have HZ' : Hid (l'[k]? = some (l'[k]'(by rw [E2.out]; exact hlt))) := Lib.hid (List.getElem?_eq_getElem _)
        generalize l[k]'(by rw [E1.out]; exact hlt) = p at *
        generalize l'[k]'(by rw [E2.out]; exact hlt) = q at *
        have b1 : (0 : Int) ≤ (k : Int) := by omega
        have b2 : (k : Int) < (n : Int) := by omega
        have hne := fun W => neq_filter p q W
        by_cases he : p = q
        · subst he
          have hd : decide (p = p) = true := by simp
          rw [hd] at hne
          clear hd
          go_wp2
          go_quiet (fail)
          go_wp2
          go_roundw
          case rel =>
            refine ⟨k + 1, by omega, by go_num, fun j hj => ?_, below_drawn hbel _⟩
            rcases Nat.lt_succ_iff_lt_or_eq.1 hj with h | rfl
            · exact HA.out j h
            · rw [HZ.out, HZ'.out]
          case measure => simp [intOf]; omega
        · have hd : decide (p = q) = false := decide_eq_false he
          rw [hd] at hne
          have HE := Lib.hid he; clear he hd
          go_wp2
          go_quiet (fail)
          go_wp2
          go_ret
          refine ⟨?_, below_drawn hbel _⟩
          have : l ≠ l' := by
            rintro rfl
            have := HZ.out.symm.trans HZ'.out
            exact HE.out (by simpa using this)
          simp [this]
      · go_wp2
        go_ret
        refine ⟨?_, hbel⟩
        have : l = l' := by
          apply List.ext_getElem?
          intro j
          by_cases hj : j < k
          · exact HA.out j hj
          · rw [List.getElem?_eq_none (by have := E1.out; omega), List.getElem?_eq_none (by have := E2.out; omega)]
        simp [this]
  · have h1 : ((n : Int) != (m : Int)) = true := by simpa using (by omega : ¬ (n : Int) = (m : Int))
    have HN := Lib.hid hlen; have E1 := Lib.hid e1; have E2 := Lib.hid e2; clear hlen e1 e2 hl hm
    go_enter Tryz.func70, Tryz.ntmps70
    go_wp2
    go_ret
    refine ⟨?_, Below.refl _ _⟩
    have : l ≠ l' := by
      rintro rfl
      exact HN.out (E1.out.symm.trans E2.out)
    simp [this]

set_option maxHeartbeats 400000 in
set_option maxRecDepth 10000 in
theorem equalP_any (p q : Pr) (w : World) : Calls Tryz.prog 232 #[.agg #[.int .i64 p.id, .int .u32 p.n, .string p.text, .string p.value], .agg #[.int .i64 q.id, .int .u32 q.n, .string q.text, .string q.value]] w fun e w' => e = .returned (.bool (decide (p = q))) ∧ Below w.heap.size w w' := by
  have hgt := guard_prop
  have hne := fun W => eql_prop p q W
  generalize decide (p = q) = b at *
  have HL := Lib.hid (((Below.refl w.heap.size w).alloc (Nat.le_refl _) (.cells #[.int .i64 p.id, .int .u32 p.n, .string p.text, .string p.value] 102)).alloc (by simp) (.cells #[.int .i64 q.id, .int .u32 q.n, .string q.text, .string q.value] 102))
  go_enter Tryz.func232, Tryz.ntmps232
  go_wp2
  go_ret
  exact ⟨rfl, HL.out⟩

set_option maxHeartbeats 400000 in
set_option maxRecDepth 10000 in
theorem equalF_any (p q : Fi) (w : World) : Calls Tryz.prog 230 #[.agg #[.string p.topic, .int .i64 p.qos, .bool p.noLocal, .bool p.asPub, .int .i64 p.handling], .agg #[.string q.topic, .int .i64 q.qos, .bool q.noLocal, .bool q.asPub, .int .i64 q.handling]] w fun e w' => e = .returned (.bool (decide (p = q))) ∧ Below w.heap.size w w' := by
  have hgt := guard_filter
  have hne := fun W => eql_filter p q W
  generalize decide (p = q) = b at *
  have HL := Lib.hid (((Below.refl w.heap.size w).alloc (Nat.le_refl _) (.cells #[.string p.topic, .int .i64 p.qos, .bool p.noLocal, .bool p.asPub, .int .i64 p.handling] 32)).alloc (by simp) (.cells #[.string q.topic, .int .i64 q.qos, .bool q.noLocal, .bool q.asPub, .int .i64 q.handling] 32))
  go_enter Tryz.func230, Tryz.ntmps230
  go_wp2
  go_ret
  exact ⟨rfl, HL.out⟩

set_option maxHeartbeats 400000 in
theorem equalI_any (p q : Int) (w : World) : Calls Tryz.prog 228 #[.int .i64 p, .int .i64 q] w fun e w' => e = .returned (.bool (decide (p = q))) ∧ Below w.heap.size w w' := by
  go_enter Tryz.func228, Tryz.ntmps228
  go_wp2
  go_ret
  refine ⟨?_, Below.refl _ _⟩
  by_cases h : p = q <;> simp [h]

set_option maxHeartbeats 1000000 in
set_option maxRecDepth 10000 in
theorem eqfP_any (A A' : Option Addr) (n m c c' : Nat) (l l' : List Pr) (w : World) (e1 : l.length = n) (e2 : l'.length = m) (hl : Rd w w.heap.size 4 A n (prs l)) (hm : Rd w w.heap.size 4 A' m (prs l')) (hn : n ≤ 4611686018427387904) (hn' : m ≤ 4611686018427387904) :
    Calls Tryz.prog 231 #[.slice A n c, .slice A' m c', .func (.func 232) #[] #[]] w fun e w' => e = .returned (.bool (decide (l = l'))) ∧ Below w.heap.size w w' := by
  by_cases hlen : n = m
  · subst hlen
    have E1 := Lib.hid e1; have E2 := Lib.hid e2; clear e1 e2
    have HL := Lib.hid hl; have HM := Lib.hid hm; clear hl hm
    go_enter Tryz.func231, Tryz.ntmps231
    go_wp2
    go_loopw [17] (fun i wr => ∃ k : Nat, k ≤ n ∧ i = .int .i64 k ∧ (∀ j, j < k → l[j]? = l'[j]?) ∧ Below w.heap.size w wr) (fun i _ => n - (intOf i).toNat)
    case atStart => exact ⟨0, by omega, rfl, fun j hj => by omega, Below.refl _ _⟩
    case round =>
      obtain ⟨k, hk, rfl, hall, hbel⟩ := hrel
      have HA := Lib.hid hall; clear hall
      by_cases hlt : k < n
      · obtain ⟨bA, oA, rfl, hb, c0, c1, c2, c3⟩ := (show Rd w w.heap.size 4 A l.length (prs l) by rw [E1.out]; exact HL.out).below hbel |>.atP (show k < l.length by rw [E1.out]; exact hlt)
        obtain ⟨bA', oA', rfl, hb', d0, d1, d2, d3⟩ := (show Rd w w.heap.size 4 A' l'.length (prs l') by rw [E2.out]; exact HM.out).below hbel |>.atP (show k < l'.length by rw [E2.out]; exact hlt)
        have HZ : Hid (l[k]? = some (l[k]'(by rw [E1.out]; exact hlt))) := Lib.hid (List.getElem?_eq_getElem _)
        have HZ' : Hid (l'[k]? = some (l'[k]'(by rw [E2.out]; exact hlt))) := Lib.hid (List.getElem?_eq_getElem _)
        generalize l[k]'(by rw [E1.out]; exact hlt) = p at *
        generalize l'[k]'(by rw [E2.out]; exact hlt) = q at *
        have b1 : (0 : Int) ≤ (k : Int) := by omega
        have b2 : (k : Int) < (n : Int) := by omega
        have hz := hbel.size
        have hbl : bA < wr.heap.size := by omega
        have hbl' : bA' < wr.heap.size := by omega
        have HB2 := Lib.hid ((hbel.alloc hz (.cells #[.int .i64 p.id, .int .u32 p.n, .string p.text, .string p.value] 102)).alloc (by simp; omega) (.cells #[.int .i64 q.id, .int .u32 q.n, .string q.text, .string q.value] 102))
        go_wp2_with fail
        refine (equalP_any p q _).mono ?_
        rintro e w2 ⟨rfl, hb2⟩
        have HB3 := Lib.hid (HB2.out.trans (hb2.mono HB2.out.size)); clear hb2
        by_cases he : p = q
        · rw [decide_eq_true he]
          have HE := Lib.hid he; clear he
          go_wp2
          go_roundw
          case rel =>
            refine ⟨k + 1, by omega, by go_num, fun j hj => ?_, HB3.out⟩
            rcases Nat.lt_succ_iff_lt_or_eq.1 hj with h | rfl
            · exact HA.out j h
            · rw [HZ.out, HZ'.out]; rw [HE.out]
          case measure => simp [intOf]; omega
        · rw [decide_eq_false he]
          have HE := Lib.hid he; clear he
          go_wp2
          go_ret
          refine ⟨?_, HB3.out⟩
          have : l ≠ l' := by
            rintro rfl
            have := HZ.out.symm.trans HZ'.out
            exact HE.out (by simpa using this)
          simp [this]
      · go_wp2
        go_ret
        refine ⟨?_, hbel⟩
        have : l = l' := by
          apply List.ext_getElem?
          intro j
          by_cases hj : j < k
          · exact HA.out j hj
          · rw [List.getElem?_eq_none (by have := E1.out; omega), List.getElem?_eq_none (by have := E2.out; omega)]
        simp [this]
  · have h1 : ((n : Int) != (m : Int)) = true := by simpa using (by omega : ¬ (n : Int) = (m : Int))
    have HN := Lib.hid hlen; have E1 := Lib.hid e1; have E2 := Lib.hid e2; clear hlen e1 e2 hl hm
    go_enter Tryz.func231, Tryz.ntmps231
    go_wp2
    go_ret
    refine ⟨?_, Below.refl _ _⟩
    have : l ≠ l' := by
      rintro rfl
      exact HN.out (E1.out.symm.trans E2.out)
    simp [this]

set_option maxHeartbeats 1000000 in
set_option maxRecDepth 10000 in
theorem eqfF_any (A A' : Option Addr) (n m c c' : Nat) (l l' : List Fi) (w : World) (e1 : l.length = n) (e2 : l'.length = m) (hl : Rd w w.heap.size 5 A n (fis l)) (hm : Rd w w.heap.size 5 A' m (fis l')) (hn : n ≤ 4611686018427387904) (hn' : m ≤ 4611686018427387904) :
    Calls Tryz.prog 229 #[.slice A n c, .slice A' m c', .func (.func 230) #[] #[]] w fun e w' => e = .returned (.bool (decide (l = l'))) ∧ Below w.heap.size w w' := by
  by_cases hlen : n = m
  · subst hlen
    have E1 := Lib.hid e1; have E2 := Lib.hid e2; clear e1 e2
    have HL := Lib.hid hl; have HM := Lib.hid hm; clear hl hm
    go_enter Tryz.func229, Tryz.ntmps229
    go_wp2
    go_loopw [17] (fun i wr => ∃ k : Nat, k ≤ n ∧ i = .int .i64 k ∧ (∀ j, j < k → l[j]? = l'[j]?) ∧ Below w.heap.size w wr) (fun i _ => n - (intOf i).toNat)
    case atStart => exact ⟨0, by omega, rfl, fun j hj => by omega, Below.refl _ _⟩
    case round =>
      obtain ⟨k, hk, rfl, hall, hbel⟩ := hrel
      have HA := Lib.hid hall; clear hall
      by_cases hlt : k < n
      · obtain ⟨bA, oA, rfl, hb, c0, c1, c2, c3, c4⟩ := (show Rd w w.heap.size 5 A l.length (fis l) by rw [E1.out]; exact HL.out).below hbel |>.atF (show k < l.length by rw [E1.out]; exact hlt)
        obtain ⟨bA', oA', rfl, hb', d0, d1, d2, d3, d4⟩ := (show Rd w w.heap.size 5 A' l'.length (fis l') by rw [E2.out]; exact HM.out).below hbel |>.atF (show k < l'.length by rw [E2.out]; exact hlt)
        have HZ : Hid (l[k]? = some (l[k]'(by rw [E1.out]; exact hlt))) := Lib.hid (List.getElem?_eq_getElem _)
        have HZ' : Hid (l'[k]? = some (l'[k]'(by rw [E2.out]; exact hlt))) := Lib.hid (List.getElem?_eq_getElem _)
        generalize l[k]'(by rw [E1.out]; exact hlt) = p at *
        generalize l'[k]'(by rw [E2.out]; exact hlt) = q at *
        have b1 : (0 : Int) ≤ (k : Int) := by omega
        have b2 : (k : Int) < (n : Int) := by omega
        have hz := hbel.size
        have hbl : bA < wr.heap.size := by omega
        have hbl' : bA' < wr.heap.size := by omega
        have HB2 := Lib.hid ((hbel.alloc hz (.cells #[.string p.topic, .int .i64 p.qos, .bool p.noLocal, .bool p.asPub, .int .i64 p.handling] 32)).alloc (by simp; omega) (.cells #[.string q.topic, .int .i64 q.qos, .bool q.noLocal, .bool q.asPub, .int .i64 q.handling] 32))
        go_wp2_with fail
        refine (equalF_any p q _).mono ?_
        rintro e w2 ⟨rfl, hb2⟩
        have HB3 := Lib.hid (HB2.out.trans (hb2.mono HB2.out.size)); clear hb2
        by_cases he : p = q
        · rw [decide_eq_true he]
          have HE := Lib.hid he; clear he
          go_wp2
          go_roundw
          case rel =>
            refine ⟨k + 1, by omega, by go_num, fun j hj => ?_, HB3.out⟩
            rcases Nat.lt_succ_iff_lt_or_eq.1 hj with h | rfl
            · exact HA.out j h
            · rw [HZ.out, HZ'.out]; rw [HE.out]
          case measure => simp [intOf]; omega
        · rw [decide_eq_false he]
          have HE := Lib.hid he; clear he
          go_wp2
          go_ret
          refine ⟨?_, HB3.out⟩
          have : l ≠ l' := by
            rintro rfl
            have := HZ.out.symm.trans HZ'.out
            exact HE.out (by simpa using this)
          simp [this]
      · go_wp2
        go_ret
        refine ⟨?_, hbel⟩
        have : l = l' := by
          apply List.ext_getElem?
          intro j
          by_cases hj : j < k
          · exact HA.out j hj
          · rw [List.getElem?_eq_none (by have := E1.out; omega), List.getElem?_eq_none (by have := E2.out; omega)]
        simp [this]
  · have h1 : ((n : Int) != (m : Int)) = true := by simpa using (by omega : ¬ (n : Int) = (m : Int))
    have HN := Lib.hid hlen; have E1 := Lib.hid e1; have E2 := Lib.hid e2; clear hlen e1 e2 hl hm
    go_enter Tryz.func229, Tryz.ntmps229
    go_wp2
    go_ret
    refine ⟨?_, Below.refl _ _⟩
    have : l ≠ l' := by
      rintro rfl
      exact HN.out (E1.out.symm.trans E2.out)
    simp [this]

set_option maxHeartbeats 1000000 in
set_option maxRecDepth 10000 in
theorem eqfI_any (A A' : Option Addr) (n m c c' : Nat) (l l' : List Int) (w : World) (e1 : l.length = n) (e2 : l'.length = m) (hl : Rd w w.heap.size 1 A n (iv l)) (hm : Rd w w.heap.size 1 A' m (iv l')) (hn : n ≤ 4611686018427387904) (hn' : m ≤ 4611686018427387904) :
    Calls Tryz.prog 227 #[.slice A n c, .slice A' m c', .func (.func 228) #[] #[]] w fun e w' => e = .returned (.bool (decide (l = l'))) ∧ Below w.heap.size w w' := by
  by_cases hlen : n = m
  · subst hlen
    have E1 := Lib.hid e1; have E2 := Lib.hid e2; clear e1 e2
    have HL := Lib.hid hl; have HM := Lib.hid hm; clear hl hm
    go_enter Tryz.func227, Tryz.ntmps227
    go_wp2
    go_loopw [17] (fun i wr => ∃ k : Nat, k ≤ n ∧ i = .int .i64 k ∧ (∀ j, j < k → l[j]? = l'[j]?) ∧ Below w.heap.size w wr) (fun i _ => n - (intOf i).toNat)
    case atStart => exact ⟨0, by omega, rfl, fun j hj => by omega, Below.refl _ _⟩
    case round =>
      obtain ⟨k, hk, rfl, hall, hbel⟩ := hrel
      have HA := Lib.hid hall; clear hall
      by_cases hlt : k < n
      · obtain ⟨bA, oA, p, rfl, hb, hz1, c0⟩ := (HL.out.below hbel).atI hlt
        obtain ⟨bA', oA', q, rfl, hb', hz2, d0⟩ := (HM.out.below hbel).atI hlt
        have HZ := Lib.hid hz1; have HZ' := Lib.hid hz2; clear hz1 hz2
        have b1 : (0 : Int) ≤ (k : Int) := by omega
        have b2 : (k : Int) < (n : Int) := by omega
        go_wp2_with fail
        refine (equalI_any p q _).mono ?_
        rintro e w2 ⟨rfl, hb2⟩
        have HB3 := Lib.hid (hbel.trans (hb2.mono hbel.size)); clear hb2
        by_cases he : p = q
        · rw [decide_eq_true he]
          have HE := Lib.hid he; clear he
          go_wp2
          go_roundw
          case rel =>
            refine ⟨k + 1, by omega, by go_num, fun j hj => ?_, HB3.out⟩
            rcases Nat.lt_succ_iff_lt_or_eq.1 hj with h | rfl
            · exact HA.out j h
            · rw [HZ.out, HZ'.out]; rw [HE.out]
          case measure => simp [intOf]; omega
        · rw [decide_eq_false he]
          have HE := Lib.hid he; clear he
          go_wp2
          go_ret
          refine ⟨?_, HB3.out⟩
          have : l ≠ l' := by
            rintro rfl
            have := HZ.out.symm.trans HZ'.out
            exact HE.out (by simpa using this)
          simp [this]
      · go_wp2
        go_ret
        refine ⟨?_, hbel⟩
        have : l = l' := by
          apply List.ext_getElem?
          intro j
          by_cases hj : j < k
          · exact HA.out j hj
          · rw [List.getElem?_eq_none (by have := E1.out; omega), List.getElem?_eq_none (by have := E2.out; omega)]
        simp [this]
  · have h1 : ((n : Int) != (m : Int)) = true := by simpa using (by omega : ¬ (n : Int) = (m : Int))
    have HN := Lib.hid hlen; have E1 := Lib.hid e1; have E2 := Lib.hid e2; clear hlen e1 e2 hl hm
    go_enter Tryz.func227, Tryz.ntmps227
    go_wp2
    go_ret
    refine ⟨?_, Below.refl _ _⟩
    have : l ≠ l' := by
      rintro rfl
      exact HN.out (E1.out.symm.trans E2.out)
    simp [this]

set_option maxHeartbeats 1000000 in
set_option maxRecDepth 10000 in
theorem listI_any (A A' : Option Addr) (n m c c' : Nat) (l l' : List Int) (w : World) (e1 : l.length = n) (e2 : l'.length = m) (hl : Rd w w.heap.size 1 A n (iv l)) (hm : Rd w w.heap.size 1 A' m (iv l')) (hn : n ≤ 4611686018427387904) (hn' : m ≤ 4611686018427387904) :
    Calls Tryz.prog 169 #[.slice A n c, .slice A' m c'] w fun e w' => e = .returned (.bool (decide (l = l'))) ∧ Below w.heap.size w w' := by
  have H := Lib.hid (eqfI_any A A' n m c c' l l' w e1 e2 hl hm hn hn')
  clear e1 e2 hl hm
  go_enter Tryz.func169, Tryz.ntmps169
  go_wp2_with fail
  refine H.out.mono ?_
  rintro e w2 ⟨rfl, hb2⟩
  go_wp2
  go_ret
  exact ⟨rfl, hb2⟩

set_option maxHeartbeats 1000000 in
set_option maxRecDepth 10000 in
theorem listF_any (A A' : Option Addr) (n m c c' : Nat) (l l' : List Fi) (w : World) (e1 : l.length = n) (e2 : l'.length = m) (hl : Rd w w.heap.size 5 A n (fis l)) (hm : Rd w w.heap.size 5 A' m (fis l')) (hn : n ≤ 4611686018427387904) (hn' : m ≤ 4611686018427387904) :
    Calls Tryz.prog 170 #[.slice A n c, .slice A' m c'] w fun e w' => e = .returned (.bool (decide (l = l'))) ∧ Below w.heap.size w w' := by
  have H := Lib.hid (eqfF_any A A' n m c c' l l' w e1 e2 hl hm hn hn')
  clear e1 e2 hl hm
  go_enter Tryz.func170, Tryz.ntmps170
  go_wp2_with fail
  refine H.out.mono ?_
  rintro e w2 ⟨rfl, hb2⟩
  go_wp2
  go_ret
  exact ⟨rfl, hb2⟩

set_option maxHeartbeats 1000000 in
set_option maxRecDepth 10000 in
theorem listP_any (A A' : Option Addr) (n m c c' : Nat) (l l' : List Pr) (w : World) (e1 : l.length = n) (e2 : l'.length = m) (hl : Rd w w.heap.size 4 A n (prs l)) (hm : Rd w w.heap.size 4 A' m (prs l')) (hn : n ≤ 4611686018427387904) (hn' : m ≤ 4611686018427387904) :
    Calls Tryz.prog 171 #[.slice A n c, .slice A' m c'] w fun e w' => e = .returned (.bool (decide (l = l'))) ∧ Below w.heap.size w w' := by
  have H := Lib.hid (eqfP_any A A' n m c c' l l' w e1 e2 hl hm hn hn')
  clear e1 e2 hl hm
  go_enter Tryz.func171, Tryz.ntmps171
  go_wp2_with fail
  refine H.out.mono ?_
  rintro e w2 ⟨rfl, hb2⟩
  go_wp2
  go_ret
  exact ⟨rfl, hb2⟩

end Go.Proofs.YtbdgkkmbnahgiaaGreatDoor

namespace Go.Proofs.YtbdgkkmbnahgiaaGreatDoor
open Go.RowKit

/-- What head.strip gives of a packet. -/
def bareC (p : Pk) : Array Value := #[.int .i64 p.kind, .int .i64 p.qos, .int .i64 p.id, .int .i64 p.alive, .int .i64 p.code, .bool p.dup, .bool p.retain, .bool p.clean, .bool p.hasUser, .bool p.hasPass, .bool p.hasWill, .bool p.session, .string p.topic, .string p.payload, .string p.client, .string p.user, .string p.pass]
def bareB (a b : Pk) : Bool := decide (a.kind = b.kind ∧ a.qos = b.qos ∧ a.id = b.id ∧ a.alive = b.alive ∧ a.code = b.code ∧ a.dup = b.dup ∧ a.retain = b.retain ∧ a.clean = b.clean ∧ a.hasUser = b.hasUser ∧ a.hasPass = b.hasPass ∧ a.hasWill = b.hasWill ∧ a.session = b.session ∧
  a.topic = b.topic ∧ a.payload = b.payload ∧ a.client = b.client ∧ a.user = b.user ∧ a.pass = b.pass)
theorem same_iff (a b : Pk) : a = b ↔ bareB a b = true ∧ a.will = b.will ∧ a.codes = b.codes ∧ a.filters = b.filters ∧ a.props = b.props := by
  rw [pk_eq_iff]
  unfold bareB
  rw [decide_eq_true_iff]
  constructor
  · rintro ⟨h1, h2, h3, h4, h5, h6, h7, h8, h9, h10, h11, h12, h13, h14, h15, h16, h17, h18, h19, h20, h21⟩
    exact ⟨⟨h1, h4, h5, h9, h18, h2, h3, h8, h11, h13, h15, h17, h6, h7, h10, h12, h14⟩, h16, h19, h20, h21⟩
  · rintro ⟨⟨h1, h4, h5, h9, h18, h2, h3, h8, h11, h13, h15, h17, h6, h7, h10, h12, h14⟩, h16, h19, h20, h21⟩
    exact ⟨h1, h2, h3, h4, h5, h6, h7, h8, h9, h10, h11, h12, h13, h14, h15, h16, h17, h18, h19, h20, h21⟩
theorem guard_bare : Tryz.prog.eqGuardType Tryz.prog.depth 187 = false := by kernel_rfl

set_option maxHeartbeats 1000000 in
set_option maxRecDepth 100000 in
theorem strip_any (p : Pk) (h : Hs) (w : World) : Calls Tryz.prog 167 #[pkV p h] w fun e w' => e = .returned (.agg (bareC p)) ∧ Below w.heap.size w w' := by
  have HL := Lib.hid ((Below.refl w.heap.size w).alloc (Nat.le_refl _) (.cells (pkC p h) PkT))
  simp only [pkV, pkC]
  go_enter Tryz.func167, Tryz.ntmps167
  go_wp2
  exact bodyPost_ret (v := .agg (bareC p)) (by simp [results, Tryz.results167, go_sem, bareC]) rfl ⟨rfl, HL.out.alloc (by simp) _⟩

end Go.Proofs.YtbdgkkmbnahgiaaGreatDoor

namespace Go.Proofs.YtbdgkkmbnahgiaaGreatDoor
open Go.RowKit

theorem ret_bool {a b : Bool} (h : a = b) : Ending.returned (.bool a) = .returned (.bool b) := by rw [h]
theorem below_two (w : World) (a b : Obj) : Below w.heap.size w ((w.alloc a).alloc b) := ((Below.refl _ _).alloc (Nat.le_refl _) a).alloc (by simp) b
theorem below_two_then {w w' : World} {a b : Obj} (h : Below ((w.alloc a).alloc b).heap.size ((w.alloc a).alloc b) w') : Below w.heap.size w w' := (below_two w a b).trans (h.mono (below_two w a b).size)
theorem Rd.two {w : World} {k n : Nat} {A : Option Addr} {xs : List Value} (h : Rd w w.heap.size k A n xs) (a b : Obj) : Rd ((w.alloc a).alloc b) ((w.alloc a).alloc b).heap.size k A n xs := (h.below (below_two w a b)).wider (below_two w a b).size

set_option maxHeartbeats 1000000 in
set_option maxRecDepth 10000 in
theorem sameWill_any (x y : Wl) (hx hy : Hd) (w : World) (rx : Rd w w.heap.size 4 hx.a x.props.length (prs x.props)) (ry : Rd w w.heap.size 4 hy.a y.props.length (prs y.props)) (lx : x.props.length ≤ 4611686018427387904) (ly : y.props.length ≤ 4611686018427387904) :
    Calls Tryz.prog 168 #[wlV x hx, wlV y hy] w fun e w' => e = .returned (.bool (decide (x = y))) ∧ Below w.heap.size w w' := by
  obtain ⟨t, l, q, r, ps⟩ := x
  obtain ⟨t', l', q', r', ps'⟩ := y
  simp only at rx ry lx ly
  simp only [wlV, wlC]
  have RX := Lib.hid rx; have RY := Lib.hid ry; clear rx ry
  go_enter Tryz.func168, Tryz.ntmps168
  go_wp2_with (first | (refine (listP_any _ _ _ _ _ _ ps ps' _ rfl rfl (RX.out.two _ _) (RY.out.two _ _) lx ly).mono ?_; rintro e w2 ⟨rfl, hb2⟩))
  all_goals
    go_ret
    refine ⟨ret_bool (by simp_all [wl_eq_iff, toList_inj]), ?_⟩
    first | exact below_two_then hb2 | exact below_two _ _ _
end Go.Proofs.YtbdgkkmbnahgiaaGreatDoor

namespace Go.Proofs.YtbdgkkmbnahgiaaGreatDoor
open Go.RowKit

def ldPk (v : Value) : Sem Value := Instr.loadAt PkT v
def bxPk (v : Value) : Sem Value := Instr.box PkT v
theorem to_ldPk (v : Value) : Instr.loadAt PkT v = ldPk v := rfl
theorem to_bxPk (v : Value) : Instr.box PkT v = bxPk v := rfl
theorem pkC_size (p : Pk) (h : Hs) : (pkC p h).size = 25 := rfl
theorem run_bxPk (p : Pk) (h : Hs) (w : World) : (bxPk (pkV p h)).run Tryz.prog w = .ok (.pointer (some ⟨w.heap.size, 0, none⟩)) (w.alloc (.cells (pkC p h) PkT)) := rfl
theorem run_bxPk_agg (cs : Array Value) (w : World) : (bxPk (.agg cs)).run Tryz.prog w = .ok (.pointer (some ⟨w.heap.size, 0, none⟩)) (w.alloc (.cells cs PkT)) := rfl
theorem info_pk : (Tryz.prog.info? PkT).map (·.size) = some 25 := by kernel_rfl
/-- A block that holds a packet, loaded whole. -/
theorem ld_bk {w : World} {g : Nat} {p : Pk} {h : Hs} (hb : Bk w g PkT (pkC p h)) : (ldPk (.pointer (some ⟨g, 0, none⟩))).run Tryz.prog w = .ok (pkV p h) w := by
  unfold ldPk
  have hc : w.rangeAt g 0 (pkC p h).toList := fun j v hv => by
    rw [Nat.zero_add, hb.cell]
    simpa using hv
  exact run_loadAt_mid w g 0 PkT (pkC p h).toList _ hc Tryz.underlying29 rfl (by rw [Array.length_toList, pkC_size]; exact info_pk)
theorem ld_fresh (p : Pk) (h : Hs) (w : World) : (ldPk (.pointer (some ⟨w.heap.size, 0, none⟩))).run Tryz.prog (w.alloc (.cells (pkC p h) PkT)) = .ok (pkV p h) (w.alloc (.cells (pkC p h) PkT)) := ld_bk (Bk.fresh w PkT (pkC p h))
theorem pkC_0 (p : Pk) (h : Hs) : (pkC p h)[0]? = some (.int .i64 p.kind) := rfl
theorem pkC_1 (p : Pk) (h : Hs) : (pkC p h)[1]? = some (.bool p.dup) := rfl
theorem pkC_2 (p : Pk) (h : Hs) : (pkC p h)[2]? = some (.bool p.retain) := rfl
theorem pkC_3 (p : Pk) (h : Hs) : (pkC p h)[3]? = some (.int .i64 p.qos) := rfl
theorem pkC_4 (p : Pk) (h : Hs) : (pkC p h)[4]? = some (.int .i64 p.id) := rfl
theorem pkC_5 (p : Pk) (h : Hs) : (pkC p h)[5]? = some (.string p.topic) := rfl
theorem pkC_6 (p : Pk) (h : Hs) : (pkC p h)[6]? = some (.string p.payload) := rfl
theorem pkC_7 (p : Pk) (h : Hs) : (pkC p h)[7]? = some (.bool p.clean) := rfl
theorem pkC_8 (p : Pk) (h : Hs) : (pkC p h)[8]? = some (.int .i64 p.alive) := rfl
theorem pkC_9 (p : Pk) (h : Hs) : (pkC p h)[9]? = some (.string p.client) := rfl
theorem pkC_10 (p : Pk) (h : Hs) : (pkC p h)[10]? = some (.bool p.hasUser) := rfl
theorem pkC_11 (p : Pk) (h : Hs) : (pkC p h)[11]? = some (.string p.user) := rfl
theorem pkC_12 (p : Pk) (h : Hs) : (pkC p h)[12]? = some (.bool p.hasPass) := rfl
theorem pkC_13 (p : Pk) (h : Hs) : (pkC p h)[13]? = some (.string p.pass) := rfl
theorem pkC_14 (p : Pk) (h : Hs) : (pkC p h)[14]? = some (.bool p.hasWill) := rfl
theorem pkC_15 (p : Pk) (h : Hs) : (pkC p h)[15]? = some (.string p.will.topic) := rfl
theorem pkC_16 (p : Pk) (h : Hs) : (pkC p h)[16]? = some (.string p.will.payload) := rfl
theorem pkC_17 (p : Pk) (h : Hs) : (pkC p h)[17]? = some (.int .i64 p.will.qos) := rfl
theorem pkC_18 (p : Pk) (h : Hs) : (pkC p h)[18]? = some (.bool p.will.retain) := rfl
theorem pkC_19 (p : Pk) (h : Hs) : (pkC p h)[19]? = some (.slice h.wp.a p.will.props.length h.wp.c) := rfl
theorem pkC_20 (p : Pk) (h : Hs) : (pkC p h)[20]? = some (.bool p.session) := rfl
theorem pkC_21 (p : Pk) (h : Hs) : (pkC p h)[21]? = some (.int .i64 p.code) := rfl
theorem pkC_22 (p : Pk) (h : Hs) : (pkC p h)[22]? = some (.slice h.codes.a p.codes.length h.codes.c) := rfl
theorem pkC_23 (p : Pk) (h : Hs) : (pkC p h)[23]? = some (.slice h.filters.a p.filters.length h.filters.c) := rfl
theorem pkC_24 (p : Pk) (h : Hs) : (pkC p h)[24]? = some (.slice h.props.a p.props.length h.props.c) := rfl
/-- A block that is known, in every world of the class. -/
theorem bk_regrown {W : World} {g : Nat} {t : TypeId} {cs : Array Value} (h : Bk W g t cs) : ∀ (d : Nat) (os : Array Obj) (i : Nat), (Sort.grow (redrawn W d) os).cell? ⟨g, i, none⟩ = cs[i]? := fun d os i => (h.below (below_regrown W d os) h.lt).cell i
theorem ld_regrown {W : World} {g : Nat} {p : Pk} {h : Hs} (hb : Bk W g PkT (pkC p h)) : ∀ (d : Nat) (os : Array Obj), (ldPk (.pointer (some ⟨g, 0, none⟩))).run Tryz.prog (Sort.grow (redrawn W d) os) = .ok (pkV p h) (Sort.grow (redrawn W d) os) := fun d os => ld_bk (hb.below (below_regrown W d os) hb.lt)
/-- A contract that makes memory, in every world of the class. -/
theorem regrown {P : Program} {f : FuncId} {args : Array Value} {v : Value} {W : World} (h : ∀ x, Below W.heap.size W x → Calls P f args x fun e w' => e = .returned v ∧ Below x.heap.size x w') :
    ∀ (d : Nat) (os : Array Obj), Calls P f args (Sort.grow (redrawn W d) os) fun e w'' => e = .returned v ∧ ∃ p : Regrown, w'' = Sort.grow (redrawn W p.d) p.os := fun d os => Calls.regrown_of (h _ (below_regrown W d os))
end Go.Proofs.YtbdgkkmbnahgiaaGreatDoor

namespace Go.Proofs.YtbdgkkmbnahgiaaGreatDoor
open Go.RowKit
attribute [local go_sem ↓] to_ldPk to_bxPk
attribute [local go_sem] run_bxPk run_bxPk_agg pkC_0 pkC_1 pkC_2 pkC_3 pkC_4 pkC_5 pkC_6 pkC_7 pkC_8 pkC_9 pkC_10 pkC_11 pkC_12 pkC_13 pkC_14 pkC_15 pkC_16 pkC_17 pkC_18 pkC_19 pkC_20 pkC_21 pkC_22 pkC_23 pkC_24

theorem eql_bare (a b : Pk) (w : World) : (binOp .eql 187 (.agg (bareC a)) (.agg (bareC b))).run Tryz.prog w = .ok (.bool (bareB a b)) w := by
  have u1 := Tryz.underlying3
  have u2 := Tryz.underlying4
  have u3 := Tryz.underlying9
  have hS : Tryz.prog.underlying 187 = some (.struct (Tryz.prog.fieldsOf 187)) := by kernel_rfl
  have hp : Tryz.prog.stoodInHeld 187 = false := by kernel_rfl
  rw [run_eql_struct, show (10000 : Nat) = 9999 + 1 from rfl, run_equalIn_agg w 9999 187 _ _ hS hp]
  simp only [Program.fieldsOf, Tryz.underlying187]
  unfold bareC bareB
  go_simp
  simp only [toList_inj]
  by_cases h0 : a.kind = b.kind
  · rw [if_pos h0, decide_eq_true h0, Bool.true_and]
    by_cases h1 : a.qos = b.qos
    · rw [if_pos h1, decide_eq_true h1, Bool.true_and]
      by_cases h2 : a.id = b.id
      · rw [if_pos h2, decide_eq_true h2, Bool.true_and]
        by_cases h3 : a.alive = b.alive
        · rw [if_pos h3, decide_eq_true h3, Bool.true_and]
          by_cases h4 : a.code = b.code
          · rw [if_pos h4, decide_eq_true h4, Bool.true_and]
            by_cases h5 : a.dup = b.dup
            · rw [if_pos h5, decide_eq_true h5, Bool.true_and]
              by_cases h6 : a.retain = b.retain
              · rw [if_pos h6, decide_eq_true h6, Bool.true_and]
                by_cases h7 : a.clean = b.clean
                · rw [if_pos h7, decide_eq_true h7, Bool.true_and]
                  by_cases h8 : a.hasUser = b.hasUser
                  · rw [if_pos h8, decide_eq_true h8, Bool.true_and]
                    by_cases h9 : a.hasPass = b.hasPass
                    · rw [if_pos h9, decide_eq_true h9, Bool.true_and]
                      by_cases h10 : a.hasWill = b.hasWill
                      · rw [if_pos h10, decide_eq_true h10, Bool.true_and]
                        by_cases h11 : a.session = b.session
                        · rw [if_pos h11, decide_eq_true h11, Bool.true_and]
                          by_cases h12 : a.topic = b.topic
                          · rw [if_pos h12, decide_eq_true h12, Bool.true_and]
                            by_cases h13 : a.payload = b.payload
                            · rw [if_pos h13, decide_eq_true h13, Bool.true_and]
                              by_cases h14 : a.client = b.client
                              · rw [if_pos h14, decide_eq_true h14, Bool.true_and]
                                by_cases h15 : a.user = b.user
                                · rw [if_pos h15, decide_eq_true h15, Bool.true_and]
                                  by_cases h16 : a.pass = b.pass
                                  · rw [if_pos h16, decide_eq_true h16]
                                  · rw [if_neg h16, decide_eq_false h16]
                                · rw [if_neg h15, decide_eq_false h15, Bool.false_and]
                              · rw [if_neg h14, decide_eq_false h14, Bool.false_and]
                            · rw [if_neg h13, decide_eq_false h13, Bool.false_and]
                          · rw [if_neg h12, decide_eq_false h12, Bool.false_and]
                        · rw [if_neg h11, decide_eq_false h11, Bool.false_and]
                      · rw [if_neg h10, decide_eq_false h10, Bool.false_and]
                    · rw [if_neg h9, decide_eq_false h9, Bool.false_and]
                  · rw [if_neg h8, decide_eq_false h8, Bool.false_and]
                · rw [if_neg h7, decide_eq_false h7, Bool.false_and]
              · rw [if_neg h6, decide_eq_false h6, Bool.false_and]
            · rw [if_neg h5, decide_eq_false h5, Bool.false_and]
          · rw [if_neg h4, decide_eq_false h4, Bool.false_and]
        · rw [if_neg h3, decide_eq_false h3, Bool.false_and]
      · rw [if_neg h2, decide_eq_false h2, Bool.false_and]
    · rw [if_neg h1, decide_eq_false h1, Bool.false_and]
  · rw [if_neg h0, decide_eq_false h0, Bool.false_and]

/-- A packet's lists' lengths. -/
def PkLen (p : Pk) : Prop := p.will.props.length ≤ 4611686018427387904 ∧ p.codes.length ≤ 4611686018427387904 ∧ p.filters.length ≤ 4611686018427387904 ∧ p.props.length ≤ 4611686018427387904
set_option maxHeartbeats 4000000 in
set_option maxRecDepth 100000 in
theorem same_any (p q : Pk) (h k : Hs) (w : World) (ip : PkIn w w.heap.size p h) (iq : PkIn w w.heap.size q k) (lp : PkLen p) (lq : PkLen q) :
    Calls Tryz.prog 117 #[pkV p h, pkV q k] w fun e w' => e = .returned (.bool (decide (p = q))) ∧ Below w.heap.size w w' := by
  have hb2 := below_two w (.cells (pkC p h) PkT) (.cells (pkC q k) PkT)
  have B1 : Bk ((w.alloc (.cells (pkC p h) PkT)).alloc (.cells (pkC q k) PkT)) w.heap.size PkT (pkC p h) := (Bk.fresh w PkT (pkC p h)).alloc _
  have B2 : Bk ((w.alloc (.cells (pkC p h) PkT)).alloc (.cells (pkC q k) PkT)) (w.heap.size + 1) PkT (pkC q k) := by
    simpa using Bk.fresh (w.alloc (.cells (pkC p h) PkT)) PkT (pkC q k)
  have ip2 := ip.next hb2
  have iq2 := iq.next hb2
  have c1 := regrown (W := (w.alloc (.cells (pkC p h) PkT)).alloc (.cells (pkC q k) PkT)) (fun x _ => strip_any p h x)
  have c2 := regrown (W := (w.alloc (.cells (pkC p h) PkT)).alloc (.cells (pkC q k) PkT)) (fun x _ => strip_any q k x)
  have c3 := regrown (W := (w.alloc (.cells (pkC p h) PkT)).alloc (.cells (pkC q k) PkT)) (fun x hx => sameWill_any p.will q.will h.wp k.wp x ((ip2.next hx).wp) ((iq2.next hx).wp) lp.1 lq.1)
  have c4 := regrown (W := (w.alloc (.cells (pkC p h) PkT)).alloc (.cells (pkC q k) PkT)) (fun x hx => listI_any h.codes.a k.codes.a p.codes.length q.codes.length h.codes.c k.codes.c p.codes q.codes x rfl rfl ((ip2.next hx).codes) ((iq2.next hx).codes) lp.2.1 lq.2.1)
  have c5 := regrown (W := (w.alloc (.cells (pkC p h) PkT)).alloc (.cells (pkC q k) PkT)) (fun x hx => listF_any h.filters.a k.filters.a p.filters.length q.filters.length h.filters.c k.filters.c p.filters q.filters x rfl rfl ((ip2.next hx).filters) ((iq2.next hx).filters) lp.2.2.1 lq.2.2.1)
  have c6 := regrown (W := (w.alloc (.cells (pkC p h) PkT)).alloc (.cells (pkC q k) PkT)) (fun x hx => listP_any h.props.a k.props.a p.props.length q.props.length h.props.c k.props.c p.props q.props x rfl rfl ((ip2.next hx).props) ((iq2.next hx).props) lp.2.2.2 lq.2.2.2)
  simp only [wlV, wlC] at c3
  have k1 := bk_regrown B1
  have k2 := bk_regrown B2
  have l1 := ld_regrown B1
  have l2 := ld_regrown B2
  have he := fun W => eql_bare p q W
  have hgt := guard_bare
  have HBQ := Lib.hid (fun d os => hb2.trans ((below_regrown ((w.alloc (.cells (pkC p h) PkT)).alloc (.cells (pkC q k) PkT)) d os).mono hb2.size))
  have HSI := Lib.hid (same_iff p q)
  have HAB := Lib.hid (And.intro c1 (And.intro c2 (And.intro c3 (And.intro c4 (And.intro c5 c6)))))
  clear B1 B2 ip iq ip2 iq2 hb2 lp lq c1 c2 c3 c4 c5 c6
  cases hb : bareB p q
  · have HF : Hid (decide (p = q) = false) := Lib.hid (decide_eq_false (fun x => by have := (HSI.out.1 x).1; rw [hb] at this; cases this))
    rw [hb] at he
    obtain ⟨c1, c2, -⟩ := HAB.out
    clear hb
    go_enter Tryz.func117, Tryz.ntmps117
    go_wp2_with fail
    refine wp_region_quiet_below (by as_aux_lemma => kernel_rfl) (by as_aux_lemma => kernel_rfl) ?_
    repeat (go_big_quiet_step (first | with_reducible exact c1 _ _ | with_reducible exact c2 _ _))
    refine wpQuiet_nil ?_
    intro _ hw'
    obtain ⟨⟨dq, osq⟩, hw''⟩ := hw'
    subst hw''
    have KF := Lib.hid (HBQ.out dq osq)
    clear k1 k2 l1 l2 he c1 c2 HBQ HAB
    generalize Sort.grow (redrawn _ dq) osq = wq at *
    go_wp2
    go_ret
    exact ⟨by rw [HF.out]; rfl, KF.out⟩
  · rw [hb] at he
    by_cases e0 : p.will = q.will
    rotate_left
    · have HF : Hid (decide (p = q) = false) := Lib.hid (decide_eq_false (fun x => e0 (by rw [x])))
      obtain ⟨c1, c2, c3, -⟩ := HAB.out
      rw [decide_eq_false e0] at c3
      clear hb e0
      go_enter Tryz.func117, Tryz.ntmps117
      go_wp2_with fail
      refine wp_region_quiet_below (by as_aux_lemma => kernel_rfl) (by as_aux_lemma => kernel_rfl) ?_
      repeat (go_big_quiet_step (first | with_reducible exact c1 _ _ | with_reducible exact c2 _ _ | with_reducible exact c3 _ _))
      refine wpQuiet_nil ?_
      intro _ hw'
      obtain ⟨⟨dq, osq⟩, hw''⟩ := hw'
      subst hw''
      have KF := Lib.hid (HBQ.out dq osq)
      clear k1 k2 l1 l2 he c1 c2 c3 HBQ HAB
      generalize Sort.grow (redrawn _ dq) osq = wq at *
      go_wp2
      go_ret
      exact ⟨by rw [HF.out]; rfl, KF.out⟩
    by_cases e1 : p.codes = q.codes
    rotate_left
    · have HF : Hid (decide (p = q) = false) := Lib.hid (decide_eq_false (fun x => e1 (by rw [x])))
      obtain ⟨c1, c2, c3, c4, -⟩ := HAB.out
      rw [decide_eq_true e0] at c3
      rw [decide_eq_false e1] at c4
      clear hb e0 e1
      go_enter Tryz.func117, Tryz.ntmps117
      go_wp2_with fail
      refine wp_region_quiet_below (by as_aux_lemma => kernel_rfl) (by as_aux_lemma => kernel_rfl) ?_
      repeat (go_big_quiet_step (first | with_reducible exact c1 _ _ | with_reducible exact c2 _ _ | with_reducible exact c3 _ _ | with_reducible exact c4 _ _))
      refine wpQuiet_nil ?_
      intro _ hw'
      obtain ⟨⟨dq, osq⟩, hw''⟩ := hw'
      subst hw''
      have KF := Lib.hid (HBQ.out dq osq)
      clear k1 k2 l1 l2 he c1 c2 c3 c4 HBQ HAB
      generalize Sort.grow (redrawn _ dq) osq = wq at *
      go_wp2
      go_ret
      exact ⟨by rw [HF.out]; rfl, KF.out⟩
    by_cases e2 : p.filters = q.filters
    rotate_left
    · have HF : Hid (decide (p = q) = false) := Lib.hid (decide_eq_false (fun x => e2 (by rw [x])))
      obtain ⟨c1, c2, c3, c4, c5, -⟩ := HAB.out
      rw [decide_eq_true e0] at c3
      rw [decide_eq_true e1] at c4
      rw [decide_eq_false e2] at c5
      clear hb e0 e1 e2
      go_enter Tryz.func117, Tryz.ntmps117
      go_wp2_with fail
      refine wp_region_quiet_below (by as_aux_lemma => kernel_rfl) (by as_aux_lemma => kernel_rfl) ?_
      repeat (go_big_quiet_step (first | with_reducible exact c1 _ _ | with_reducible exact c2 _ _ | with_reducible exact c3 _ _ | with_reducible exact c4 _ _ | with_reducible exact c5 _ _))
      refine wpQuiet_nil ?_
      intro _ hw'
      obtain ⟨⟨dq, osq⟩, hw''⟩ := hw'
      subst hw''
      have KF := Lib.hid (HBQ.out dq osq)
      clear k1 k2 l1 l2 he c1 c2 c3 c4 c5 HBQ HAB
      generalize Sort.grow (redrawn _ dq) osq = wq at *
      go_wp2
      go_ret
      exact ⟨by rw [HF.out]; rfl, KF.out⟩
    have HF : Hid (decide (p = q) = decide (p.props = q.props)) := Lib.hid (by rw [Bool.eq_iff_iff, decide_eq_true_iff, decide_eq_true_iff, HSI.out]; exact ⟨fun x => x.2.2.2.2, fun x => ⟨hb, e0, e1, e2, x⟩⟩)
    obtain ⟨c1, c2, c3, c4, c5, c6⟩ := HAB.out
    rw [decide_eq_true e0] at c3
    rw [decide_eq_true e1] at c4
    rw [decide_eq_true e2] at c5
    clear hb e0 e1 e2
    generalize decide (p.props = q.props) = b6 at *
    go_enter Tryz.func117, Tryz.ntmps117
    go_wp2_with fail
    refine wp_region_quiet_below (by as_aux_lemma => kernel_rfl) (by as_aux_lemma => kernel_rfl) ?_
    repeat (go_big_quiet_step (first | with_reducible exact c1 _ _ | with_reducible exact c2 _ _ | with_reducible exact c3 _ _ | with_reducible exact c4 _ _ | with_reducible exact c5 _ _ | with_reducible exact c6 _ _))
    refine wpQuiet_nil ?_
    intro _ hw'
    obtain ⟨⟨dq, osq⟩, hw''⟩ := hw'
    subst hw''
    have KF := Lib.hid (HBQ.out dq osq)
    clear k1 k2 l1 l2 he c1 c2 c3 c4 c5 c6 HBQ HAB
    generalize Sort.grow (redrawn _ dq) osq = wq at *
    go_wp2
    go_ret
    exact ⟨by rw [HF.out]; rfl, KF.out⟩
end Go.Proofs.YtbdgkkmbnahgiaaGreatDoor

namespace Go.Proofs.YtbdgkkmbnahgiaaGreatDoor
open Go.RowKit

def wl0 : Wl := ⟨⟨#[]⟩, ⟨#[]⟩, 0, false, []⟩
def pk0 : Pk := ⟨0, false, false, 0, 0, ⟨#[]⟩, ⟨#[]⟩, false, 0, ⟨#[]⟩, false, ⟨#[]⟩, false, ⟨#[]⟩, false, wl0, false, 0, [], [], []⟩
def bdPk (v : Array (Nat × Value)) : Sem Value := Instr.build PkT v
def alPk (b : Bool) (v : Value) : Sem Value := Instr.alloc PkT b v
def stPk (a v : Value) : Sem Unit := Instr.storeAt PkT a v
theorem to_bdPk (v : Array (Nat × Value)) : Instr.build PkT v = bdPk v := rfl
theorem to_alPk (b : Bool) (v : Value) : Instr.alloc PkT b v = alPk b v := rfl
theorem to_stPk (a v : Value) : Instr.storeAt PkT a v = stPk a v := rfl
theorem run_alPk (w : World) : (alPk true (.tuple #[])).run Tryz.prog w = .ok (.pointer (some ⟨w.heap.size, 0, none⟩)) (w.alloc (.cells (pkC pk0 hs0) PkT)) := by kernel_rfl
theorem run_bd0 (w : World) : (bdPk #[]).run Tryz.prog w = .ok (pkV pk0 hs0) w := by kernel_rfl
theorem run_bdK (k : Int) (w : World) : (bdPk #[(0, .int .i64 k)]).run Tryz.prog w = .ok (pkV { pk0 with kind := k } hs0) w := by kernel_rfl
theorem run_bdKI (k i : Int) (w : World) : (bdPk #[(0, .int .i64 k), (4, .int .i64 i)]).run Tryz.prog w = .ok (pkV { pk0 with kind := k, id := i } hs0) w := by kernel_rfl
theorem run_bdKIC (k i c : Int) (w : World) : (bdPk #[(0, .int .i64 k), (4, .int .i64 i), (17, .int .i64 c)]).run Tryz.prog w = .ok (pkV { pk0 with kind := k, id := i, code := c } hs0) w := by kernel_rfl
theorem run_bdKC (k c : Int) (w : World) : (bdPk #[(0, .int .i64 k), (17, .int .i64 c)]).run Tryz.prog w = .ok (pkV { pk0 with kind := k, code := c } hs0) w := by kernel_rfl
theorem run_bdKICP (k i c : Int) (l : List Pr) (A : Option Addr) (n : Nat) (w : World) : (bdPk #[(0, .int .i64 k), (4, .int .i64 i), (17, .int .i64 c), (20, .slice A l.length n)]).run Tryz.prog w = .ok (pkV { pk0 with kind := k, id := i, code := c, props := l } { hs0 with props := ⟨A, n⟩ }) w := by kernel_rfl
theorem there_bk {w : World} {g : Nat} {p : Pk} {h : Hs} (hb : Bk w g PkT (pkC p h)) : w.there g 0 25 := fun j hj => by
  rw [Nat.zero_add, hb.cell, hb.free]
  refine ⟨?_, rfl⟩
  rw [Array.getElem?_eq_getElem (by rw [pkC_size]; exact hj)]
  rfl
theorem pkC_one (p : Pk) (h : Hs) : (pkC p h).all (·.oneCell') = true := by simp [pkC, Value.oneCell']
/-- Block g made a packet. -/
def putPk (w : World) (g : Nat) (q : Pk) (k : Hs) : World := w.setCells g 0 (pkC q k).toList
/-- A whole packet stored into a block that holds one. -/
theorem run_stPk {w : World} {g : Nat} {p : Pk} {h : Hs} (hb : Bk w g PkT (pkC p h)) (q : Pk) (k : Hs) : (stPk (.pointer (some ⟨g, 0, none⟩)) (pkV q k)).run Tryz.prog w = .ok () (putPk w g q k) := by
  unfold stPk
  exact run_storeAt_mid w g 0 PkT (pkC q k) (by rw [pkC_size]; exact there_bk hb) (by rw [pkC_size]; exact info_pk) (pkC_one q k)
def putA (cs : Array Value) : Nat → List Value → Array Value
  | _, [] => cs
  | o, v :: vs => putA (cs.setIfInBounds o v) (o + 1) vs
theorem putA_size : ∀ (vs : List Value) (o : Nat) (cs : Array Value), (putA cs o vs).size = cs.size
  | [], _, _ => rfl
  | v :: vs, o, cs => by rw [putA, putA_size vs]; simp
theorem putA_at : ∀ (vs : List Value) (o : Nat) (cs : Array Value) (i : Nat), i < cs.size → (putA cs o vs)[i]? = if o ≤ i ∧ i < o + vs.length then vs[i - o]? else cs[i]?
  | [], o, cs, i, _ => by rw [putA, if_neg (by simp <;> omega)]
  | v :: vs, o, cs, i, hi => by
    rw [putA, putA_at vs (o + 1) _ i (by simpa using hi)]
    by_cases h : i = o
    · subst h
      rw [if_neg (by omega), if_pos (by simp)]
      simp [hi]
    · by_cases h2 : o + 1 ≤ i ∧ i < o + 1 + vs.length
      · rw [if_pos h2, if_pos (by simp; omega)]
        rw [show i - o = (i - (o + 1)) + 1 by omega]
        simp
      · rw [if_neg h2, if_neg (by simp; omega)]
        rw [Array.getElem?_setIfInBounds_ne (fun e => h e.symm)]
theorem putA_all {cs ds : Array Value} (h : ds.size = cs.size) : putA cs 0 ds.toList = ds := by
  apply Array.ext_getElem?
  intro i
  by_cases hi : i < cs.size
  · rw [putA_at _ _ _ _ hi, if_pos (by simp; omega)]
    simp
  · rw [Array.getElem?_eq_none (by rw [putA_size]; omega), Array.getElem?_eq_none (by omega)]
theorem setCells_bk : ∀ (vs : List Value) (o : Nat) {w : World} {g : Nat} {t : TypeId} {cs : Array Value}, Bk w g t cs → Bk (w.setCells g o vs) g t (putA cs o vs)
  | [], _, _, _, _, _, h => h
  | v :: vs, o, _, _, _, _, h => setCells_bk vs (o + 1) (h.put o v)
theorem put_bk {w : World} {g : Nat} {p : Pk} {h0 : Hs} (h : Bk w g PkT (pkC p h0)) (q : Pk) (k : Hs) : Bk (putPk w g q k) g PkT (pkC q k) := by
  have := setCells_bk (pkC q k).toList 0 h
  rw [putA_all (by rw [pkC_size, pkC_size])] at this
  exact this
theorem putPk_mods (w : World) (g : Nat) (q : Pk) (k : Hs) : w.grownBy (putPk w g q k) (some g) := by
  have : ∀ (vs : List Value) (o : Nat) (x : World), w.grownBy x (some g) → w.grownBy (x.setCells g o vs) (some g) := by
    intro vs
    induction vs with
    | nil => intro o x hx; exact hx
    | cons v vs ih => intro o x hx; exact ih (o + 1) _ (hx.trans (mod_set x g o v))
  exact this _ 0 w (World.grownBy.refl w _)
theorem setCells_fresh (w : World) (t : TypeId) : ∀ (vs : List Value) (o : Nat) (cs : Array Value), (w.alloc (.cells cs t)).setCells w.heap.size o vs = w.alloc (.cells (putA cs o vs) t)
  | [], _, _ => rfl
  | v :: vs, o, cs => by
    rw [World.setCells, putA, ← setCells_fresh w t vs (o + 1) (cs.setIfInBounds o v)]
    rw [World.setCell_alloc_at _ _ _ _ _ rfl]
theorem putPk_fresh (w : World) (p q : Pk) (h k : Hs) : putPk (w.alloc (.cells (pkC p h) PkT)) w.heap.size q k = w.alloc (.cells (pkC q k) PkT) := by
  unfold putPk
  rw [setCells_fresh, putA_all (by rw [pkC_size, pkC_size])]
theorem run_stPk_fresh (w : World) (p q : Pk) (h k : Hs) : (stPk (.pointer (some ⟨w.heap.size, 0, none⟩)) (pkV q k)).run Tryz.prog (w.alloc (.cells (pkC p h) PkT)) = .ok () (w.alloc (.cells (pkC q k) PkT)) := by
  rw [run_stPk (Bk.fresh w PkT (pkC p h)), putPk_fresh]
end Go.Proofs.YtbdgkkmbnahgiaaGreatDoor

namespace Go.Proofs.YtbdgkkmbnahgiaaGreatDoor
open Go.RowKit

structure St (w : World) (l : List (Nat × Pk × Hs)) (x : World) : Prop where
  kept : Below w.heap.size w x
  pks : ∀ (i g : Nat) (p : Pk) (h : Hs), l[i]? = some (g, p, h) → w.heap.size ≤ g ∧ Bk x g PkT (pkC p h) ∧ PkIn x x.heap.size p h
section
variable {w x y : World} {l : List (Nat × Pk × Hs)} {g : Nat} {p : Pk} {h : Hs}
theorem St.start (w : World) : St w [] w := ⟨Below.refl _ _, fun i g p h e => by simp at e⟩
theorem St.below (s : St w l x) (hb : Below x.heap.size x y) : St w l y :=
  ⟨s.kept.trans (hb.mono s.kept.size), fun i g p h e => by obtain ⟨h1, h2, h3⟩ := s.pks i g p h e; exact ⟨h1, h2.below hb h2.lt, h3.next hb⟩⟩
theorem St.alloc (s : St w l x) (o : Obj) : St w l (x.alloc o) := s.below ((Below.refl _ _).alloc (Nat.le_refl _) o)
theorem St.drewN (s : St w l x) (n : Nat) : St w l (x.drewN n) := s.below (below_drawn (Below.refl _ _) n)
theorem St.drew (s : St w l x) : St w l x.drew := s.drewN 1
theorem St.push (s : St w l x) (ip : PkIn x x.heap.size p h) : St w (l ++ [(x.heap.size, p, h)]) (x.alloc (.cells (pkC p h) PkT)) := by
  have s' := s.alloc (.cells (pkC p h) PkT)
  refine ⟨s'.kept, fun i g q k e => ?_⟩
  rcases Nat.lt_or_ge i l.length with hi | hi
  · rw [List.getElem?_append_left hi] at e
    exact s'.pks i g q k e
  · rw [List.getElem?_append_right hi] at e
    have hi0 : i - l.length = 0 := by
      rcases Nat.eq_zero_or_pos (i - l.length) with h0 | h0
      · exact h0
      · rw [List.getElem?_eq_none (by simp; omega)] at e; cases e
    rw [hi0] at e
    simp only [List.getElem?_cons_zero, Option.some.injEq, Prod.mk.injEq] at e
    obtain ⟨rfl, rfl, rfl⟩ := e
    exact ⟨s.kept.size, Bk.fresh _ _ _, ip.next ((Below.refl _ _).alloc (Nat.le_refl _) _)⟩
theorem St.bk (s : St w l x) (i : Nat) (e : l[i]? = some (g, p, h)) : Bk x g PkT (pkC p h) := (s.pks i g p h e).2.1
theorem St.into (s : St w l x) (i : Nat) (e : l[i]? = some (g, p, h)) : PkIn x x.heap.size p h := (s.pks i g p h e).2.2
theorem St.cell (s : St w l x) (i : Nat) (e : l[i]? = some (g, p, h)) (j : Nat) : x.cell? ⟨g, j, none⟩ = (pkC p h)[j]? := (s.bk i e).cell j
theorem St.ld (s : St w l x) (i : Nat) (e : l[i]? = some (g, p, h)) : (ldPk (.pointer (some ⟨g, 0, none⟩))).run Tryz.prog x = .ok (pkV p h) x := ld_bk (s.bk i e)
theorem Rd.grown {B k n : Nat} {A : Option Addr} {xs : List Value} {w w' : World} (hr : Rd w B k A n xs) (hm : w.grownBy w' (some g)) (hB : B ≤ w.heap.size) (hg : ∀ b o, A = some ⟨b, o, none⟩ → xs ≠ [] → b ≠ g) : Rd w' B k A n xs := by
  refine ⟨hr.1, ?_⟩
  rcases hr.2 with h0 | ⟨b, o, rfl, hb, hc⟩
  · exact .inl h0
  · by_cases hx : xs = []
    · exact .inl hx
    · have hne := hg b o rfl hx
      have hblk : w'.heap[b]? = w.heap[b]? := hm.block b (by omega) (fun e => by cases e; exact hne rfl)
      refine .inr ⟨b, o, rfl, hb, fun j u hu => ?_⟩
      rw [← hc j u hu]
      simp only [World.cell?, hblk]
end
end Go.Proofs.YtbdgkkmbnahgiaaGreatDoor

