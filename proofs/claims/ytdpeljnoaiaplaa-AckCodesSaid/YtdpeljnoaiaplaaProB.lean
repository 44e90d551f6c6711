/- Who may have a property: the walks of rule.has, Shape, May, often, Many. -/
import Derived.Test.YtdpeljnoaiaplaaProA
namespace Go.Proofs.Ytdpeljnoaiaplaa
open Go.RowKit

def hasR (r : Rule) (kind : Int) : Bool := decide (1 ≤ kind) && (decide (kind ≤ 16) && r.kinds.testBit kind.toNat)

/-- A bit of an int, asked as the program does. -/
theorem bit_test (a k : Nat) (ha : a < 131072) (hk : k ≤ 16) : (bits BinOp.and IntKind.i64 ((a : Int) / 2 ^ min (IntKind.u64.wrap (k : Int)).toNat 64) 1 == 1) = a.testBit k := by
  have h1 : min (IntKind.u64.wrap (k : Int)).toNat 64 = k := by rw [IntKind.wrap_u64]; omega
  rw [h1]
  have h2 : ((a : Int) / 2 ^ k) = ((a / 2 ^ k : Nat) : Int) := by push_cast; rfl
  have h3 : a / 2 ^ k ≤ a := Nat.div_le_self _ _
  rw [h2, show (1 : Int) = ((2 ^ 1 - 1 : Nat) : Int) from rfl, int_low _ 1 (by omega) (by omega), Nat.testBit_eq_decide_div_mod_eq]
  generalize a / 2 ^ k = x
  by_cases h : x % 2 = 1
  · simp [h]
  · have : x % 2 = 0 := by omega
    simp [this]

set_option maxHeartbeats 400000 in
set_option maxRecDepth 10000 in
theorem has_rule (r : Rule) (hr : RuleOk r) (kind : Int) (w : World) :
    Calls Try.prog 113 #[r.val, .int .i64 kind] w fun e w' => e = .returned (.bool (hasR r kind)) ∧ Below w.heap.size w w' := by
  obtain ⟨sh, ki, le, mo⟩ := r
  have HR := Lib.hid hr; clear hr
  simp only [Rule.val]
  by_cases h1 : 1 ≤ kind
  · by_cases h16 : kind ≤ 16
    · have d1 : decide (1 ≤ kind) = true := by simpa using h1
      have d2 : decide (kind ≤ 16) = true := by simpa using h16
      obtain ⟨k, rfl⟩ : ∃ k : Nat, kind = k := ⟨kind.toNat, by omega⟩
      have H := Lib.hid (And.intro h1 h16); clear h1 h16
      go_enter Try.func113, Try.ntmps113
      go_wp2
      have HB := HR.out.2.1
      exact bodyPost_ret (v := .bool (ki.testBit k)) (by simp [results, Try.results113, go_sem]; exact bit_test ki k (by simpa using HB) (by have := H.out; omega)) rfl ⟨by simp [hasR, d1, d2], (Below.refl _ _).alloc (Nat.le_refl _) _⟩
    · have d1 : decide (1 ≤ kind) = true := by simpa using h1
      have d2 : decide (kind ≤ 16) = false := by simpa using h16
      clear h1 h16
      go_enter Try.func113, Try.ntmps113
      go_wp2
      exact bodyPost_ret (v := .bool false) (by simp [results, Try.results113, go_sem]) rfl ⟨by simp [hasR, d2], (Below.refl _ _).alloc (Nat.le_refl _) _⟩
  · have d1 : decide (1 ≤ kind) = false := by simpa using h1
    clear h1
    go_enter Try.func113, Try.ntmps113
    go_wp2
    exact bodyPost_ret (v := .bool false) (by simp [results, Try.results113, go_sem]) rfl ⟨by simp [hasR, d1], (Below.refl _ _).alloc (Nat.le_refl _) _⟩

/-- What a look-up in the rules gives, written out. -/
theorem rule_look (id : Int) : ∃ sh ki le mo : Nat, Hid (ruleOf id = ⟨sh, ki, le, mo⟩) ∧ ∀ (w : World) (r : Nat), Tab w r →
    (Instr.lookup 97 (.map (some r)) (.int .i64 id) false).run Try.prog w = .ok (.agg #[.int .i64 sh, .int .i64 ki, .int .u32 le, .int .u32 mo]) w := by
  obtain ⟨R, hR⟩ : ∃ R, R = ruleOf id := ⟨_, rfl⟩
  obtain ⟨sh, ki, le, mo⟩ := R
  refine ⟨sh, ki, le, mo, Lib.hid hR.symm, fun w r h => ?_⟩
  have := look_run (P := Try.prog) (t := 97) (k := 3) (e := 102) (w := w) (by kernel_rfl) (by kernel_rfl) (zeroRule w) h id
  rw [← hR] at this
  exact this

theorem shape_field (a b c d : Value) (W : World) : (Instr.field 102 (.agg #[a, b, c, d]) 0).run Try.prog W = .ok a W := by kernel_rfl
def shapeOf (id : Int) : Nat := (ruleOf id).shape
def mayP (kind id : Int) : Bool := hasR (ruleOf id) kind
def oftenP (kind id : Int) : Bool := id == 38 || (id == 11 && kind == 3)
def manyP (kind id : Int) : Bool := oftenP kind id && mayP kind id

set_option maxHeartbeats 400000 in
set_option maxRecDepth 10000 in
theorem often_any (kind id : Int) (w : World) :
    Calls Try.prog 115 #[.int .i64 kind, .int .i64 id] w fun e w' => e = .returned (.bool (oftenP kind id)) ∧ w' = w := by
  by_cases h1 : id = 38
  · have d1 : (id == 38) = true := by simpa using h1
    clear h1
    go_enter Try.func115, Try.ntmps115
    go_wp2
    exact bodyPost_ret (v := .bool (oftenP kind id)) (by simp [results, Try.results115, go_sem, oftenP, d1]) rfl ⟨rfl, rfl⟩
  · have d1 : (id == 38) = false := by simpa using h1
    by_cases h2 : id = 11
    · have d2 : (id == 11) = true := by simpa using h2
      clear h1 h2
      go_enter Try.func115, Try.ntmps115
      go_wp2
      exact bodyPost_ret (v := .bool (oftenP kind id)) (by simp [results, Try.results115, go_sem, oftenP, d1, d2]) rfl ⟨rfl, rfl⟩
    · have d2 : (id == 11) = false := by simpa using h2
      clear h1 h2
      go_enter Try.func115, Try.ntmps115
      go_wp2
      exact bodyPost_ret (v := .bool (oftenP kind id)) (by simp [results, Try.results115, go_sem, oftenP, d1, d2]) rfl ⟨rfl, rfl⟩

end Go.Proofs.Ytdpeljnoaiaplaa
