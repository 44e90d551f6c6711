/- Reference 05: a property's row. -/
import Derived.Test.YtpcaffimahapjaaGreatMPro
import Derived.Test.YtpcaffimahapjaaGreatRfA
namespace Go.Proofs.YtpcaffimahapjaaGreat
open Go.RowKit
/-- Who may have a property, as the reference lists it. -/
def kindTab : List (Nat × List Int) :=
  [(1, [3, 16]), (2, [3, 16]), (3, [3, 16]), (8, [3, 16]), (9, [3, 16]), (11, [3, 8]), (17, [1, 2, 14]), (18, [2]), (26, [2]), (19, [2]), (21, [1, 2, 15]), (22, [1, 2, 15]), (23, [1]), (25, [1]), (24, [16]), (28, [2, 14]),
   (31, [2, 4, 5, 6, 7, 9, 11, 14, 15]), (33, [1, 2]), (34, [1, 2]), (35, [3]), (36, [2]), (37, [2]), (40, [2]), (41, [2]), (42, [2]), (38, [1, 2, 3, 4, 5, 6, 7, 8, 9, 10, 11, 14, 15, 16]), (39, [1, 2])]
def kindsOf (id : Int) : List Int := ((kindTab.find? fun p => (p.1 : Int) == id).map (·.2)).getD []
def rowV (id : Int) (A : Option Addr) (c : Nat) : Value := .agg #[.int .i64 (ruleOf id).shape, .slice A (kindsOf id).length c, .int .u32 (ruleOf id).least, .int .u32 (ruleOf id).most]
abbrev RwT : TypeId := 86
def RowOut (id : Int) (w : World) (e : Ending) (w' : World) : Prop := ∃ A c, e = .returned (rowV id A c) ∧ Rd w' w'.heap.size 1 A (kindsOf id).length (iv (kindsOf id)) ∧ Below w.heap.size w w'
set_option maxHeartbeats 400000 in
theorem rone_any (A : Option Addr) (n c : Nat) (w : World) : Calls Tryz.prog 180 #[.slice A n c] w fun e w' => e = .returned (.agg #[.int .i64 1, .slice A n c, .int .u32 0, .int .u32 1]) ∧ Below w.heap.size w w' := by
  go_enter Tryz.func180, Tryz.ntmps180
  go_wp2
  exact bodyPost_ret (v := .agg #[.int .i64 1, .slice A n c, .int .u32 0, .int .u32 1]) (by simp [results, Tryz.results180, go_sem]) rfl ⟨rfl, (Below.refl _ _).alloc (Nat.le_refl _) _⟩
set_option maxHeartbeats 400000 in
theorem rtwo_any (A : Option Addr) (n c : Nat) (l : Int) (w : World) : Calls Tryz.prog 183 #[.slice A n c, .int .u32 l] w fun e w' => e = .returned (.agg #[.int .i64 2, .slice A n c, .int .u32 l, .int .u32 65535]) ∧ Below w.heap.size w w' := by
  go_enter Tryz.func183, Tryz.ntmps183
  go_wp2
  exact bodyPost_ret (v := .agg #[.int .i64 2, .slice A n c, .int .u32 l, .int .u32 65535]) (by simp [results, Tryz.results183, go_sem]) rfl ⟨rfl, (Below.refl _ _).alloc (Nat.le_refl _) _⟩
set_option maxHeartbeats 400000 in
theorem rfour_any (A : Option Addr) (n c : Nat) (l : Int) (w : World) : Calls Tryz.prog 181 #[.slice A n c, .int .u32 l] w fun e w' => e = .returned (.agg #[.int .i64 3, .slice A n c, .int .u32 l, .int .u32 4294967295]) ∧ Below w.heap.size w w' := by
  go_enter Tryz.func181, Tryz.ntmps181
  go_wp2
  exact bodyPost_ret (v := .agg #[.int .i64 3, .slice A n c, .int .u32 l, .int .u32 4294967295]) (by simp [results, Tryz.results181, go_sem]) rfl ⟨rfl, (Below.refl _ _).alloc (Nat.le_refl _) _⟩
set_option maxHeartbeats 400000 in
theorem rof_any (A : Option Addr) (n c : Nat) (k : Int) (w : World) : Calls Tryz.prog 182 #[.int .i64 k, .slice A n c] w fun e w' => e = .returned (.agg #[.int .i64 k, .slice A n c, .int .u32 0, .int .u32 0]) ∧ Below w.heap.size w w' := by
  go_enter Tryz.func182, Tryz.ntmps182
  go_wp2
  exact bodyPost_ret (v := .agg #[.int .i64 k, .slice A n c, .int .u32 0, .int .u32 0]) (by simp [results, Tryz.results182, go_sem]) rfl ⟨rfl, (Below.refl _ _).alloc (Nat.le_refl _) _⟩
end Go.Proofs.YtpcaffimahapjaaGreat
