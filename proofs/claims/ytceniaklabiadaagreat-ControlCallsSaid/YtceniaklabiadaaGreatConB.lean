/- control: the walks of says, known. -/
import Derived.Test.YtceniaklabiadaaGreatConA
import Derived.Test.YtceniaklabiadaaGreatMLis
namespace Go.Proofs.YtceniaklabiadaaGreat
open Go.RowKit

def fnB (f : FuncId) : Value := .func (.func f) #[.agg #[]] #[]
def sayTab : List (Int × Value) := [(12, fnB 154), (13, fnB 154), (14, fnB 155), (15, fnB 155)]
set_option maxHeartbeats 400000 in
set_option maxRecDepth 10000 in
theorem nothing_any (v : Int) (w : World) : Calls Tryz.prog 154 #[.agg #[], .int .i64 v] w fun e w' => e = .returned (.bool false) ∧ Below w.heap.size w w' := by
  go_enter Tryz.func154, Tryz.ntmps154
  go_wp2
  go_ret
  exact ⟨rfl, (Below.refl _ _).alloc (Nat.le_refl _) _⟩
set_option maxHeartbeats 400000 in
set_option maxRecDepth 10000 in
theorem late_any (v : Int) (w : World) : Calls Tryz.prog 155 #[.agg #[], .int .i64 v] w fun e w' => e = .returned (.bool (v == 5)) ∧ Below w.heap.size w w' := by
  go_enter Tryz.func155, Tryz.ntmps155
  go_wp2
  go_ret
  exact ⟨rfl, (Below.refl _ _).alloc (Nat.le_refl _) _⟩
theorem enter_nothing (args : Array Value) (w : World) : (callFunc 154 args).run Tryz.prog w = .ok (.enter 154 args) w := run_enter Tryz.func154 (by kernel_rfl) rfl args w
theorem enter_late (args : Array Value) (w : World) : (callFunc 155 args).run Tryz.prog w = .ok (.enter 155 args) w := run_enter Tryz.func155 (by kernel_rfl) rfl args w
theorem look_say (k : Int) : (k = 12 ∧ lookI sayTab k = some (fnB 154)) ∨ (k = 13 ∧ lookI sayTab k = some (fnB 154)) ∨ (k = 14 ∧ lookI sayTab k = some (fnB 155)) ∨ (k = 15 ∧ lookI sayTab k = some (fnB 155)) ∨
    (¬ (12 ≤ k ∧ k ≤ 15) ∧ lookI sayTab k = none) := by
  by_cases h1 : k = 12
  · subst h1; exact .inl ⟨rfl, rfl⟩
  by_cases h2 : k = 13
  · subst h2; exact .inr (.inl ⟨rfl, rfl⟩)
  by_cases h3 : k = 14
  · subst h3; exact .inr (.inr (.inl ⟨rfl, rfl⟩))
  by_cases h4 : k = 15
  · subst h4; exact .inr (.inr (.inr (.inl ⟨rfl, rfl⟩)))
  refine .inr (.inr (.inr (.inr ⟨by omega, ?_⟩)))
  have e1 : ((12 : Int) == k) = false := beq_eq_false_iff_ne.2 (by omega)
  have e2 : ((13 : Int) == k) = false := beq_eq_false_iff_ne.2 (by omega)
  have e3 : ((14 : Int) == k) = false := beq_eq_false_iff_ne.2 (by omega)
  have e4 : ((15 : Int) == k) = false := beq_eq_false_iff_ne.2 (by omega)
  simp [lookI, sayTab, List.find?, e1, e2, e3, e4]

set_option maxHeartbeats 1000000 in
set_option maxRecDepth 10000 in
theorem says_any (v k : Int) (w : World) : Calls Tryz.prog 85 #[.int .i64 v, .int .i64 k] w fun e w' => e = .returned (.tuple #[.bool (conMay v k), .bool (conIs k)]) ∧ Below w.heap.size w w' := by
  have hmm := @run_makeMap Tryz.prog
  have B0 := (Below.refl w.heap.size w).alloc (Nat.le_refl _) (.cells #[] 143)
  have HT := Lib.hid (IMap.made (w.alloc (.cells #[] 143)) .i64)
  have HB := Lib.hid (B0.alloc B0.size (.map #[] 0))
  clear B0
  rw [show (w.alloc (.cells #[] 143)).heap.size = w.heap.size + 1 by simp] at HT
  go_enter Tryz.func85, Tryz.ntmps85
  go_wp2_with (refine wpList_mput _ rfl _ _ _ 144 rfl 3 74 (by kernel_rfl) (by kernel_rfl) (w.heap.size + 1) _ rfl HT.out _ _ rfl rfl rfl ?_; intro w1 hT hg; have hb := HB.out.grown hg (HB.out.size) (fun k hk => by cases hk; exact Nat.le_succ _); clear HT HB hg; have HT := Lib.hid hT; have HB := Lib.hid hb; clear hT hb)
  rename_i wm
  have HT2 : IMap .i64 _ (w.heap.size + 1) sayTab := HT.out
  have hlk := (mlook_run (P := Tryz.prog) (t := 144) (k := 3) (e := 74) (z := .nilFunc) (by kernel_rfl) (by kernel_rfl) (by kernel_rfl) HT2 k).2
  have en := enter_nothing
  have el := enter_late
  clear HT2
  rcases look_say k with ⟨hk, h⟩ | ⟨hk, h⟩ | ⟨hk, h⟩ | ⟨hk, h⟩ | ⟨hk, h⟩
  · subst hk
    rw [h, Option.getD_some, Option.isSome_some, fnB] at hlk
    clear h
    go_wp2_with fail
    rw [hlk]
    go_wp2_with fail
    refine (nothing_any v _).mono ?_
    rintro e w2 ⟨rfl, hb⟩
    have HB2 := Lib.hid (HB.out.trans (hb.mono HB.out.size)); clear hb hlk
    go_wp2
    go_ret2
    exact ⟨by rfl, HB2.out⟩
  · subst hk
    rw [h, Option.getD_some, Option.isSome_some, fnB] at hlk
    clear h
    go_wp2_with fail
    rw [hlk]
    go_wp2_with fail
    refine (nothing_any v _).mono ?_
    rintro e w2 ⟨rfl, hb⟩
    have HB2 := Lib.hid (HB.out.trans (hb.mono HB.out.size)); clear hb hlk
    go_wp2
    go_ret2
    exact ⟨by rfl, HB2.out⟩
  · subst hk
    rw [h, Option.getD_some, Option.isSome_some, fnB] at hlk
    clear h
    go_wp2_with fail
    rw [hlk]
    go_wp2_with fail
    refine (late_any v _).mono ?_
    rintro e w2 ⟨rfl, hb⟩
    have HB2 := Lib.hid (HB.out.trans (hb.mono HB.out.size)); clear hb hlk
    go_wp2
    go_ret2
    exact ⟨by unfold conMay conIs; by_cases h5 : v = 5 <;> simp [h5], HB2.out⟩
  · subst hk
    rw [h, Option.getD_some, Option.isSome_some, fnB] at hlk
    clear h
    go_wp2_with fail
    rw [hlk]
    go_wp2_with fail
    refine (late_any v _).mono ?_
    rintro e w2 ⟨rfl, hb⟩
    have HB2 := Lib.hid (HB.out.trans (hb.mono HB.out.size)); clear hb hlk
    go_wp2
    go_ret2
    exact ⟨by unfold conMay conIs; by_cases h5 : v = 5 <;> simp [h5], HB2.out⟩
  · have h1 : conIs k = false := decide_eq_false hk
    have h2 : conMay v k = false := decide_eq_false (fun x => hk (by omega))
    rw [h, Option.getD_none, Option.isSome_none] at hlk
    clear h hk
    go_wp2_with fail
    rw [hlk]
    go_wp2
    go_ret2
    exact ⟨by rw [h1, h2]; rfl, HB.out⟩
end Go.Proofs.YtceniaklabiadaaGreat
