/- The walk of prop.Check. -/
import Derived.Test.YtcokgfmlkanoiaaProC
import Derived.Deep.RegionHeld3
import Derived.Deep.DrawnRows
namespace Go.Proofs.Ytcokgfmlkanoiaa
open Go.RowKit
attribute [local go_sem ↓] Go.wp_at_zero Go.wp_at_succ

theorem keep4 {W w1 : World} (hb : Below W.heap.size W w1) {g : Nat} (hg : g < W.heap.size) {a b c d : Value}
    (h : W.cell? ⟨g, 0, none⟩ = some a ∧ W.cell? ⟨g, 1, none⟩ = some b ∧ W.cell? ⟨g, 2, none⟩ = some c ∧ W.cell? ⟨g, 3, none⟩ = some d) :
    w1.cell? ⟨g, 0, none⟩ = some a ∧ w1.cell? ⟨g, 1, none⟩ = some b ∧ w1.cell? ⟨g, 2, none⟩ = some c ∧ w1.cell? ⟨g, 3, none⟩ = some d := by
  have hr := (below_rules hb).1
  rw [hr _ _ hg, hr _ _ hg, hr _ _ hg, hr _ _ hg]
  exact h

set_option maxHeartbeats 1000000 in
set_option maxRecDepth 10000 in
theorem checkP_any (kind : Int) (p : Pr) (hp : p.Ok) (w : World) :
    Calls Try.prog 33 #[.int .i64 kind, p.val] w fun e w' => e = .returned (.int .i64 (checkE (ruleOf p.id) kind p)) ∧ Below w.heap.size w w' := by
  obtain ⟨id, n, t, v⟩ := p
  obtain ⟨sh, ki, le, mo, HR, hlk⟩ := rule_look id
  have HK := Lib.hid hlk; clear hlk
  have HO := Lib.hid hp; clear hp
  obtain ⟨E, hE⟩ : ∃ E, checkE (ruleOf id) kind ⟨id, n, t, v⟩ = E := ⟨_, rfl⟩
  have HE : Hid (checkE ⟨sh, ki, le, mo⟩ kind ⟨id, n, t, v⟩ = E) := Lib.hid (by rw [← HR.out]; exact hE)
  simp only [Pr.val, hE]
  clear hE
  have hS := (Bk.fresh w 35 #[.int .i64 id, .int .u32 n, .string t, .string v]).four.1
  have HL := Lib.hid ((Below.refl w.heap.size w).alloc (Nat.le_refl _) (.cells #[.int .i64 id, .int .u32 n, .string t, .string v] 35))
  go_enter Try.func33, Try.ntmps33
  go_wp2_with fail
  go_region_held3 (fun w' => w'.cell? ⟨w.heap.size, 0, none⟩ = some (.int .i64 id) ∧ w'.cell? ⟨w.heap.size, 1, none⟩ = some (.int .u32 n) ∧ w'.cell? ⟨w.heap.size, 2, none⟩ = some (.string t) ∧ w'.cell? ⟨w.heap.size, 3, none⟩ = some (.string v))
    (first | exact keep4 hb (by simp) (by assumption) | exact keep4 hb2 (by have := hb.size; simp at this; omega) (by assumption) | go_keep)
    (first | (go_at_call 53; refine (rules_any _).mono ?_; rintro e w1 ⟨rfl, hT, hb⟩; have hl := HK.out w1 (w.heap.size + 1) (by simpa using hT))
           | (go_at_call 52; refine (check_any ⟨sh, ki, le, mo⟩ (HR.out ▸ ruleOf_ok id) kind ⟨id, n, t, v⟩ HO.out _).mono ?_; rintro e w2 ⟨rfl, hb2⟩))
  rw [HE.out]
  have hB1 := (below_drawn HL.out 1).trans (hb.mono (by simp))
  have HB := Lib.hid (hB1.trans (hb2.mono hB1.size))
  clear hb hb2 hB1 hl hT hS
  go_wp2
  go_ret
  exact ⟨rfl, HB.out⟩
end Go.Proofs.Ytcokgfmlkanoiaa
