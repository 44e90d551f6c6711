/- The reference's All, walked. -/
import Derived.Test.YtdpeljnoaiaplaaReaR
namespace Go.Proofs.Ytdpeljnoaiaplaa
open Go.RowKit

set_option maxHeartbeats 400000 in
set_option maxRecDepth 10000 in
theorem refAll_4 (w : World) : Calls Try.prog 39 #[.int .i64 4] w (AllPost 4 w) := by
  go_enter Try.func39, Try.ntmps39
  go_wp2
  go_ret
  exact all_lit w 4 [0, 16, 128, 131, 135, 144, 145, 151, 153] (by decide) _ rfl _ rfl (by decide)
set_option maxHeartbeats 400000 in
set_option maxRecDepth 10000 in
theorem refAll_5 (w : World) : Calls Try.prog 39 #[.int .i64 5] w (AllPost 5 w) := by
  go_enter Try.func39, Try.ntmps39
  go_wp2
  go_ret
  exact all_lit w 5 [0, 16, 128, 131, 135, 144, 145, 151, 153] (by decide) _ rfl _ rfl (by decide)
set_option maxHeartbeats 400000 in
set_option maxRecDepth 10000 in
theorem refAll_6 (w : World) : Calls Try.prog 39 #[.int .i64 6] w (AllPost 6 w) := by
  go_enter Try.func39, Try.ntmps39
  go_wp2
  go_ret
  exact all_lit w 6 [0, 146] (by decide) _ rfl _ rfl (by decide)
set_option maxHeartbeats 400000 in
set_option maxRecDepth 10000 in
theorem refAll_7 (w : World) : Calls Try.prog 39 #[.int .i64 7] w (AllPost 7 w) := by
  go_enter Try.func39, Try.ntmps39
  go_wp2
  go_ret
  exact all_lit w 7 [0, 146] (by decide) _ rfl _ rfl (by decide)
set_option maxHeartbeats 400000 in
set_option maxRecDepth 10000 in
theorem refAll_9 (w : World) : Calls Try.prog 39 #[.int .i64 9] w (AllPost 9 w) := by
  go_enter Try.func39, Try.ntmps39
  go_wp2
  go_ret
  exact all_lit w 9 [0, 1, 2, 128, 131, 135, 143, 145, 151, 158, 161, 162] (by decide) _ rfl _ rfl (by decide)
set_option maxHeartbeats 400000 in
set_option maxRecDepth 10000 in
theorem refAll_11 (w : World) : Calls Try.prog 39 #[.int .i64 11] w (AllPost 11 w) := by
  go_enter Try.func39, Try.ntmps39
  go_wp2
  go_ret
  exact all_lit w 11 [0, 17, 128, 131, 135, 143, 145] (by decide) _ rfl _ rfl (by decide)
set_option maxHeartbeats 400000 in
set_option maxRecDepth 10000 in
theorem refAll_15 (w : World) : Calls Try.prog 39 #[.int .i64 15] w (AllPost 15 w) := by
  go_enter Try.func39, Try.ntmps39
  go_wp2
  go_ret
  exact all_lit w 15 [0, 24, 25] (by decide) _ rfl _ rfl (by decide)
set_option maxHeartbeats 400000 in
set_option maxRecDepth 10000 in
theorem refAll_2 (w : World) : Calls Try.prog 39 #[.int .i64 2] w (AllPost 2 w) := by
  go_enter Try.func39, Try.ntmps39
  go_wp2_with fail
  refine (from_any _ 1 (ints [0]) 128 138 128 11 w.heap.size _ (World.ownsRow_lit w _ 1 (Nat.le_refl _) (by decide) rfl) (by simp) (by omega) rfl rfl (by omega)).mono ?_
  rintro e w1 ⟨v1, rfl, hown1, hb1⟩
  have hbel1 := ((Below.refl w.heap.size w).alloc (Nat.le_refl _) (.cells #[.int .i64 0] 3)).trans hb1
  have hz1 := hbel1.size
  go_wp2_with (first | fail | (at_builtin; refine wpList_app _ rfl (.tmp 10) (.tmp 11) 28 rfl w.heap.size 3 (.int .i64 0) 1 8 Try.underlying28 info_int rfl (by decide) v1 _ _ rfl (hown1.alloc _) _ _ 4 4 (ints [140, 144, 149, 151]) rfl (Rd.lit _ _ _ rfl (Nat.lt_succ_self _) rfl) (ints_one _) (by unfold maxLen; omega) (by omega) (by simp; omega) ?_; intro v2 w2 hown2 hg2 hat2))
  have hbel2 := below_app (hbel1.alloc (by omega) _) hg2 (by simp; omega) (fun g hg => (own_block hown1 g hg).1)
  have hz2 := hbel2.size
  clear hg2 hat2 hown1 hb1
  refine (from_any v2 _ _ 153 157 153 5 w.heap.size _ hown2 (by omega) (by omega) rfl rfl (by omega)).mono ?_
  rintro e w3 ⟨v3, rfl, hown3, hb3⟩
  have hbel3 := hbel2.trans hb3
  have hz3 := hbel3.size
  clear hown2 hb3
  go_wp2_with (first | fail | (at_builtin; refine wpList_app _ rfl (.tmp 14) (.tmp 15) 28 rfl w.heap.size 3 (.int .i64 0) 1 8 Try.underlying28 info_int rfl (by decide) v3 _ _ rfl (hown3.alloc _) _ _ 1 1 (ints [159]) rfl (Rd.lit _ _ _ rfl (Nat.lt_succ_self _) rfl) (ints_one _) (by unfold maxLen; omega) (by omega) (by simp; omega) ?_; intro v4 w4 hown4 hg4 hat4))
  have hbel4 := below_app (hbel3.alloc (by omega) _) hg4 (by simp; omega) (fun g hg => (own_block hown3 g hg).1)
  clear hg4 hat4 hown3
  go_wp2
  go_ret
  exact ⟨_, rfl, hown4, hbel4⟩
set_option maxHeartbeats 400000 in
set_option maxRecDepth 10000 in
theorem refAll_14 (w : World) : Calls Try.prog 39 #[.int .i64 14] w (AllPost 14 w) := by
  go_enter Try.func39, Try.ntmps39
  go_wp2_with fail
  refine (from_any _ 2 (ints [0, 4]) 128 131 128 4 w.heap.size _ (World.ownsRow_lit w _ 2 (Nat.le_refl _) (by decide) rfl) (by simp) (by omega) rfl rfl (by omega)).mono ?_
  rintro e w1 ⟨v1, rfl, hown1, hb1⟩
  have hbel1 := ((Below.refl w.heap.size w).alloc (Nat.le_refl _) (.cells #[.int .i64 0, .int .i64 4] 3)).trans hb1
  have hz1 := hbel1.size
  go_wp2_with (first | fail | (at_builtin; refine wpList_app _ rfl (.tmp 35) (.tmp 36) 28 rfl w.heap.size 3 (.int .i64 0) 1 8 Try.underlying28 info_int rfl (by decide) v1 _ _ rfl (hown1.alloc _) _ _ 7 7 (ints [135, 137, 139, 141, 142, 143, 144]) rfl (Rd.lit _ _ _ rfl (Nat.lt_succ_self _) rfl) (ints_one _) (by unfold maxLen; omega) (by omega) (by simp; omega) ?_; intro v2 w2 hown2 hg2 hat2))
  have hbel2 := below_app (hbel1.alloc (by omega) _) hg2 (by simp; omega) (fun g hg => (own_block hown1 g hg).1)
  have hz2 := hbel2.size
  clear hg2 hat2 hown1 hb1
  refine (from_any v2 _ _ 147 162 147 16 w.heap.size _ hown2 (by omega) (by omega) rfl rfl (by omega)).mono ?_
  rintro e w3 ⟨v3, rfl, hown3, hb3⟩
  have hbel3 := hbel2.trans hb3
  clear hown2 hb3
  go_wp2
  go_ret
  exact ⟨_, rfl, hown3, hbel3⟩
set_option maxHeartbeats 400000 in
set_option maxRecDepth 10000 in
theorem refAll_any (kind : Int) (w : World) : Calls Try.prog 39 #[.int .i64 kind] w (AllPost kind w) := by
  by_cases h2 : kind = 2
  · subst h2; exact refAll_2 w
  by_cases h4 : kind = 4
  · subst h4; exact refAll_4 w
  by_cases h5 : kind = 5
  · subst h5; exact refAll_5 w
  by_cases h6 : kind = 6
  · subst h6; exact refAll_6 w
  by_cases h7 : kind = 7
  · subst h7; exact refAll_7 w
  by_cases h9 : kind = 9
  · subst h9; exact refAll_9 w
  by_cases h11 : kind = 11
  · subst h11; exact refAll_11 w
  by_cases h14 : kind = 14
  · subst h14; exact refAll_14 w
  by_cases h15 : kind = 15
  · subst h15; exact refAll_15 w
  have HR : Hid (refAll kind = []) := by
    show _ = _
    unfold refAll
    rw [if_neg (by omega), if_neg (by omega), if_neg (by omega), if_neg (by omega), if_neg (by omega), if_neg (by omega), if_neg (by omega)]
  go_enter Try.func39, Try.ntmps39
  go_wp2
  go_ret
  refine ⟨_, rfl, ?_, Below.refl _ _⟩
  rw [HR.out]
  exact World.ownsRow_nil _ _ _ _

end Go.Proofs.Ytdpeljnoaiaplaa
