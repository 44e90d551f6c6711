/-
  Walks of reason: All.
  Plain laws on the codes of a kind and their texts.
  Walks of the reference for reason codes.
  The reference's All, walked.
  The small walks of the reference for reason codes.
-/
import Derived.Test.YtmkkjiogokfnmaaDoorMReaA
import Derived.Test.YtmkkjiogokfnmaaDoorMKit
import Derived.RegionTactic

namespace Go.Proofs.YtmkkjiogokfnmaaDoor
open Go.RowKit

theorem info_int : (Tryd.prog.info? 3).map (fun i => (i.zero, i.size, i.bytes)) = some (some (.int .i64 0), 1, 8) := by kernel_rfl
def allTo (kind : Int) (k : Nat) : List Nat := (List.range k).filter fun c => may kind (c : Int)
def allL (kind : Int) : List Nat := allTo kind 256
theorem allTo_succ (kind : Int) (k : Nat) : allTo kind (k + 1) = if may kind (k : Int) = true then allTo kind k ++ [k] else allTo kind k := by
  unfold allTo
  rw [List.range_succ, List.filter_append]
  by_cases h : may kind (k : Int) = true <;> simp [h]
theorem allTo_len (kind : Int) (k : Nat) : (allTo kind k).length ≤ k := by
  have := List.length_filter_le (fun c : Nat => may kind (c : Int)) (List.range k)
  simpa [allTo] using this

end Go.Proofs.YtmkkjiogokfnmaaDoor

namespace Go.Proofs.YtmkkjiogokfnmaaDoor
open Go.RowKit

theorem all_get (kind : Int) {k : Nat} (h : k < (allL kind).length) : (allL kind)[k] < 256 ∧ may kind ((allL kind)[k] : Nat) = true := by
  have := List.getElem_mem h
  have h2 := List.mem_filter.1 this
  exact ⟨by simpa using h2.1, by simpa using h2.2⟩
theorem all_sorted (kind : Int) {k : Nat} (h : k + 1 < (allL kind).length) : (allL kind)[k] < (allL kind)[k + 1] := by
  have hp : (allL kind).Pairwise (· < ·) := List.Pairwise.filter _ List.pairwise_lt_range
  exact List.pairwise_iff_getElem.1 hp k (k + 1) (by omega) h (by omega)
theorem hasB_zero (c : Int) : hasB wzero c = false := by simp [hasB, wzero]
theorem may_other {kind : Int} (h : ¬ (kind = 2 ∨ kind = 4 ∨ kind = 5 ∨ kind = 6 ∨ kind = 7 ∨ kind = 9 ∨ kind = 11 ∨ kind = 14 ∨ kind = 15)) (c : Int) : may kind c = false := by
  have : codes kind = wzero := by
    unfold codes
    rw [if_neg (by omega), if_neg (by omega), if_neg (by omega), if_neg (by omega), if_neg (by omega), if_neg (by omega), if_neg (by omega)]
  unfold may
  rw [this, hasB_zero]
theorem may_zero {kind c : Int} (h : may kind c = true) : may kind 0 = true := by
  by_cases hk : kind = 2 ∨ kind = 4 ∨ kind = 5 ∨ kind = 6 ∨ kind = 7 ∨ kind = 9 ∨ kind = 11 ∨ kind = 14 ∨ kind = 15
  · obtain rfl | rfl | rfl | rfl | rfl | rfl | rfl | rfl | rfl := hk
    all_goals decide +kernel
  · rw [may_other hk] at h; cases h
theorem all_head (kind : Int) (h : 0 < (allL kind).length) : (allL kind)[0] = 0 := by
  have h0 := may_zero (all_get kind h).2
  have hm : 0 ∈ allL kind := List.mem_filter.2 ⟨by simp, by simpa using h0⟩
  obtain ⟨i, hi, he⟩ := List.getElem_of_mem hm
  rcases Nat.eq_zero_or_pos i with rfl | hp
  · exact he
  · have hpw : (allL kind).Pairwise (· < ·) := List.Pairwise.filter _ List.pairwise_lt_range
    have := List.pairwise_iff_getElem.1 hpw 0 i h hi hp
    omega
theorem all_mem (kind a : Int) : ((allL kind).any fun c => ((c : Int) == a)) = may kind a := by
  rw [Bool.eq_iff_iff, List.any_eq_true]
  constructor
  · rintro ⟨c, hc, he⟩
    have : (c : Int) = a := by simpa using he
    subst this
    exact by simpa using (List.mem_filter.1 hc).2
  · intro h
    have hr := may_range h
    refine ⟨a.toNat, List.mem_filter.2 ⟨by simp; omega, ?_⟩, by simp; omega⟩
    rw [show ((a.toNat : Nat) : Int) = a by omega]
    exact h
theorem any_take_succ {l : List Nat} {k : Nat} (h : k < l.length) (a : Int) : ((l.take (k + 1)).any fun c => ((c : Int) == a)) = (((l.take k).any fun c => ((c : Int) == a)) || ((l[k] : Int) == a)) := by
  rw [List.take_succ_eq_append_getElem h, List.any_append]
  simp
theorem someKind_iff (c : Int) : someKind c = true ↔ ∃ k : Nat, k < 14 ∧ may ((k : Int) + 2) c = true := by
  unfold someKind
  rw [List.any_eq_true]
  constructor
  · rintro ⟨k, hk, hm⟩
    exact ⟨k, List.mem_range.1 hk, by simpa using hm⟩
  · rintro ⟨k, hk, hm⟩
    exact ⟨k, List.mem_range.2 hk, by simpa using hm⟩
theorem some_of_may {kind c : Int} (h : may kind c = true) : someKind c = true := by
  by_cases hk : 2 ≤ kind ∧ kind ≤ 15
  · rw [someKind_iff]
    refine ⟨(kind - 2).toNat, by omega, ?_⟩
    rw [show (((kind - 2).toNat : Nat) : Int) + 2 = kind by omega]
    exact h
  · rw [may_other (by omega)] at h; cases h
theorem some_range {c : Int} (h : someKind c = true) : 0 ≤ c ∧ c < 256 := by
  obtain ⟨k, _, hm⟩ := (someKind_iff c).1 h
  exact may_range hm
theorem text_yes {c : Int} (h : someKind c = true) : (textL c == [63]) = false := by
  unfold textL
  rw [if_pos h]
  simp
theorem text_no {c : Int} (h : someKind c = false) : textL c = [63] := by
  unfold textL
  rw [h]
  rfl
theorem hexd_inj : ∀ i j : Fin 16, hexd i.1 = hexd j.1 → i = j := by decide
theorem text_apart {a b : Int} (ha : someKind a = true) (hab : a ≠ b) : (textL a == textL b) = false := by
  rw [beq_eq_false_iff_ne]
  intro h
  have hr := some_range ha
  by_cases hb : someKind b = true
  · have hr' := some_range hb
    unfold textL at h
    rw [if_pos ha, if_pos hb] at h
    simp only [List.cons.injEq, and_true] at h
    have h1 := hexd_inj ⟨a.toNat / 16, by omega⟩ ⟨b.toNat / 16, by omega⟩ h.1
    have h2 := hexd_inj ⟨a.toNat % 16, by omega⟩ ⟨b.toNat % 16, by omega⟩ h.2
    simp only [Fin.mk.injEq] at h1 h2
    omega
  · have hb' : someKind b = false := by simpa using hb
    rw [text_no hb'] at h
    have := text_yes ha
    rw [h] at this
    simp at this

end Go.Proofs.YtmkkjiogokfnmaaDoor

namespace Go.Proofs.YtmkkjiogokfnmaaDoor
open Go.RowKit

theorem range_more (a : Nat) (k : Nat) : ints (List.range' a (k + 1)) = ints (List.range' a k) ++ [.int .i64 ((a : Int) + k)] := by
  rw [List.range'_concat]
  simp [ints]

set_option maxHeartbeats 400000 in
set_option maxRecDepth 10000 in
theorem from_any (v : Value) (n : Nat) (xs : List Value) (a b : Int) (na k : Nat) (base : Nat) (w : World) (hown : w.ownsRow base 3 1 v n xs) (hbase : base ≤ w.heap.size) (hn : n ≤ 1000) (ha : a = na) (hk : b + 1 = a + k) (hb : b < 256) :
    Calls Tryd.prog 25 #[v, .int .i64 a, .int .i64 b] w fun e w' => ∃ v', e = .returned v' ∧ w'.ownsRow base 3 1 v' (n + k) (xs ++ ints (List.range' na k)) ∧ Below base w w' := by
  have HO := Lib.hid hown; clear hown
  subst ha
  have HK := Lib.hid hk; clear hk
  go_enter Tryd.func25, Tryd.ntmps25
  go_wp2
  go_loopw [0, 1] (fun v i wr => ∃ j : Nat, j ≤ k ∧ i = .int .i64 ((na : Int) + j) ∧ wr.ownsRow base 3 1 v (n + j) (xs ++ ints (List.range' na j)) ∧ Below base w wr) (fun _ i _ => (b + 1 - intOf i).toNat)
  case atStart => exact ⟨0, by omega, by simp, by simpa using HO.out, Below.refl _ _⟩
  case round =>
    obtain ⟨j, hj, rfl, hown, hbel⟩ := hrel
    have HO1 := Lib.hid hown; clear hown
    have hz := hbel.size
    by_cases hlt : j < k
    · have h1 : (na : Int) + j ≤ b := by have := HK.out; omega
      have HR := Lib.hid (range_more na j)
      go_wp2_with (at_builtin; go_loud (refine wpList_app _ rfl (.tmp 12) (.tmp 14) 24 rfl base 3 (.int .i64 0) 1 8 Tryd.underlying24 info_int rfl (by decide) u0 _ _ rfl (HO1.out.alloc _) _ _ 1 1 [.int .i64 ((na : Int) + j)] rfl (Rd.lit _ _ _ rfl (Nat.lt_succ_self _) rfl) (by intro u hu; simp at hu; subst hu; rfl) (by unfold maxLen; omega) (by omega) (by simp; omega) ?_); intro v' w3 hown3 hg3 hat3)
      have R : w3.ownsRow base 3 1 v' (n + (j + 1)) (xs ++ ints (List.range' na (j + 1))) ∧ Below base w w3 := by
        refine ⟨?_, below_app (hbel.alloc (by omega) _) hg3 (by simp; omega) (fun g hg => (own_block HO1.out g hg).1)⟩
        rw [HR.out, ← List.append_assoc]
        exact hown3
      clear hown3 hg3 hat3
      go_wp2
      go_roundw
      case rel => exact ⟨j + 1, by omega, by simp; omega, R.1, R.2⟩
      case measure => have := HK.out; simp [intOf]; omega
    · obtain rfl : j = k := by omega
      have h1 : b < (na : Int) + j := by have := HK.out; omega
      go_wp2
      go_ret
      exact ⟨_, rfl, HO1.out, hbel⟩

def refAll (kind : Int) : List Nat :=
  if kind = 2 then [0] ++ List.range' 128 11 ++ [140, 144, 149, 151] ++ List.range' 153 5 ++ [159]
  else if kind = 4 ∨ kind = 5 then [0, 16, 128, 131, 135, 144, 145, 151, 153]
  else if kind = 6 ∨ kind = 7 then [0, 146]
  else if kind = 9 then [0, 1, 2, 128, 131, 135, 143, 145, 151, 158, 161, 162]
  else if kind = 11 then [0, 17, 128, 131, 135, 143, 145]
  else if kind = 14 then [0, 4] ++ List.range' 128 4 ++ [135, 137, 139, 141, 142, 143, 144] ++ List.range' 147 16
  else if kind = 15 then [0, 24, 25]
  else []
theorem refAll_eq (kind : Int) : refAll kind = allL kind := by
  by_cases hk : kind = 2 ∨ kind = 4 ∨ kind = 5 ∨ kind = 6 ∨ kind = 7 ∨ kind = 9 ∨ kind = 11 ∨ kind = 14 ∨ kind = 15
  · obtain rfl | rfl | rfl | rfl | rfl | rfl | rfl | rfl | rfl := hk
    all_goals decide +kernel
  · have h1 : refAll kind = [] := by
      unfold refAll
      rw [if_neg (by omega), if_neg (by omega), if_neg (by omega), if_neg (by omega), if_neg (by omega), if_neg (by omega), if_neg (by omega)]
    rw [h1]
    unfold allL allTo
    rw [eq_comm, List.filter_eq_nil_iff]
    intro c _
    rw [may_other hk]
    simp

/-- What All of the reference answers. -/
def AllPost (kind : Int) (w : World) (e : Ending) (w' : World) : Prop :=
  ∃ v, e = .returned v ∧ w'.ownsRow w.heap.size 3 1 v (refAll kind).length (ints (refAll kind)) ∧ Below w.heap.size w w'
theorem all_lit (w : World) (kind : Int) (l : List Nat) (h : refAll kind = l) (cs : Array Value) (hcs : cs.toList = ints l) (n : Nat) (hn : n = l.length) (hm : n ≤ 1000) :
    AllPost kind w (.returned (.slice (some ⟨w.heap.size, 0, none⟩) n n)) (w.alloc (.cells cs 3)) := by
  subst h hn
  refine ⟨_, rfl, ?_, (Below.refl _ _).alloc (Nat.le_refl _) _⟩
  rw [← hcs]
  exact World.ownsRow_lit w cs _ (Nat.le_refl _) (by unfold maxLen; omega) (by have := congrArg List.length hcs; simpa [ints] using this)

end Go.Proofs.YtmkkjiogokfnmaaDoor

namespace Go.Proofs.YtmkkjiogokfnmaaDoor
open Go.RowKit

set_option maxHeartbeats 400000 in
set_option maxRecDepth 10000 in
theorem refAll_4 (w : World) : Calls Tryd.prog 16 #[.int .i64 4] w (AllPost 4 w) := by
  go_enter Tryd.func16, Tryd.ntmps16
  go_wp2
  go_ret
  exact all_lit w 4 [0, 16, 128, 131, 135, 144, 145, 151, 153] (by decide) _ rfl _ rfl (by decide)
set_option maxHeartbeats 400000 in
set_option maxRecDepth 10000 in
theorem refAll_5 (w : World) : Calls Tryd.prog 16 #[.int .i64 5] w (AllPost 5 w) := by
  go_enter Tryd.func16, Tryd.ntmps16
  go_wp2
  go_ret
  exact all_lit w 5 [0, 16, 128, 131, 135, 144, 145, 151, 153] (by decide) _ rfl _ rfl (by decide)
set_option maxHeartbeats 400000 in
set_option maxRecDepth 10000 in
theorem refAll_6 (w : World) : Calls Tryd.prog 16 #[.int .i64 6] w (AllPost 6 w) := by
  go_enter Tryd.func16, Tryd.ntmps16
  go_wp2
  go_ret
  exact all_lit w 6 [0, 146] (by decide) _ rfl _ rfl (by decide)
set_option maxHeartbeats 400000 in
set_option maxRecDepth 10000 in
theorem refAll_7 (w : World) : Calls Tryd.prog 16 #[.int .i64 7] w (AllPost 7 w) := by
  go_enter Tryd.func16, Tryd.ntmps16
  go_wp2
  go_ret
  exact all_lit w 7 [0, 146] (by decide) _ rfl _ rfl (by decide)
set_option maxHeartbeats 400000 in
set_option maxRecDepth 10000 in
theorem refAll_9 (w : World) : Calls Tryd.prog 16 #[.int .i64 9] w (AllPost 9 w) := by
  go_enter Tryd.func16, Tryd.ntmps16
  go_wp2
  go_ret
  exact all_lit w 9 [0, 1, 2, 128, 131, 135, 143, 145, 151, 158, 161, 162] (by decide) _ rfl _ rfl (by decide)
set_option maxHeartbeats 400000 in
set_option maxRecDepth 10000 in
theorem refAll_11 (w : World) : Calls Tryd.prog 16 #[.int .i64 11] w (AllPost 11 w) := by
  go_enter Tryd.func16, Tryd.ntmps16
  go_wp2
  go_ret
  exact all_lit w 11 [0, 17, 128, 131, 135, 143, 145] (by decide) _ rfl _ rfl (by decide)
set_option maxHeartbeats 400000 in
set_option maxRecDepth 10000 in
theorem refAll_15 (w : World) : Calls Tryd.prog 16 #[.int .i64 15] w (AllPost 15 w) := by
  go_enter Tryd.func16, Tryd.ntmps16
  go_wp2
  go_ret
  exact all_lit w 15 [0, 24, 25] (by decide) _ rfl _ rfl (by decide)
set_option maxHeartbeats 400000 in
set_option maxRecDepth 10000 in
theorem refAll_2 (w : World) : Calls Tryd.prog 16 #[.int .i64 2] w (AllPost 2 w) := by
  go_enter Tryd.func16, Tryd.ntmps16
  go_wp2_with fail
  refine (from_any _ 1 (ints [0]) 128 138 128 11 w.heap.size _ (World.ownsRow_lit w _ 1 (Nat.le_refl _) (by decide) rfl) (by simp) (by omega) rfl rfl (by omega)).mono ?_
  rintro e w1 ⟨v1, rfl, hown1, hb1⟩
  have hbel1 := ((Below.refl w.heap.size w).alloc (Nat.le_refl _) (.cells #[.int .i64 0] 3)).trans hb1
  have hz1 := hbel1.size
  go_wp2_with (first | fail | (at_builtin; refine wpList_app _ rfl (.tmp 10) (.tmp 11) 24 rfl w.heap.size 3 (.int .i64 0) 1 8 Tryd.underlying24 info_int rfl (by decide) v1 _ _ rfl (hown1.alloc _) _ _ 4 4 (ints [140, 144, 149, 151]) rfl (Rd.lit _ _ _ rfl (Nat.lt_succ_self _) rfl) (ints_one _) (by unfold maxLen; omega) (by omega) (by simp; omega) ?_; intro v2 w2 hown2 hg2 hat2))
  have hbel2 := below_app (hbel1.alloc (by omega) _) hg2 (by simp; omega) (fun g hg => (own_block hown1 g hg).1)
  have hz2 := hbel2.size
  clear hg2 hat2 hown1 hb1
  refine (from_any v2 _ _ 153 157 153 5 w.heap.size _ hown2 (by omega) (by omega) rfl rfl (by omega)).mono ?_
  rintro e w3 ⟨v3, rfl, hown3, hb3⟩
  have hbel3 := hbel2.trans hb3
  have hz3 := hbel3.size
  clear hown2 hb3
  go_wp2_with (first | fail | (at_builtin; refine wpList_app _ rfl (.tmp 14) (.tmp 15) 24 rfl w.heap.size 3 (.int .i64 0) 1 8 Tryd.underlying24 info_int rfl (by decide) v3 _ _ rfl (hown3.alloc _) _ _ 1 1 (ints [159]) rfl (Rd.lit _ _ _ rfl (Nat.lt_succ_self _) rfl) (ints_one _) (by unfold maxLen; omega) (by omega) (by simp; omega) ?_; intro v4 w4 hown4 hg4 hat4))
  have hbel4 := below_app (hbel3.alloc (by omega) _) hg4 (by simp; omega) (fun g hg => (own_block hown3 g hg).1)
  clear hg4 hat4 hown3
  go_wp2
  go_ret
  exact ⟨_, rfl, hown4, hbel4⟩
set_option maxHeartbeats 400000 in
set_option maxRecDepth 10000 in
theorem refAll_14 (w : World) : Calls Tryd.prog 16 #[.int .i64 14] w (AllPost 14 w) := by
  go_enter Tryd.func16, Tryd.ntmps16
  go_wp2_with fail
  refine (from_any _ 2 (ints [0, 4]) 128 131 128 4 w.heap.size _ (World.ownsRow_lit w _ 2 (Nat.le_refl _) (by decide) rfl) (by simp) (by omega) rfl rfl (by omega)).mono ?_
  rintro e w1 ⟨v1, rfl, hown1, hb1⟩
  have hbel1 := ((Below.refl w.heap.size w).alloc (Nat.le_refl _) (.cells #[.int .i64 0, .int .i64 4] 3)).trans hb1
  have hz1 := hbel1.size
  go_wp2_with (first | fail | (at_builtin; refine wpList_app _ rfl (.tmp 35) (.tmp 36) 24 rfl w.heap.size 3 (.int .i64 0) 1 8 Tryd.underlying24 info_int rfl (by decide) v1 _ _ rfl (hown1.alloc _) _ _ 7 7 (ints [135, 137, 139, 141, 142, 143, 144]) rfl (Rd.lit _ _ _ rfl (Nat.lt_succ_self _) rfl) (ints_one _) (by unfold maxLen; omega) (by omega) (by simp; omega) ?_; intro v2 w2 hown2 hg2 hat2))
  have hbel2 := below_app (hbel1.alloc (by omega) _) hg2 (by simp; omega) (fun g hg => (own_block hown1 g hg).1)
  have hz2 := hbel2.size
  clear hg2 hat2 hown1 hb1
  refine (from_any v2 _ _ 147 162 147 16 w.heap.size _ hown2 (by omega) (by omega) rfl rfl (by omega)).mono ?_
  rintro e w3 ⟨v3, rfl, hown3, hb3⟩
  have hbel3 := hbel2.trans hb3
  clear hown2 hb3
  go_wp2
  go_ret
  exact ⟨_, rfl, hown3, hbel3⟩
set_option maxHeartbeats 400000 in
set_option maxRecDepth 10000 in
theorem refAll_any (kind : Int) (w : World) : Calls Tryd.prog 16 #[.int .i64 kind] w (AllPost kind w) := by
  by_cases h2 : kind = 2
  · subst h2; exact refAll_2 w
  by_cases h4 : kind = 4
  · subst h4; exact refAll_4 w
  by_cases h5 : kind = 5
  · subst h5; exact refAll_5 w
  by_cases h6 : kind = 6
  · subst h6; exact refAll_6 w
  by_cases h7 : kind = 7
  · subst h7; exact refAll_7 w
  by_cases h9 : kind = 9
  · subst h9; exact refAll_9 w
  by_cases h11 : kind = 11
  · subst h11; exact refAll_11 w
  by_cases h14 : kind = 14
  · subst h14; exact refAll_14 w
  by_cases h15 : kind = 15
  · subst h15; exact refAll_15 w
  have HR : Hid (refAll kind = []) := by
    show _ = _
    unfold refAll
    rw [if_neg (by omega), if_neg (by omega), if_neg (by omega), if_neg (by omega), if_neg (by omega), if_neg (by omega), if_neg (by omega)]
  go_enter Tryd.func16, Tryd.ntmps16
  go_wp2
  go_ret
  refine ⟨_, rfl, ?_, Below.refl _ _⟩
  rw [HR.out]
  exact World.ownsRow_nil _ _ _ _

end Go.Proofs.YtmkkjiogokfnmaaDoor

namespace Go.Proofs.YtmkkjiogokfnmaaDoor
open Go.RowKit

set_option maxHeartbeats 400000 in
set_option maxRecDepth 10000 in
theorem refMay_any (kind c : Int) (w : World) :
    Calls Tryd.prog 7 #[.int .i64 kind, .int .i64 c] w fun e w' => e = .returned (.bool (may kind c)) ∧ Below w.heap.size w w' := by
  have hmem := all_mem kind c
  rw [← refAll_eq] at hmem
  have HM := Lib.hid hmem; clear hmem
  go_enter Tryd.func7, Tryd.ntmps7
  go_wp2_with fail
  refine (refAll_any _ _).mono ?_
  rintro e w1 ⟨v, rfl, hown, hb1⟩
  obtain ⟨A, cp, rfl, hc, hrd⟩ := own_rd hown
  have hn : (refAll kind).length ≤ 256 := by rw [refAll_eq]; exact allTo_len kind 256
  clear hown
  have hs1 := hb1.size
  generalize refAll kind = l at *
  go_wp2
  go_loopw [6] (fun i wr => ∃ k : Nat, k ≤ l.length ∧ i = .int .i64 k ∧ (((l.take k).any fun x => ((x : Int) == c)) = false) ∧ Below w1.heap.size w1 wr) (fun i _ => l.length - (intOf i).toNat)
  case atStart => exact ⟨0, by omega, rfl, rfl, Below.refl _ _⟩
  case round =>
    obtain ⟨k, hk, rfl, hno, hb⟩ := hrel
    have HN := Lib.hid hno; clear hno
    have hbel : Below w.heap.size w wr := hb1.trans (hb.mono hs1)
    by_cases hlt : k < l.length
    · obtain ⟨bA, oA, u, rfl, hadb, hu, hcell⟩ := (hrd.below hb).at1 hlt
      have hu' : u = .int .i64 (l[k] : Nat) := by simpa [hlt] using hu.symm
      subst hu'
      have HS := Lib.hid (any_take_succ hlt c)
      have HG : Hid (l[k] ∈ l) := List.getElem_mem hlt
      generalize l[k] = z at *
      clear hu hrd
      cases hz : ((z : Int) == c) with
      | true =>
        have hfin : may kind c = true := by
          rw [← HM.out]
          exact List.any_eq_true.2 ⟨z, HG.out, hz⟩
        have HF := Lib.hid hfin; clear hfin
        go_wp2
        go_ret
        exact ⟨by rw [HF.out]; rfl, hbel⟩
      | false =>
        have HZ := Lib.hid hz
        go_wp2
        go_roundw
        case rel => exact ⟨k + 1, by omega, by go_num, by rw [HS.out, HN.out, HZ.out]; rfl, hb⟩
        case measure => simp [intOf]; omega
    · obtain rfl : k = l.length := by omega
      have hfin : may kind c = false := by rw [← HM.out]; have := HN.out; rwa [List.take_length] at this
      have HF := Lib.hid hfin; clear hfin
      go_wp2
      go_ret
      exact ⟨by rw [HF.out]; rfl, hbel⟩

set_option maxHeartbeats 400000 in
theorem refGrant_any (c : Int) (w : World) :
    Calls Tryd.prog 8 #[.int .i64 c] w fun e w' => e = .returned (.bool (grantB c)) ∧ w = w' := by
  go_enter Tryd.func8, Tryd.ntmps8
  go_wp2
  all_goals
    go_ret
    simp_all [grantB]

theorem ints_at {l : List Nat} {k : Nat} (h : k < l.length) : (ints l)[k]? = some (.int .i64 (l[k] : Nat)) := by simp [ints, h]
def oth : List Nat := [0, 132, 133, 136, 134, 135]
theorem to5_in : ∀ k : Fin 6, to5 (k.1 : Int) = (((oth[k.1]'(k.2) : Nat) : Int), true) := by decide
theorem to5_out {c : Int} (h : retB c = false) : to5 c = (0, false) := by
  unfold retB at h
  simp at h
  unfold to5
  repeat rw [if_neg (by omega)]

theorem digit_cut : ∀ i : Fin 16, (ByteArray.mk #[48, 49, 50, 51, 52, 53, 54, 55, 56, 57, 97, 98, 99, 100, 101, 102]).extract i.1 (i.1 + 1) = ⟨#[hexd i.1]⟩ := by decide
theorem two_bytes (a b : UInt8) : (ByteArray.mk #[a]) ++ (ByteArray.mk #[b]) = ⟨#[a, b]⟩ := rfl

end Go.Proofs.YtmkkjiogokfnmaaDoor
