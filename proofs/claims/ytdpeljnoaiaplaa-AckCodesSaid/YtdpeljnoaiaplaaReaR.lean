/- Walks of the reference for reason codes. -/
import Derived.Test.YtdpeljnoaiaplaaReaL
import Derived.Test.YtdpeljnoaiaplaaSameI
namespace Go.Proofs.Ytdpeljnoaiaplaa
open Go.RowKit

theorem range_more (a : Nat) (k : Nat) : ints (List.range' a (k + 1)) = ints (List.range' a k) ++ [.int .i64 ((a : Int) + k)] := by
  rw [List.range'_concat]
  simp [ints]

set_option maxHeartbeats 400000 in
set_option maxRecDepth 10000 in
theorem from_any (v : Value) (n : Nat) (xs : List Value) (a b : Int) (na k : Nat) (base : Nat) (w : World) (hown : w.ownsRow base 3 1 v n xs) (hbase : base ≤ w.heap.size) (hn : n ≤ 1000) (ha : a = na) (hk : b + 1 = a + k) (hb : b < 256) :
    Calls Try.prog 84 #[v, .int .i64 a, .int .i64 b] w fun e w' => ∃ v', e = .returned v' ∧ w'.ownsRow base 3 1 v' (n + k) (xs ++ ints (List.range' na k)) ∧ Below base w w' := by
  have HO := Lib.hid hown; clear hown
  subst ha
  have HK := Lib.hid hk; clear hk
  go_enter Try.func84, Try.ntmps84
  go_wp2
  go_loopw [0, 1] (fun v i wr => ∃ j : Nat, j ≤ k ∧ i = .int .i64 ((na : Int) + j) ∧ wr.ownsRow base 3 1 v (n + j) (xs ++ ints (List.range' na j)) ∧ Below base w wr) (fun _ i _ => (b + 1 - intOf i).toNat)
  case atStart => exact ⟨0, by omega, by simp, by simpa using HO.out, Below.refl _ _⟩
  case round =>
    obtain ⟨j, hj, rfl, hown, hbel⟩ := hrel
    have HO1 := Lib.hid hown; clear hown
    have hz := hbel.size
    by_cases hlt : j < k
    · have h1 : (na : Int) + j ≤ b := by have := HK.out; omega
      have HR := Lib.hid (range_more na j)
      go_wp2_with (at_builtin; go_loud (refine wpList_app _ rfl (.tmp 12) (.tmp 14) 28 rfl base 3 (.int .i64 0) 1 8 Try.underlying28 info_int rfl (by decide) u0 _ _ rfl (HO1.out.alloc _) _ _ 1 1 [.int .i64 ((na : Int) + j)] rfl (Rd.lit _ _ _ rfl (Nat.lt_succ_self _) rfl) (by intro u hu; simp at hu; subst hu; rfl) (by unfold maxLen; omega) (by omega) (by simp; omega) ?_); intro v' w3 hown3 hg3 hat3)
      have R : w3.ownsRow base 3 1 v' (n + (j + 1)) (xs ++ ints (List.range' na (j + 1))) ∧ Below base w w3 := by
        refine ⟨?_, below_app (hbel.alloc (by omega) _) hg3 (by simp; omega) (fun g hg => (own_block HO1.out g hg).1)⟩
        rw [HR.out, ← List.append_assoc]
        exact hown3
      clear hown3 hg3 hat3
      go_wp2
      go_roundw
      case rel => exact ⟨j + 1, by omega, by simp; omega, R.1, R.2⟩
      case measure => have := HK.out; simp [intOf]; omega
    · obtain rfl : j = k := by omega
      have h1 : b < (na : Int) + j := by have := HK.out; omega
      go_wp2
      go_ret
      exact ⟨_, rfl, HO1.out, hbel⟩

def refAll (kind : Int) : List Nat :=
  if kind = 2 then [0] ++ List.range' 128 11 ++ [140, 144, 149, 151] ++ List.range' 153 5 ++ [159]
  else if kind = 4 ∨ kind = 5 then [0, 16, 128, 131, 135, 144, 145, 151, 153]
  else if kind = 6 ∨ kind = 7 then [0, 146]
  else if kind = 9 then [0, 1, 2, 128, 131, 135, 143, 145, 151, 158, 161, 162]
  else if kind = 11 then [0, 17, 128, 131, 135, 143, 145]
  else if kind = 14 then [0, 4] ++ List.range' 128 4 ++ [135, 137, 139, 141, 142, 143, 144] ++ List.range' 147 16
  else if kind = 15 then [0, 24, 25]
  else []
theorem refAll_eq (kind : Int) : refAll kind = allL kind := by
  by_cases hk : kind = 2 ∨ kind = 4 ∨ kind = 5 ∨ kind = 6 ∨ kind = 7 ∨ kind = 9 ∨ kind = 11 ∨ kind = 14 ∨ kind = 15
  · obtain rfl | rfl | rfl | rfl | rfl | rfl | rfl | rfl | rfl := hk
    all_goals decide +kernel
  · have h1 : refAll kind = [] := by
      unfold refAll
      rw [if_neg (by omega), if_neg (by omega), if_neg (by omega), if_neg (by omega), if_neg (by omega), if_neg (by omega), if_neg (by omega)]
    rw [h1]
    unfold allL allTo
    rw [eq_comm, List.filter_eq_nil_iff]
    intro c _
    rw [may_other hk]
    simp

/-- What All of the reference answers. -/
def AllPost (kind : Int) (w : World) (e : Ending) (w' : World) : Prop :=
  ∃ v, e = .returned v ∧ w'.ownsRow w.heap.size 3 1 v (refAll kind).length (ints (refAll kind)) ∧ Below w.heap.size w w'
theorem all_lit (w : World) (kind : Int) (l : List Nat) (h : refAll kind = l) (cs : Array Value) (hcs : cs.toList = ints l) (n : Nat) (hn : n = l.length) (hm : n ≤ 1000) :
    AllPost kind w (.returned (.slice (some ⟨w.heap.size, 0, none⟩) n n)) (w.alloc (.cells cs 3)) := by
  subst h hn
  refine ⟨_, rfl, ?_, (Below.refl _ _).alloc (Nat.le_refl _) _⟩
  rw [← hcs]
  exact World.ownsRow_lit w cs _ (Nat.le_refl _) (by unfold maxLen; omega) (by have := congrArg List.length hcs; simpa [ints] using this)

end Go.Proofs.Ytdpeljnoaiaplaa
