/- Walks of octet: Get, and the cursor. -/
import Derived.Test.YtdpeljnoaiaplaaOctA
import Derived.Lib.Strings
namespace Go.Proofs.Ytdpeljnoaiaplaa
open Go.RowKit

/-- The bytes of a text. -/
def ls (s : ByteArray) : List UInt8 := s.data.toList
theorem ls_len (s : ByteArray) : (ls s).length = s.size := Array.length_toList
theorem ls_at (s : ByteArray) (i : Nat) (h : i < s.size) : (ls s)[i]'(by rw [ls_len]; exact h) = s[i] := by
  simp [ls]; rfl
theorem ls_ext {s t : ByteArray} (h : ls s = ls t) : s = t := by
  cases s; cases t
  congr 1
  exact Array.ext' h
theorem ls_mk (l : List UInt8) : ls ⟨l.toArray⟩ = l := by simp [ls]
theorem mk_ls (s : ByteArray) : (⟨(ls s).toArray⟩ : ByteArray) = s := by cases s; simp [ls]
theorem ls_take_succ (s : ByteArray) (i : Nat) (h : i < s.size) : (ls s).take (i + 1) = (ls s).take i ++ [s[i]] := by
  rw [List.take_succ_eq_append_getElem (by rw [ls_len]; exact h), ls_at s i h]

theorem wrap_byte (b : UInt8) : IntKind.u64.wrap (b.toNat : Int) = (b.toNat : Int) := by
  have := b.toNat_lt
  rw [IntKind.wrap_u64]; omega

set_option maxHeartbeats 400000 in
set_option maxRecDepth 10000 in
theorem get_short (s : ByteArray) (w : World) (hs : s.size ≤ 8) :
    Calls Try.prog 106 #[.string s] w fun e w' => e = .returned (.int .u64 (getL (ls s))) ∧ w = w' := by
  go_enter Try.func106, Try.ntmps106
  go_wp2
  go_loop [3, 15] (fun n i => ∃ k : Nat, k ≤ s.size ∧ i = .int .i64 k ∧ n = .int .u64 (getL ((ls s).take k))) (fun _ i => s.size - (intOf i).toNat)
  case atStart => exact ⟨0, by omega, rfl, rfl⟩
  case round =>
    obtain ⟨k, hk, rfl, rfl⟩ := hrel
    by_cases hlt : k < s.size
    · have hlen : getL ((ls s).take k) < 72057594037927936 := by
        have h1 := getL_lt ((ls s).take k)
        have h2 : ((ls s).take k).length = k := by rw [List.length_take, ls_len]; omega
        rw [h2] at h1
        exact Nat.lt_of_lt_of_le h1 (Nat.le_trans (Nat.pow_le_pow_right (by omega) (by omega : k ≤ 7)) (by decide))
      have HS : Hid (((getL ((ls s).take (k + 1)) : Nat) : Int) = bits BinOp.or IntKind.u64 (IntKind.u64.wrap ((getL ((ls s).take k) : Int) * 256)) (IntKind.u64.wrap (s[k].toNat : Int))) := by
        show _ = _
        rw [wrap_byte, or_low _ _ hlen, ls_take_succ s k hlt, getL_snoc]
      generalize getL ((ls s).take k) = n at *
      have HL := Lib.hid hlen; clear hlen
      go_wp2
      go_round
      case rel => exact ⟨k + 1, by omega, by go_num, by rw [HS.out]⟩
      case measure => simp [intOf]; omega
    · obtain rfl : k = s.size := by omega
      go_wp2
      go_ret
      refine ⟨?_, rfl⟩
      show Ending.returned (.int .u64 (getL ((ls s).take s.size))) = _
      rw [List.take_of_length_le (by rw [ls_len]; exact Nat.le_refl _)]

/-! ### The cursor: the block of its three cells -/
def curC (t : ByteArray) (at_ : Nat) (e : Int) : Array Value := #[.string t, .int .i64 at_, .int .i64 e]
abbrev CT : TypeId := 121
/-- A cursor, of the text t, at a place, with an error (or 0). -/
def Cur (w : World) (g : Nat) (t : ByteArray) (a : Nat) (e : Int) : Prop := Bk w g CT (curC t a e) ∧ a ≤ t.size ∧ t.size ≤ 4611686018427387904
theorem Cur.cells {w : World} {g a : Nat} {t : ByteArray} {e : Int} (h : Cur w g t a e) : (w.cell? ⟨g, 0, none⟩ = some (.string t) ∧ w.cell? ⟨g, 1, none⟩ = some (.int .i64 a) ∧ w.cell? ⟨g, 2, none⟩ = some (.int .i64 e)) ∧ w.frozen? ⟨g, 0, none⟩ = false ∧ w.frozen? ⟨g, 1, none⟩ = false ∧ w.frozen? ⟨g, 2, none⟩ = false := h.1.three
theorem Cur.lt {w : World} {g a : Nat} {t : ByteArray} {e : Int} (h : Cur w g t a e) : g < w.heap.size := h.1.lt

set_option maxHeartbeats 400000 in
theorem newCur_any (s : ByteArray) (w : World) (hs : s.size ≤ 4611686018427387904) :
    Calls Try.prog 66 #[.string s] w fun e w' => e = .returned (.pointer (some ⟨w.heap.size, 0, none⟩)) ∧ Cur w' w.heap.size s 0 0 ∧ Below w.heap.size w w' := by
  go_enter Try.func66, Try.ntmps66
  go_wp2
  go_ret
  exact ⟨rfl, ⟨Bk.fresh _ _ _, by omega, hs⟩, (Below.refl _ _).alloc (Nat.le_refl _) _⟩

set_option maxHeartbeats 400000 in
theorem ready_any (g a : Nat) (t : ByteArray) (e : Int) (w : World) (h : Cur w g t a e) :
    Calls Try.prog 110 #[.pointer (some ⟨g, 0, none⟩)] w fun e' w' => e' = .returned (.bool (e == 0)) ∧ w = w' := by
  obtain ⟨⟨c0, c1, c2⟩, _⟩ := h.cells
  clear h
  go_enter Try.func110, Try.ntmps110
  go_wp2
  go_ret
  exact ⟨rfl, rfl⟩

/-- So many bytes are left. -/
def hasC (t : ByteArray) (a : Nat) (n : Int) : Bool := decide (0 ≤ n) && decide (n ≤ (t.size : Int) - a)
set_option maxHeartbeats 400000 in
theorem has_any' (g a : Nat) (t : ByteArray) (e : Int) (n : Int) (w : World) (h : Cur w g t a e) :
    Calls Try.prog 133 #[.pointer (some ⟨g, 0, none⟩), .int .i64 n] w fun e' w' => e' = .returned (.bool (hasC t a n)) ∧ Below w.heap.size w w' := by
  obtain ⟨⟨c0, c1, c2⟩, _⟩ := h.cells
  obtain ⟨_, ha, ht⟩ := h
  by_cases h0 : 0 ≤ n
  · have hfin : hasC t a n = decide (n ≤ (t.size : Int) - a) := by simp [hasC, h0]
    have HF := Lib.hid hfin; clear hfin
    have hd : decide (0 ≤ n) = true := decide_eq_true h0
    go_enter Try.func133, Try.ntmps133
    go_wp2
    go_quiet (fail)
    go_wp2
    go_ret
    exact ⟨by rw [HF.out]; rfl, below_drawn (Below.refl _ _) _⟩
  · have hfin : hasC t a n = false := by simp [hasC, h0]
    have HF := Lib.hid hfin; clear hfin
    have hd : decide (0 ≤ n) = false := decide_eq_false h0
    go_enter Try.func133, Try.ntmps133
    go_wp2
    go_quiet (fail)
    go_wp2
    go_ret
    exact ⟨by rw [HF.out]; rfl, below_drawn (Below.refl _ _) _⟩

end Go.Proofs.Ytdpeljnoaiaplaa
