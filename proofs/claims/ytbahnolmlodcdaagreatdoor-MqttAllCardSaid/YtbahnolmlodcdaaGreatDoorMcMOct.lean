/- A part of what the laws stand on: MOct. -/
import Derived.Test.YtbahnolmlodcdaaGreatDoorProg
import Derived.Test.YtbahnolmlodcdaaGreatDoorMcMKit
import Derived.Deep.OwnRows
import Derived.Lib.Strings
namespace Go.Proofs.YtbahnolmlodcdaaGreatDoor
open Go.RowKit

theorem info_byte : (Tryz.prog.info? 5).map (fun i => (i.zero, i.size, i.bytes)) = some (some (.int .u8 0), 1, 1) := by kernel_rfl
/-- The lowest k bytes of n, the highest first. -/
def putL (n k : Nat) : List UInt8 := (List.range k).map fun j => if k - 1 - j < 8 then UInt8.ofNat (n / 2 ^ (8 * (k - 1 - j))) else 0
theorem putL_len (n k : Nat) : (putL n k).length = k := by simp [putL]
def putAt (n k i j : Nat) : Value := if k - 1 - j < i then .int .u8 ((if k - 1 - j < 8 then UInt8.ofNat (n / 2 ^ (8 * (k - 1 - j))) else 0 : UInt8).toNat : Int) else .int .u8 0

theorem Rd.of_row {w : World} {g n : Nat} {t : TypeId} {f : Nat → Value} (h : w.rowIs g t n f) (l : List UInt8) (hl : l.length = n) (hf : ∀ i (hi : i < l.length), f i = .int .u8 (l[i].toNat : Int)) : Rd w w.heap.size 1 (some ⟨g, 0, none⟩) n (bys l) := by
  refine ⟨by simp [bys, hl], .inr ⟨g, 0, rfl, h.lt, fun j u hu => ?_⟩⟩
  have hj : j < l.length := by
    rcases Nat.lt_or_ge j l.length with h | h
    · exact h
    · rw [List.getElem?_eq_none (by simpa [bys] using h)] at hu; cases hu
  rw [Nat.zero_add, h.cell (by omega), hf j hj]
  simpa [bys, hj] using hu

set_option maxHeartbeats 400000 in
set_option maxRecDepth 10000 in
theorem put_any (n k : Nat) (w : World) (hn : n < 18446744073709551616) (hk : 0 < k) (hk2 : k ≤ 16) :
    Calls Tryz.prog 52 #[.int .u64 n, .int .i64 k] w fun e w' => e = .returned (.string ⟨(putL n k).toArray⟩) ∧ Below w.heap.size w w' := by
  have hmk := fun W => run_make_row' (P := Tryz.prog) 82 5 (.int .u8 0) 1 Tryz.underlying82 info_byte rfl .i64 .i64 k (by omega) (by omega) W
  have HN := Lib.hid hn; clear hn
  have hk0 : decide (k = 0) = false := decide_eq_false (by omega)
  go_enter Tryz.func52, Tryz.ntmps52
  go_wp2
  go_loopw [14] (fun i wr => ∃ j : Nat, j ≤ k ∧ i = .int .i64 j ∧ wr.rowIs w.heap.size 5 k (putAt n k j) ∧ Below w.heap.size w wr) (fun i _ => k - (intOf i).toNat)
  case atStart => exact ⟨0, by omega, rfl, (World.rowIs_made w _ k _).congr fun i _ => by simp [putAt], (Below.refl _ _).alloc (Nat.le_refl _) _⟩
  case round =>
    obtain ⟨j, hj, rfl, hrow, hbel⟩ := hrel
    by_cases hlt : j < k
    · by_cases h8 : j < 8
      · have hc := hrow.cell (i := k - 1 - j) (by omega)
        have hf := hrow.frozen (k - 1 - j)
        have HR := Lib.hid hrow; clear hrow
        have e1 : ((k : Int) - 1 - j) = ((k - 1 - j : Nat) : Int) := by omega
        go_wp2
        go_roundw
        case rel =>
          refine ⟨j + 1, by omega, by go_num, ?_, hbel.setCell (by simp) _⟩
          refine (HR.out.set (k - 1 - j) _).congr fun i hi => ?_
          unfold putAt
          by_cases he : i = k - 1 - j
          · subst he
            have e2 : k - 1 - (k - 1 - j) = j := by omega
            rw [if_pos rfl, e2, if_pos (by omega), if_pos h8]
            have e3 : (n : Int) / 2 ^ (8 * j) = ((n / 2 ^ (8 * j) : Nat) : Int) := by simp
            rw [e3, UInt8.toNat_ofNat']
            rfl
          · rw [if_neg he]
            by_cases h1 : k - 1 - i < j
            · rw [if_pos h1, if_pos (show k - 1 - i < j + 1 by omega)]
            · rw [if_neg h1, if_neg (show ¬ k - 1 - i < j + 1 by omega)]
        case measure => simp [intOf]; omega
      · have HR := Lib.hid hrow; clear hrow
        have h8' : (8 : Int) ≤ (j : Int) := by omega
        go_wp2
        go_roundw
        case rel =>
          refine ⟨j + 1, by omega, by go_num, HR.out.congr fun i hi => ?_, hbel⟩
          unfold putAt
          by_cases h1 : k - 1 - i < j
          · rw [if_pos h1, if_pos (show k - 1 - i < j + 1 by omega)]
          · rw [if_neg h1]
            by_cases h2 : k - 1 - i < j + 1
            · rw [if_pos h2, if_neg (show ¬ k - 1 - i < 8 by omega)]
              rfl
            · rw [if_neg h2]
        case measure => simp [intOf]; omega
    · obtain rfl : j = k := by omega
      have hrd : Rd wr wr.heap.size 1 (some ⟨w.heap.size, 0, none⟩) j (bys (putL n j)) := Rd.of_row hrow _ (putL_len n j) fun i hi => by
        rw [putL_len] at hi
        unfold putAt
        rw [if_pos (by omega)]
        simp [putL]
      have hconv := conv_rd (P := Tryz.prog) 82 9 5 Tryz.underlying82 Tryz.underlying5 Tryz.underlying9 j hrd
      clear hrow hrd
      go_wp2
      go_ret
      exact ⟨rfl, hbel⟩

/-- The number that bytes are. -/
def getL (l : List UInt8) : Nat := l.foldl (fun n b => n * 256 + b.toNat) 0
theorem getL_snoc (l : List UInt8) (b : UInt8) : getL (l ++ [b]) = getL l * 256 + b.toNat := by simp [getL]
theorem getL_aux : ∀ (l : List UInt8) (n : Nat), l.foldl (fun n b => n * 256 + b.toNat) n < (n + 1) * 256 ^ l.length
  | [], n => by simp
  | b :: l, n => by
    have h := getL_aux l (n * 256 + b.toNat)
    have hb := b.toNat_lt
    simp only [List.foldl_cons, List.length_cons, Nat.pow_succ]
    refine Nat.lt_of_lt_of_le h ?_
    rw [Nat.mul_comm (256 ^ l.length) 256, ← Nat.mul_assoc]
    exact Nat.mul_le_mul_right _ (by omega)
theorem getL_lt (l : List UInt8) : getL l < 256 ^ l.length := by
  have := getL_aux l 0
  simpa [getL] using this
theorem or_low (n : Nat) (b : UInt8) (h : n < 72057594037927936) : bits BinOp.or IntKind.u64 (IntKind.u64.wrap ((n : Int) * 256)) (b.toNat : Int) = ((n * 256 + b.toNat : Nat) : Int) := by
  have hb := b.toNat_lt
  have e : IntKind.u64.wrap ((n : Int) * 256) = ((n * 256 : Nat) : Int) := by rw [IntKind.wrap_u64]; omega
  rw [e, u64_or_nat _ _ (by omega) (by omega)]
  have : n * 256 ||| b.toNat = n * 256 + b.toNat := by
    have := Nat.two_pow_add_eq_or_of_lt (i := 8) (b := b.toNat) (by omega) n
    rw [show n * 256 = 2 ^ 8 * n by omega, this]
  rw [this]

end Go.Proofs.YtbahnolmlodcdaaGreatDoor

namespace Go.Proofs.YtbahnolmlodcdaaGreatDoor
open Go.RowKit

/-- The bytes of a text. -/
def ls (s : ByteArray) : List UInt8 := s.data.toList
theorem ls_len (s : ByteArray) : (ls s).length = s.size := Array.length_toList
theorem ls_at (s : ByteArray) (i : Nat) (h : i < s.size) : (ls s)[i]'(by rw [ls_len]; exact h) = s[i] := by
  simp [ls]; rfl
theorem ls_ext {s t : ByteArray} (h : ls s = ls t) : s = t := by
  cases s; cases t
  congr 1
  exact Array.ext' h
theorem ls_mk (l : List UInt8) : ls ⟨l.toArray⟩ = l := by simp [ls]
theorem mk_ls (s : ByteArray) : (⟨(ls s).toArray⟩ : ByteArray) = s := by cases s; simp [ls]
theorem ls_take_succ (s : ByteArray) (i : Nat) (h : i < s.size) : (ls s).take (i + 1) = (ls s).take i ++ [s[i]] := by
  rw [List.take_succ_eq_append_getElem (by rw [ls_len]; exact h), ls_at s i h]

theorem wrap_byte (b : UInt8) : IntKind.u64.wrap (b.toNat : Int) = (b.toNat : Int) := by
  have := b.toNat_lt
  rw [IntKind.wrap_u64]; omega

set_option maxHeartbeats 400000 in
set_option maxRecDepth 10000 in
theorem get_short (s : ByteArray) (w : World) (hs : s.size ≤ 8) :
    Calls Tryz.prog 103 #[.string s] w fun e w' => e = .returned (.int .u64 (getL (ls s))) ∧ w = w' := by
  go_enter Tryz.func103, Tryz.ntmps103
  go_wp2
  go_loop [3, 15] (fun n i => ∃ k : Nat, k ≤ s.size ∧ i = .int .i64 k ∧ n = .int .u64 (getL ((ls s).take k))) (fun _ i => s.size - (intOf i).toNat)
  case atStart => exact ⟨0, by omega, rfl, rfl⟩
  case round =>
    obtain ⟨k, hk, rfl, rfl⟩ := hrel
    by_cases hlt : k < s.size
    · have hlen : getL ((ls s).take k) < 72057594037927936 := by
        have h1 := getL_lt ((ls s).take k)
        have h2 : ((ls s).take k).length = k := by rw [List.length_take, ls_len]; omega
        rw [h2] at h1
        exact Nat.lt_of_lt_of_le h1 (Nat.le_trans (Nat.pow_le_pow_right (by omega) (by omega : k ≤ 7)) (by decide))
      have HS : Hid (((getL ((ls s).take (k + 1)) : Nat) : Int) = bits BinOp.or IntKind.u64 (IntKind.u64.wrap ((getL ((ls s).take k) : Int) * 256)) (IntKind.u64.wrap (s[k].toNat : Int))) := by
        show _ = _
        rw [wrap_byte, or_low _ _ hlen, ls_take_succ s k hlt, getL_snoc]
      generalize getL ((ls s).take k) = n at *
      have HL := Lib.hid hlen; clear hlen
      go_wp2
      go_round
      case rel => exact ⟨k + 1, by omega, by go_num, by rw [HS.out]⟩
      case measure => simp [intOf]; omega
    · obtain rfl : k = s.size := by omega
      go_wp2
      go_ret
      refine ⟨?_, rfl⟩
      show Ending.returned (.int .u64 (getL ((ls s).take s.size))) = _
      rw [List.take_of_length_le (by rw [ls_len]; exact Nat.le_refl _)]

def curC (t : ByteArray) (at_ : Nat) (e : Int) : Array Value := #[.string t, .int .i64 at_, .int .i64 e]
abbrev CT : TypeId := 146
/-- A cursor, of the text t, at a place, with an error (or 0). -/
def Cur (w : World) (g : Nat) (t : ByteArray) (a : Nat) (e : Int) : Prop := Bk w g CT (curC t a e) ∧ a ≤ t.size ∧ t.size ≤ 4611686018427387904
theorem Cur.cells {w : World} {g a : Nat} {t : ByteArray} {e : Int} (h : Cur w g t a e) : (w.cell? ⟨g, 0, none⟩ = some (.string t) ∧ w.cell? ⟨g, 1, none⟩ = some (.int .i64 a) ∧ w.cell? ⟨g, 2, none⟩ = some (.int .i64 e)) ∧ w.frozen? ⟨g, 0, none⟩ = false ∧ w.frozen? ⟨g, 1, none⟩ = false ∧ w.frozen? ⟨g, 2, none⟩ = false := h.1.three
theorem Cur.lt {w : World} {g a : Nat} {t : ByteArray} {e : Int} (h : Cur w g t a e) : g < w.heap.size := h.1.lt

set_option maxHeartbeats 400000 in
theorem newCur_any (s : ByteArray) (w : World) (hs : s.size ≤ 4611686018427387904) :
    Calls Tryz.prog 56 #[.string s] w fun e w' => e = .returned (.pointer (some ⟨w.heap.size, 0, none⟩)) ∧ Cur w' w.heap.size s 0 0 ∧ Below w.heap.size w w' := by
  go_enter Tryz.func56, Tryz.ntmps56
  go_wp2
  go_ret
  exact ⟨rfl, ⟨Bk.fresh _ _ _, by omega, hs⟩, (Below.refl _ _).alloc (Nat.le_refl _) _⟩

set_option maxHeartbeats 400000 in
theorem ready_any (g a : Nat) (t : ByteArray) (e : Int) (w : World) (h : Cur w g t a e) :
    Calls Tryz.prog 106 #[.pointer (some ⟨g, 0, none⟩)] w fun e' w' => e' = .returned (.bool (e == 0)) ∧ w = w' := by
  obtain ⟨⟨c0, c1, c2⟩, _⟩ := h.cells
  clear h
  go_enter Tryz.func106, Tryz.ntmps106
  go_wp2
  go_ret
  exact ⟨rfl, rfl⟩

/-- So many bytes are left. -/
def hasC (t : ByteArray) (a : Nat) (n : Int) : Bool := decide (0 ≤ n) && decide (n ≤ (t.size : Int) - a)
set_option maxHeartbeats 400000 in
theorem has_any' (g a : Nat) (t : ByteArray) (e : Int) (n : Int) (w : World) (h : Cur w g t a e) :
    Calls Tryz.prog 107 #[.pointer (some ⟨g, 0, none⟩), .int .i64 n] w fun e' w' => e' = .returned (.bool (hasC t a n)) ∧ Below w.heap.size w w' := by
  obtain ⟨⟨c0, c1, c2⟩, _⟩ := h.cells
  obtain ⟨_, ha, ht⟩ := h
  by_cases h0 : 0 ≤ n
  · have hfin : hasC t a n = decide (n ≤ (t.size : Int) - a) := by simp [hasC, h0]
    have HF := Lib.hid hfin; clear hfin
    have hd : decide (0 ≤ n) = true := decide_eq_true h0
    go_enter Tryz.func107, Tryz.ntmps107
    go_wp2
    go_quiet (fail)
    go_wp2
    go_ret
    exact ⟨by rw [HF.out]; rfl, below_drawn (Below.refl _ _) _⟩
  · have hfin : hasC t a n = false := by simp [hasC, h0]
    have HF := Lib.hid hfin; clear hfin
    have hd : decide (0 ≤ n) = false := decide_eq_false h0
    go_enter Tryz.func107, Tryz.ntmps107
    go_wp2
    go_quiet (fail)
    go_wp2
    go_ret
    exact ⟨by rw [HF.out]; rfl, below_drawn (Below.refl _ _) _⟩

end Go.Proofs.YtbahnolmlodcdaaGreatDoor

namespace Go.Proofs.YtbahnolmlodcdaaGreatDoor
open Go.RowKit

/-- What a taking answers, the place and the error behind it. -/
def takeS (t : ByteArray) (a : Nat) (e n : Int) : ByteArray × Nat × Int :=
  if e = 0 then (if hasC t a n = true then (t.extract a (a + n.toNat), a + n.toNat, 0) else (⟨#[]⟩, a, 3)) else (⟨#[]⟩, a, e)
theorem takeS_le {t : ByteArray} {a : Nat} (h : a ≤ t.size) (e n : Int) : (takeS t a e n).2.1 ≤ t.size := by
  unfold takeS
  split
  · split
    · rename_i h1
      simp only [hasC, Bool.and_eq_true, decide_eq_true_iff] at h1
      show a + n.toNat ≤ t.size
      omega
    · exact h
  · exact h
theorem Bk.upd {w : World} {g : Nat} {t : TypeId} {cs : Array Value} (h : Bk w g t cs) (i : Nat) (u : Value) {cs' : Array Value} (e : cs.setIfInBounds i u = cs') : Bk (w.setCell ⟨g, i, none⟩ u) g t cs' := by
  subst e; exact h.put i u
theorem mod_set (w : World) (g i : Nat) (u : Value) : w.grownBy (w.setCell ⟨g, i, none⟩ u) (some g) :=
  ⟨rfl, rfl, rfl, by simp [World.setCell], fun k _ hk => Below.heap_setCell _ _ _ _ (fun e => hk (by rw [e]))⟩
theorem mod_refl (w : World) (g : Nat) : w.grownBy w (some g) := World.grownBy.refl w _
theorem mod_below {w w' : World} (h : Below w.heap.size w w') (g : Option Nat) : w.grownBy w' g := ⟨h.os, h.tape, h.output, h.size, fun k hk _ => h.block k hk⟩
theorem mod_drawn {w w' : World} {g : Option Nat} (h : w.grownBy w' g) (n : Nat) : w.grownBy (w'.drewN n) g := ⟨h.os, h.tape, h.output, h.size, h.block⟩
theorem below_mod {B g : Nat} {a w w' : World} (h : Below B a w) (hm : w.grownBy w' (some g)) (hB : B ≤ w.heap.size) (hg : B ≤ g) : Below B a w' :=
  h.grown hm hB (fun k hk => by cases hk; exact hg)
theorem Cur.below {w w' : World} {g a : Nat} {t : ByteArray} {e : Int} (h : Cur w g t a e) (hb : Below w.heap.size w w') : Cur w' g t a e := ⟨h.1.below hb h.lt, h.2⟩
theorem Cur.at_most {w : World} {g a : Nat} {t : ByteArray} {e : Int} (h : Cur w g t a e) : a ≤ t.size ∧ t.size ≤ 4611686018427387904 := h.2

set_option maxHeartbeats 400000 in
set_option maxRecDepth 10000 in
theorem take_any (g a : Nat) (t : ByteArray) (e : Int) (n : Int) (w : World) (h : Cur w g t a e) :
    Calls Tryz.prog 62 #[.pointer (some ⟨g, 0, none⟩), .int .i64 n] w fun e' w' =>
      e' = .returned (.string (takeS t a e n).1) ∧ Cur w' g t (takeS t a e n).2.1 (takeS t a e n).2.2 ∧ w.grownBy w' (some g) := by
  have HC := Lib.hid h
  have hle := Lib.hid (takeS_le h.2.1 e n)
  obtain ⟨_, ha, ht⟩ := h
  by_cases he : e = 0
  · subst he
    cases hh : hasC t a n with
    | true =>
      have hfin : takeS t a 0 n = (t.extract a (a + n.toNat), a + n.toNat, 0) := by simp [takeS, hh]
      have hn : 0 ≤ n ∧ n ≤ (t.size : Int) - a := by simpa [hasC] using hh
      obtain ⟨m, rfl⟩ := Int.eq_ofNat_of_zero_le hn.1
      rw [hfin] at hle ⊢
      have HH := Lib.hid hh; clear hh hfin
      have hn2 : a + m ≤ t.size := by omega
      clear hn
      go_enter Tryz.func62, Tryz.ntmps62
      go_wp2_with fail
      refine (ready_any g a t 0 _ HC.out).mono ?_
      rintro e w' ⟨rfl, rfl⟩
      go_wp2_with fail
      refine (has_any' g a t 0 _ _ HC.out).mono ?_
      rintro e w1 ⟨rfl, hb1⟩
      rw [HH.out]
      have HC1 := HC.out.below hb1
      obtain ⟨⟨c0, c1, c2⟩, f0, f1, f2⟩ := HC1.cells
      have HB := Lib.hid hb1; have HC2 := Lib.hid HC1; clear hb1 HC1
      have i1 : (0 : Int) ≤ (a : Int) := by omega
      have i2 : (a : Int) ≤ (a : Int) + (m : Int) := by omega
      have i3 : (a : Int) + (m : Int) ≤ (t.size : Int) := by omega
      have hcur : Hid (Cur (w1.setCell ⟨g, 1, none⟩ (.int .i64 ((a : Int) + m))) g t (a + m) 0) := by
        refine ⟨HC2.out.1.upd 1 _ ?_, hn2, ht⟩
        simp [curC]
      go_wp2
      go_quiet (fail)
      go_wp2
      go_ret
      refine ⟨rfl, hcur.out, ?_⟩
      exact (mod_drawn ((mod_below HB.out (some g)).trans (mod_set _ _ _ _)) _)
    | false =>
      have hfin : takeS t a 0 n = (⟨#[]⟩, a, 3) := by simp [takeS, hh]
      rw [hfin] at hle ⊢
      have HH := Lib.hid hh; clear hh hfin
      go_enter Tryz.func62, Tryz.ntmps62
      go_wp2_with fail
      refine (ready_any g a t 0 _ HC.out).mono ?_
      rintro e w' ⟨rfl, rfl⟩
      go_wp2_with fail
      refine (has_any' g a t 0 _ _ HC.out).mono ?_
      rintro e w1 ⟨rfl, hb1⟩
      rw [HH.out]
      have HC1 := HC.out.below hb1
      obtain ⟨⟨c0, c1, c2⟩, f0, f1, f2⟩ := HC1.cells
      have HB := Lib.hid hb1; have HC2 := Lib.hid HC1; clear hb1 HC1
      go_wp2
      go_ret
      refine ⟨rfl, ⟨HC2.out.1.upd 2 _ ?_, ha, ht⟩, (mod_below HB.out (some g)).trans (mod_set _ _ _ _)⟩
      simp [curC]
  · have hfin : takeS t a e n = (⟨#[]⟩, a, e) := by simp [takeS, he]
    rw [hfin] at hle ⊢
    have hb : (e == 0) = false := by simpa using he
    have HE := Lib.hid hb; clear hfin hb he
    go_enter Tryz.func62, Tryz.ntmps62
    go_wp2_with fail
    refine (ready_any g a t e _ HC.out).mono ?_
    rintro e w' ⟨rfl, rfl⟩
    rw [HE.out]
    go_wp2
    go_ret
    exact ⟨rfl, HC.out, mod_refl _ _⟩

theorem takeS_size {t : ByteArray} {a : Nat} (_h : a ≤ t.size) (e n : Int) (k : Nat) (hn : n ≤ k) : (takeS t a e n).1.size ≤ k := by
  unfold takeS
  split
  · split
    · show (t.extract a (a + n.toNat)).size ≤ k
      rw [ByteArray.size_extract]
      omega
    · exact Nat.zero_le _
  · exact Nat.zero_le _

/-- What a number's reading answers. -/
def numS (t : ByteArray) (a : Nat) (e n : Int) : Nat := getL (ls (takeS t a e n).1)
set_option maxHeartbeats 400000 in
set_option maxRecDepth 10000 in
theorem number_any (g a : Nat) (t : ByteArray) (e : Int) (n : Int) (w : World) (h : Cur w g t a e) (hn : n ≤ 8) :
    Calls Tryz.prog 57 #[.pointer (some ⟨g, 0, none⟩), .int .i64 n] w fun e' w' =>
      e' = .returned (.int .u64 (numS t a e n)) ∧ Cur w' g t (takeS t a e n).2.1 (takeS t a e n).2.2 ∧ w.grownBy w' (some g) := by
  have HZ := Lib.hid (takeS_size h.2.1 e n 8 hn)
  have HC := Lib.hid h; clear h
  go_enter Tryz.func57, Tryz.ntmps57
  go_wp2_with fail
  refine (take_any g a t e n _ HC.out).mono ?_
  rintro e' w1 ⟨rfl, hc, hm⟩
  go_wp2_with fail
  refine (get_short _ _ HZ.out).mono ?_
  rintro e' w' ⟨rfl, rfl⟩
  have HH := Lib.hid (And.intro hc hm); clear hc hm
  go_wp2
  go_ret
  exact ⟨rfl, HH.out⟩

set_option maxHeartbeats 400000 in
set_option maxRecDepth 10000 in
theorem fail_any (g a : Nat) (t : ByteArray) (e : Int) (n : Int) (w : World) (h : Cur w g t a e) :
    Calls Tryz.prog 61 #[.pointer (some ⟨g, 0, none⟩), .int .i64 n] w fun e' w' =>
      e' = .returned (.tuple #[]) ∧ Cur w' g t a (if e = 0 then n else e) ∧ w.grownBy w' (some g) := by
  have HC := Lib.hid h
  obtain ⟨⟨c0, c1, c2⟩, f0, f1, f2⟩ := h.cells
  clear h
  by_cases he : e = 0
  · subst he
    rw [if_pos rfl]
    go_enter Tryz.func61, Tryz.ntmps61
    go_wp2_with fail
    refine (ready_any g a t 0 _ HC.out).mono ?_
    rintro e w' ⟨rfl, rfl⟩
    go_wp2
    go_end0
    refine ⟨rfl, ⟨HC.out.1.upd 2 _ ?_, HC.out.2⟩, mod_set _ _ _ _⟩
    simp [curC]
  · rw [if_neg he]
    have hb : (e == 0) = false := by simpa using he
    have HE := Lib.hid hb; clear hb he
    go_enter Tryz.func61, Tryz.ntmps61
    go_wp2_with fail
    refine (ready_any g a t e _ HC.out).mono ?_
    rintro e w' ⟨rfl, rfl⟩
    rw [HE.out]
    go_wp2
    go_end0
    exact ⟨rfl, HC.out, mod_refl _ _⟩

set_option maxHeartbeats 400000 in
theorem err_any (g a : Nat) (t : ByteArray) (e : Int) (w : World) (h : Cur w g t a e) :
    Calls Tryz.prog 58 #[.pointer (some ⟨g, 0, none⟩)] w fun e' w' => e' = .returned (.int .i64 e) ∧ w = w' := by
  obtain ⟨⟨c0, c1, c2⟩, f0, f1, f2⟩ := h.cells
  clear h
  go_enter Tryz.func58, Tryz.ntmps58
  go_wp2
  go_ret
  exact ⟨rfl, rfl⟩

set_option maxHeartbeats 400000 in
set_option maxRecDepth 10000 in
theorem rest_any (g a : Nat) (t : ByteArray) (e : Int) (w : World) (h : Cur w g t a e) :
    Calls Tryz.prog 60 #[.pointer (some ⟨g, 0, none⟩)] w fun e' w' => e' = .returned (.string (t.extract a t.size)) ∧ Below w.heap.size w w' := by
  obtain ⟨⟨c0, c1, c2⟩, f0, f1, f2⟩ := h.cells
  obtain ⟨_, ha, ht⟩ := h
  have i1 : (0 : Int) ≤ (a : Int) := by omega
  have i3 : (a : Int) ≤ (t.size : Int) := by omega
  go_enter Tryz.func60, Tryz.ntmps60
  go_wp2
  go_quiet (fail)
  go_wp2
  go_ret
  exact ⟨rfl, below_drawn (Below.refl _ _) _⟩

set_option maxHeartbeats 400000 in
set_option maxRecDepth 10000 in
theorem left_any (g a : Nat) (t : ByteArray) (e : Int) (w : World) (h : Cur w g t a e) :
    Calls Tryz.prog 108 #[.pointer (some ⟨g, 0, none⟩)] w fun e' w' => e' = .returned (.int .i64 ((t.size - a : Nat) : Int)) ∧ Below w.heap.size w w' := by
  have HC := Lib.hid h; clear h
  go_enter Tryz.func108, Tryz.ntmps108
  go_wp2_with fail
  refine (rest_any g a t e _ HC.out).mono ?_
  rintro e' w1 ⟨rfl, hb⟩
  have hz : (t.extract a t.size).size = t.size - a := by rw [ByteArray.size_extract]; omega
  have HZ := Lib.hid hz; clear hz
  generalize t.extract a t.size = r at *
  go_wp2
  go_ret
  exact ⟨by rw [← HZ.out]; rfl, hb⟩

end Go.Proofs.YtbahnolmlodcdaaGreatDoor

