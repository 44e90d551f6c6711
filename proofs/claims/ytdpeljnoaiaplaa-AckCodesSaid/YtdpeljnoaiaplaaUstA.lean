/- Walks of ustring: whole, Bad, Valid. -/
import Derived.Test.YtdpeljnoaiaplaaOctC
import Derived.Lib.OthersKept
import Derived.Lib.RuneCount
import Derived.Lib.DecodeN
import Derived.Lib.MapLaws
namespace Go.Proofs.Ytdpeljnoaiaplaa
open Go.RowKit

def wholeB (s : ByteArray) : Bool := decide (3 ≤ s.size) && ((s.extract 0 3).toList == [239, 191, 189])
set_option maxHeartbeats 400000 in
theorem whole_any (s : ByteArray) (w : World) (hs : s.size ≤ 4611686018427387904) :
    Calls Try.prog 138 #[.string s] w fun e w' => e = .returned (.bool (wholeB s)) ∧ w = w' := by
  by_cases h : 3 ≤ s.size
  · have h' : (3 : Int) ≤ (s.size : Int) := by omega
    have HF : Hid (wholeB s = ((s.extract 0 3).toList == [239, 191, 189])) := by show _ = _; simp [wholeB, h]
    go_enter Try.func138, Try.ntmps138
    go_wp2
    go_ret
    exact ⟨by rw [HF.out]; rfl, rfl⟩
  · have h' : (s.size : Int) < (3 : Int) := by omega
    have HF : Hid (wholeB s = false) := by show _ = _; simp [wholeB, h]
    go_enter Try.func138, Try.ntmps138
    go_wp2
    go_ret
    exact ⟨by rw [HF.out]; rfl, rfl⟩

/-- The first place at which no code point begins as it should, or U+0000 does; -1: there is none. -/
def badF : Nat → ByteArray → Nat → Int
  | 0, _, _ => -1
  | f + 1, s, pos => if pos < s.size then (if (Utf8.decode s pos).1 = 0 ∨ ((Utf8.decode s pos).1 = 65533 ∧ (Utf8.decode s pos).2 = 1) then (pos : Int) else badF f s (pos + (Utf8.decode s pos).2)) else -1
def badS (s : ByteArray) : Int := badF s.size s 0
def validB (s : ByteArray) : Bool := decide (s.size ≤ 65535) && (badS s == -1)

theorem get_extract (s : ByteArray) (pos k : Nat) (h : pos + k < s.size) : (s.extract pos s.size).data.toList[k]? = some (s.get! (pos + k)) := by
  rw [Lib.extract_data]
  rw [List.getElem?_take, if_pos (by omega), List.getElem?_drop]
  show s.data.toList[pos + k]? = _
  rw [List.getElem?_eq_getElem (by simpa using h)]
  simp [ByteArray.get!, getElem!_pos, h]
theorem take_three {l : List UInt8} {a b c : UInt8} (h0 : l[0]? = some a) (h1 : l[1]? = some b) (h2 : l[2]? = some c) : l.take 3 = [a, b, c] := by
  match l, h0, h1, h2 with
  | x :: y :: z :: t, h0, h1, h2 => simp at *; exact ⟨h0, h1, h2⟩
theorem byte_eq {a : UInt8} {n : Nat} (hn : n < 256) : a = UInt8.ofNat n ↔ a.toNat = n := by
  constructor
  · rintro rfl
    rw [UInt8.toNat_ofNat']
    omega
  · rintro rfl
    simp
theorem whole_iff (s : ByteArray) (pos : Nat) (hd : (Utf8.decode s pos).1 = 65533) : wholeB (s.extract pos s.size) = !decide ((Utf8.decode s pos).2 = 1) := by
  have hsz : (s.extract pos s.size).size = s.size - pos := by rw [ByteArray.size_extract]; omega
  rw [Lib.decode_at] at *
  by_cases h3 : 3 ≤ s.size - pos
  · have hl : ((s.extract pos s.size).extract 0 3).toList = [s.get! pos, s.get! (pos + 1), s.get! (pos + 2)] := by
      rw [ByteArray.toList_eq, Lib.extract_data, List.drop_zero]
      exact take_three (get_extract s pos 0 (by omega)) (get_extract s pos 1 (by omega)) (get_extract s pos 2 (by omega))
    have hw : wholeB (s.extract pos s.size) = decide ((s.get! pos).toNat = 239 ∧ (s.get! (pos + 1)).toNat = 191 ∧ (s.get! (pos + 2)).toNat = 189) := by
      unfold wholeB
      rw [hsz, hl, Bool.eq_iff_iff]
      simp only [h3, decide_true, Bool.true_and, beq_iff_eq, List.cons.injEq, and_true, decide_eq_true_iff]
      rw [show (239 : UInt8) = UInt8.ofNat 239 by rfl, show (191 : UInt8) = UInt8.ofNat 191 by rfl, show (189 : UInt8) = UInt8.ofNat 189 by rfl, byte_eq (by omega), byte_eq (by omega), byte_eq (by omega)]
    rw [hw]
    generalize s.size - pos = n at *
    generalize (s.get! pos).toNat = b0 at *
    generalize (s.get! (pos + 1)).toNat = b1 at *
    generalize (s.get! (pos + 2)).toNat = b2 at *
    generalize (s.get! (pos + 3)).toNat = b3 at *
    by_cases hc : b0 = 239 ∧ b1 = 191 ∧ b2 = 189
    · obtain ⟨rfl, rfl, rfl⟩ := hc
      have : Lib.decodeN n 239 191 189 b3 = (65533, 3) := by
        unfold Lib.decodeN
        rw [if_neg (by omega), if_neg (by omega), if_pos ⟨by omega, ⟨by omega, by omega⟩, by omega, by omega⟩, if_pos ⟨by omega, by omega⟩]
      rw [this]
      decide
    · have : (Lib.decodeN n b0 b1 b2 b3).2 = 1 := by
        rcases Lib.decodeN_shape n b0 b1 b2 b3 with ⟨h1, h2⟩ | ⟨h1, h2, h4, h5, h6⟩ | ⟨h1, h2, h4, h5, h6, h7, h8⟩ | ⟨h1, h2, h4, h5, h6, h7, h8, h9⟩ | h1
        · rw [h2]
        · rw [h6] at hd; simp only at hd; omega
        · rw [h8] at hd; simp only at hd; exfalso; apply hc; omega
        · rw [h9] at hd; simp only at hd; omega
        · rw [h1]
      rw [this]
      simp [hc]
  · have hw : wholeB (s.extract pos s.size) = false := by simp [wholeB, hsz, h3]
    rw [hw]
    have : (Lib.decodeN (s.size - pos) (s.get! pos).toNat (s.get! (pos + 1)).toNat (s.get! (pos + 2)).toNat (s.get! (pos + 3)).toNat).2 = 1 := by
      rcases Lib.decodeN_shape (s.size - pos) (s.get! pos).toNat (s.get! (pos + 1)).toNat (s.get! (pos + 2)).toNat (s.get! (pos + 3)).toNat with ⟨h1, h2⟩ | ⟨h1, h2, h4, h5, h6⟩ | ⟨h1, h2, h4, h5, h6, h7, h8⟩ | ⟨h1, h2, h4, h5, h6, h7, h8, h9⟩ | h1
      · rw [h2]
      · rw [h6] at hd; simp only at hd; omega
      · omega
      · omega
      · rw [h1]
    rw [this]
    rfl

set_option maxHeartbeats 400000 in
set_option maxRecDepth 10000 in
theorem bad_any' (s : ByteArray) (w : World) (hs : s.size ≤ 4611686018427387904) :
    Calls Try.prog 128 #[.string s] w fun e w' => e = .returned (.int .i64 (badS s)) ∧ Below w.heap.size w w' := by
  go_enter Try.func128, Try.ntmps128
  go_wp2
  go_loopw [] (fun wr => ∃ (pos f : Nat), s.size ≤ pos + f ∧ badS s = badF f s pos ∧ wr.heap[w.heap.size]? = some (.stringIter s pos) ∧ Below w.heap.size w wr) (fun wr => s.size - wr.iterPos w.heap.size)
  case atStart => exact ⟨0, s.size, by omega, rfl, World.iter_heap w s 0, (Below.refl _ _).alloc (Nat.le_refl _) _⟩
  case round =>
    obtain ⟨pos, f, hfu, hv, hit, hbel⟩ := hrel
    have hz : w.heap.size < wr.heap.size := (Array.getElem?_eq_some_iff.1 hit).1
    have HV := Lib.hid hv; have HIT := Lib.hid hit
    clear hv
    by_cases hp : pos < s.size
    · have hnx : ∀ ty, (Instr.next (.pointer (some ⟨w.heap.size, 0, none⟩)) true ty).run Try.prog wr = _ := fun ty => Lib.run_next_any_at wr w.heap.size s pos ty hit hp
      have hwd := Lib.decode_width_pos s pos hp
      have hd1 := decode_le s pos
      have hit2 := Lib.iterAt_heap wr w.heap.size s pos (pos + (Utf8.decode s pos).2) hit
      have hbel2 := Lib.below_iterAt hbel (k := w.heap.size) (Nat.le_refl _) s (pos + (Utf8.decode s pos).2)
      have hz2 : w.heap.size < (wr.iterAt w.heap.size s (pos + (Utf8.decode s pos).2)).heap.size := by rw [Lib.iterAt_size]; omega
      have HIT2 := Lib.hid hit2
      obtain ⟨f, rfl⟩ : ∃ f', f = f' + 1 := ⟨f - 1, by omega⟩
      have HC := Lib.hid (whole_iff s pos)
      clear hit hit2
      generalize hD : Utf8.decode s pos = D at *
      have HD := Lib.hid hD; clear hD
      obtain ⟨c, wd⟩ := D
      generalize wr.iterAt w.heap.size s (pos + wd) = w2 at *
      simp only at hwd hd1 HC hnx
      have hfin : badS s = if c = 0 ∨ (c = 65533 ∧ wd = 1) then (pos : Int) else badF f s (pos + wd) := by
        rw [HV.out, badF, if_pos hp, HD.out]
      have HF := Lib.hid hfin; clear hfin HV HD
      by_cases h0 : c = 0
      · have HG : Hid (badS s = pos) := by show _ = _; rw [HF.out, if_pos (.inl h0)]
        clear HF
        subst h0
        go_wp2
        go_ret
        exact ⟨by rw [HG.out]; rfl, hbel2⟩
      · by_cases h1 : c = 65533
        · have HW := Lib.hid (HC.out h1)
          by_cases hw1 : wd = 1
          · have HG : Hid (badS s = pos) := by show _ = _; rw [HF.out, if_pos (.inr ⟨h1, hw1⟩)]
            clear HF
            subst h1
            subst hw1
            go_wp2_with fail
            refine (whole_any _ _ (by rw [ByteArray.size_extract]; omega)).mono ?_
            rintro e w' ⟨rfl, rfl⟩
            rw [HW.out]
            go_wp2
            go_ret
            exact ⟨by rw [HG.out]; rfl, hbel2⟩
          · have hdw : decide (wd = 1) = false := decide_eq_false hw1
            have HDW := Lib.hid hdw
            have HG : Hid (badS s = badF f s (pos + wd)) := by show _ = _; rw [HF.out, if_neg (by omega)]
            clear hdw HF
            subst h1
            go_wp2_with fail
            refine (whole_any _ _ (by rw [ByteArray.size_extract]; omega)).mono ?_
            rintro e w' ⟨rfl, rfl⟩
            rw [HW.out, HDW.out]
            go_wp2
            go_roundw
            case rel => exact ⟨pos + wd, f, by omega, HG.out, HIT2.out, hbel2⟩
            case measure =>
              simp only [World.iterPos, HIT2.out, HIT.out]
              omega
        · have h0' : ((c : Int) == 0) = false := beq_eq_false_iff_ne.2 (by omega)
          have h1' : ((c : Int) == 65533) = false := beq_eq_false_iff_ne.2 (by omega)
          go_wp2
          go_roundw
          case rel => exact ⟨pos + wd, f, by omega, by rw [HF.out, if_neg (by omega)], HIT2.out, hbel2⟩
          case measure =>
            simp only [World.iterPos, HIT2.out, HIT.out]
            omega
    · have hnx : ∀ ty, (Instr.next (.pointer (some ⟨w.heap.size, 0, none⟩)) true ty).run Try.prog wr = _ := fun ty => Lib.run_next_end_at wr w.heap.size s pos ty hit hp
      have hfin : badS s = -1 := by
        rw [HV.out]
        cases f with
        | zero => rfl
        | succ f => rw [badF, if_neg hp]
      have HF := Lib.hid hfin; clear hfin hit
      go_wp2
      go_ret
      exact ⟨by rw [HF.out]; rfl, hbel⟩

set_option maxHeartbeats 400000 in
set_option maxRecDepth 10000 in
theorem valid_any (s : ByteArray) (w : World) (hs : s.size ≤ 4611686018427387904) :
    Calls Try.prog 98 #[.string s] w fun e w' => e = .returned (.bool (validB s)) ∧ Below w.heap.size w w' := by
  by_cases h : s.size ≤ 65535
  · have h' : (s.size : Int) ≤ 65535 := by omega
    have HF : Hid (validB s = (badS s == -1)) := by show _ = _; simp [validB, h]
    go_enter Try.func98, Try.ntmps98
    go_wp2_with fail
    refine (bad_any' _ _ hs).mono ?_
    rintro e w1 ⟨rfl, hb⟩
    go_wp2
    go_ret
    exact ⟨by rw [HF.out]; rfl, hb⟩
  · have h' : (65535 : Int) < (s.size : Int) := by omega
    have HF : Hid (validB s = false) := by show _ = _; simp [validB, h]
    go_enter Try.func98, Try.ntmps98
    go_wp2
    go_ret
    exact ⟨by rw [HF.out]; rfl, Below.refl _ _⟩

set_option maxHeartbeats 400000 in
set_option maxRecDepth 10000 in
theorem framed_any (s : ByteArray) (w : World) (hs : s.size ≤ 65535) :
    Calls Try.prog 99 #[.string s] w fun e w' => e = .returned (.string (⟨(putL s.size 2).toArray⟩ ++ s)) ∧ Below w.heap.size w w' := by
  go_enter Try.func99, Try.ntmps99
  go_wp2_with fail
  refine (put_any s.size 2 _ (by omega) (by omega) (by omega)).mono ?_
  rintro e w1 ⟨rfl, hb⟩
  have hl : (putL s.size 2).length ≤ 2 := by rw [putL_len]; omega
  go_wp2
  go_ret
  exact ⟨rfl, hb⟩

/-- Bytes with their length ahead. -/
def framedS (s : ByteArray) : ByteArray := ⟨(putL s.size 2).toArray⟩ ++ s
set_option maxHeartbeats 400000 in
set_option maxRecDepth 10000 in
theorem binary_any (s : ByteArray) (w : World) (hs : s.size ≤ 4611686018427387904) :
    Calls Try.prog 105 #[.string s] w fun e w' => e = .returned (.tuple #[.string (if s.size ≤ 65535 then framedS s else ⟨#[]⟩), .int .i64 (if s.size ≤ 65535 then 0 else 2)]) ∧ Below w.heap.size w w' := by
  by_cases h : s.size ≤ 65535
  · rw [if_pos h, if_pos h]
    have h' : (s.size : Int) ≤ 65535 := by omega
    go_enter Try.func105, Try.ntmps105
    go_wp2_with fail
    refine (framed_any _ _ h).mono ?_
    rintro e w1 ⟨rfl, hb⟩
    go_wp2
    go_ret2
    exact ⟨rfl, hb⟩
  · rw [if_neg h, if_neg h]
    have h' : (65535 : Int) < (s.size : Int) := by omega
    go_enter Try.func105, Try.ntmps105
    go_wp2
    go_ret2
    exact ⟨rfl, Below.refl _ _⟩

end Go.Proofs.Ytdpeljnoaiaplaa
