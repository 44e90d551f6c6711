/-
  Walks of ustring: whole, Bad, Valid.
  Names: strings.ContainsAny at "+#", of any string.
  Names of topics: which texts are names.
  topic.text, topic.Name.
-/
import Derived.Test.YtjbpafkdbfbdlaaMOct
import Derived.Lib.OthersKept
import Derived.Lib.RuneCount
import Derived.Lib.DecodeN
import Derived.Lib.MapLaws
import Derived.Shelf.Strings.IndexAnyAll
import Derived.Laws.Runes
import Derived.LoopN
import Derived.BigQuiet
import Derived.WalkMore

namespace Go.Proofs.Ytjbpafkdbfbdlaa
open Go.RowKit

def wholeB (s : ByteArray) : Bool := decide (3 ≤ s.size) && ((s.extract 0 3).toList == [239, 191, 189])
set_option maxHeartbeats 400000 in
theorem whole_any (s : ByteArray) (w : World) (hs : s.size ≤ 4611686018427387904) :
    Calls Try.prog 68 #[.string s] w fun e w' => e = .returned (.bool (wholeB s)) ∧ w = w' := by
  by_cases h : 3 ≤ s.size
  · have h' : (3 : Int) ≤ (s.size : Int) := by omega
    have HF : Hid (wholeB s = ((s.extract 0 3).toList == [239, 191, 189])) := by show _ = _; simp [wholeB, h]
    go_enter Try.func68, Try.ntmps68
    go_wp2
    go_ret
    exact ⟨by rw [HF.out]; rfl, rfl⟩
  · have h' : (s.size : Int) < (3 : Int) := by omega
    have HF : Hid (wholeB s = false) := by show _ = _; simp [wholeB, h]
    go_enter Try.func68, Try.ntmps68
    go_wp2
    go_ret
    exact ⟨by rw [HF.out]; rfl, rfl⟩

/-- The first place at which no code point begins as it should, or U+0000 does; -1: there is none. -/
def badF : Nat → ByteArray → Nat → Int
  | 0, _, _ => -1
  | f + 1, s, pos => if pos < s.size then (if (Utf8.decode s pos).1 = 0 ∨ ((Utf8.decode s pos).1 = 65533 ∧ (Utf8.decode s pos).2 = 1) then (pos : Int) else badF f s (pos + (Utf8.decode s pos).2)) else -1
def badS (s : ByteArray) : Int := badF s.size s 0
def validB (s : ByteArray) : Bool := decide (s.size ≤ 65535) && (badS s == -1)

theorem get_extract (s : ByteArray) (pos k : Nat) (h : pos + k < s.size) : (s.extract pos s.size).data.toList[k]? = some (s.get! (pos + k)) := by
  rw [Lib.extract_data]
  rw [List.getElem?_take, if_pos (by omega), List.getElem?_drop]
  show s.data.toList[pos + k]? = _
  rw [List.getElem?_eq_getElem (by simpa using h)]
  simp [ByteArray.get!, getElem!_pos, h]
theorem take_three {l : List UInt8} {a b c : UInt8} (h0 : l[0]? = some a) (h1 : l[1]? = some b) (h2 : l[2]? = some c) : l.take 3 = [a, b, c] := by
  match l, h0, h1, h2 with
  | x :: y :: z :: t, h0, h1, h2 => simp at *; exact ⟨h0, h1, h2⟩
theorem byte_eq {a : UInt8} {n : Nat} (hn : n < 256) : a = UInt8.ofNat n ↔ a.toNat = n := by
  constructor
  · rintro rfl
    rw [UInt8.toNat_ofNat']
    omega
  · rintro rfl
    simp
theorem whole_iff (s : ByteArray) (pos : Nat) (hd : (Utf8.decode s pos).1 = 65533) : wholeB (s.extract pos s.size) = !decide ((Utf8.decode s pos).2 = 1) := by
  have hsz : (s.extract pos s.size).size = s.size - pos := by rw [ByteArray.size_extract]; omega
  rw [Lib.decode_at] at *
  by_cases h3 : 3 ≤ s.size - pos
  · have hl : ((s.extract pos s.size).extract 0 3).toList = [s.get! pos, s.get! (pos + 1), s.get! (pos + 2)] := by
      rw [ByteArray.toList_eq, Lib.extract_data, List.drop_zero]
      exact take_three (get_extract s pos 0 (by omega)) (get_extract s pos 1 (by omega)) (get_extract s pos 2 (by omega))
    have hw : wholeB (s.extract pos s.size) = decide ((s.get! pos).toNat = 239 ∧ (s.get! (pos + 1)).toNat = 191 ∧ (s.get! (pos + 2)).toNat = 189) := by
      unfold wholeB
      rw [hsz, hl, Bool.eq_iff_iff]
      simp only [h3, decide_true, Bool.true_and, beq_iff_eq, List.cons.injEq, and_true, decide_eq_true_iff]
      rw [show (239 : UInt8) = UInt8.ofNat 239 by rfl, show (191 : UInt8) = UInt8.ofNat 191 by rfl, show (189 : UInt8) = UInt8.ofNat 189 by rfl, byte_eq (by omega), byte_eq (by omega), byte_eq (by omega)]
    rw [hw]
    generalize s.size - pos = n at *
    generalize (s.get! pos).toNat = b0 at *
    generalize (s.get! (pos + 1)).toNat = b1 at *
    generalize (s.get! (pos + 2)).toNat = b2 at *
    generalize (s.get! (pos + 3)).toNat = b3 at *
    by_cases hc : b0 = 239 ∧ b1 = 191 ∧ b2 = 189
    · obtain ⟨rfl, rfl, rfl⟩ := hc
      have : Lib.decodeN n 239 191 189 b3 = (65533, 3) := by
        unfold Lib.decodeN
        rw [if_neg (by omega), if_neg (by omega), if_pos ⟨by omega, ⟨by omega, by omega⟩, by omega, by omega⟩, if_pos ⟨by omega, by omega⟩]
      rw [this]
      decide
    · have : (Lib.decodeN n b0 b1 b2 b3).2 = 1 := by
        rcases Lib.decodeN_shape n b0 b1 b2 b3 with ⟨h1, h2⟩ | ⟨h1, h2, h4, h5, h6⟩ | ⟨h1, h2, h4, h5, h6, h7, h8⟩ | ⟨h1, h2, h4, h5, h6, h7, h8, h9⟩ | h1
        · rw [h2]
        · rw [h6] at hd; simp only at hd; omega
        · rw [h8] at hd; simp only at hd; exfalso; apply hc; omega
        · rw [h9] at hd; simp only at hd; omega
        · rw [h1]
      rw [this]
      simp [hc]
  · have hw : wholeB (s.extract pos s.size) = false := by simp [wholeB, hsz, h3]
    rw [hw]
    have : (Lib.decodeN (s.size - pos) (s.get! pos).toNat (s.get! (pos + 1)).toNat (s.get! (pos + 2)).toNat (s.get! (pos + 3)).toNat).2 = 1 := by
      rcases Lib.decodeN_shape (s.size - pos) (s.get! pos).toNat (s.get! (pos + 1)).toNat (s.get! (pos + 2)).toNat (s.get! (pos + 3)).toNat with ⟨h1, h2⟩ | ⟨h1, h2, h4, h5, h6⟩ | ⟨h1, h2, h4, h5, h6, h7, h8⟩ | ⟨h1, h2, h4, h5, h6, h7, h8, h9⟩ | h1
      · rw [h2]
      · rw [h6] at hd; simp only at hd; omega
      · omega
      · omega
      · rw [h1]
    rw [this]
    rfl

set_option maxHeartbeats 400000 in
set_option maxRecDepth 10000 in
theorem bad_any' (s : ByteArray) (w : World) (hs : s.size ≤ 4611686018427387904) :
    Calls Try.prog 61 #[.string s] w fun e w' => e = .returned (.int .i64 (badS s)) ∧ Below w.heap.size w w' := by
  go_enter Try.func61, Try.ntmps61
  go_wp2
  go_loopw [] (fun wr => ∃ (pos f : Nat), s.size ≤ pos + f ∧ badS s = badF f s pos ∧ wr.heap[w.heap.size]? = some (.stringIter s pos) ∧ Below w.heap.size w wr) (fun wr => s.size - wr.iterPos w.heap.size)
  case atStart => exact ⟨0, s.size, by omega, rfl, World.iter_heap w s 0, (Below.refl _ _).alloc (Nat.le_refl _) _⟩
  case round =>
    obtain ⟨pos, f, hfu, hv, hit, hbel⟩ := hrel
    have hz : w.heap.size < wr.heap.size := (Array.getElem?_eq_some_iff.1 hit).1
    have HV := Lib.hid hv; have HIT := Lib.hid hit
    clear hv
    by_cases hp : pos < s.size
    · have hnx : ∀ ty, (Instr.next (.pointer (some ⟨w.heap.size, 0, none⟩)) true ty).run Try.prog wr = _ := fun ty => Lib.run_next_any_at wr w.heap.size s pos ty hit hp
      have hwd := Lib.decode_width_pos s pos hp
      have hd1 := decode_le s pos
      have hit2 := Lib.iterAt_heap wr w.heap.size s pos (pos + (Utf8.decode s pos).2) hit
      have hbel2 := Lib.below_iterAt hbel (k := w.heap.size) (Nat.le_refl _) s (pos + (Utf8.decode s pos).2)
      have hz2 : w.heap.size < (wr.iterAt w.heap.size s (pos + (Utf8.decode s pos).2)).heap.size := by rw [Lib.iterAt_size]; omega
      have HIT2 := Lib.hid hit2
      obtain ⟨f, rfl⟩ : ∃ f', f = f' + 1 := ⟨f - 1, by omega⟩
      have HC := Lib.hid (whole_iff s pos)
      clear hit hit2
      generalize hD : Utf8.decode s pos = D at *
      have HD := Lib.hid hD; clear hD
      obtain ⟨c, wd⟩ := D
      generalize wr.iterAt w.heap.size s (pos + wd) = w2 at *
      simp only at hwd hd1 HC hnx
      have hfin : badS s = if c = 0 ∨ (c = 65533 ∧ wd = 1) then (pos : Int) else badF f s (pos + wd) := by
        rw [HV.out, badF, if_pos hp, HD.out]
      have HF := Lib.hid hfin; clear hfin HV HD
      by_cases h0 : c = 0
      · have HG : Hid (badS s = pos) := by show _ = _; rw [HF.out, if_pos (.inl h0)]
        clear HF
        subst h0
        go_wp2
        go_ret
        exact ⟨by rw [HG.out]; rfl, hbel2⟩
      · by_cases h1 : c = 65533
        · have HW := Lib.hid (HC.out h1)
          by_cases hw1 : wd = 1
          · have HG : Hid (badS s = pos) := by show _ = _; rw [HF.out, if_pos (.inr ⟨h1, hw1⟩)]
            clear HF
            subst h1
            subst hw1
            go_wp2_with fail
            refine (whole_any _ _ (by rw [ByteArray.size_extract]; omega)).mono ?_
            rintro e w' ⟨rfl, rfl⟩
            rw [HW.out]
            go_wp2
            go_ret
            exact ⟨by rw [HG.out]; rfl, hbel2⟩
          · have hdw : decide (wd = 1) = false := decide_eq_false hw1
            have HDW := Lib.hid hdw
            have HG : Hid (badS s = badF f s (pos + wd)) := by show _ = _; rw [HF.out, if_neg (by omega)]
            clear hdw HF
            subst h1
            go_wp2_with fail
            refine (whole_any _ _ (by rw [ByteArray.size_extract]; omega)).mono ?_
            rintro e w' ⟨rfl, rfl⟩
            rw [HW.out, HDW.out]
            go_wp2
            go_roundw
            case rel => exact ⟨pos + wd, f, by omega, HG.out, HIT2.out, hbel2⟩
            case measure =>
              simp only [World.iterPos, HIT2.out, HIT.out]
              omega
        · have h0' : ((c : Int) == 0) = false := beq_eq_false_iff_ne.2 (by omega)
          have h1' : ((c : Int) == 65533) = false := beq_eq_false_iff_ne.2 (by omega)
          go_wp2
          go_roundw
          case rel => exact ⟨pos + wd, f, by omega, by rw [HF.out, if_neg (by omega)], HIT2.out, hbel2⟩
          case measure =>
            simp only [World.iterPos, HIT2.out, HIT.out]
            omega
    · have hnx : ∀ ty, (Instr.next (.pointer (some ⟨w.heap.size, 0, none⟩)) true ty).run Try.prog wr = _ := fun ty => Lib.run_next_end_at wr w.heap.size s pos ty hit hp
      have hfin : badS s = -1 := by
        rw [HV.out]
        cases f with
        | zero => rfl
        | succ f => rw [badF, if_neg hp]
      have HF := Lib.hid hfin; clear hfin hit
      go_wp2
      go_ret
      exact ⟨by rw [HF.out]; rfl, hbel⟩

set_option maxHeartbeats 400000 in
set_option maxRecDepth 10000 in
theorem valid_any (s : ByteArray) (w : World) (hs : s.size ≤ 4611686018427387904) :
    Calls Try.prog 52 #[.string s] w fun e w' => e = .returned (.bool (validB s)) ∧ Below w.heap.size w w' := by
  by_cases h : s.size ≤ 65535
  · have h' : (s.size : Int) ≤ 65535 := by omega
    have HF : Hid (validB s = (badS s == -1)) := by show _ = _; simp [validB, h]
    go_enter Try.func52, Try.ntmps52
    go_wp2_with fail
    refine (bad_any' _ _ hs).mono ?_
    rintro e w1 ⟨rfl, hb⟩
    go_wp2
    go_ret
    exact ⟨by rw [HF.out]; rfl, hb⟩
  · have h' : (65535 : Int) < (s.size : Int) := by omega
    have HF : Hid (validB s = false) := by show _ = _; simp [validB, h]
    go_enter Try.func52, Try.ntmps52
    go_wp2
    go_ret
    exact ⟨by rw [HF.out]; rfl, Below.refl _ _⟩

/-- Bytes with their length ahead. -/
def framedS (s : ByteArray) : ByteArray := ⟨(putL s.size 2).toArray⟩ ++ s
end Go.Proofs.Ytjbpafkdbfbdlaa

namespace Go.Proofs.Ytjbpafkdbfbdlaa
open Go.RowKit Go.Shelf

set_option maxHeartbeats 400000 in
set_option maxRecDepth 10000 in
theorem validRune_any (c : Nat) (w : World) (hv : Utf8.valid c = true) :
    Calls Try.prog 70 #[.int .i32 c] w fun e w' => e = .returned (.bool true) ∧ w = w' := by
  have hv' : c < 55296 ∨ (57344 ≤ c ∧ c ≤ 1114111) := by
    simp [Utf8.valid] at hv
    omega
  clear hv
  rcases hv' with h | ⟨h1, h2⟩
  · have h0 : (c : Int) < 55296 := by omega
    clear h
    go_enter Try.func70, Try.ntmps70
    go_wp2
    go_ret
    exact ⟨rfl, rfl⟩
  · have h0 : ¬ (c : Int) < 55296 := by omega
    have h3 : (57343 : Int) < c := by omega
    have h4 : (c : Int) ≤ 1114111 := by omega
    clear h1 h2
    go_enter Try.func70, Try.ntmps70
    go_wp2
    go_ret
    exact ⟨rfl, rfl⟩

def lays153_ren : Ren := ⟨fun | 153 => 53 | 152 => 62 | 226 => 63 | 227 => 64 | 228 => 65 | 137 => 69 | 119 => 70 | 224 => 71 | 225 => 72 | 217 => 73 | 266 => 74 | n => n, fun | 9 => 9 | 3 => 3 | 4 => 4 | 5 => 5 | 21 => 21 | 117 => 109 | 116 => 108 | 0 => 0 | 46 => 75 | 124 => 118 | n => n, fun n => n⟩
theorem lays153 : Lays.n153 Try.prog lays153_ren where
  mixed := by kernel_rfl
  f119 := Try.func70.trans (congrArg some (by kernel_rfl))
  f137 := Try.func69.trans (congrArg some (by kernel_rfl))
  f152 := Try.func62.trans (congrArg some (by kernel_rfl))
  f153 := Try.func53.trans (congrArg some (by kernel_rfl))
  f217 := Try.func73.trans (congrArg some (by kernel_rfl))
  f224 := Try.func71.trans (congrArg some (by kernel_rfl))
  f225 := Try.func72.trans (congrArg some (by kernel_rfl))
  f226 := Try.func63.trans (congrArg some (by kernel_rfl))
  f227 := Try.func64.trans (congrArg some (by kernel_rfl))
  f228 := Try.func65.trans (congrArg some (by kernel_rfl))
  f266 := Try.func74.trans (congrArg some (by kernel_rfl))
  t0 := Try.underlying0
  a0 := Try.isAgg0
  z0 := Try.sizeOf0
  v0 := Try.zeroValue0
  t3 := Try.underlying3
  a3 := Try.isAgg3
  z3 := Try.sizeOf3
  v3 := Try.zeroValue3
  t4 := Try.underlying4
  a4 := Try.isAgg4
  z4 := Try.sizeOf4
  v4 := Try.zeroValue4
  t5 := Try.underlying5
  a5 := Try.isAgg5
  z5 := Try.sizeOf5
  v5 := Try.zeroValue5
  t9 := Try.underlying9
  a9 := Try.isAgg9
  z9 := Try.sizeOf9
  v9 := Try.zeroValue9
  t21 := Try.underlying21
  a21 := Try.isAgg21
  z21 := Try.sizeOf21
  v21 := Try.zeroValue21
  t46 := Try.underlying75
  a46 := Try.isAgg75
  z46 := Try.sizeOf75
  v46 := Try.zeroValue75
  t116 := Try.underlying108
  a116 := Try.isAgg108
  z116 := Try.sizeOf108
  t117 := Try.underlying109
  a117 := Try.isAgg109
  z117 := Try.sizeOf109
  v117 := Try.zeroValue109
  t124 := Try.underlying118
  a124 := Try.isAgg118
  z124 := Try.sizeOf118
  v124 := Try.zeroValue118
theorem set153 : (Try.prog.info? (lays153_ren.t 116)).map (fun i => (i.zero, i.size)) = some (some (.agg (Array.replicate 256 (.bool false))), 256) := by kernel_rfl
theorem indexByte_any (s : ByteArray) (c : Int) (w : World) :
    Calls Try.prog 69 #[.string s, .int .u8 c] w fun e w' => e = .returned (.int .i64 (Lib.indexByte s.data.toList c.toNat.toUInt8)) ∧ w' = w := Any.strings_IndexByte { lays153 with } s c w
theorem indexByte_empty (c : Int) (w : World) :
    Calls Try.prog 69 #[.string ByteArray.empty, .int .u8 c] w fun e w' => e = .returned (.int .i64 (-1)) ∧ w' = w := indexByte_any ByteArray.empty c w
theorem indexRune_ascii (s : ByteArray) (r : Int) (w : World) (h0 : 0 ≤ r) (h1 : r < 128) :
    Calls Try.prog 62 #[.string s, .int .i32 r] w fun e w' => e = .returned (.int .i64 (Lib.indexByte s.data.toList r.toNat.toUInt8)) ∧ w' = w := Any.strings_IndexRune_ascii { lays153 with } s r w h0 h1
theorem indexAny_long (s chars : ByteArray) (w : World) (h2 : 2 ≤ chars.size) (h8 : 8 < s.size) (hs : s.size < 4294967281) (hcs : chars.size < 4294967281) (hac : ∀ (j : Nat) b, chars.data.toList[j]? = some b → b.toNat < 128) :
    Calls Try.prog 53 #[.string s, .string chars] w fun e w' => e = .returned (.int .i64 (Lib.indexAny s.data.toList chars.data.toList)) ∧ Below w.heap.size w w' := by
  refine (Any.strings_IndexAny_long lays153 (zero_of_info set153).1 (zero_of_info set153).2 s chars w h2 h8 hs hcs hac).mono fun e w' ⟨h1, h2⟩ => ⟨h1, ?_⟩
  rw [h2]
  exact ((Below.refl _ _).alloc (Nat.le_refl _) _).alloc (by simp) _

set_option maxHeartbeats 400000 in
set_option maxRecDepth 100000 in
theorem indexRune_two (c : Nat) (w : World) (hv : Utf8.valid c = true) (hc : 128 ≤ c) (hn : c ≠ 65533) (h2 : (Utf8.encode c).size = 2) :
    Calls Try.prog 62 #[.string ⟨#[43, 35]⟩, .int .i32 c] w fun e w' => e = .returned (.int .i64 (-1)) ∧ Below w.heap.size w w' := by
  obtain ⟨-, -, hlast⟩ := encode_facts c hv (by omega)
  obtain ⟨rs, hrs⟩ : ∃ rs, Utf8.encode c = rs := ⟨_, rfl⟩
  rw [hrs] at hlast h2
  replace hlast := hlast (by omega)
  obtain ⟨x, hx⟩ : ∃ x, rs[rs.size - 1]'(by omega) = x := ⟨_, rfl⟩
  rw [hx] at hlast
  have hx1 : rs[1]'(by omega) = x := by rw [← hx]; simp [h2]
  have hne : ((((⟨#[43, 35]⟩ : ByteArray)[1]'(by decide)).toNat : Int) != (x.toNat : Int)) = true := by
    rw [show ((⟨#[43, 35]⟩ : ByteArray)[1]'(by decide)) = 35 from rfl]
    exact bne_iff_ne.2 (by simp; omega)
  clear hx hlast
  have hsz : (1 : Int) < (rs.size : Int) := by omega
  have HV := Lib.hid hv; clear hv
  have d0 : ¬ (c : Int) < 128 := by omega
  have d1 : ((c : Int) == 65533) = false := beq_eq_false_iff_ne.2 (by omega)
  clear hc hn
  go_enter Try.func62, Try.ntmps62
  go_wp2_with fail
  refine (validRune_any c _ HV.out).mono ?_
  rintro e w1 ⟨rfl, rfl⟩
  go_wp2
  go_step3
  go_wp2
  refine wp_loop_rounds 1 ?_
  rw [rounds_succ]
  go_wp2
  go_step3
  go_wp2
  go_quiet (fail)
  clear hne
  have hw2 : IntKind.i64.wrap 2 = 2 := by decide
  go_wp2
  go_quiet (first | (go_at_call 69; exact (indexByte_empty _ _).mono fun e w' h => ⟨h.1, _, h.2⟩))
  go_wp2
  rw [Exit.noGoto_ret]
  go_wp2
  rw [Exit.noGoto_ret]
  go_wp2
  go_ret
  exact ⟨rfl, below_drawn (Below.refl _ _) _⟩

set_option maxHeartbeats 400000 in
set_option maxRecDepth 100000 in
theorem indexRune_more (c : Nat) (w : World) (hv : Utf8.valid c = true) (hc : 128 ≤ c) (hn : c ≠ 65533) (h2 : 2 < (Utf8.encode c).size) (h4 : (Utf8.encode c).size ≤ 4) :
    Calls Try.prog 62 #[.string ⟨#[43, 35]⟩, .int .i32 c] w fun e w' => e = .returned (.int .i64 (-1)) ∧ Below w.heap.size w w' := by
  obtain ⟨rs, hrs⟩ : ∃ rs, Utf8.encode c = rs := ⟨_, rfl⟩
  rw [hrs] at h2 h4
  obtain ⟨l, hl⟩ : ∃ l : Int, (rs.size : Int) - 1 = l := ⟨_, rfl⟩
  have hw : IntKind.i64.wrap l = l := by rw [IntKind.wrap_i64]; omega
  have hlt : decide (l < 2) = false := decide_eq_false (by omega)
  have HV := Lib.hid hv; clear hv
  have d0 : ¬ (c : Int) < 128 := by omega
  have d1 : ((c : Int) == 65533) = false := beq_eq_false_iff_ne.2 (by omega)
  clear hc hn h2 h4
  go_enter Try.func62, Try.ntmps62
  go_wp2_with fail
  refine (validRune_any c _ HV.out).mono ?_
  rintro e w1 ⟨rfl, rfl⟩
  go_wp2
  go_step3
  go_wp2
  refine wp_loop_rounds 1 ?_
  rw [rounds_succ]
  go_wp2
  rw [Exit.noGoto_ret]
  go_wp2
  go_ret
  exact ⟨rfl, Below.refl _ _⟩

set_option maxHeartbeats 400000 in
set_option maxRecDepth 100000 in
theorem indexRune_bad (w : World) :
    Calls Try.prog 62 #[.string ⟨#[43, 35]⟩, .int .i32 65533] w fun e w' => e = .returned (.int .i64 (-1)) ∧ Below w.heap.size w w' := by
  go_enter Try.func62, Try.ntmps62
  go_wp2
  go_loopw [5, 6] (fun _ _ wr => ∃ pos : Nat, pos ≤ 2 ∧ wr.heap[w.heap.size]? = some (.stringIter ⟨#[43, 35]⟩ pos) ∧ Below w.heap.size w wr) (fun _ _ wr => 2 - wr.iterPos w.heap.size)
  case atStart => exact ⟨0, by omega, World.iter_heap w _ 0, (Below.refl _ _).alloc (Nat.le_refl _) _⟩
  case round =>
    obtain ⟨pos, hp, hit, hbel⟩ := hrel
    have HIT := Lib.hid hit
    have hit2 := Lib.iterAt_heap wr w.heap.size ⟨#[43, 35]⟩ pos (pos + 1) hit
    have hbel2 := Lib.below_iterAt hbel (k := w.heap.size) (Nat.le_refl _) ⟨#[43, 35]⟩ (pos + 1)
    have HIT2 := Lib.hid hit2; clear hit2
    by_cases h2 : pos < 2
    · have hd : ∃ c : Nat, Utf8.decode ⟨#[43, 35]⟩ pos = (c, 1) ∧ ((c : Int) == 65533) = false := by
        obtain rfl | rfl : pos = 0 ∨ pos = 1 := by omega
        · exact ⟨43, by decide +kernel, rfl⟩
        · exact ⟨35, by decide +kernel, rfl⟩
      obtain ⟨c, hdc, hcb⟩ := hd
      have hnx : ∀ ty, (Instr.next (.pointer (some ⟨w.heap.size, 0, none⟩)) true ty).run Try.prog wr = _ := fun ty => Lib.run_next_any_at wr w.heap.size ⟨#[43, 35]⟩ pos ty hit h2
      rw [hdc] at hnx
      simp only at hnx
      generalize wr.iterAt w.heap.size ⟨#[43, 35]⟩ (pos + 1) = w2 at *
      have HP := Lib.hid h2
      clear hit h2 hdc
      go_wp2
      go_roundw
      case rel => exact ⟨pos + 1, by have := HP.out; omega, HIT2.out, hbel2⟩
      case measure =>
        have := HP.out
        simp only [World.iterPos, HIT2.out, HIT.out]
        omega
    · have hnx : ∀ ty, (Instr.next (.pointer (some ⟨w.heap.size, 0, none⟩)) true ty).run Try.prog wr = _ := fun ty => Lib.run_next_end_at wr w.heap.size ⟨#[43, 35]⟩ pos ty hit h2
      clear hit
      go_wp2
      go_ret
      exact ⟨rfl, hbel⟩

/-- strings.IndexRune("+#", c), c a rune that a range over a string gives. -/
theorem indexRune_any (c : Nat) (w : World) (hv : c < 128 ∨ (128 ≤ c ∧ Utf8.valid c = true)) :
    Calls Try.prog 62 #[.string ⟨#[43, 35]⟩, .int .i32 c] w fun e w' => e = .returned (.int .i64 (if c = 43 then 0 else if c = 35 then 1 else -1)) ∧ Below w.heap.size w w' := by
  rcases hv with h | ⟨h, hv⟩
  · refine (indexRune_ascii _ c w (by omega) (by omega)).mono fun e w' h1 => ?_
    obtain ⟨he, rfl⟩ := h1
    refine ⟨?_, Below.refl _ _⟩
    rw [he]
    have : ∀ d : Fin 128, Lib.indexByte [43, 35] ((d.val : Int).toNat.toUInt8) = (if d.val = 43 then 0 else if d.val = 35 then 1 else -1) := by decide +kernel
    exact congrArg (fun i => Ending.returned (Value.int .i64 i)) (this ⟨c, h⟩)
  · rw [if_neg (by omega), if_neg (by omega)]
    by_cases hb : c = 65533
    · subst hb; exact indexRune_bad w
    · obtain ⟨h2, h4, -⟩ := encode_facts c hv (by omega)
      by_cases hs : (Utf8.encode c).size = 2
      · exact indexRune_two c w hv h hb hs
      · exact indexRune_more c w hv h hb (by omega) h4

theorem decode_cases (s : ByteArray) (pos : Nat) : (Utf8.decode s pos = ((s.get! pos).toNat, 1) ∧ (s.get! pos).toNat < 128) ∨
    (128 ≤ (Utf8.decode s pos).1 ∧ Utf8.valid (Utf8.decode s pos).1 = true ∧ ∀ j, j < (Utf8.decode s pos).2 → 128 ≤ (s.get! (pos + j)).toNat) := by
  rw [Lib.decode_at]
  have h0 := UInt8.toNat_lt (s.get! pos)
  have hj : ∀ j, j = 0 ∨ j = 1 ∨ j = 2 ∨ j = 3 ∨ 4 ≤ j := by omega
  have j0 : (s.get! (pos + 0)) = s.get! pos := rfl
  generalize s.size - pos = n
  rcases Lib.decodeN_shape n (s.get! pos).toNat (s.get! (pos + 1)).toNat (s.get! (pos + 2)).toNat (s.get! (pos + 3)).toNat with ⟨h1, h2⟩ | ⟨h1, h2, h4, h5, h6⟩ | ⟨h1, h2, h4, h5, h6, h7, h8⟩ | ⟨h1, h2, h4, h5, h6, h7, h8, h9⟩ | h1
  · exact .inl ⟨h2, h1⟩
  · rw [h6]
    refine .inr ⟨h5, ?_, ?_⟩
    · simp [Utf8.valid]; omega
    · intro j hj2
      obtain rfl | rfl : j = 0 ∨ j = 1 := by simp only at hj2; omega
      · rw [j0]; omega
      · omega
  · rw [h8]
    refine .inr ⟨by simp only; omega, ?_, ?_⟩
    · simp [Utf8.valid]; omega
    · intro j hj2
      obtain rfl | rfl | rfl : j = 0 ∨ j = 1 ∨ j = 2 := by simp only at hj2; omega
      · rw [j0]; omega
      · omega
      · omega
  · rw [h9]
    refine .inr ⟨by simp only; omega, ?_, ?_⟩
    · simp [Utf8.valid]; omega
    · intro j hj2
      obtain rfl | rfl | rfl | rfl : j = 0 ∨ j = 1 ∨ j = 2 ∨ j = 3 := by simp only at hj2; omega
      · rw [j0]; omega
      · omega
      · omega
      · omega
  · by_cases hb : (s.get! pos).toNat < 128
    · left
      refine ⟨?_, hb⟩
      unfold Lib.decodeN
      rw [if_pos hb]
    · rw [h1]
      refine .inr ⟨by decide, by decide, ?_⟩
      intro j hj2
      obtain rfl : j = 0 := by simp only at hj2; omega
      rw [j0]; omega
end Go.Proofs.Ytjbpafkdbfbdlaa

namespace Go.Proofs.Ytjbpafkdbfbdlaa
open Go.RowKit Go.Shelf

def special (b : UInt8) : Bool := b == 43 || b == 35
def anyS (s : ByteArray) : Bool := (ls s).any special
theorem special_low (b : UInt8) : special b = decide (b.toNat = 43 ∨ b.toNat = 35) := by
  unfold special
  rw [Bool.eq_iff_iff]
  simp [← UInt8.toNat_inj]
theorem special_high (b : UInt8) (h : 128 ≤ b.toNat) : special b = false := by
  rw [special_low]
  exact decide_eq_false (by omega)
theorem get_ls (s : ByteArray) (i : Nat) (h : i < s.size) : (ls s)[i]'(by rw [ls_len]; exact h) = s.get! i := by
  rw [ls_at s i h]
  simp [ByteArray.get!, getElem!_pos, h]
  rfl
theorem anyS_none (s : ByteArray) (h : ∀ i, i < s.size → special (s.get! i) = false) : anyS s = false := by
  unfold anyS
  rw [List.any_eq_false]
  intro b hb
  obtain ⟨i, hi, rfl⟩ := List.getElem_of_mem hb
  rw [ls_len] at hi
  rw [get_ls s i hi, h i hi]
  decide
theorem anyS_hit (s : ByteArray) (i : Nat) (hi : i < s.size) (h : special (s.get! i) = true) : anyS s = true := by
  unfold anyS
  rw [List.any_eq_true]
  exact ⟨_, List.getElem_mem (by rw [ls_len]; exact hi), by rw [get_ls s i hi]; exact h⟩

theorem decodeN_wd (n b0 b1 b2 b3 : Nat) (hn : 1 ≤ n) : (Lib.decodeN n b0 b1 b2 b3).2 ≤ n := by
  unfold Lib.decodeN
  repeat' split
  all_goals (simp only; omega)
theorem rune_ok {s : ByteArray} {pos c wd : Nat} (h : ((c, wd) = ((s.get! pos).toNat, 1) ∧ (s.get! pos).toNat < 128) ∨ (128 ≤ c ∧ Utf8.valid c = true ∧ ∀ j, j < wd → 128 ≤ (s.get! (pos + j)).toNat)) : c < 128 ∨ (128 ≤ c ∧ Utf8.valid c = true) := by
  rcases h with ⟨h1, h2⟩ | ⟨h1, h2, -⟩
  · simp only [Prod.mk.injEq] at h1
    exact .inl (by omega)
  · exact .inr ⟨h1, h2⟩

set_option maxHeartbeats 400000 in
set_option maxRecDepth 100000 in
theorem indexAny_short (s : ByteArray) (w : World) (h8 : s.size ≤ 8) :
    Calls Try.prog 53 #[.string s, .string ⟨#[43, 35]⟩] w fun e w' => ∃ i : Int, e = .returned (.int .i64 i) ∧ decide (0 ≤ i) = anyS s ∧ Below w.heap.size w w' := by
  have h8z : decide ((8 : Int) < (s.size : Int)) = false := decide_eq_false (by omega)
  have HS := Lib.hid h8; clear h8
  go_enter Try.func53, Try.ntmps53
  go_wp2_with fail
  refine (show Calls Try.prog 63 #[.int .i64 s.size] w fun e w' => e = .returned (.bool false) ∧ w' = w from by
    go_enter Try.func63, Try.ntmps63
    go_wp2
    go_ret
    exact ⟨rfl, rfl⟩).mono ?_
  rintro e w' ⟨rfl, hw⟩
  subst hw
  go_wp2
  go_loopw [9, 10] (fun _ _ wr => ∃ pos : Nat, pos ≤ s.size ∧ (∀ i, i < pos → special (s.get! i) = false) ∧ wr.heap[w'.heap.size]? = some (.stringIter s pos) ∧ Below w'.heap.size w' wr) (fun _ _ wr => s.size - wr.iterPos w'.heap.size)
  case atStart => exact ⟨0, by omega, fun i h => by omega, World.iter_heap w' s 0, (Below.refl _ _).alloc (Nat.le_refl _) _⟩
  case round =>
    obtain ⟨pos, hle, hno, hit, hbel⟩ := hrel
    have HN := Lib.hid hno; have HL := Lib.hid hle; clear hno hle
    have hz : w'.heap.size < wr.heap.size := (Array.getElem?_eq_some_iff.1 hit).1
    have HIT := Lib.hid hit
    by_cases hp : pos < s.size
    · have hnx : ∀ ty, (Instr.next (.pointer (some ⟨w'.heap.size, 0, none⟩)) true ty).run Try.prog wr = _ := fun ty => Lib.run_next_any_at wr w'.heap.size s pos ty hit hp
      have hwd := Lib.decode_width_pos s pos hp
      have hd1 := decode_le s pos
      have hwl : pos + (Utf8.decode s pos).2 ≤ s.size := by rw [Lib.decode_at]; have := decodeN_wd (s.size - pos) (s.get! pos).toNat (s.get! (pos + 1)).toNat (s.get! (pos + 2)).toNat (s.get! (pos + 3)).toNat (by omega); omega
      have hit2 := Lib.iterAt_heap wr w'.heap.size s pos (pos + (Utf8.decode s pos).2) hit
      have hbel2 := Lib.below_iterAt hbel (k := w'.heap.size) (Nat.le_refl _) s (pos + (Utf8.decode s pos).2)
      have hz2 : w'.heap.size < (wr.iterAt w'.heap.size s (pos + (Utf8.decode s pos).2)).heap.size := by rw [Lib.iterAt_size]; omega
      have HIT2 := Lib.hid hit2; have HB2 := Lib.hid hbel2
      have HC := Lib.hid (decode_cases s pos)
      clear hit hit2 hbel2
      generalize hD : Utf8.decode s pos = D at *
      have HD := Lib.hid hD; clear hD
      obtain ⟨c, wd⟩ := D
      generalize wr.iterAt w'.heap.size s (pos + wd) = w2 at *
      simp only at hwd hd1 HC hnx hwl
      have HP := Lib.hid hp; have HW := Lib.hid hwd; have HWL := Lib.hid hwl
      clear hp hwd hwl
      by_cases hc : c = 43 ∨ c = 35
      · have hany : anyS s = true := by
          rcases HC.out with ⟨h1, h2⟩ | ⟨h1, h2⟩
          · refine anyS_hit s pos HP.out ?_
            rw [special_low]
            simp only [Prod.mk.injEq] at h1
            exact decide_eq_true (by omega)
          · omega
        have HA := Lib.hid hany; clear hany
        have hi : ∃ i : Int, (if c = 43 then (0 : Int) else if c = 35 then 1 else -1) = i ∧ decide (0 ≤ i) = true := by
          rcases hc with rfl | rfl
          · exact ⟨0, rfl, rfl⟩
          · exact ⟨1, rfl, rfl⟩
        obtain ⟨i, hi, hi0⟩ := hi
        have HI := Lib.hid hi; clear hi hc
        go_wp2_with fail
        refine (indexRune_any c _ (rune_ok HC.out)).mono ?_
        rintro e w3 ⟨rfl, hb3⟩
        rw [HI.out]
        have HB3 := Lib.hid hb3; clear hb3
        go_wp2
        go_ret
        exact ⟨pos, rfl, by rw [HA.out]; exact decide_eq_true (by omega), HB2.out.trans (HB3.out.mono HB2.out.size)⟩
      · have HX := Lib.hid hc; clear hc
        go_wp2_with fail
        refine (indexRune_any c _ (rune_ok HC.out)).mono ?_
        rintro e w3 ⟨rfl, hb3⟩
        rw [if_neg (fun e => HX.out (.inl e)), if_neg (fun e => HX.out (.inr e))]
        have hit3 : w3.heap[w'.heap.size]? = some (.stringIter s (pos + wd)) := (hb3.block _ hz2).trans HIT2.out
        have HB3 := Lib.hid (HB2.out.trans (hb3.mono HB2.out.size)); clear hb3
        have HIT3 := Lib.hid hit3; clear hit3
        go_wp2
        go_roundw
        case rel =>
          refine ⟨pos + wd, HWL.out, ?_, HIT3.out, HB3.out⟩
          intro i hi
          by_cases hip : i < pos
          · exact HN.out i hip
          · rcases HC.out with ⟨h1, h2⟩ | ⟨h1, h2, h3⟩
            · simp only [Prod.mk.injEq] at h1
              obtain rfl : i = pos := by omega
              rw [special_low]
              have := HX.out
              exact decide_eq_false (by omega)
            · have := h3 (i - pos) (by omega)
              rw [show pos + (i - pos) = i by omega] at this
              exact special_high _ this
        case measure =>
          have := HW.out; have := HWL.out; have := HP.out
          simp only [World.iterPos, HIT3.out, HIT.out]
          omega
    · have hnx : ∀ ty, (Instr.next (.pointer (some ⟨w'.heap.size, 0, none⟩)) true ty).run Try.prog wr = _ := fun ty => Lib.run_next_end_at wr w'.heap.size s pos ty hit hp
      have HF : Hid (anyS s = false) := Lib.hid (anyS_none s fun i hi => HN.out i (by omega))
      clear hit
      go_wp2
      go_ret
      exact ⟨-1, rfl, by rw [HF.out]; rfl, hbel⟩
end Go.Proofs.Ytjbpafkdbfbdlaa

namespace Go.Proofs.Ytjbpafkdbfbdlaa
open Go.RowKit Go.Shelf

theorem indexAny_iff : ∀ l : List UInt8, decide (0 ≤ Lib.indexAny l [43, 35]) = l.any special
  | [] => rfl
  | b :: l => by
    have ih := indexAny_iff l
    have hge := Lib.indexAny_ge [43, 35] l
    rw [Lib.indexAny, List.any_cons]
    have hc : ([43, 35] : List UInt8).contains b = special b := by simp [special]; rfl
    rw [hc]
    cases hs : special b
    · rw [if_neg (by simp), Bool.false_or, ← ih]
      by_cases h : Lib.indexAny l [43, 35] = -1
      · rw [h]; rfl
      · rw [if_neg (by simpa using h)]
        rw [decide_eq_decide]
        omega
    · simp

def textB (s : ByteArray) : Bool := decide (s.size ≠ 0) && validB s
def nameB (s : ByteArray) : Bool := textB s && !anyS s

set_option maxHeartbeats 400000 in
set_option maxRecDepth 10000 in
theorem containsAny_any (s : ByteArray) (w : World) (hs : s.size ≤ 65535) :
    Calls Try.prog 38 #[.string s, .string ⟨#[43, 35]⟩] w fun e w' => e = .returned (.bool (anyS s)) ∧ Below w.heap.size w w' := by
  have c : Calls Try.prog 53 #[.string s, .string ⟨#[43, 35]⟩] w fun e w' => ∃ i : Int, e = .returned (.int .i64 i) ∧ decide (0 ≤ i) = anyS s ∧ Below w.heap.size w w' := by
    by_cases h8 : s.size ≤ 8
    · exact indexAny_short s w h8
    · refine (indexAny_long s ⟨#[43, 35]⟩ w (by decide) (by omega) (by omega) (by decide) ?_).mono fun e w' h => ⟨_, h.1, indexAny_iff _, h.2⟩
      intro j b hb
      have : b ∈ [(43 : UInt8), 35] := List.mem_of_getElem? hb
      simp at this
      rcases this with rfl | rfl <;> decide
  go_enter Try.func38, Try.ntmps38
  go_wp2_with fail
  refine c.mono ?_
  rintro e w1 ⟨i, rfl, hi, hb⟩
  have HB := Lib.hid hb; clear hb
  go_wp2
  go_ret
  exact ⟨by rw [← hi]; rfl, HB.out⟩

set_option maxHeartbeats 400000 in
set_option maxRecDepth 10000 in
theorem textT_any (s : ByteArray) (w : World) (hs : s.size ≤ 4611686018427387904) :
    Calls Try.prog 37 #[.string s] w fun e w' => e = .returned (.bool (textB s)) ∧ Below w.heap.size w w' := by
  by_cases h : s.size = 0
  · have he : s.toList.isEmpty = true := by rw [Lib.toList_data, List.length_eq_zero_iff.1 ((Lib.size_eq s).symm.trans h)]; rfl
    have HF : Hid (textB s = false) := Lib.hid (by simp [textB, h])
    clear h hs
    go_enter Try.func37, Try.ntmps37
    go_wp2
    go_ret
    exact ⟨by rw [HF.out]; rfl, Below.refl _ _⟩
  · have he : s.toList.isEmpty = false := by
      rw [Lib.toList_data]
      cases hl : s.data.toList with
      | nil => exact absurd ((Lib.size_eq s).trans (by rw [hl]; rfl)) h
      | cons _ _ => rfl
    have HF : Hid (textB s = validB s) := Lib.hid (by simp [textB, h])
    have HS := Lib.hid hs
    clear h hs
    go_enter Try.func37, Try.ntmps37
    go_wp2_with fail
    refine (valid_any s _ HS.out).mono ?_
    rintro e w1 ⟨rfl, hb⟩
    have HB := Lib.hid hb; clear hb
    go_wp2
    go_ret
    exact ⟨by rw [HF.out]; rfl, HB.out⟩

theorem valid_size {s : ByteArray} (h : validB s = true) : s.size ≤ 65535 := by
  unfold validB at h
  simp at h
  exact h.1

set_option maxHeartbeats 400000 in
set_option maxRecDepth 10000 in
theorem name_any (s : ByteArray) (w : World) (hs : s.size ≤ 4611686018427387904) :
    Calls Try.prog 24 #[.string s] w fun e w' => e = .returned (.bool (nameB s)) ∧ Below w.heap.size w w' := by
  have HS := Lib.hid hs; clear hs
  go_enter Try.func24, Try.ntmps24
  go_wp2_with fail
  refine (textT_any s _ HS.out).mono ?_
  rintro e w1 ⟨rfl, hb⟩
  have HB := Lib.hid hb; clear hb
  cases ht : textB s
  · have HF : Hid (nameB s = false) := Lib.hid (by simp [nameB, ht])
    clear ht
    go_wp2
    go_ret
    exact ⟨by rw [HF.out]; rfl, HB.out⟩
  · have HF : Hid (nameB s = !anyS s) := Lib.hid (by simp [nameB, ht])
    have HV : Hid (s.size ≤ 65535) := Lib.hid (valid_size (by simp [textB] at ht; exact ht.2))
    clear ht
    go_wp2_with fail
    refine (containsAny_any s _ HV.out).mono ?_
    rintro e w2 ⟨rfl, hb⟩
    have HB := Lib.hid (HB.out.trans (hb.mono HB.out.size)); clear hb
    go_wp2
    go_ret
    exact ⟨by rw [HF.out]; rfl, HB.out⟩
end Go.Proofs.Ytjbpafkdbfbdlaa
