/- Names: strings.ContainsAny at "+#", of any string. -/
import Derived.Test.YtdpeljnoaiaplaaUstA
import Derived.Shelf.Strings.IndexAnyAll
import Derived.Laws.Runes
import Derived.LoopN
import Derived.BigQuiet
import Derived.WalkMore
namespace Go.Proofs.Ytdpeljnoaiaplaa
open Go.RowKit Go.Shelf

set_option maxHeartbeats 400000 in
set_option maxRecDepth 10000 in
theorem validRune_any (c : Nat) (w : World) (hv : Utf8.valid c = true) :
    Calls Try.prog 158 #[.int .i32 c] w fun e w' => e = .returned (.bool true) ∧ w = w' := by
  have hv' : c < 55296 ∨ (57344 ≤ c ∧ c ≤ 1114111) := by
    simp [Utf8.valid] at hv
    omega
  clear hv
  rcases hv' with h | ⟨h1, h2⟩
  · have h0 : (c : Int) < 55296 := by omega
    clear h
    go_enter Try.func158, Try.ntmps158
    go_wp2
    go_ret
    exact ⟨rfl, rfl⟩
  · have h0 : ¬ (c : Int) < 55296 := by omega
    have h3 : (57343 : Int) < c := by omega
    have h4 : (c : Int) ≤ 1114111 := by omega
    clear h1 h2
    go_enter Try.func158, Try.ntmps158
    go_wp2
    go_ret
    exact ⟨rfl, rfl⟩

def lays153_ren : Ren := ⟨fun | 153 => 137 | 152 => 144 | 226 => 145 | 227 => 146 | 228 => 147 | 137 => 157 | 119 => 158 | 224 => 159 | 225 => 160 | 217 => 164 | 266 => 165 | n => n, fun | 9 => 9 | 3 => 3 | 4 => 4 | 5 => 5 | 21 => 21 | 117 => 173 | 116 => 172 | 0 => 0 | 46 => 50 | 124 => 181 | n => n, fun n => n⟩
theorem lays153 : Lays.n153 Try.prog lays153_ren where
  mixed := by kernel_rfl
  f119 := Try.func158.trans (congrArg some (by kernel_rfl))
  f137 := Try.func157.trans (congrArg some (by kernel_rfl))
  f152 := Try.func144.trans (congrArg some (by kernel_rfl))
  f153 := Try.func137.trans (congrArg some (by kernel_rfl))
  f217 := Try.func164.trans (congrArg some (by kernel_rfl))
  f224 := Try.func159.trans (congrArg some (by kernel_rfl))
  f225 := Try.func160.trans (congrArg some (by kernel_rfl))
  f226 := Try.func145.trans (congrArg some (by kernel_rfl))
  f227 := Try.func146.trans (congrArg some (by kernel_rfl))
  f228 := Try.func147.trans (congrArg some (by kernel_rfl))
  f266 := Try.func165.trans (congrArg some (by kernel_rfl))
  t0 := Try.underlying0
  a0 := Try.isAgg0
  z0 := Try.sizeOf0
  v0 := Try.zeroValue0
  t3 := Try.underlying3
  a3 := Try.isAgg3
  z3 := Try.sizeOf3
  v3 := Try.zeroValue3
  t4 := Try.underlying4
  a4 := Try.isAgg4
  z4 := Try.sizeOf4
  v4 := Try.zeroValue4
  t5 := Try.underlying5
  a5 := Try.isAgg5
  z5 := Try.sizeOf5
  v5 := Try.zeroValue5
  t9 := Try.underlying9
  a9 := Try.isAgg9
  z9 := Try.sizeOf9
  v9 := Try.zeroValue9
  t21 := Try.underlying21
  a21 := Try.isAgg21
  z21 := Try.sizeOf21
  v21 := Try.zeroValue21
  t46 := Try.underlying50
  a46 := Try.isAgg50
  z46 := Try.sizeOf50
  v46 := Try.zeroValue50
  t116 := Try.underlying172
  a116 := Try.isAgg172
  z116 := Try.sizeOf172
  t117 := Try.underlying173
  a117 := Try.isAgg173
  z117 := Try.sizeOf173
  v117 := Try.zeroValue173
  t124 := Try.underlying181
  a124 := Try.isAgg181
  z124 := Try.sizeOf181
  v124 := Try.zeroValue181
theorem set153 : (Try.prog.info? (lays153_ren.t 116)).map (fun i => (i.zero, i.size)) = some (some (.agg (Array.replicate 256 (.bool false))), 256) := by kernel_rfl
theorem indexByte_any (s : ByteArray) (c : Int) (w : World) :
    Calls Try.prog 157 #[.string s, .int .u8 c] w fun e w' => e = .returned (.int .i64 (Lib.indexByte s.data.toList c.toNat.toUInt8)) ∧ w' = w := Any.strings_IndexByte { lays153 with } s c w
theorem indexByte_empty (c : Int) (w : World) :
    Calls Try.prog 157 #[.string ByteArray.empty, .int .u8 c] w fun e w' => e = .returned (.int .i64 (-1)) ∧ w' = w := indexByte_any ByteArray.empty c w
theorem indexRune_ascii (s : ByteArray) (r : Int) (w : World) (h0 : 0 ≤ r) (h1 : r < 128) :
    Calls Try.prog 144 #[.string s, .int .i32 r] w fun e w' => e = .returned (.int .i64 (Lib.indexByte s.data.toList r.toNat.toUInt8)) ∧ w' = w := Any.strings_IndexRune_ascii { lays153 with } s r w h0 h1
theorem indexAny_long (s chars : ByteArray) (w : World) (h2 : 2 ≤ chars.size) (h8 : 8 < s.size) (hs : s.size < 4294967281) (hcs : chars.size < 4294967281) (hac : ∀ (j : Nat) b, chars.data.toList[j]? = some b → b.toNat < 128) :
    Calls Try.prog 137 #[.string s, .string chars] w fun e w' => e = .returned (.int .i64 (Lib.indexAny s.data.toList chars.data.toList)) ∧ Below w.heap.size w w' := by
  refine (Any.strings_IndexAny_long lays153 (zero_of_info set153).1 (zero_of_info set153).2 s chars w h2 h8 hs hcs hac).mono fun e w' ⟨h1, h2⟩ => ⟨h1, ?_⟩
  rw [h2]
  exact ((Below.refl _ _).alloc (Nat.le_refl _) _).alloc (by simp) _

set_option maxHeartbeats 400000 in
set_option maxRecDepth 100000 in
theorem indexRune_two (c : Nat) (w : World) (hv : Utf8.valid c = true) (hc : 128 ≤ c) (hn : c ≠ 65533) (h2 : (Utf8.encode c).size = 2) :
    Calls Try.prog 144 #[.string ⟨#[43, 35]⟩, .int .i32 c] w fun e w' => e = .returned (.int .i64 (-1)) ∧ Below w.heap.size w w' := by
  obtain ⟨-, -, hlast⟩ := encode_facts c hv (by omega)
  obtain ⟨rs, hrs⟩ : ∃ rs, Utf8.encode c = rs := ⟨_, rfl⟩
  rw [hrs] at hlast h2
  replace hlast := hlast (by omega)
  obtain ⟨x, hx⟩ : ∃ x, rs[rs.size - 1]'(by omega) = x := ⟨_, rfl⟩
  rw [hx] at hlast
  have hx1 : rs[1]'(by omega) = x := by rw [← hx]; simp [h2]
  have hne : ((((⟨#[43, 35]⟩ : ByteArray)[1]'(by decide)).toNat : Int) != (x.toNat : Int)) = true := by
    rw [show ((⟨#[43, 35]⟩ : ByteArray)[1]'(by decide)) = 35 from rfl]
    exact bne_iff_ne.2 (by simp; omega)
  clear hx hlast
  have hsz : (1 : Int) < (rs.size : Int) := by omega
  have HV := Lib.hid hv; clear hv
  have d0 : ¬ (c : Int) < 128 := by omega
  have d1 : ((c : Int) == 65533) = false := beq_eq_false_iff_ne.2 (by omega)
  clear hc hn
  go_enter Try.func144, Try.ntmps144
  go_wp2_with fail
  refine (validRune_any c _ HV.out).mono ?_
  rintro e w1 ⟨rfl, rfl⟩
  go_wp2
  go_step3
  go_wp2
  refine wp_loop_rounds 1 ?_
  rw [rounds_succ]
  go_wp2
  go_step3
  go_wp2
  go_quiet (fail)
  clear hne
  have hw2 : IntKind.i64.wrap 2 = 2 := by decide
  go_wp2
  go_quiet (first | (go_at_call 157; exact (indexByte_empty _ _).mono fun e w' h => ⟨h.1, _, h.2⟩))
  go_wp2
  rw [Exit.noGoto_ret]
  go_wp2
  rw [Exit.noGoto_ret]
  go_wp2
  go_ret
  exact ⟨rfl, below_drawn (Below.refl _ _) _⟩

set_option maxHeartbeats 400000 in
set_option maxRecDepth 100000 in
theorem indexRune_more (c : Nat) (w : World) (hv : Utf8.valid c = true) (hc : 128 ≤ c) (hn : c ≠ 65533) (h2 : 2 < (Utf8.encode c).size) (h4 : (Utf8.encode c).size ≤ 4) :
    Calls Try.prog 144 #[.string ⟨#[43, 35]⟩, .int .i32 c] w fun e w' => e = .returned (.int .i64 (-1)) ∧ Below w.heap.size w w' := by
  obtain ⟨rs, hrs⟩ : ∃ rs, Utf8.encode c = rs := ⟨_, rfl⟩
  rw [hrs] at h2 h4
  obtain ⟨l, hl⟩ : ∃ l : Int, (rs.size : Int) - 1 = l := ⟨_, rfl⟩
  have hw : IntKind.i64.wrap l = l := by rw [IntKind.wrap_i64]; omega
  have hlt : decide (l < 2) = false := decide_eq_false (by omega)
  have HV := Lib.hid hv; clear hv
  have d0 : ¬ (c : Int) < 128 := by omega
  have d1 : ((c : Int) == 65533) = false := beq_eq_false_iff_ne.2 (by omega)
  clear hc hn h2 h4
  go_enter Try.func144, Try.ntmps144
  go_wp2_with fail
  refine (validRune_any c _ HV.out).mono ?_
  rintro e w1 ⟨rfl, rfl⟩
  go_wp2
  go_step3
  go_wp2
  refine wp_loop_rounds 1 ?_
  rw [rounds_succ]
  go_wp2
  rw [Exit.noGoto_ret]
  go_wp2
  go_ret
  exact ⟨rfl, Below.refl _ _⟩

set_option maxHeartbeats 400000 in
set_option maxRecDepth 100000 in
theorem indexRune_bad (w : World) :
    Calls Try.prog 144 #[.string ⟨#[43, 35]⟩, .int .i32 65533] w fun e w' => e = .returned (.int .i64 (-1)) ∧ Below w.heap.size w w' := by
  go_enter Try.func144, Try.ntmps144
  go_wp2
  go_loopw [5, 6] (fun _ _ wr => ∃ pos : Nat, pos ≤ 2 ∧ wr.heap[w.heap.size]? = some (.stringIter ⟨#[43, 35]⟩ pos) ∧ Below w.heap.size w wr) (fun _ _ wr => 2 - wr.iterPos w.heap.size)
  case atStart => exact ⟨0, by omega, World.iter_heap w _ 0, (Below.refl _ _).alloc (Nat.le_refl _) _⟩
  case round =>
    obtain ⟨pos, hp, hit, hbel⟩ := hrel
    have HIT := Lib.hid hit
    have hit2 := Lib.iterAt_heap wr w.heap.size ⟨#[43, 35]⟩ pos (pos + 1) hit
    have hbel2 := Lib.below_iterAt hbel (k := w.heap.size) (Nat.le_refl _) ⟨#[43, 35]⟩ (pos + 1)
    have HIT2 := Lib.hid hit2; clear hit2
    by_cases h2 : pos < 2
    · have hd : ∃ c : Nat, Utf8.decode ⟨#[43, 35]⟩ pos = (c, 1) ∧ ((c : Int) == 65533) = false := by
        obtain rfl | rfl : pos = 0 ∨ pos = 1 := by omega
        · exact ⟨43, by decide +kernel, rfl⟩
        · exact ⟨35, by decide +kernel, rfl⟩
      obtain ⟨c, hdc, hcb⟩ := hd
      have hnx : ∀ ty, (Instr.next (.pointer (some ⟨w.heap.size, 0, none⟩)) true ty).run Try.prog wr = _ := fun ty => Lib.run_next_any_at wr w.heap.size ⟨#[43, 35]⟩ pos ty hit h2
      rw [hdc] at hnx
      simp only at hnx
      generalize wr.iterAt w.heap.size ⟨#[43, 35]⟩ (pos + 1) = w2 at *
      have HP := Lib.hid h2
      clear hit h2 hdc
      go_wp2
      go_roundw
      case rel => exact ⟨pos + 1, by have := HP.out; omega, HIT2.out, hbel2⟩
      case measure =>
        have := HP.out
        simp only [World.iterPos, HIT2.out, HIT.out]
        omega
    · have hnx : ∀ ty, (Instr.next (.pointer (some ⟨w.heap.size, 0, none⟩)) true ty).run Try.prog wr = _ := fun ty => Lib.run_next_end_at wr w.heap.size ⟨#[43, 35]⟩ pos ty hit h2
      clear hit
      go_wp2
      go_ret
      exact ⟨rfl, hbel⟩

/-- strings.IndexRune("+#", c), c a rune that a range over a string gives. -/
theorem indexRune_any (c : Nat) (w : World) (hv : c < 128 ∨ (128 ≤ c ∧ Utf8.valid c = true)) :
    Calls Try.prog 144 #[.string ⟨#[43, 35]⟩, .int .i32 c] w fun e w' => e = .returned (.int .i64 (if c = 43 then 0 else if c = 35 then 1 else -1)) ∧ Below w.heap.size w w' := by
  rcases hv with h | ⟨h, hv⟩
  · refine (indexRune_ascii _ c w (by omega) (by omega)).mono fun e w' h1 => ?_
    obtain ⟨he, rfl⟩ := h1
    refine ⟨?_, Below.refl _ _⟩
    rw [he]
    have : ∀ d : Fin 128, Lib.indexByte [43, 35] ((d.val : Int).toNat.toUInt8) = (if d.val = 43 then 0 else if d.val = 35 then 1 else -1) := by decide +kernel
    exact congrArg (fun i => Ending.returned (Value.int .i64 i)) (this ⟨c, h⟩)
  · rw [if_neg (by omega), if_neg (by omega)]
    by_cases hb : c = 65533
    · subst hb; exact indexRune_bad w
    · obtain ⟨h2, h4, -⟩ := encode_facts c hv (by omega)
      by_cases hs : (Utf8.encode c).size = 2
      · exact indexRune_two c w hv h hb hs
      · exact indexRune_more c w hv h hb (by omega) h4

theorem decode_cases (s : ByteArray) (pos : Nat) : (Utf8.decode s pos = ((s.get! pos).toNat, 1) ∧ (s.get! pos).toNat < 128) ∨
    (128 ≤ (Utf8.decode s pos).1 ∧ Utf8.valid (Utf8.decode s pos).1 = true ∧ ∀ j, j < (Utf8.decode s pos).2 → 128 ≤ (s.get! (pos + j)).toNat) := by
  rw [Lib.decode_at]
  have h0 := UInt8.toNat_lt (s.get! pos)
  have hj : ∀ j, j = 0 ∨ j = 1 ∨ j = 2 ∨ j = 3 ∨ 4 ≤ j := by omega
  have j0 : (s.get! (pos + 0)) = s.get! pos := rfl
  generalize s.size - pos = n
  rcases Lib.decodeN_shape n (s.get! pos).toNat (s.get! (pos + 1)).toNat (s.get! (pos + 2)).toNat (s.get! (pos + 3)).toNat with ⟨h1, h2⟩ | ⟨h1, h2, h4, h5, h6⟩ | ⟨h1, h2, h4, h5, h6, h7, h8⟩ | ⟨h1, h2, h4, h5, h6, h7, h8, h9⟩ | h1
  · exact .inl ⟨h2, h1⟩
  · rw [h6]
    refine .inr ⟨h5, ?_, ?_⟩
    · simp [Utf8.valid]; omega
    · intro j hj2
      obtain rfl | rfl : j = 0 ∨ j = 1 := by simp only at hj2; omega
      · rw [j0]; omega
      · omega
  · rw [h8]
    refine .inr ⟨by simp only; omega, ?_, ?_⟩
    · simp [Utf8.valid]; omega
    · intro j hj2
      obtain rfl | rfl | rfl : j = 0 ∨ j = 1 ∨ j = 2 := by simp only at hj2; omega
      · rw [j0]; omega
      · omega
      · omega
  · rw [h9]
    refine .inr ⟨by simp only; omega, ?_, ?_⟩
    · simp [Utf8.valid]; omega
    · intro j hj2
      obtain rfl | rfl | rfl | rfl : j = 0 ∨ j = 1 ∨ j = 2 ∨ j = 3 := by simp only at hj2; omega
      · rw [j0]; omega
      · omega
      · omega
      · omega
  · by_cases hb : (s.get! pos).toNat < 128
    · left
      refine ⟨?_, hb⟩
      unfold Lib.decodeN
      rw [if_pos hb]
    · rw [h1]
      refine .inr ⟨by decide, by decide, ?_⟩
      intro j hj2
      obtain rfl : j = 0 := by simp only at hj2; omega
      rw [j0]; omega
end Go.Proofs.Ytdpeljnoaiaplaa
