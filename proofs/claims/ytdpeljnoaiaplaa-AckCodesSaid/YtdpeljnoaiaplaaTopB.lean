/- Names of topics: which texts are names. -/
import Derived.Test.YtdpeljnoaiaplaaTopA
namespace Go.Proofs.Ytdpeljnoaiaplaa
open Go.RowKit Go.Shelf

def special (b : UInt8) : Bool := b == 43 || b == 35
def anyS (s : ByteArray) : Bool := (ls s).any special
theorem special_low (b : UInt8) : special b = decide (b.toNat = 43 ∨ b.toNat = 35) := by
  unfold special
  rw [Bool.eq_iff_iff]
  simp [← UInt8.toNat_inj]
theorem special_high (b : UInt8) (h : 128 ≤ b.toNat) : special b = false := by
  rw [special_low]
  exact decide_eq_false (by omega)
theorem get_ls (s : ByteArray) (i : Nat) (h : i < s.size) : (ls s)[i]'(by rw [ls_len]; exact h) = s.get! i := by
  rw [ls_at s i h]
  simp [ByteArray.get!, getElem!_pos, h]
  rfl
theorem anyS_none (s : ByteArray) (h : ∀ i, i < s.size → special (s.get! i) = false) : anyS s = false := by
  unfold anyS
  rw [List.any_eq_false]
  intro b hb
  obtain ⟨i, hi, rfl⟩ := List.getElem_of_mem hb
  rw [ls_len] at hi
  rw [get_ls s i hi, h i hi]
  decide
theorem anyS_hit (s : ByteArray) (i : Nat) (hi : i < s.size) (h : special (s.get! i) = true) : anyS s = true := by
  unfold anyS
  rw [List.any_eq_true]
  exact ⟨_, List.getElem_mem (by rw [ls_len]; exact hi), by rw [get_ls s i hi]; exact h⟩

theorem decodeN_wd (n b0 b1 b2 b3 : Nat) (hn : 1 ≤ n) : (Lib.decodeN n b0 b1 b2 b3).2 ≤ n := by
  unfold Lib.decodeN
  repeat' split
  all_goals (simp only; omega)
theorem rune_ok {s : ByteArray} {pos c wd : Nat} (h : ((c, wd) = ((s.get! pos).toNat, 1) ∧ (s.get! pos).toNat < 128) ∨ (128 ≤ c ∧ Utf8.valid c = true ∧ ∀ j, j < wd → 128 ≤ (s.get! (pos + j)).toNat)) : c < 128 ∨ (128 ≤ c ∧ Utf8.valid c = true) := by
  rcases h with ⟨h1, h2⟩ | ⟨h1, h2, -⟩
  · simp only [Prod.mk.injEq] at h1
    exact .inl (by omega)
  · exact .inr ⟨h1, h2⟩

set_option maxHeartbeats 400000 in
set_option maxRecDepth 100000 in
theorem indexAny_short (s : ByteArray) (w : World) (h8 : s.size ≤ 8) :
    Calls Try.prog 137 #[.string s, .string ⟨#[43, 35]⟩] w fun e w' => ∃ i : Int, e = .returned (.int .i64 i) ∧ decide (0 ≤ i) = anyS s ∧ Below w.heap.size w w' := by
  have h8z : decide ((8 : Int) < (s.size : Int)) = false := decide_eq_false (by omega)
  have HS := Lib.hid h8; clear h8
  go_enter Try.func137, Try.ntmps137
  go_wp2_with fail
  refine (show Calls Try.prog 145 #[.int .i64 s.size] w fun e w' => e = .returned (.bool false) ∧ w' = w from by
    go_enter Try.func145, Try.ntmps145
    go_wp2
    go_ret
    exact ⟨rfl, rfl⟩).mono ?_
  rintro e w' ⟨rfl, hw⟩
  subst hw
  go_wp2
  go_loopw [9, 10] (fun _ _ wr => ∃ pos : Nat, pos ≤ s.size ∧ (∀ i, i < pos → special (s.get! i) = false) ∧ wr.heap[w'.heap.size]? = some (.stringIter s pos) ∧ Below w'.heap.size w' wr) (fun _ _ wr => s.size - wr.iterPos w'.heap.size)
  case atStart => exact ⟨0, by omega, fun i h => by omega, World.iter_heap w' s 0, (Below.refl _ _).alloc (Nat.le_refl _) _⟩
  case round =>
    obtain ⟨pos, hle, hno, hit, hbel⟩ := hrel
    have HN := Lib.hid hno; have HL := Lib.hid hle; clear hno hle
    have hz : w'.heap.size < wr.heap.size := (Array.getElem?_eq_some_iff.1 hit).1
    have HIT := Lib.hid hit
    by_cases hp : pos < s.size
    · have hnx : ∀ ty, (Instr.next (.pointer (some ⟨w'.heap.size, 0, none⟩)) true ty).run Try.prog wr = _ := fun ty => Lib.run_next_any_at wr w'.heap.size s pos ty hit hp
      have hwd := Lib.decode_width_pos s pos hp
      have hd1 := decode_le s pos
      have hwl : pos + (Utf8.decode s pos).2 ≤ s.size := by rw [Lib.decode_at]; have := decodeN_wd (s.size - pos) (s.get! pos).toNat (s.get! (pos + 1)).toNat (s.get! (pos + 2)).toNat (s.get! (pos + 3)).toNat (by omega); omega
      have hit2 := Lib.iterAt_heap wr w'.heap.size s pos (pos + (Utf8.decode s pos).2) hit
      have hbel2 := Lib.below_iterAt hbel (k := w'.heap.size) (Nat.le_refl _) s (pos + (Utf8.decode s pos).2)
      have hz2 : w'.heap.size < (wr.iterAt w'.heap.size s (pos + (Utf8.decode s pos).2)).heap.size := by rw [Lib.iterAt_size]; omega
      have HIT2 := Lib.hid hit2; have HB2 := Lib.hid hbel2
      have HC := Lib.hid (decode_cases s pos)
      clear hit hit2 hbel2
      generalize hD : Utf8.decode s pos = D at *
      have HD := Lib.hid hD; clear hD
      obtain ⟨c, wd⟩ := D
      generalize wr.iterAt w'.heap.size s (pos + wd) = w2 at *
      simp only at hwd hd1 HC hnx hwl
      have HP := Lib.hid hp; have HW := Lib.hid hwd; have HWL := Lib.hid hwl
      clear hp hwd hwl
      by_cases hc : c = 43 ∨ c = 35
      · have hany : anyS s = true := by
          rcases HC.out with ⟨h1, h2⟩ | ⟨h1, h2⟩
          · refine anyS_hit s pos HP.out ?_
            rw [special_low]
            simp only [Prod.mk.injEq] at h1
            exact decide_eq_true (by omega)
          · omega
        have HA := Lib.hid hany; clear hany
        have hi : ∃ i : Int, (if c = 43 then (0 : Int) else if c = 35 then 1 else -1) = i ∧ decide (0 ≤ i) = true := by
          rcases hc with rfl | rfl
          · exact ⟨0, rfl, rfl⟩
          · exact ⟨1, rfl, rfl⟩
        obtain ⟨i, hi, hi0⟩ := hi
        have HI := Lib.hid hi; clear hi hc
        go_wp2_with fail
        refine (indexRune_any c _ (rune_ok HC.out)).mono ?_
        rintro e w3 ⟨rfl, hb3⟩
        rw [HI.out]
        have HB3 := Lib.hid hb3; clear hb3
        go_wp2
        go_ret
        exact ⟨pos, rfl, by rw [HA.out]; exact decide_eq_true (by omega), HB2.out.trans (HB3.out.mono HB2.out.size)⟩
      · have HX := Lib.hid hc; clear hc
        go_wp2_with fail
        refine (indexRune_any c _ (rune_ok HC.out)).mono ?_
        rintro e w3 ⟨rfl, hb3⟩
        rw [if_neg (fun e => HX.out (.inl e)), if_neg (fun e => HX.out (.inr e))]
        have hit3 : w3.heap[w'.heap.size]? = some (.stringIter s (pos + wd)) := (hb3.block _ hz2).trans HIT2.out
        have HB3 := Lib.hid (HB2.out.trans (hb3.mono HB2.out.size)); clear hb3
        have HIT3 := Lib.hid hit3; clear hit3
        go_wp2
        go_roundw
        case rel =>
          refine ⟨pos + wd, HWL.out, ?_, HIT3.out, HB3.out⟩
          intro i hi
          by_cases hip : i < pos
          · exact HN.out i hip
          · rcases HC.out with ⟨h1, h2⟩ | ⟨h1, h2, h3⟩
            · simp only [Prod.mk.injEq] at h1
              obtain rfl : i = pos := by omega
              rw [special_low]
              have := HX.out
              exact decide_eq_false (by omega)
            · have := h3 (i - pos) (by omega)
              rw [show pos + (i - pos) = i by omega] at this
              exact special_high _ this
        case measure =>
          have := HW.out; have := HWL.out; have := HP.out
          simp only [World.iterPos, HIT3.out, HIT.out]
          omega
    · have hnx : ∀ ty, (Instr.next (.pointer (some ⟨w'.heap.size, 0, none⟩)) true ty).run Try.prog wr = _ := fun ty => Lib.run_next_end_at wr w'.heap.size s pos ty hit hp
      have HF : Hid (anyS s = false) := Lib.hid (anyS_none s fun i hi => HN.out i (by omega))
      clear hit
      go_wp2
      go_ret
      exact ⟨-1, rfl, by rw [HF.out]; rfl, hbel⟩
end Go.Proofs.Ytdpeljnoaiaplaa
