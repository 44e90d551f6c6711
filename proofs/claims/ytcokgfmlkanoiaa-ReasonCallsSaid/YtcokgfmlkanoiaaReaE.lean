/- Walks of reason: Text. -/
import Derived.Test.YtcokgfmlkanoiaaReaD
import Derived.RegionTactic
namespace Go.Proofs.Ytcokgfmlkanoiaa
open Go.RowKit

theorem may_range {kind c : Int} (h : may kind c = true) : 0 ≤ c ∧ c < 256 := by
  unfold may hasB at h
  simp only [Bool.and_eq_true, decide_eq_true_iff] at h
  exact h.1
def hexd (n : Nat) : UInt8 := if n < 10 then UInt8.ofNat (48 + n) else UInt8.ofNat (87 + n)
def someKind (c : Int) : Bool := (List.range 14).any fun k => may ((k : Int) + 2) c
def textL (c : Int) : List UInt8 := if someKind c then [hexd (c.toNat / 16), hexd (c.toNat % 16)] else [63]

theorem digit_at : ∀ i : Fin 16, (ByteArray.mk #[48, 49, 50, 51, 52, 53, 54, 55, 56, 57, 97, 98, 99, 100, 101, 102])[i.1]'(by simp [ByteArray.size]) = hexd i.1 := by decide
theorem someKind_of {c : Int} {k : Nat} (h : k < 14) (hm : may ((k : Int) + 2) c = true) : someKind c = true := by
  unfold someKind
  exact List.any_eq_true.2 ⟨k, List.mem_range.2 h, by simpa using hm⟩
theorem someKind_no {c : Int} (h : ∀ j : Nat, j < 14 → may ((j : Int) + 2) c = false) : someKind c = false := by
  unfold someKind
  rw [List.any_eq_false]
  intro k hk
  have := h k (List.mem_range.1 hk)
  simpa using this

set_option maxHeartbeats 400000 in
set_option maxRecDepth 10000 in
theorem text_any (c : Int) (w : World) :
    Calls Try.prog 20 #[.int .i64 c] w fun e w' => e = .returned (.string ⟨(textL c).toArray⟩) ∧ Below w.heap.size w w' := by
  go_enter Try.func20, Try.ntmps20
  go_wp2
  go_loopw [3] (fun i wr => ∃ k : Nat, k ≤ 14 ∧ i = .int .i64 ((k : Int) + 2) ∧ (∀ j : Nat, j < k → may ((j : Int) + 2) c = false) ∧ Below w.heap.size w wr) (fun i _ => (16 - intOf i).toNat)
  case atStart => exact ⟨0, by omega, rfl, fun j hj => by omega, Below.refl _ _⟩
  case round =>
    obtain ⟨k, hk, rfl, hno, hbel⟩ := hrel
    have HN := Lib.hid hno; have HB := Lib.hid hbel; clear hno hbel
    by_cases hlt : k < 14
    · by_cases hy : may ((k : Int) + 2) c = true
      · have hc := may_range hy
        obtain ⟨n, rfl⟩ := Int.eq_ofNat_of_zero_le hc.1
        have hn : n < 256 := by omega
        clear hc
        have HY := Lib.hid hy; clear hy
        go_wp2_with fail
        refine (may_any _ _ _).mono ?_
        rintro e w1 ⟨rfl, hb1⟩
        have HB1 := Lib.hid hb1; clear hb1
        have hy := HY.out
        go_wp2
        have hand : bits BinOp.and IntKind.i64 (↑n) 15 = (n : Int) % 16 := int_low n 4 (by omega) (by omega)
        have b1 : (0 : Int) ≤ (n : Int) / 16 := by omega
        have b2 : (n : Int) / 16 < 16 := by omega
        have b3 : (0 : Int) ≤ (n : Int) % 16 := by omega
        have b4 : (n : Int) % 16 < 16 := by omega
        have hconv := conv_two (P := Try.prog) 61 9 5 Try.underlying61 Try.underlying5 Try.underlying9
        have hfin : textL (n : Int) = [hexd (n / 16), hexd (n % 16)] := by
          unfold textL
          rw [if_pos (someKind_of hlt HY.out)]
          simp [show ((n : Int) / 16).toNat = n / 16 by omega]
        have HF := Lib.hid hfin; clear hfin
        go_region
        all_goals
          go_wp2
          go_ret
          refine ⟨?_, ?_⟩
          · rw [HF.out, ← digit_at ⟨n / 16, by omega⟩, ← digit_at ⟨n % 16, by omega⟩]; rfl
          · exact ((HB.out.trans (HB1.out.mono HB.out.size)).alloc (Nat.le_trans HB.out.size HB1.out.size) _).drew
      · have hy' : may ((k : Int) + 2) c = false := by simpa using hy
        have HY := Lib.hid hy'; clear hy hy'
        go_wp2_with fail
        refine (may_any _ _ _).mono ?_
        rintro e w1 ⟨rfl, hb1⟩
        have HB1 := Lib.hid hb1; clear hb1
        have hy := HY.out
        go_wp2
        go_roundw
        case rel =>
          refine ⟨k + 1, by omega, by go_num, fun j hj => ?_, HB.out.trans (HB1.out.mono HB.out.size)⟩
          rcases Nat.lt_succ_iff_lt_or_eq.1 hj with h | rfl
          · exact HN.out j h
          · exact HY.out
        case measure => simp [intOf]; omega
    · obtain rfl : k = 14 := by omega
      have hfin : textL c = [63] := by
        unfold textL
        rw [if_neg (by rw [someKind_no HN.out]; simp)]
      have HF := Lib.hid hfin; clear hfin
      go_wp2
      go_ret
      exact ⟨by rw [HF.out]; rfl, HB.out⟩

end Go.Proofs.Ytcokgfmlkanoiaa
