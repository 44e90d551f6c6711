/- The small walks of the reference for reason codes. -/
import Derived.Test.YtdpeljnoaiaplaaReaS
import Derived.Test.YtdpeljnoaiaplaaReaE
import Derived.RegionTactic
namespace Go.Proofs.Ytdpeljnoaiaplaa
open Go.RowKit

set_option maxHeartbeats 400000 in
set_option maxRecDepth 10000 in
theorem refMay_any (kind c : Int) (w : World) :
    Calls Try.prog 17 #[.int .i64 kind, .int .i64 c] w fun e w' => e = .returned (.bool (may kind c)) ∧ Below w.heap.size w w' := by
  have hmem := all_mem kind c
  rw [← refAll_eq] at hmem
  have HM := Lib.hid hmem; clear hmem
  go_enter Try.func17, Try.ntmps17
  go_wp2_with fail
  refine (refAll_any _ _).mono ?_
  rintro e w1 ⟨v, rfl, hown, hb1⟩
  obtain ⟨A, cp, rfl, hc, hrd⟩ := own_rd hown
  have hn : (refAll kind).length ≤ 256 := by rw [refAll_eq]; exact allTo_len kind 256
  clear hown
  have hs1 := hb1.size
  generalize refAll kind = l at *
  go_wp2
  go_loopw [6] (fun i wr => ∃ k : Nat, k ≤ l.length ∧ i = .int .i64 k ∧ (((l.take k).any fun x => ((x : Int) == c)) = false) ∧ Below w1.heap.size w1 wr) (fun i _ => l.length - (intOf i).toNat)
  case atStart => exact ⟨0, by omega, rfl, rfl, Below.refl _ _⟩
  case round =>
    obtain ⟨k, hk, rfl, hno, hb⟩ := hrel
    have HN := Lib.hid hno; clear hno
    have hbel : Below w.heap.size w wr := hb1.trans (hb.mono hs1)
    by_cases hlt : k < l.length
    · obtain ⟨bA, oA, u, rfl, hadb, hu, hcell⟩ := (hrd.below hb).at1 hlt
      have hu' : u = .int .i64 (l[k] : Nat) := by simpa [hlt] using hu.symm
      subst hu'
      have HS := Lib.hid (any_take_succ hlt c)
      have HG : Hid (l[k] ∈ l) := List.getElem_mem hlt
      generalize l[k] = z at *
      clear hu hrd
      cases hz : ((z : Int) == c) with
      | true =>
        have hfin : may kind c = true := by
          rw [← HM.out]
          exact List.any_eq_true.2 ⟨z, HG.out, hz⟩
        have HF := Lib.hid hfin; clear hfin
        go_wp2
        go_ret
        exact ⟨by rw [HF.out]; rfl, hbel⟩
      | false =>
        have HZ := Lib.hid hz
        go_wp2
        go_roundw
        case rel => exact ⟨k + 1, by omega, by go_num, by rw [HS.out, HN.out, HZ.out]; rfl, hb⟩
        case measure => simp [intOf]; omega
    · obtain rfl : k = l.length := by omega
      have hfin : may kind c = false := by rw [← HM.out]; have := HN.out; rwa [List.take_length] at this
      have HF := Lib.hid hfin; clear hfin
      go_wp2
      go_ret
      exact ⟨by rw [HF.out]; rfl, hbel⟩

theorem ints_at {l : List Nat} {k : Nat} (h : k < l.length) : (ints l)[k]? = some (.int .i64 (l[k] : Nat)) := by simp [ints, h]
def oth : List Nat := [0, 132, 133, 136, 134, 135]
theorem to5_in : ∀ k : Fin 6, to5 (k.1 : Int) = (((oth[k.1]'(k.2) : Nat) : Int), true) := by decide
theorem to5_out {c : Int} (h : retB c = false) : to5 c = (0, false) := by
  unfold retB at h
  simp at h
  unfold to5
  repeat rw [if_neg (by omega)]

theorem digit_cut : ∀ i : Fin 16, (ByteArray.mk #[48, 49, 50, 51, 52, 53, 54, 55, 56, 57, 97, 98, 99, 100, 101, 102]).extract i.1 (i.1 + 1) = ⟨#[hexd i.1]⟩ := by decide
theorem two_bytes (a b : UInt8) : (ByteArray.mk #[a]) ++ (ByteArray.mk #[b]) = ⟨#[a, b]⟩ := rfl

end Go.Proofs.Ytdpeljnoaiaplaa
