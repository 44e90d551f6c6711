/- The small walks of the reference for reason codes. -/
import Derived.Test.YtcokgfmlkanoiaaReaS
import Derived.Test.YtcokgfmlkanoiaaReaE
import Derived.RegionTactic
namespace Go.Proofs.Ytcokgfmlkanoiaa
open Go.RowKit

set_option maxHeartbeats 400000 in
set_option maxRecDepth 10000 in
theorem refMay_any (kind c : Int) (w : World) :
    Calls Try.prog 25 #[.int .i64 kind, .int .i64 c] w fun e w' => e = .returned (.bool (may kind c)) ∧ Below w.heap.size w w' := by
  have hmem := all_mem kind c
  rw [← refAll_eq] at hmem
  have HM := Lib.hid hmem; clear hmem
  go_enter Try.func25, Try.ntmps25
  go_wp2_with fail
  refine (refAll_any _ _).mono ?_
  rintro e w1 ⟨v, rfl, hown, hb1⟩
  obtain ⟨A, cp, rfl, hc, hrd⟩ := own_rd hown
  have hn : (refAll kind).length ≤ 256 := by rw [refAll_eq]; exact allTo_len kind 256
  clear hown
  have hs1 := hb1.size
  generalize refAll kind = l at *
  go_wp2
  go_loopw [6] (fun i wr => ∃ k : Nat, k ≤ l.length ∧ i = .int .i64 k ∧ (((l.take k).any fun x => ((x : Int) == c)) = false) ∧ Below w1.heap.size w1 wr) (fun i _ => l.length - (intOf i).toNat)
  case atStart => exact ⟨0, by omega, rfl, rfl, Below.refl _ _⟩
  case round =>
    obtain ⟨k, hk, rfl, hno, hb⟩ := hrel
    have HN := Lib.hid hno; clear hno
    have hbel : Below w.heap.size w wr := hb1.trans (hb.mono hs1)
    by_cases hlt : k < l.length
    · obtain ⟨bA, oA, u, rfl, hadb, hu, hcell⟩ := (hrd.below hb).at1 hlt
      have hu' : u = .int .i64 (l[k] : Nat) := by simpa [hlt] using hu.symm
      subst hu'
      have HS := Lib.hid (any_take_succ hlt c)
      have HG : Hid (l[k] ∈ l) := List.getElem_mem hlt
      generalize l[k] = z at *
      clear hu hrd
      cases hz : ((z : Int) == c) with
      | true =>
        have hfin : may kind c = true := by
          rw [← HM.out]
          exact List.any_eq_true.2 ⟨z, HG.out, hz⟩
        have HF := Lib.hid hfin; clear hfin
        go_wp2
        go_ret
        exact ⟨by rw [HF.out]; rfl, hbel⟩
      | false =>
        have HZ := Lib.hid hz
        go_wp2
        go_roundw
        case rel => exact ⟨k + 1, by omega, by go_num, by rw [HS.out, HN.out, HZ.out]; rfl, hb⟩
        case measure => simp [intOf]; omega
    · obtain rfl : k = l.length := by omega
      have hfin : may kind c = false := by rw [← HM.out]; have := HN.out; rwa [List.take_length] at this
      have HF := Lib.hid hfin; clear hfin
      go_wp2
      go_ret
      exact ⟨by rw [HF.out]; rfl, hbel⟩

set_option maxHeartbeats 400000 in
theorem refBad_any (c : Int) (w : World) :
    Calls Try.prog 29 #[.int .i64 c] w fun e w' => e = .returned (.bool (badB c)) ∧ w = w' := by
  go_enter Try.func29, Try.ntmps29
  go_wp2
  all_goals
    go_ret
    refine ⟨?_, rfl⟩
    (try simp [badB]) <;> omega
set_option maxHeartbeats 400000 in
theorem refReturn_any (c : Int) (w : World) :
    Calls Try.prog 27 #[.int .i64 c] w fun e w' => e = .returned (.bool (retB c)) ∧ w = w' := by
  go_enter Try.func27, Try.ntmps27
  go_wp2
  all_goals
    go_ret
    refine ⟨?_, rfl⟩
    (try simp [retB]) <;> omega
set_option maxHeartbeats 400000 in
theorem refGrant_any (c : Int) (w : World) :
    Calls Try.prog 28 #[.int .i64 c] w fun e w' => e = .returned (.bool (grantB c)) ∧ w = w' := by
  go_enter Try.func28, Try.ntmps28
  go_wp2
  all_goals
    go_ret
    simp_all [grantB]

theorem ints_at {l : List Nat} {k : Nat} (h : k < l.length) : (ints l)[k]? = some (.int .i64 (l[k] : Nat)) := by simp [ints, h]
def oth : List Nat := [0, 132, 133, 136, 134, 135]
set_option maxHeartbeats 400000 in
theorem refOthers_any (w : World) :
    Calls Try.prog 50 #[] w fun e w' => e = .returned (.slice (some ⟨w.heap.size, 0, none⟩) 6 6) ∧ Rd w' w'.heap.size 1 (some ⟨w.heap.size, 0, none⟩) 6 (ints oth) ∧ Below w.heap.size w w' := by
  go_enter Try.func50, Try.ntmps50
  go_wp2
  go_ret
  exact ⟨rfl, Rd.lit _ _ _ rfl (by simp) rfl, (Below.refl _ _).alloc (Nat.le_refl _) _⟩

theorem to5_in : ∀ k : Fin 6, to5 (k.1 : Int) = (((oth[k.1]'(k.2) : Nat) : Int), true) := by decide
theorem to5_out {c : Int} (h : retB c = false) : to5 c = (0, false) := by
  unfold retB at h
  simp at h
  unfold to5
  repeat rw [if_neg (by omega)]

set_option maxHeartbeats 400000 in
set_option maxRecDepth 10000 in
theorem refTo5_any (c : Int) (w : World) :
    Calls Try.prog 23 #[.int .i64 c] w fun e w' => e = .returned (.tuple #[.int .i64 (to5 c).1, .bool (to5 c).2]) ∧ Below w.heap.size w w' := by
  cases hr : retB c with
  | false =>
    have H5 := Lib.hid (to5_out hr)
    have HR := Lib.hid hr; clear hr
    go_enter Try.func23, Try.ntmps23
    go_wp2_with fail
    refine (refReturn_any _ _).mono ?_
    rintro e w' ⟨rfl, rfl⟩
    rw [HR.out]
    go_wp2
    go_ret2
    exact ⟨by rw [H5.out]; rfl, Below.refl _ _⟩
  | true =>
    have hc : 0 ≤ c ∧ c ≤ 5 := by simpa [retB] using hr
    obtain ⟨k, rfl⟩ := Int.eq_ofNat_of_zero_le hc.1
    have hk : k < 6 := by omega
    have H5 := Lib.hid (to5_in ⟨k, hk⟩)
    have HR := Lib.hid hr; clear hr hc
    go_enter Try.func23, Try.ntmps23
    go_wp2_with fail
    refine (refReturn_any _ _).mono ?_
    rintro e w' ⟨rfl, rfl⟩
    rw [HR.out]
    go_wp2_with fail
    refine (refOthers_any _).mono ?_
    rintro e w1 ⟨rfl, hrd, hb1⟩
    obtain ⟨bA, oA, u, hA, hadb, hu, hcell⟩ := hrd.at1 hk
    cases hA
    have hu' : u = .int .i64 (oth[k]'hk : Nat) := by
      have : (ints oth)[k]? = some (.int .i64 (oth[k]'hk : Nat)) := ints_at (l := oth) hk
      rw [this] at hu
      simpa using hu.symm
    subst hu'
    rw [Nat.zero_add] at hcell
    generalize hz : oth[k]'hk = z at *
    have HZ := Lib.hid hz; clear hz hu hrd
    go_wp2
    go_ret2
    exact ⟨by rw [H5.out]; rfl, hb1⟩

set_option maxHeartbeats 400000 in
set_option maxRecDepth 10000 in
theorem refTo311_any (c : Int) (w : World) :
    Calls Try.prog 24 #[.int .i64 c] w fun e w' => e = .returned (.tuple #[.int .i64 (to311 c).1, .bool (to311 c).2]) ∧ Below w.heap.size w w' := by
  go_enter Try.func24, Try.ntmps24
  go_wp2_with fail
  refine (refOthers_any _).mono ?_
  rintro e w1 ⟨rfl, hrd, hb1⟩
  go_wp2
  go_loop [5] (fun i => ∃ k : Nat, k ≤ 6 ∧ i = .int .i64 k ∧ ∀ j : Nat, j < k → ((to5 j).1 == c) = false) (fun i => 6 - (intOf i).toNat)
  case atStart => exact ⟨0, by omega, rfl, fun j hj => by omega⟩
  case round =>
    obtain ⟨k, hk, rfl, hno⟩ := hrel
    have HN := Lib.hid hno; clear hno
    by_cases hlt : k < 6
    · obtain ⟨bA, oA, u, hA, hadb, hu, hcell⟩ := hrd.at1 hlt
      cases hA
      have hu' : u = .int .i64 (oth[k]'hlt : Nat) := by
        have : (ints oth)[k]? = some (.int .i64 (oth[k]'hlt : Nat)) := ints_at (l := oth) hlt
        rw [this] at hu
        simpa using hu.symm
      subst hu'
      rw [Nat.zero_add] at hcell
      have H5 : Hid ((to5 k).1 = (oth[k]'hlt : Nat)) := by show _ = _; rw [to5_in ⟨k, hlt⟩]
      generalize oth[k]'hlt = z at *
      clear hu hrd
      cases hy : ((z : Int) == c) with
      | true =>
        have hfin : to311 c = ((k : Int), true) := by
          unfold to311 old
          rw [find_range hlt HN.out (by rw [H5.out]; exact hy)]
        have HF := Lib.hid hfin; clear hfin
        go_wp2
        go_ret2
        exact ⟨by rw [HF.out]; rfl, hb1⟩
      | false =>
        have HY := Lib.hid hy
        go_wp2
        go_round
        case rel =>
          refine ⟨k + 1, by omega, by go_num, fun j hj => ?_⟩
          rcases Nat.lt_succ_iff_lt_or_eq.1 hj with h | rfl
          · exact HN.out j h
          · rw [H5.out]; exact HY.out
        case measure => simp [intOf]; omega
    · obtain rfl : k = 6 := by omega
      have hfin : to311 c = (0, false) := by
        unfold to311 old
        rw [List.find?_eq_none.2 (fun x hx => by
          have := HN.out x (by have := List.mem_range.1 hx; omega)
          simpa using this)]
      have HF := Lib.hid hfin; clear hfin
      go_wp2
      go_ret2
      exact ⟨by rw [HF.out]; rfl, hb1⟩

theorem digit_cut : ∀ i : Fin 16, (ByteArray.mk #[48, 49, 50, 51, 52, 53, 54, 55, 56, 57, 97, 98, 99, 100, 101, 102]).extract i.1 (i.1 + 1) = ⟨#[hexd i.1]⟩ := by decide
theorem two_bytes (a b : UInt8) : (ByteArray.mk #[a]) ++ (ByteArray.mk #[b]) = ⟨#[a, b]⟩ := rfl

set_option maxHeartbeats 400000 in
set_option maxRecDepth 10000 in
theorem refText_any (c : Int) (w : World) :
    Calls Try.prog 30 #[.int .i64 c] w fun e w' => e = .returned (.string ⟨(textL c).toArray⟩) ∧ Below w.heap.size w w' := by
  go_enter Try.func30, Try.ntmps30
  go_wp2
  go_loopw [3] (fun i wr => ∃ k : Nat, k ≤ 15 ∧ i = .int .i64 ((k : Int) + 1) ∧ (∀ j : Nat, j < k → may ((j : Int) + 1) c = false) ∧ Below w.heap.size w wr) (fun i _ => (16 - intOf i).toNat)
  case atStart => exact ⟨0, by omega, rfl, fun j hj => by omega, Below.refl _ _⟩
  case round =>
    obtain ⟨k, hk, rfl, hno, hbel⟩ := hrel
    have HN := Lib.hid hno; have HB := Lib.hid hbel; clear hno hbel
    by_cases hlt : k < 15
    · cases hy : may ((k : Int) + 1) c with
      | true =>
        have hc := may_range hy
        obtain ⟨n, rfl⟩ := Int.eq_ofNat_of_zero_le hc.1
        have hn : n < 256 := by omega
        clear hc
        have hfin : textL (n : Int) = [hexd (n / 16), hexd (n % 16)] := by
          unfold textL
          rw [if_pos (some_of_may hy)]
          simp [show ((n : Int) / 16).toNat = n / 16 by omega]
        have HF := Lib.hid hfin; clear hfin
        have HY := Lib.hid hy; clear hy
        go_wp2_with fail
        refine (refMay_any _ _ _).mono ?_
        rintro e w1 ⟨rfl, hb1⟩
        have HB1 := Lib.hid hb1; clear hb1
        have hy := HY.out
        have b1 : (0 : Int) ≤ (n : Int) / 16 := by omega
        have b2 : (n : Int) / 16 < 16 := by omega
        have b3 : (0 : Int) ≤ (n : Int) % 16 := by omega
        have b4 : (n : Int) % 16 < 16 := by omega
        go_wp2
        go_quiet (fail)
        go_wp2
        go_ret
        refine ⟨?_, below_drawn (HB.out.trans (HB1.out.mono HB.out.size)) _⟩
        rw [HF.out]
        show Ending.returned (.string ((ByteArray.mk #[48, 49, 50, 51, 52, 53, 54, 55, 56, 57, 97, 98, 99, 100, 101, 102]).extract (n / 16) (n / 16 + 1) ++ (ByteArray.mk #[48, 49, 50, 51, 52, 53, 54, 55, 56, 57, 97, 98, 99, 100, 101, 102]).extract (n % 16) (n % 16 + 1))) = _
        rw [digit_cut ⟨n / 16, by omega⟩, digit_cut ⟨n % 16, by omega⟩, two_bytes]
      | false =>
        have HY := Lib.hid hy; clear hy
        go_wp2_with fail
        refine (refMay_any _ _ _).mono ?_
        rintro e w1 ⟨rfl, hb1⟩
        have HB1 := Lib.hid hb1; clear hb1
        have hy := HY.out
        go_wp2
        go_roundw
        case rel =>
          refine ⟨k + 1, by omega, by go_num, fun j hj => ?_, HB.out.trans (HB1.out.mono HB.out.size)⟩
          rcases Nat.lt_succ_iff_lt_or_eq.1 hj with h | rfl
          · exact HN.out j h
          · exact HY.out
        case measure => simp [intOf]; omega
    · obtain rfl : k = 15 := by omega
      have hfin : textL c = [63] := by
        apply text_no
        cases hs : someKind c with
        | false => rfl
        | true =>
          obtain ⟨j, hj, hm⟩ := (someKind_iff c).1 hs
          have := HN.out (j + 1) (by omega)
          rw [show (((j + 1 : Nat) : Int) + 1) = (j : Int) + 2 by omega, hm] at this
          cases this
      have HF := Lib.hid hfin; clear hfin
      go_wp2
      go_ret
      exact ⟨by rw [HF.out]; rfl, HB.out⟩

end Go.Proofs.Ytcokgfmlkanoiaa
