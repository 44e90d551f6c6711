/- The law ReasonLists, walked. -/
import Derived.Test.YtcokgfmlkanoiaaReaL
import Derived.Test.YtcokgfmlkanoiaaReaF
import Derived.Lib.QuietBelow
namespace Go.Proofs.Ytcokgfmlkanoiaa
open Go.RowKit

/-- a is among the first k codes. -/
def inTo (kind a : Int) (k : Nat) : Bool := ((allL kind).take k).any fun c => ((c : Int) == a)

theorem may_yes {kind c : Int} (h : may kind c = true) (w : World) : Calls Try.prog 17 #[.int .i64 kind, .int .i64 c] w fun e w' => e = .returned (.bool true) ∧ Below w.heap.size w w' := by
  have := may_any kind c w
  rwa [h] at this

set_option maxHeartbeats 1000000 in
set_option maxRecDepth 10000 in
theorem lists_any (kind a b : Int) (w : World) :
    Calls Try.prog 4 #[.int .i64 kind, .int .i64 a, .int .i64 b] w fun e w' => e = .returned (.bool true) ∧ Below w.heap.size w w' := by
  go_enter Try.func4, Try.ntmps4
  go_wp2_with fail
  refine (lives6 _).mono ?_
  rintro e w1 ⟨rfl, hb1⟩
  go_wp2_with fail
  refine (all_any _ _).mono ?_
  rintro e w2 ⟨v, rfl, hown, hb2⟩
  obtain ⟨A, c, rfl, hc, hrd⟩ := own_rd hown
  have hn : (allL kind).length ≤ 256 := allTo_len kind 256
  have hbel := hb1.trans (hb2.mono hb1.size)
  have hs2 := Nat.le_trans hb1.size hb2.size
  clear hown hb1 hb2
  go_wp2
  go_loopw [8, 9] (fun v i wr => ∃ k : Nat, k ≤ (allL kind).length ∧ i = .int .i64 k ∧ v = .bool (inTo kind a k) ∧ Below w2.heap.size w2 wr) (fun _ i _ => (allL kind).length - (intOf i).toNat)
  case atStart => exact ⟨0, by omega, rfl, rfl, Below.refl _ _⟩
  case round =>
    obtain ⟨k, hk, rfl, rfl, hb⟩ := hrel
    have HB := Lib.hid hb
    by_cases hlt : k < (allL kind).length
    · obtain ⟨bA, oA, u, rfl, hadb, hu, hcell⟩ := (hrd.below hb).at1 hlt
      have hu' : u = .int .i64 ((allL kind)[k] : Nat) := by simpa [hlt] using hu.symm
      subst hu'
      obtain ⟨hc256, hmay⟩ := all_get kind hlt
      have HS := Lib.hid (any_take_succ hlt a)
      have hT1 := text_yes (some_of_may hmay)
      have HM := Lib.hid (may_yes hmay)
      have HH : Hid (k = 0 → (allL kind)[k] = 0) := fun h => by subst h; exact all_head kind hlt
      have HP : Hid (∀ j, (hj : j + 1 = k) → ∃ q : Nat, wr.cell? ⟨bA, oA + j, none⟩ = some (.int .i64 q) ∧ q < (allL kind)[k]) := fun j hj => by
        subst hj
        obtain ⟨b2, o2, u2, e2, _, hu2, hcell2⟩ := (hrd.below hb).at1 (by omega : j < (allL kind).length)
        cases e2
        refine ⟨(allL kind)[j], ?_, all_sorted kind hlt⟩
        have : u2 = .int .i64 ((allL kind)[j] : Nat) := by simpa [show j < (allL kind).length by omega] using hu2.symm
        rw [← this]; exact hcell2
      have HT2 := Lib.hid (text_any ((allL kind)[k] : Nat))
      have HI : Hid (inTo kind a (k + 1) = (inTo kind a k || (((allL kind)[k] : Int) == a))) := HS.out
      clear HS
      generalize (allL kind)[k] = z at *
      generalize textL (z : Int) = T at *
      clear hmay hu hrd
      have hk0 := cell_regrown hcell
      rcases Nat.eq_zero_or_pos k with rfl | hpos
      · obtain rfl := HH.out rfl
        have cM : ∀ d os, Calls Try.prog 17 #[.int .i64 kind, .int .i64 0] (Sort.grow (redrawn wr d) os) fun e w'' => e = .returned (.bool true) ∧ ∃ p : Regrown, w'' = Sort.grow (redrawn wr p.d) p.os := fun d os => Calls.regrown_of (HM.out _)
        have cT : ∀ d os, Calls Try.prog 20 #[.int .i64 0] (Sort.grow (redrawn wr d) os) fun e w'' => e = .returned (.string ⟨T.toArray⟩) ∧ ∃ p : Regrown, w'' = Sort.grow (redrawn wr p.d) p.os := fun d os => Calls.regrown_of (HT2.out _)
        have hk1 : ∀ d os, (Sort.grow (redrawn wr d) os).cell? ⟨bA, oA, none⟩ = some (.int .i64 0) := fun d os => by simpa using hk0 d os
        have hi0 : inTo kind a 0 = false := rfl
        clear hcell hk0 HH HP
        go_wp2_with fail
        refine wp_region_quiet_below (by kernel_rfl) (by kernel_rfl) ?_
        repeat (go_big_quiet_step (first | exact cM _ _ | exact cT _ _))
        refine wpQuiet_nil ?_
        intro _ hw'
        obtain ⟨⟨dq, osq⟩, hw''⟩ := hw'
        subst hw''
        have hq := below_regrown wr dq osq
        have hk2 := hk1 dq osq
        clear cM cT hk1
        generalize Sort.grow (redrawn wr dq) osq = wq at *
        go_wp2
        go_roundw
        case rel => exact ⟨1, by omega, by go_num, by rw [HI.out, hi0]; rfl, HB.out.trans (hq.mono HB.out.size)⟩
        case measure => simp [intOf]; omega
      · obtain ⟨j, rfl⟩ : ∃ j, k = j + 1 := ⟨k - 1, by omega⟩
        obtain ⟨q, hqc, hqz⟩ := HP.out j rfl
        have hq0 := cell_regrown hqc
        have cM : ∀ d os, Calls Try.prog 17 #[.int .i64 kind, .int .i64 z] (Sort.grow (redrawn wr d) os) fun e w'' => e = .returned (.bool true) ∧ ∃ p : Regrown, w'' = Sort.grow (redrawn wr p.d) p.os := fun d os => Calls.regrown_of (HM.out _)
        have cT : ∀ d os, Calls Try.prog 20 #[.int .i64 z] (Sort.grow (redrawn wr d) os) fun e w'' => e = .returned (.string ⟨T.toArray⟩) ∧ ∃ p : Regrown, w'' = Sort.grow (redrawn wr p.d) p.os := fun d os => Calls.regrown_of (HT2.out _)
        have b1 : decide ((z : Int) < 0) = false := decide_eq_false (by omega)
        have b2 : decide (255 < (z : Int)) = false := decide_eq_false (by omega)
        have b3 : decide ((z : Int) ≤ (q : Int)) = false := decide_eq_false (by omega)
        have b3' : decide (z ≤ q) = false := decide_eq_false (by omega)
        have b2' : decide (255 < z) = false := decide_eq_false (by omega)
        have b4 : (((j : Int) + 1) == 0) = false := beq_eq_false_iff_ne.2 (by omega)
        have b5 : decide ((0 : Int) < (j : Int) + 1) = true := decide_eq_true (by omega)
        clear hcell HH HP hqc
        go_wp2_with fail
        refine wp_region_quiet_below (by kernel_rfl) (by kernel_rfl) ?_
        repeat (go_big_quiet_step (first | exact cM _ _ | exact cT _ _))
        refine wpQuiet_nil ?_
        intro _ hw'
        obtain ⟨⟨dq, osq⟩, hw''⟩ := hw'
        subst hw''
        have hq := below_regrown wr dq osq
        have hk2 := hk0 dq osq
        clear cM cT hk0 hq0
        generalize Sort.grow (redrawn wr dq) osq = wq at *
        cases hin : inTo kind a (j + 1) with
        | true =>
          have HIN := Lib.hid hin; clear hin
          go_wp2
          go_roundw
          case rel => exact ⟨j + 1 + 1, by omega, by go_num, by rw [HI.out, HIN.out]; rfl, HB.out.trans (hq.mono HB.out.size)⟩
          case measure => simp [intOf]; omega
        | false =>
          have HIN := Lib.hid hin; clear hin
          go_wp2
          go_roundw
          case rel => exact ⟨j + 1 + 1, by omega, by go_num, by rw [HI.out, HIN.out]; rfl, HB.out.trans (hq.mono HB.out.size)⟩
          case measure => simp [intOf]; omega
    · obtain rfl : k = (allL kind).length := by omega
      have HIN : Hid (inTo kind a (allL kind).length = may kind a) := by
        unfold inTo
        rw [List.take_length]
        exact all_mem kind a
      go_wp2_with fail
      refine (may_any _ _ _).mono ?_
      rintro e w3 ⟨rfl, hb3⟩
      have hbel3 := hbel.trans ((HB.out.trans (hb3.mono HB.out.size)).mono hs2)
      rw [HIN.out]
      clear hb HB hb3 hrd HIN
      have hs3 := hbel3.size
      go_wp2
      go_loopw [10, 11] (fun v i wr => ∃ k : Nat, k ≤ 15 ∧ i = .int .i64 ((k : Int) + 1) ∧ v = .bool ((List.range k).any fun j => may ((j : Int) + 1) a) ∧ Below w.heap.size w wr) (fun _ i _ => (16 - intOf i).toNat)
      case atStart => exact ⟨0, by omega, rfl, rfl, hbel3⟩
      case round =>
        obtain ⟨k, hk, rfl, rfl, hb⟩ := hrel
        have HB := Lib.hid hb
        by_cases hlt : k < 15
        · have HS : Hid (((List.range (k + 1)).any fun j => may ((j : Int) + 1) a) = (((List.range k).any fun j => may ((j : Int) + 1) a) || may ((k : Int) + 1) a)) := by
            show _ = _
            rw [List.range_succ, List.any_append]
            simp
          cases hv : ((List.range k).any fun j => may ((j : Int) + 1) a) with
          | true =>
            have HV := Lib.hid hv; clear hv
            go_wp2
            go_roundw
            case rel => exact ⟨k + 1, by omega, by go_num, by rw [HS.out, HV.out]; rfl, hb⟩
            case measure => simp [intOf]; omega
          | false =>
            have HV := Lib.hid hv; clear hv
            go_wp2_with fail
            refine (may_any _ _ _).mono ?_
            rintro e w4 ⟨rfl, hb4⟩
            have hbel4 := hb.trans (hb4.mono hb.size)
            clear hb4
            go_wp2
            go_roundw
            case rel => exact ⟨k + 1, by omega, by go_num, by rw [HS.out, HV.out]; rfl, hbel4⟩
            case measure => simp [intOf]; omega
        · obtain rfl : k = 15 := by omega
          have hsome : ((List.range 15).any fun j => may ((j : Int) + 1) a) = someKind a := by
            rw [Bool.eq_iff_iff, someKind_iff, List.any_eq_true]
            constructor
            · rintro ⟨j, hj, hm⟩
              exact (someKind_iff a).1 (some_of_may hm)
            · rintro ⟨j, hj, hm⟩
              exact ⟨j + 1, List.mem_range.2 (by omega), by rw [show (((j + 1 : Nat) : Int) + 1) = (j : Int) + 2 by omega]; exact hm⟩
          rw [hsome]
          clear hsome
          cases hs : someKind a with
          | false =>
            have HT := Lib.hid (text_no hs)
            clear hs
            go_wp2_with fail
            refine (text_any _ _).mono ?_
            rintro e w4 ⟨rfl, hb4⟩
            rw [HT.out]
            go_wp2
            go_ret
            exact ⟨rfl, hb.trans (hb4.mono hb.size)⟩
          | true =>
            have ht1 := text_yes hs
            by_cases hab : a = b
            · subst hab
              clear hs
              go_wp2_with fail
              refine (text_any _ _).mono ?_
              rintro e w4 ⟨rfl, hb4⟩
              go_wp2
              go_ret
              exact ⟨rfl, hb.trans (hb4.mono hb.size)⟩
            · have ht2 := text_apart hs hab
              have hab' : (a == b) = false := by simpa using hab
              have HT := Lib.hid (text_any a)
              have HT' := Lib.hid (text_any b)
              generalize textL a = T at *
              generalize textL b = T' at *
              clear hs
              go_wp2_with fail
              refine (HT.out _).mono ?_
              rintro e w4 ⟨rfl, hb4⟩
              go_wp2_with fail
              refine (HT.out _).mono ?_
              rintro e w5 ⟨rfl, hb5⟩
              go_wp2_with fail
              refine (HT'.out _).mono ?_
              rintro e w6 ⟨rfl, hb6⟩
              have hbel4 := hb.trans (hb4.mono hb.size)
              have hbel5 := hbel4.trans (hb5.mono hbel4.size)
              have hbel6 := hbel5.trans (hb6.mono hbel5.size)
              clear hb4 hb5 hb6
              go_wp2
              go_ret
              exact ⟨rfl, hbel6⟩

end Go.Proofs.Ytcokgfmlkanoiaa
