/-
  The law RegistryFull, walked.
-/
import Derived.Test.YtdpndphecdhlaaaLwB

namespace Go.Proofs.Ytdpndphecdhlaaa
open Go.RowKit
def fuL (n k : Nat) : Rg := rgSet [] rC (fullT n k)
theorem fuL_nil : fuL 0 0 = [] := by kernel_rfl
theorem pickR_nat (n : Int) (m : Nat) : ∃ q : Nat, pickR n ((m + 1 : Nat) : Int) = q ∧ q ≤ m := by
  have h5 := Int.emod_nonneg n (show ((m + 1 : Nat) : Int) ≠ 0 by omega)
  have h6 := Int.emod_lt_of_pos n (show 0 < ((m + 1 : Nat) : Int) by omega)
  unfold pickR
  rw [if_neg (by omega)]
  exact ⟨(n % ((m + 1 : Nat) : Int)).toNat, by omega, by omega⟩
theorem rC_le : rC.size ≤ maxLen := by decide +kernel
theorem more_le : moreS.size ≤ 4611686018427387904 := by decide +kernel
def rD : ByteArray := ⟨#[100]⟩
theorem rD_le : rD.size ≤ maxLen := by decide +kernel
/-- The registry at the end: what the last calls give. -/
theorem fuL_at (n k : Nat) : rgT (fuL n k) rC = fullT n k := rgT_set
theorem fuL_d (n k : Nat) : rgT (fuL n k) rD = [] := by
  unfold fuL
  rw [rgT_other (by decide +kernel)]
  rfl
theorem fuL_step {q j : Nat} (hq : q ≤ 20) (h1 : 1 ≤ j) (h2 : j ≤ 65534 - q) : rfReg (fuL q (j - 1)) rC (nmS j) = ((j, true, 0), fuL q j) := by
  obtain ⟨k, rfl⟩ : ∃ k, j = k + 1 := ⟨j - 1, by omega⟩
  exact reg_full hq (by omega)
theorem nm_le {n : Nat} (h : n < 456976) : (nmS n).size ≤ 4611686018427387904 := by
  have := (nmS_size h).2
  omega
set_option maxRecDepth 10000 in
set_option maxHeartbeats 8000000 in
theorem registryFull_any (n : Int) (w : World) : Calls Try.prog 3 #[.int .i64 n] w fun e w' => e = .returned (.bool true) ∧ Below w.heap.size w w' := by
  obtain ⟨q, hq, hq20⟩ := pickR_nat n 20
  have cP : Hid (∀ w : World, Calls Try.prog 8 #[.int .i64 n, .int .i64 21] w fun e w' => e = .returned (.int .i64 (q : Int)) ∧ w = w') := Lib.hid (fun w => by
    have := pickR_any n 21 w (by decide)
    rw [show pickR n 21 = (q : Int) from hq] at this
    exact this)
  have hq0 : (0 : Int) ≤ (q : Int) := by omega
  have hq2 : (q : Int) ≤ 20 := by omega
  clear hq
  have cl := lives24_any w
  go_enter Try.func3, Try.ntmps3
  go_wp2_with fail
  refine cl.mono ?_
  rintro e w1 ⟨rfl, hb1⟩
  clear cl
  go_wp2_with fail
  refine (cP.out w1).mono ?_
  rintro e w1' ⟨rfl, rfl⟩
  have c0 := newN w w1 hb1
  clear cP hb1
  go_wp2_with fail
  refine c0.mono ?_
  rintro e w2 ⟨rfl, h2⟩
  rw [← fuL_nil] at h2
  have H2 := Lib.hid h2
  clear c0 h2
  generalize w1.heap.size + 1 = gp at H2
  go_wp2
  go_loopw [4] (fun s4 wr => ∃ i : Nat, s4 = .int .i64 (i : Int) ∧ i ≤ q ∧ Hid (RgN w (fun _ => False) gp (fuL i 0) i wr)) (fun s4 _ => q - (intOf s4).toNat)
  case atStart => exact ⟨0, rfl, Nat.zero_le _, H2⟩
  case round =>
    obtain ⟨i, rfl, hi, HR⟩ := hrel
    have b0 : (0 : Int) ≤ (i : Int) := by omega
    by_cases hlt : i < q
    · have HL : Hid (i < q) := Lib.hid hlt
      have b1 : (i : Int) < (q : Int) := by omega
      have cn := name24_any i wr (by omega)
      have hsz : ¬ (9223372036854775807 < 2 + (nmS i).size) := by
        have := (nmS_size (n := i) (by omega)).2
        omega
      clear H2 hlt
      go_wp2_with fail
      refine cn.mono ?_
      rintro e w3 ⟨rfl, hb3⟩
      have c3 := preN (HR.out.keep hb3) rC (prS i) (65534 - (i : Int)) rC_le (by
        have := (nmS_size (n := i) (by have := HL.out; omega)).2
        unfold prS
        rw [ByteArray.size_append]
        have : (⟨#[112, 47]⟩ : ByteArray).size = 2 := rfl
        omega) (by have := HL.out; omega)
      rw [show rfPre (fuL i 0) rC (prS i) (65534 - (i : Int)) = (0, fuL (i + 1) 0) from pre_full (by have := HL.out; omega)] at c3
      unfold prS rC at c3
      clear cn hb3
      go_wp2_with fail
      refine c3.mono ?_
      rintro e w4 ⟨rfl, h4, -⟩
      have H4 := Lib.hid h4
      clear c3 h4
      go_wp2
      have := HL.out
      exact ⟨⟨i + 1, by simp, by omega, H4⟩, by simp [intOf]; omega⟩
    · obtain rfl : i = q := by omega
      clear H2 hlt hi b0
      go_wp2
      go_loopw [5] (fun s5 wx => ∃ j : Nat, s5 = .int .i64 (j : Int) ∧ 1 ≤ j ∧ j ≤ 65535 - i ∧ Hid (RgN w (fun _ => False) gp (fuL i (j - 1)) (i + j) wx)) (fun s5 _ => 65535 - (intOf s5).toNat)
      case atStart => exact ⟨1, rfl, by omega, by omega, Lib.hid ⟨by
        obtain ⟨F, h1, h2⟩ := HR.out.st
        exact ⟨F, h1.more (by omega), h2⟩, HR.out.ex, HR.out.below⟩⟩
      case round =>
        obtain ⟨j, rfl, hj1, hj2, HX⟩ := hrel
        have b0 : (0 : Int) ≤ (j : Int) := by omega
        have bj : (j : Int) ≤ 65535 := by omega
        by_cases hlt : j ≤ 65534 - i
        · have HL : Hid (1 ≤ j ∧ j ≤ 65534 - i) := Lib.hid ⟨hj1, hlt⟩
          have b1 : (j : Int) ≤ 65534 - (i : Int) := by omega
          have cn := name24_any j wr (by omega)
          clear hlt
          go_wp2_with fail
          refine cn.mono ?_
          rintro e w3 ⟨rfl, hb3⟩
          have c3 := regN (HX.out.keep hb3) rC (nmS j) rC_le (nm_le (by have := HL.out; omega)) (by have := HL.out; omega)
          rw [fuL_step hq20 HL.out.1 HL.out.2] at c3
          unfold rC at c3
          clear cn hb3
          go_wp2_with fail
          refine c3.mono ?_
          rintro e w4 ⟨rfl, h4, -⟩
          have H4 := Lib.hid h4
          clear c3 h4
          simp only [regV]
          go_wp2
          have := HL.out
          exact ⟨⟨j + 1, by simp, by omega, by omega, H4⟩, by simp [intOf]; omega⟩
        · have hj : j = 65535 - i := by omega
          have HX' : Hid (RgN w (fun _ => False) gp (fuL i (65534 - i)) 65535 wr) := Lib.hid (by
            have := HX.out
            rw [show j - 1 = 65534 - i by omega, show i + j = 65535 by omega] at this
            exact this)
          have b1 : (65534 : Int) - (i : Int) < (j : Int) := by omega
          have HI : Hid (i ≤ 20) := Lib.hid hq20
          have c3 := regN HX'.out rC moreS rC_le more_le (by decide)
          rw [show rfReg (fuL i (65534 - i)) rC moreS = ((0, false, 12), fuL i (65534 - i)) from full_more hq20] at c3
          unfold rC moreS at c3
          clear HX HR HX' hj hj1 hj2 hlt
          go_wp2_with fail
          refine c3.mono ?_
          rintro e w3 ⟨rfl, h3, -⟩
          simp only [regV]
          have c4 := regN h3 rD moreS rD_le more_le (by decide)
          rw [new_more (fuL_d i _)] at c4
          have hL2 : Hid (rgT (rgSet (fuL i (65534 - i)) rD [⟨1, moreS, false⟩]) rC = fullT i (65534 - i)) := Lib.hid (by rw [rgT_other (by decide +kernel), fuL_at])
          generalize rgSet (fuL i (65534 - i)) rD [⟨1, moreS, false⟩] = L2 at c4 hL2
          unfold rD moreS at c4
          clear c3 h3
          go_wp2_with fail
          refine c4.mono ?_
          rintro e w4 ⟨rfl, h4, -⟩
          simp only [regV]
          have H4 := Lib.hid h4
          have cn := name24_any 7 w4 (by decide)
          clear c4 h4
          go_wp2_with fail
          refine cn.mono ?_
          rintro e w5 ⟨rfl, hb5⟩
          have c6 := regN (H4.out.keep hb5) rC (nmS 7) rC_le (nm_le (by decide)) (by decide)
          rw [full_seven HI.out hL2.out] at c6
          unfold rC at c6
          clear cn hb5
          go_wp2_with fail
          refine c6.mono ?_
          rintro e w6 ⟨rfl, h6, -⟩
          simp only [regV]
          have H6 := Lib.hid h6
          have c7 := lenN h6 rC rC_le
          rw [hL2.out, fullT_len, show 65534 - i + i = 65534 by have := HI.out; omega] at c7
          unfold rC at c7
          clear c6 h6
          go_wp2_with fail
          refine c7.mono ?_
          rintro e w7 ⟨rfl, rfl⟩
          have c8 := clrN H6.out rC rC_le (by decide)
          rw [full_clear HI.out hL2.out] at c8
          have hL3 : Hid (rgT (rgSet L2 rC (fixT i)) rC = fixT i) := Lib.hid rgT_set
          generalize rgSet L2 rC (fixT i) = L3 at c8 hL3
          unfold rC at c8
          clear c7
          go_wp2_with fail
          refine c8.mono ?_
          rintro e w8 ⟨rfl, h8, -⟩
          have hx := fix_more HI.out hL3.out
          have c9 := regN h8 rC moreS rC_le more_le (by decide)
          rw [hx.1] at c9
          have hL4 := Lib.hid hx.2
          generalize (rfReg L3 rC moreS).2 = L4 at c9 hL4
          unfold rC moreS at c9
          clear c8 h8 hx
          go_wp2_with fail
          refine c9.mono ?_
          rintro e w9 ⟨rfl, h9, -⟩
          simp only [regV]
          have c10 := lenN h9 rC rC_le
          rw [hL4.out] at c10
          unfold rC at c10
          have H9 := Lib.hid h9.below
          clear c9 h9
          go_wp2_with fail
          refine c10.mono ?_
          rintro e w10 ⟨rfl, rfl⟩
          clear c10
          go_wp2
          go_ret
          exact ⟨rfl, H9.out⟩
end Go.Proofs.Ytdpndphecdhlaaa
