/- The law AckNames: the chapter's examples. -/
import Derived.Test.YtdpeljnoaiaplaaAckM
namespace Go.Proofs.Ytdpeljnoaiaplaa
open Go.RowKit
attribute [local go_sem ↓] to_ldPk to_bxPk to_bdPk to_alPk to_stPk
attribute [local go_sem] run_bxPk run_bxPk_agg ld_fresh run_alPk run_bd0 run_bdK run_bdKI run_bdKIC run_bdKC run_bdKICP run_stPk_fresh pkC_0 pkC_1 pkC_2 pkC_3 pkC_4 pkC_5 pkC_6 pkC_7 pkC_8 pkC_9 pkC_10 pkC_11 pkC_12 pkC_13 pkC_14 pkC_15 pkC_16 pkC_17 pkC_18 pkC_19 pkC_20 pkC_21 pkC_22 pkC_23 pkC_24

theorem run_bdKIP (k i : Int) (l : List Pr) (A : Option Addr) (n : Nat) (w : World) : (bdPk #[(0, .int .i64 k), (4, .int .i64 i), (20, .slice A l.length n)]).run Try.prog w = .ok (pkV (ackR1 k i 0 l) { hs0 with props := ⟨A, n⟩ }) w := by kernel_rfl
def userP : Pr := ⟨38, 0, ⟨#[97]⟩, ⟨#[98]⟩⟩
theorem user_good : ∀ p ∈ [userP], prGood p := fun p hp => by
  rw [List.mem_singleton.1 hp]
  exact ⟨by decide, by decide, by decide⟩
theorem exa_b : ackB 5 (ackR1 5 1 0 [userP]) = ([0, 1, 0, 7, 38, 0, 1, 97, 0, 1, 98], 0) := by decide +kernel
theorem exa_r0 : ackR 5 4 ⟨#[0, 7, 0]⟩ = (pk0, 5) := by decide +kernel
theorem exa_r1 : ackR 5 4 ⟨#[0, 7, 16, 0]⟩ = (pk0, 5) := by decide +kernel
theorem exa_r2 : ackR 4 4 ⟨#[0, 7, 16]⟩ = (pk0, 5) := by decide +kernel
theorem exa_r3 : ackR 5 4 ⟨#[0]⟩ = (pk0, 3) := by decide +kernel
theorem exa_r4 : ackR 5 4 ⟨#[0, 0]⟩ = (pk0, 2) := by decide +kernel
theorem exa_r5 : ackR 5 6 ⟨#[0, 7, 16]⟩ = (pk0, 2) := by decide +kernel
theorem exa_r6 : ackR 5 5 ⟨#[0, 1, 0, 7, 38, 0, 1, 97, 0, 1, 98]⟩ = (ackR1 5 1 0 [userP], 0) := by decide +kernel
theorem exa_r7 : ackR 5 5 ⟨#[0, 1, 0, 7, 38, 0, 1, 97, 0, 1, 98, 122]⟩ = (pk0, 5) := by decide +kernel
theorem exa_r8 : ackR 5 5 ⟨#[0, 1, 0, 7, 38, 0, 1, 97, 0, 1]⟩ = (pk0, 3) := by decide +kernel
theorem exa_n0 : ackN (ackQ 5 3 16) = (ackQ 6 3 0, true) := by decide +kernel
theorem exa_n1 : ackN (ackQ 6 3 146) = (ackQ 7 3 0, true) := by decide +kernel
theorem exa_n2 : ackN (ackQ 5 3 128) = (pk0, false) := by decide +kernel
theorem exa_n3 : ackN (ackQ 4 3 0) = (pk0, false) := by decide +kernel
theorem exa_v0 : ackE 4 (ackQ 4 1 16) = 2 := by decide +kernel
theorem exa_v1 : ackE 5 (ackQ 3 1 0) = 2 := by decide +kernel
theorem exa_v2 : ackE 5 (ackQ 4 65536 0) = 2 := by decide +kernel
/-- A reading whose answer is known. -/
theorem ackRead_ex (v k : Int) (s t : ByteArray) {r : Pk × Int} (hr : ackR v k t = r) (hst : s = t) (hs : t.size ≤ 1000) (w : World) :
    Calls Try.prog 32 #[.int .i64 v, .int .i64 k, .string s] w (PkOut r w) := by
  subst hst hr
  exact ackRead_any v k s w (by omega)
theorem ackValid_ex (v k i c : Int) (p : Pk) (hp : p = ackQ k i c) {x : Int} (hx : ackE v (ackQ k i c) = x) (w : World) :
    Calls Try.prog 19 #[.int .i64 v, pkV p hs0] w fun e w' => e = .returned (.int .i64 x) ∧ Below w.heap.size w w' := by
  subst hp hx
  exact ackValid_any v _ hs0 w (PkIn.zero _ _ _ _ _) (PkOk.zero _ _ _)
theorem ackNext_ex (k i c : Int) (p : Pk) (hp : p = ackQ k i c) {r : Pk × Bool} (hx : ackN (ackQ k i c) = r) (w : World) :
    Calls Try.prog 20 #[pkV p hs0] w fun e w' => e = .returned (.tuple #[pkV r.1 hs0, .bool r.2]) ∧ Below w.heap.size w w' := by
  subst hp hx
  exact ackNext_any _ hs0 w
set_option maxHeartbeats 8000000 in
set_option maxRecDepth 100000 in
theorem ackNames_any (w : World) : Calls Try.prog 11 #[] w fun e w' => e = .returned (.bool true) ∧ Below w.heap.size w w' := by
  have hbd : ∀ (A : Option Addr) (n : Nat) (w : World), (bdPk #[(0, .int .i64 5), (4, .int .i64 1), (20, .slice A 1 n)]).run Try.prog w = .ok (pkV (ackR1 5 1 0 [userP]) { hs0 with props := ⟨A, n⟩ }) w := fun A n w => run_bdKIP 5 1 [userP] A n w
  go_enter Try.func11, Try.ntmps11
  go_wp2_with fail
  refine (lives10_any _).mono ?_
  rintro e w1 ⟨rfl, hb⟩
  have S1 := Lib.hid ((St.start w).below hb); clear hb
  have R1 : Hid (Rd (w1.alloc (.cells #[.int .i64 38, .int .u32 0, .string ⟨#[97]⟩, .string ⟨#[98]⟩] 46)) (w1.alloc (.cells #[.int .i64 38, .int .u32 0, .string ⟨#[97]⟩, .string ⟨#[98]⟩] 46)).heap.size 4 (some ⟨w1.heap.size, 0, none⟩) ([userP] : List Pr).length (prs [userP])) := Lib.hid (by
    have := Rd.one4 w1 userP
    rw [heap_alloc_size]
    exact this)
  have S2 := Lib.hid (S1.out.alloc (.cells #[.int .i64 38, .int .u32 0, .string ⟨#[97]⟩, .string ⟨#[98]⟩] 46))
  go_wp2_with fail
  refine (ackBody_any 5 (ackR1 5 1 0 [userP]) _ _ (PkIn.R1 R1.out (Nat.le_refl 1) 5 1 0) (pkOk_R1 user_good (by decide))).mono ?_
  rintro e w2 ⟨rfl, hb⟩
  have S3 := Lib.hid (S2.out.below hb); clear hb S2 R1
  rw [exa_b]
  go_wp2_with fail
  refine (ackRead_ex 5 4 _ _ exa_r0 (by first | rfl | decide +kernel) (by decide) _).mono ?_
  rintro e x0 ⟨k0, rfl, hi, hb⟩
  have S4 := Lib.hid ((S3.out.below hb).alloc (.cells (pkC pk0 k0) PkT))
  clear hi hb
  simp only
  go_wp2_with fail
  refine (ackRead_ex 5 4 _ _ exa_r1 (by first | rfl | decide +kernel) (by decide) _).mono ?_
  rintro e x1 ⟨k1, rfl, hi, hb⟩
  have S5 := Lib.hid ((S4.out.below hb).alloc (.cells (pkC pk0 k1) PkT))
  clear hi hb
  simp only
  go_wp2_with fail
  refine (ackRead_ex 4 4 _ _ exa_r2 (by first | rfl | decide +kernel) (by decide) _).mono ?_
  rintro e x2 ⟨k2, rfl, hi, hb⟩
  have S6 := Lib.hid ((S5.out.below hb).alloc (.cells (pkC pk0 k2) PkT))
  clear hi hb
  simp only
  go_wp2_with fail
  refine (ackRead_ex 5 4 _ _ exa_r3 (by first | rfl | decide +kernel) (by decide) _).mono ?_
  rintro e x3 ⟨k3, rfl, hi, hb⟩
  have S7 := Lib.hid ((S6.out.below hb).alloc (.cells (pkC pk0 k3) PkT))
  clear hi hb
  simp only
  go_wp2_with fail
  refine (ackRead_ex 5 4 _ _ exa_r4 (by first | rfl | decide +kernel) (by decide) _).mono ?_
  rintro e x4 ⟨k4, rfl, hi, hb⟩
  have S8 := Lib.hid ((S7.out.below hb).alloc (.cells (pkC pk0 k4) PkT))
  clear hi hb
  simp only
  go_wp2_with fail
  refine (ackRead_ex 5 6 _ _ exa_r5 (by first | rfl | decide +kernel) (by decide) _).mono ?_
  rintro e x5 ⟨k5, rfl, hi, hb⟩
  have S9 := Lib.hid ((S8.out.below hb).alloc (.cells (pkC pk0 k5) PkT))
  clear hi hb
  simp only
  go_wp2_with fail
  refine (ackRead_ex 5 5 _ _ exa_r6 (by first | rfl | decide +kernel) (by decide) _).mono ?_
  rintro e x6 ⟨k6, rfl, hi, hb⟩
  have S10 := Lib.hid ((S9.out.below hb).push hi)
  clear hi hb
  simp only
  go_wp2_with fail
  refine (ackRead_ex 5 5 _ _ exa_r7 (by first | rfl | decide +kernel) (by decide) _).mono ?_
  rintro e x7 ⟨k7, rfl, hi, hb⟩
  have S11 := Lib.hid ((S10.out.below hb).alloc (.cells (pkC pk0 k7) PkT))
  clear hi hb
  simp only
  go_wp2_with fail
  refine (ackRead_ex 5 5 _ _ exa_r8 (by first | rfl | decide +kernel) (by decide) _).mono ?_
  rintro e x8 ⟨k8, rfl, hi, hb⟩
  have S12 := Lib.hid ((S11.out.below hb).alloc (.cells (pkC pk0 k8) PkT))
  clear hi hb
  simp only
  go_wp2_with fail
  refine (ackNext_ex 5 3 16 _ rfl exa_n0 _).mono ?_
  rintro e y0 ⟨rfl, hb⟩
  have S13 := Lib.hid ((S12.out.below hb).push (PkIn.zero _ _ 6 3 0))
  clear hb
  simp only
  go_wp2_with fail
  refine (ackNext_ex 6 3 146 _ rfl exa_n1 _).mono ?_
  rintro e y1 ⟨rfl, hb⟩
  have S14 := Lib.hid ((S13.out.below hb).push (PkIn.zero _ _ 7 3 0))
  clear hb
  simp only
  go_wp2_with fail
  refine (ackNext_ex 5 3 128 _ rfl exa_n2 _).mono ?_
  rintro e y2 ⟨rfl, hb⟩
  have S15 := Lib.hid ((S14.out.below hb).alloc (.cells (pkC pk0 hs0) PkT))
  clear hb
  simp only
  go_wp2_with fail
  refine (ackNext_ex 4 3 0 _ rfl exa_n3 _).mono ?_
  rintro e y3 ⟨rfl, hb⟩
  have S16 := Lib.hid ((S15.out.below hb).alloc (.cells (pkC pk0 hs0) PkT))
  clear hb
  simp only
  have hl := S16.out.ld 1 rfl
  have c1 := S16.out.cell 0 rfl 24
  rw [pkC_24] at c1
  go_wp2_with fail
  refine (samePk_any (ackQ 6 3 0) (ackQ 6 3 0) hs0 hs0 _ (PkIn.zero _ _ _ _ _) (PkIn.zero _ _ _ _ _) (PkOk.zero _ _ _).len (PkOk.zero _ _ _).len).mono ?_
  rintro e z0 ⟨rfl, hb⟩
  have T0 := Lib.hid (S16.out.below hb); clear hb hl c1
  rw [decide_eq_true rfl]
  have d1 := T0.out.cell 2 rfl 0
  have d2 := T0.out.cell 2 rfl 4
  have d3 := T0.out.cell 2 rfl 21
  rw [pkC_0] at d1
  rw [pkC_4] at d2
  rw [pkC_21] at d3
  have q1 : (ackQ 7 3 0).kind = 7 := rfl
  have q2 : (ackQ 7 3 0).id = 3 := rfl
  have q3 : (ackQ 7 3 0).code = 0 := rfl
  go_wp2_with fail
  refine (ackValid_ex 4 4 1 16 _ rfl exa_v0 _).mono ?_
  rintro e v0 ⟨rfl, hb⟩
  have T1 := Lib.hid (T0.out.below hb); clear hb
  go_wp2_with fail
  refine (ackValid_ex 5 3 1 0 _ rfl exa_v1 _).mono ?_
  rintro e v1 ⟨rfl, hb⟩
  have T2 := Lib.hid (T1.out.below hb); clear hb
  go_wp2_with fail
  refine (ackValid_ex 5 4 65536 0 _ rfl exa_v2 _).mono ?_
  rintro e v2 ⟨rfl, hb⟩
  have T3 := Lib.hid (T2.out.below hb); clear hb
  go_wp2
  go_ret
  exact ⟨rfl, T3.out.kept⟩
end Go.Proofs.Ytdpeljnoaiaplaa
