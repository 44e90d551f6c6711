/- The law ControlNames: the chapter's examples. -/
import Derived.Test.YtdpeljnoaiaplaaConG
namespace Go.Proofs.Ytdpeljnoaiaplaa
open Go.RowKit
attribute [local go_sem ↓] to_ldPk to_bxPk to_bdPk to_alPk to_stPk
attribute [local go_sem] run_bxPk run_bxPk_agg ld_fresh run_alPk run_bd0 run_bdK run_bdKI run_bdKIC run_bdKC run_bdKICP run_stPk_fresh pkC_0 pkC_1 pkC_2 pkC_3 pkC_4 pkC_5 pkC_6 pkC_7 pkC_8 pkC_9 pkC_10 pkC_11 pkC_12 pkC_13 pkC_14 pkC_15 pkC_16 pkC_17 pkC_18 pkC_19 pkC_20 pkC_21 pkC_22 pkC_23 pkC_24

def topK (k : Int) (s : ByteArray) : Pk := { pk0 with kind := k, topic := s }
theorem run_bdKCP (k c : Int) (l : List Pr) (A : Option Addr) (n : Nat) (w : World) : (bdPk #[(0, .int .i64 k), (17, .int .i64 c), (20, .slice A l.length n)]).run Try.prog w = .ok (pkV (ackR1 k 0 c l) { hs0 with props := ⟨A, n⟩ }) w := by kernel_rfl
theorem run_bdKT (k : Int) (s : ByteArray) (w : World) : (bdPk #[(0, .int .i64 k), (5, .string s)]).run Try.prog w = .ok (pkV (topK k s) hs0) w := by kernel_rfl
def whyP : Pr := ⟨31, 0, ⟨#[120]⟩, ⟨#[]⟩⟩
theorem why_good : ∀ p ∈ [whyP], prGood p := fun p hp => by
  rw [List.mem_singleton.1 hp]
  exact ⟨by decide, by decide, by decide⟩
theorem exc_b : conB 5 (ackR1 15 0 24 [whyP]) = ([24, 4, 31, 0, 1, 120], 0) := by decide +kernel
theorem exc_r0 : conR 5 15 ⟨#[24, 4, 31, 0, 1, 120]⟩ = (ackR1 15 0 24 [whyP], 0) := by decide +kernel
theorem exc_r1 : conR 4 15 ⟨#[]⟩ = (pk0, 8) := by decide +kernel
theorem exc_r2 : conR 4 12 ⟨#[120]⟩ = (pk0, 5) := by decide +kernel
theorem exc_r3 : conR 4 14 ⟨#[4]⟩ = (pk0, 5) := by decide +kernel
theorem exc_r4 : conR 5 14 ⟨#[0]⟩ = (pk0, 5) := by decide +kernel
theorem exc_r5 : conR 5 14 ⟨#[4, 0]⟩ = (pk0, 5) := by decide +kernel
theorem exc_r6 : conR 5 14 ⟨#[5]⟩ = (pk0, 2) := by decide +kernel
theorem exc_r7 : conR 5 1 ⟨#[]⟩ = (pk0, 2) := by decide +kernel
theorem exc_r8 : conR 5 13 ⟨#[]⟩ = (ackR1 13 0 0 [], 0) := by decide +kernel
theorem exc_v0 : conE 4 (ackR1 15 0 0 []) = 8 := by decide +kernel
theorem exc_v1 : conE 4 (ackR1 14 0 4 []) = 2 := by decide +kernel
theorem exc_v2 : conE 5 (topK 12 ⟨#[97]⟩) = 2 := by decide +kernel
theorem exc_t0 : tailS 300 [] 15 = [] := by decide +kernel
theorem exc_t1 : tailS 24 [] 15 = [24] := by decide +kernel
theorem exc_t2 : tailS 0 [] 15 = [] := by decide +kernel
theorem exc_t3 : tailS 0 [whyP] 12 = [] := by decide +kernel
theorem Rd.step {x y : World} {k n : Nat} {A : Option Addr} {xs : List Value} (h : Rd x x.heap.size k A n xs) (hb : Below x.heap.size x y) : Rd y y.heap.size k A n xs := (h.below hb).wider hb.size
theorem topK_in (w : World) (B : Nat) (k : Int) (s : ByteArray) : PkIn w B (topK k s) hs0 := ⟨Rd.nil _ _ _ _, Rd.nil _ _ _ _, Rd.nil _ _ _ _, Rd.nil _ _ _ _, Nat.zero_le _, Nat.zero_le _, Nat.zero_le _, Nat.zero_le _⟩
theorem topK_ok (k : Int) (s : ByteArray) (h : s.size ≤ 140737488351232) : PkOk (topK k s) := by
  refine ⟨?_, ?_, ?_, ?_, ?_⟩
  · intro q hq; cases hq
  · intro q hq; cases hq
  · intro q hq; cases hq
  · exact ⟨h, Nat.zero_le _, Nat.zero_le _, Nat.zero_le _, Nat.zero_le _, Nat.zero_le _, Nat.zero_le _⟩
  · exact ⟨Nat.zero_le _, Nat.zero_le _, Nat.zero_le _, Nat.zero_le _⟩
/-- A reading whose answer is known. -/
theorem conRead_ex (v k : Int) (s t : ByteArray) {r : Pk × Int} (hr : conR v k t = r) (hst : s = t) (hs : t.size ≤ 1000) (w : World) :
    Calls Try.prog 34 #[.int .i64 v, .int .i64 k, .string s] w (PkOut r w) := by
  subst hst hr
  exact conRead_any v k s w (by omega)
theorem conValid_ex (v : Int) (q p : Pk) (hp : p = q) (hi : ∀ w B, PkIn w B q hs0) (hk : PkOk q) {x : Int} (hx : conE v q = x) (w : World) :
    Calls Try.prog 36 #[.int .i64 v, pkV p hs0] w fun e w' => e = .returned (.int .i64 x) ∧ Below w.heap.size w w' := by
  subst hp hx
  exact conValid_any v _ hs0 w (hi _ _) hk
theorem tailS_ex (code k : Int) (l : List Pr) (n : Nat) (hn : l.length = n) (hok : ∀ p ∈ l, prGood p) (A : Option Addr) (c : Nat) {r : List UInt8} (hr : tailS code l k = r) (w : World) (h : Rd w w.heap.size 4 A n (prs l)) (hl : n ≤ 1000) :
    Calls Try.prog 29 #[.int .i64 code, .slice A n c, .int .i64 k] w fun e w' => e = .returned (.string ⟨r.toArray⟩) ∧ Below w.heap.size w w' := by
  subst hr
  exact tailS_any code k l n hn hok A c w h (by omega)
set_option maxHeartbeats 8000000 in
set_option maxRecDepth 100000 in
theorem controlNames_any (w : World) : Calls Try.prog 12 #[] w fun e w' => e = .returned (.bool true) ∧ Below w.heap.size w w' := by
  have hbd : ∀ (A : Option Addr) (n : Nat) (w : World), (bdPk #[(0, .int .i64 15), (17, .int .i64 24), (20, .slice A 1 n)]).run Try.prog w = .ok (pkV (ackR1 15 0 24 [whyP]) { hs0 with props := ⟨A, n⟩ }) w := fun A n w => run_bdKCP 15 24 [whyP] A n w
  have hbt := run_bdKT
  go_enter Try.func12, Try.ntmps12
  go_wp2_with fail
  refine (lives12_any _).mono ?_
  rintro e w1 ⟨rfl, hb⟩
  have S1 := Lib.hid ((St.start w).below hb); clear hb
  have R2 : Hid (Rd (w1.alloc (.cells #[.int .i64 31, .int .u32 0, .string ⟨#[120]⟩, .string ⟨#[]⟩] 46)) (w1.alloc (.cells #[.int .i64 31, .int .u32 0, .string ⟨#[120]⟩, .string ⟨#[]⟩] 46)).heap.size 4 (some ⟨w1.heap.size, 0, none⟩) ([whyP] : List Pr).length (prs [whyP])) := Lib.hid (by
    have := Rd.one4 w1 whyP
    rw [heap_alloc_size]
    exact this)
  have S2 := Lib.hid (S1.out.alloc (.cells #[.int .i64 31, .int .u32 0, .string ⟨#[120]⟩, .string ⟨#[]⟩] 46))
  go_wp2_with fail
  refine (conBody_any 5 (ackR1 15 0 24 [whyP]) _ _ (PkIn.R1 R2.out (Nat.le_refl 1) 15 0 24) (pkOk_R1 why_good (by decide))).mono ?_
  rintro e w2 ⟨rfl, hb⟩
  have S3 := Lib.hid (S2.out.below hb); have R3 := Lib.hid (Rd.step R2.out hb); clear hb S2 R2
  rw [exc_b]
  go_wp2_with fail
  refine (conRead_ex 5 15 _ _ exc_r0 (by first | rfl | decide +kernel) (by decide) _).mono ?_
  rintro e x0 ⟨k0, rfl, hi, hb⟩
  have S4 := Lib.hid ((S3.out.below hb).push hi)
  have R4 : Hid (Rd (x0.alloc (.cells (pkC (ackR1 15 0 24 [whyP]) k0) PkT)) (x0.alloc (.cells (pkC (ackR1 15 0 24 [whyP]) k0) PkT)).heap.size 4 (some ⟨w1.heap.size, 0, none⟩) ([whyP] : List Pr).length (prs [whyP])) := Lib.hid (Rd.step (Rd.step R3.out hb) ((Below.refl _ _).alloc (Nat.le_refl _) _))
  clear hi hb R3
  simp only
  go_wp2_with fail
  refine (conRead_ex 4 15 _ _ exc_r1 (by first | rfl | decide +kernel) (by decide) _).mono ?_
  rintro e x1 ⟨k1, rfl, hi, hb⟩
  have S5 := Lib.hid ((S4.out.below hb).alloc (.cells (pkC pk0 k1) PkT))
  have R5 : Hid (Rd (x1.alloc (.cells (pkC pk0 k1) PkT)) (x1.alloc (.cells (pkC pk0 k1) PkT)).heap.size 4 (some ⟨w1.heap.size, 0, none⟩) ([whyP] : List Pr).length (prs [whyP])) := Lib.hid (Rd.step (Rd.step R4.out hb) ((Below.refl _ _).alloc (Nat.le_refl _) _))
  clear hi hb R4
  simp only
  go_wp2_with fail
  refine (conRead_ex 4 12 _ _ exc_r2 (by first | rfl | decide +kernel) (by decide) _).mono ?_
  rintro e x2 ⟨k2, rfl, hi, hb⟩
  have S6 := Lib.hid ((S5.out.below hb).alloc (.cells (pkC pk0 k2) PkT))
  have R6 : Hid (Rd (x2.alloc (.cells (pkC pk0 k2) PkT)) (x2.alloc (.cells (pkC pk0 k2) PkT)).heap.size 4 (some ⟨w1.heap.size, 0, none⟩) ([whyP] : List Pr).length (prs [whyP])) := Lib.hid (Rd.step (Rd.step R5.out hb) ((Below.refl _ _).alloc (Nat.le_refl _) _))
  clear hi hb R5
  simp only
  go_wp2_with fail
  refine (conRead_ex 4 14 _ _ exc_r3 (by first | rfl | decide +kernel) (by decide) _).mono ?_
  rintro e x3 ⟨k3, rfl, hi, hb⟩
  have S7 := Lib.hid ((S6.out.below hb).alloc (.cells (pkC pk0 k3) PkT))
  have R7 : Hid (Rd (x3.alloc (.cells (pkC pk0 k3) PkT)) (x3.alloc (.cells (pkC pk0 k3) PkT)).heap.size 4 (some ⟨w1.heap.size, 0, none⟩) ([whyP] : List Pr).length (prs [whyP])) := Lib.hid (Rd.step (Rd.step R6.out hb) ((Below.refl _ _).alloc (Nat.le_refl _) _))
  clear hi hb R6
  simp only
  go_wp2_with fail
  refine (conRead_ex 5 14 _ _ exc_r4 (by first | rfl | decide +kernel) (by decide) _).mono ?_
  rintro e x4 ⟨k4, rfl, hi, hb⟩
  have S8 := Lib.hid ((S7.out.below hb).alloc (.cells (pkC pk0 k4) PkT))
  have R8 : Hid (Rd (x4.alloc (.cells (pkC pk0 k4) PkT)) (x4.alloc (.cells (pkC pk0 k4) PkT)).heap.size 4 (some ⟨w1.heap.size, 0, none⟩) ([whyP] : List Pr).length (prs [whyP])) := Lib.hid (Rd.step (Rd.step R7.out hb) ((Below.refl _ _).alloc (Nat.le_refl _) _))
  clear hi hb R7
  simp only
  go_wp2_with fail
  refine (conRead_ex 5 14 _ _ exc_r5 (by first | rfl | decide +kernel) (by decide) _).mono ?_
  rintro e x5 ⟨k5, rfl, hi, hb⟩
  have S9 := Lib.hid ((S8.out.below hb).alloc (.cells (pkC pk0 k5) PkT))
  have R9 : Hid (Rd (x5.alloc (.cells (pkC pk0 k5) PkT)) (x5.alloc (.cells (pkC pk0 k5) PkT)).heap.size 4 (some ⟨w1.heap.size, 0, none⟩) ([whyP] : List Pr).length (prs [whyP])) := Lib.hid (Rd.step (Rd.step R8.out hb) ((Below.refl _ _).alloc (Nat.le_refl _) _))
  clear hi hb R8
  simp only
  go_wp2_with fail
  refine (conRead_ex 5 14 _ _ exc_r6 (by first | rfl | decide +kernel) (by decide) _).mono ?_
  rintro e x6 ⟨k6, rfl, hi, hb⟩
  have S10 := Lib.hid ((S9.out.below hb).alloc (.cells (pkC pk0 k6) PkT))
  have R10 : Hid (Rd (x6.alloc (.cells (pkC pk0 k6) PkT)) (x6.alloc (.cells (pkC pk0 k6) PkT)).heap.size 4 (some ⟨w1.heap.size, 0, none⟩) ([whyP] : List Pr).length (prs [whyP])) := Lib.hid (Rd.step (Rd.step R9.out hb) ((Below.refl _ _).alloc (Nat.le_refl _) _))
  clear hi hb R9
  simp only
  go_wp2_with fail
  refine (conRead_ex 5 1 _ _ exc_r7 (by first | rfl | decide +kernel) (by decide) _).mono ?_
  rintro e x7 ⟨k7, rfl, hi, hb⟩
  have S11 := Lib.hid ((S10.out.below hb).alloc (.cells (pkC pk0 k7) PkT))
  have R11 : Hid (Rd (x7.alloc (.cells (pkC pk0 k7) PkT)) (x7.alloc (.cells (pkC pk0 k7) PkT)).heap.size 4 (some ⟨w1.heap.size, 0, none⟩) ([whyP] : List Pr).length (prs [whyP])) := Lib.hid (Rd.step (Rd.step R10.out hb) ((Below.refl _ _).alloc (Nat.le_refl _) _))
  clear hi hb R10
  simp only
  go_wp2_with fail
  refine (conRead_ex 5 13 _ _ exc_r8 (by first | rfl | decide +kernel) (by decide) _).mono ?_
  rintro e x8 ⟨k8, rfl, hi, hb⟩
  have S12 := Lib.hid ((S11.out.below hb).push hi)
  have R12 : Hid (Rd (x8.alloc (.cells (pkC (ackR1 13 0 0 []) k8) PkT)) (x8.alloc (.cells (pkC (ackR1 13 0 0 []) k8) PkT)).heap.size 4 (some ⟨w1.heap.size, 0, none⟩) ([whyP] : List Pr).length (prs [whyP])) := Lib.hid (Rd.step (Rd.step R11.out hb) ((Below.refl _ _).alloc (Nat.le_refl _) _))
  have c1 := S12.out.cell 0 rfl 21
  rw [pkC_21] at c1
  have c2 := S12.out.cell 0 rfl 24
  rw [pkC_24] at c2
  have q1 : (ackR1 15 0 24 [whyP]).code = 24 := rfl
  have q2 : (ackR1 15 0 24 [whyP]).props.length = 1 := rfl
  rw [q1] at c1
  rw [q2] at c2
  simp only at c1 c2
  clear hi hb R11
  simp only
  go_wp2_with fail
  refine (sameKit_any k0.props.a (some ⟨w1.heap.size, 0, none⟩) 1 1 k0.props.c 1 [whyP] [whyP] _ rfl rfl (S12.out.into 0 rfl).props R12.out (by decide) (by decide)).mono ?_
  rintro e z0 ⟨rfl, hb⟩
  have T0 := Lib.hid (S12.out.below hb); have R := Lib.hid (Rd.step R12.out hb); clear hb c1 c2
  rw [decide_eq_true rfl]
  have hl := T0.out.ld 1 rfl
  go_wp2_with fail
  rw [ackR1_k]
  refine (samePk_any (ackR1 13 0 0 []) (ackR1 13 0 0 []) k8 hs0 _ (T0.out.into 1 rfl) (R1_in _ _ _ _ _) (R1_ok _ _ _).len (R1_ok _ _ _).len).mono ?_
  rintro e z1 ⟨rfl, hb⟩
  have T1 := Lib.hid (T0.out.below hb); have R' := Lib.hid (Rd.step R.out hb); clear hb hl R
  rw [decide_eq_true rfl]
  go_wp2_with fail
  refine (conValid_ex 4 (ackR1 15 0 0 []) _ rfl (fun w B => R1_in w B _ _ _) (R1_ok _ _ _) exc_v0 _).mono ?_
  rintro e v0 ⟨rfl, hb⟩
  have T2 := Lib.hid (T1.out.below hb); have V0 := Lib.hid (Rd.step R'.out hb); clear hb R'
  go_wp2_with fail
  refine (conValid_ex 4 (ackR1 14 0 4 []) _ rfl (fun w B => R1_in w B _ _ _) (R1_ok _ _ _) exc_v1 _).mono ?_
  rintro e v1 ⟨rfl, hb⟩
  have T3 := Lib.hid (T2.out.below hb); have V1 := Lib.hid (Rd.step V0.out hb); clear hb V0
  go_wp2_with fail
  refine (conValid_ex 5 (topK 12 ⟨#[97]⟩) _ rfl (fun w B => topK_in w B _ _) (topK_ok _ _ (by decide)) exc_v2 _).mono ?_
  rintro e v2 ⟨rfl, hb⟩
  have T4 := Lib.hid (T3.out.below hb); have V2 := Lib.hid (Rd.step V1.out hb); clear hb V1
  go_wp2_with fail
  refine (tailS_ex 300 15 [] 0 rfl (by simp) none 0 exc_t0 _ (Rd.nil _ _ _ _) (by decide)).mono ?_
  rintro e t0 ⟨rfl, hb⟩
  have T5 := Lib.hid (T4.out.below hb); have U0 := Lib.hid (Rd.step V2.out hb); clear hb V2
  go_wp2_with fail
  refine (tailS_ex 24 15 [] 0 rfl (by simp) none 0 exc_t1 _ (Rd.nil _ _ _ _) (by decide)).mono ?_
  rintro e t1 ⟨rfl, hb⟩
  have T6 := Lib.hid (T5.out.below hb); have U1 := Lib.hid (Rd.step U0.out hb); clear hb U0
  go_wp2_with fail
  refine (tailS_ex 0 15 [] 0 rfl (by simp) none 0 exc_t2 _ (Rd.nil _ _ _ _) (by decide)).mono ?_
  rintro e t2 ⟨rfl, hb⟩
  have T7 := Lib.hid (T6.out.below hb); have U2 := Lib.hid (Rd.step U1.out hb); clear hb U1
  go_wp2_with fail
  refine (tailS_ex 0 12 [whyP] 1 rfl why_good _ 1 exc_t3 _ U2.out (by decide)).mono ?_
  rintro e t3 ⟨rfl, hb⟩
  have T8 := Lib.hid (T7.out.below hb); have U3 := Lib.hid (Rd.step U2.out hb); clear hb U2
  go_wp2
  go_ret
  exact ⟨rfl, T8.out.kept⟩
end Go.Proofs.Ytdpeljnoaiaplaa
