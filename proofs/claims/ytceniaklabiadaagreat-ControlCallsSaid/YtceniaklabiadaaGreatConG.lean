/- control: the examples of the chapter; the law ControlCodes. -/
import Derived.Test.YtceniaklabiadaaGreatConE
namespace Go.Proofs.YtceniaklabiadaaGreat
open Go.RowKit
attribute [local go_sem ↓] to_ldPk to_bxPk to_bdPk to_alPk to_stPk
attribute [local go_sem] run_bxPk run_bxPk_agg ld_fresh run_alPk run_bd0 run_bdK run_bdKI run_bdKIC run_bdKC run_bdKICP run_stPk_fresh pkC_0 pkC_1 pkC_2 pkC_3 pkC_4 pkC_5 pkC_6 pkC_7 pkC_8 pkC_9 pkC_10 pkC_11 pkC_12 pkC_13 pkC_14 pkC_15 pkC_16 pkC_17 pkC_18 pkC_19 pkC_20 pkC_21 pkC_22 pkC_23 pkC_24
theorem ackR1_kc (k c : Int) : ({ pk0 with kind := k, code := c } : Pk) = ackR1 k 0 c [] := rfl
theorem R1_ok (k i c : Int) : PkOk (ackR1 k i c []) := pkOk_R1 (by simp) (by simp)
theorem R1_in (w : World) (B : Nat) (k i c : Int) : PkIn w B (ackR1 k i c []) hs0 := PkIn.R1 (Rd.nil _ _ _ _) (Nat.zero_le _) k i c
theorem example_con1 : conB 5 (ackR1 14 0 0 []) = ([], 0) := by decide +kernel
theorem example_con2 : conB 5 (ackR1 14 0 4 []) = ([4], 0) := by decide +kernel

set_option maxHeartbeats 1000000 in
set_option maxRecDepth 10000 in
theorem lives12_any (w : World) :
    Calls Tryz.prog 22 #[] w fun e w' => e = .returned (.bool true) ∧ Below w.heap.size w w' := by
  go_enter Tryz.func22, Tryz.ntmps22
  go_wp2_with fail
  refine (conBody_any 5 (ackR1 14 0 0 []) hs0 _ (R1_in _ _ _ _ _) (R1_ok _ _ _)).mono ?_
  rintro e w1 ⟨rfl, hb⟩
  have HB := Lib.hid hb; clear hb
  rw [example_con1]
  go_wp2_with fail
  refine (conBody_any 5 (ackR1 14 0 4 []) hs0 _ (R1_in _ _ _ _ _) (R1_ok _ _ _)).mono ?_
  rintro e w2 ⟨rfl, hb⟩
  have HB2 := Lib.hid (HB.out.trans (hb.mono HB.out.size)); clear hb
  rw [example_con2]
  go_wp2
  go_ret
  exact ⟨rfl, HB2.out⟩

theorem conE_R1 (v k c : Int) (hk : 12 ≤ k ∧ k ≤ 15) (hv : v = 4 ∨ v = 5) : conE v (ackR1 k 0 c []) = if k = 15 ∧ v = 4 then 8 else if conMay v k = true then (if may k c = true then 0 else 2) else if c = 0 then 0 else 2 := by
  have hi : conIs k = true := decide_eq_true hk
  have hK : conK v k = if k = 15 ∧ v = 4 then 8 else 0 := by
    unfold conK
    rw [if_neg]
    rintro (x | x)
    · rw [hi] at x; cases x
    · exact x hv
  unfold conE
  rw [show (ackR1 k 0 c []).kind = k from rfl, show (ackR1 k 0 c []).code = c from rfl, show (ackR1 k 0 c []).props = [] from rfl, hK, bytesS_none]
  by_cases h15 : k = 15 ∧ v = 4
  · rw [if_pos h15, if_pos h15, if_pos (by decide)]
  · rw [if_neg h15, if_neg h15, if_neg (fun x => x rfl)]
    cases hm : conMay v k
    · have hq : conQ v (ackR1 k 0 c []) = ackR1 k 0 0 [] := by unfold conQ; rw [if_neg (by rw [show (ackR1 k 0 c []).kind = k from rfl, hm]; decide)]; rfl
      have hr : (if false = true then (if may k c = true then (0 : Int) else 2) else if c = 0 then 0 else 2) = if c = 0 then 0 else 2 := if_neg (by decide)
      rw [if_neg (fun x => by cases x.1), hq, hr]
      by_cases hc : c = 0
      · subst hc
        rw [if_neg (fun x => x rfl), if_pos rfl]
      · have hne : ackR1 k 0 c [] ≠ ackR1 k 0 0 [] := fun x => hc (congrArg Pk.code x)
        rw [if_pos hne, if_neg hc]
    · have hq : conQ v (ackR1 k 0 c []) = ackR1 k 0 c [] := by unfold conQ; rw [show (ackR1 k 0 c []).kind = k from rfl, if_pos hm]; rfl
      rw [hq, if_pos rfl]
      cases hy : may k c
      · rw [if_pos ⟨rfl, rfl⟩, if_neg (by decide)]
      · rw [if_neg (fun x => by cases x.2), if_neg (fun x => x rfl), if_pos rfl]
theorem tailS_R1 (k c : Int) (h0 : 0 ≤ c) (h1 : c < 256) : tailS c [] k = if c = 0 then [] else putL c.toNat 1 := by
  unfold tailS
  rw [if_neg (fun x => x.elim (fun y => by omega) (fun y => y.elim (fun z => by omega) (fun z => by rw [bytesS_none] at z; exact z rfl)))]
  unfold tailL
  by_cases h : c = 0
  · rw [if_pos ⟨h, rfl⟩, if_pos h]
  · rw [if_neg (fun x => h x.1), if_neg h]; rfl

/-- What the two bodies are. -/
theorem con_ways (k c : Int) (hk : 12 ≤ k ∧ k ≤ 15) :
    (k < 14 ∧ c = 0 ∧ conB 5 (ackR1 k 0 c []) = ([], 0) ∧ conB 4 (ackR1 k 0 c []) = ([], 0)) ∨
    (k < 14 ∧ c ≠ 0 ∧ conB 5 (ackR1 k 0 c []) = ([], 2) ∧ conB 4 (ackR1 k 0 c []) = ([], 2)) ∨
    (14 ≤ k ∧ c = 0 ∧ may k c = true ∧ conB 5 (ackR1 k 0 c []) = ([], 0) ∧ conB 4 (ackR1 k 0 c []) = ([], if k = 15 then 8 else 0)) ∨
    (14 ≤ k ∧ c ≠ 0 ∧ may k c = true ∧ ∃ d : UInt8, (d.toNat : Int) = c ∧ conB 5 (ackR1 k 0 c []) = ([d], 0) ∧ conB 4 (ackR1 k 0 c []) = ([], if k = 15 then 8 else 2)) ∨
    (14 ≤ k ∧ c ≠ 0 ∧ may k c = false ∧ conB 5 (ackR1 k 0 c []) = ([], 2) ∧ conB 4 (ackR1 k 0 c []) = ([], if k = 15 then 8 else 2)) := by
  have e5 := conE_R1 5 k c hk (.inr rfl)
  have e4 := conE_R1 4 k c hk (.inl rfl)
  rw [if_neg (fun x => by have := x.2; omega)] at e5
  have m4 : conMay 4 k = false := decide_eq_false (by omega)
  rw [m4] at e4
  have hB : ∀ v x, conE v (ackR1 k 0 c []) = x → x ≠ 0 → conB v (ackR1 k 0 c []) = ([], x) := fun v x hx h0 => by
    unfold conB; rw [hx, if_neg h0]
  have hB0 : ∀ v, conE v (ackR1 k 0 c []) = 0 → conB v (ackR1 k 0 c []) = (tailS c [] k, 0) := fun v hx => by
    unfold conB; rw [hx, if_pos rfl]; rfl
  by_cases h14 : k < 14
  · have m5 : conMay 5 k = false := decide_eq_false (by omega)
    rw [m5] at e5
    rw [if_neg (by omega)] at e4
    by_cases hc : c = 0
    · refine .inl ⟨h14, hc, ?_, ?_⟩
      · rw [hB0 5 (by rw [e5]; simp [hc]), hc, tailS_R1 k 0 (by decide) (by decide)]; rfl
      · rw [hB0 4 (by rw [e4]; simp [hc]), hc, tailS_R1 k 0 (by decide) (by decide)]; rfl
    · refine .inr (.inl ⟨h14, hc, ?_, ?_⟩)
      · exact hB 5 2 (by rw [e5]; simp [hc]) (by decide)
      · exact hB 4 2 (by rw [e4]; simp [hc]) (by decide)
  · have m5 : conMay 5 k = true := decide_eq_true (by omega)
    rw [m5] at e5
    by_cases hc : c = 0
    · have hm : may k c = true := by
        subst hc
        obtain rfl | rfl : k = 14 ∨ k = 15 := by omega
        all_goals decide +kernel
      refine .inr (.inr (.inl ⟨by omega, hc, hm, ?_, ?_⟩))
      · rw [hB0 5 (by rw [e5]; simp [hm]), hc, tailS_R1 k 0 (by decide) (by decide)]; rfl
      · by_cases h15 : k = 15
        · rw [if_pos h15]; exact hB 4 8 (by rw [e4]; simp [h15]) (by decide)
        · rw [if_neg h15, hB0 4 (by rw [e4]; simp [h15, hc]), hc, tailS_R1 k 0 (by decide) (by decide)]; rfl
    · have h4 : conB 4 (ackR1 k 0 c []) = ([], if k = 15 then 8 else 2) := by
        by_cases h15 : k = 15
        · rw [if_pos h15]; exact hB 4 8 (by rw [e4]; simp [h15]) (by decide)
        · rw [if_neg h15]; exact hB 4 2 (by rw [e4]; simp [h15, hc]) (by decide)
      cases hm : may k c
      · exact .inr (.inr (.inr (.inr ⟨by omega, hc, rfl, hB 5 2 (by rw [e5]; simp [hm]) (by decide), h4⟩)))
      · have hr := may_range hm
        obtain ⟨d, hd, hs2⟩ := put_one c hr.1 hr.2
        refine .inr (.inr (.inr (.inl ⟨by omega, hc, rfl, d, hs2, ?_, h4⟩)))
        rw [hB0 5 (by rw [e5]; simp [hm]), tailS_R1 k c hr.1 hr.2, if_neg hc, hd]

theorem conv_one {P : Program} (src dst e : TypeId) (hs : P.underlying src = some (.slice e)) (he : P.underlying e = some (.int .u8)) (hd : P.underlying dst = some .string) (W : World) (a : UInt8) :
    (convert src dst (.slice (some ⟨W.heap.size, 0, none⟩) 1 1)).run P (W.alloc (.cells #[.int .u8 (a.toNat : Int)] e)) = .ok (.string ⟨#[a]⟩) (W.alloc (.cells #[.int .u8 (a.toNat : Int)] e)) := by
  have h := Rd.lit W #[.int .u8 (a.toNat : Int)] e (xs := bys [a]) rfl (Nat.lt_succ_self _) rfl
  exact conv_rd src dst e hs he hd 1 h

end Go.Proofs.YtceniaklabiadaaGreat
