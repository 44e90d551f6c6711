/- The law ConnectAnswers. -/
import Derived.Test.YtdpeljnoaiaplaaCntD
import Derived.Test.YtdpeljnoaiaplaaPubD
namespace Go.Proofs.Ytdpeljnoaiaplaa
open Go.RowKit
attribute [local go_sem ↓] to_ldPk to_bxPk to_bdPk to_alPk to_stPk
attribute [local go_sem] run_bxPk run_bxPk_agg ld_fresh run_alPk run_bd0 run_bdK run_bdKI run_bdKIC run_bdKC run_bdKICP run_stPk_fresh pkC_0 pkC_1 pkC_2 pkC_3 pkC_4 pkC_5 pkC_6 pkC_7 pkC_8 pkC_9 pkC_10 pkC_11 pkC_12 pkC_13 pkC_14 pkC_15 pkC_16 pkC_17 pkC_18 pkC_19 pkC_20 pkC_21 pkC_22 pkC_23 pkC_24
def ansP (s : Bool) (c : Int) : Pk := { pk0 with kind := 2, session := s, code := c }
theorem run_bdAns (s : Bool) (c : Int) (w : World) : (bdPk #[(0, .int .i64 2), (16, .bool s), (17, .int .i64 c)]).run Try.prog w = .ok (pkV (ansP s c) hs0) w := by kernel_rfl
theorem ansP_in (s : Bool) (c : Int) (w : World) (B : Nat) : PkIn w B (ansP s c) hs0 := flat_in rfl rfl rfl rfl w B
theorem ansP_ok (s : Bool) (c : Int) : PkOk (ansP s c) := by
  refine ⟨?_, ?_, ?_, ?_, ?_⟩
  · intro r hr; cases hr
  · intro r hr; cases hr
  · intro r hr; cases hr
  · exact ⟨Nat.zero_le _, Nat.zero_le _, Nat.zero_le _, Nat.zero_le _, Nat.zero_le _, Nat.zero_le _, Nat.zero_le _⟩
  · exact ⟨Nat.zero_le _, Nat.zero_le _, Nat.zero_le _, Nat.zero_le _⟩
theorem example_cnt : cntB2 4 (ansP false 5) = (⟨#[0, 5]⟩, 0) := by decide +kernel
theorem ansP_E (v : Int) (s : Bool) (c : Int) (hv : v = 4 ∨ v = 5) : cntE v (ansP s c) = if (if v = 4 then retB c else may 2 c) = true ∧ (c = 0 ∨ s = false) then 0 else 2 := by
  have hk : hdKnown v = true := decide_eq_true hv
  have ho : cntOurs (ansP s c).kind = true := rfl
  have hq : ansP s c = cntQ (ansP s c) := rfl
  have hr : cntRng v (ansP s c) = ((if v = 4 then retB c else may 2 c) && (decide (c = 0) || !s)) := by
    unfold cntRng
    rw [if_neg (fun y => by have := y.2; simp [ansP, pk0, wl0] at this), if_pos (show (ansP s c).kind = 2 from rfl)]
    rfl
  have ha : cntArg v (ansP s c) = ((if v = 4 then retB c else may 2 c) && (decide (c = 0) || !s)) := by
    unfold cntArg
    rw [hk, ho, decide_eq_true hq, hr]
    simp
  by_cases h : (if v = 4 then retB c else may 2 c) = true ∧ (c = 0 ∨ s = false)
  · rw [if_pos h]
    have h1 : cntArg v (ansP s c) = true := by
      rw [ha, h.1, Bool.true_and]
      rcases h.2 with h2 | h2
      · rw [decide_eq_true h2]; rfl
      · rw [h2]; simp
    have e1 : validB (ansP s c).client = true := valid_empty
    have e2 : validB (ansP s c).user = true := valid_empty
    have e3 : (bytesS (ansP s c).kind (ansP s c).props).2 = 0 := by rw [show (ansP s c).props = [] from rfl, bytesS_none]
    have e4 : (bytesS 16 (ansP s c).will.props).2 = 0 := by rw [show (ansP s c).will.props = [] from rfl, bytesS_none]
    unfold cntE
    rw [if_neg (by rw [h1]; decide), if_neg (fun y => y.elim (fun z => by rw [e1] at z; cases z) (fun z => by rw [e2] at z; cases z)), if_neg (fun y => by cases y.1), if_neg (fun y => y.elim (fun z => Nat.not_lt_zero 65535 z) (fun z => Nat.not_lt_zero 65535 z)), if_neg (fun y => y e3)]
    exact e4
  · rw [if_neg h]
    have h1 : cntArg v (ansP s c) = false := by
      rw [ha]
      cases e : (if v = 4 then retB c else may 2 c)
      · rfl
      · rw [Bool.true_and]
        have h2 : ¬ (c = 0 ∨ s = false) := fun y => h ⟨e, y⟩
        rw [decide_eq_false (fun y => h2 (.inl y)), Bool.false_or]
        cases s
        · exact absurd (.inr rfl) h2
        · rfl
    unfold cntE
    rw [if_pos h1]
theorem may2_low (c : Int) : may 2 c = true → c = 0 ∨ 128 ≤ c := by
  intro h
  have hr := may_range h
  by_cases h0 : c = 0
  · exact .inl h0
  · refine .inr (Int.not_lt.1 fun hl => ?_)
    obtain ⟨n, rfl⟩ := Int.eq_ofNat_of_zero_le hr.1
    have : ∀ n : Fin 128, n.1 ≠ 0 → may 2 (n.1 : Int) = false := by decide +kernel
    have h2 := this ⟨n, by omega⟩ (by simp only; omega)
    simp only at h2
    have h3 : may 2 (n : Int) = true := h
    rw [h2] at h3
    cases h3
/-- What the two bodies are. -/
theorem ans_ways (s : Bool) (c : Int) :
    (c = 0 ∧ ∃ a : UInt8, cntB2 4 (ansP s c) = (⟨#[a, 0]⟩, 0) ∧ cntB2 5 (ansP s c) = (⟨#[a, 0, 0]⟩, 0)) ∨
    (c ≠ 0 ∧ s = true ∧ ∃ E F, cntB2 4 (ansP s c) = (⟨#[]⟩, E) ∧ E ≠ 0 ∧ cntB2 5 (ansP s c) = (⟨#[]⟩, F) ∧ F ≠ 0) ∨
    (c ≠ 0 ∧ s = false ∧ 0 ≤ c ∧ c ≤ 5 ∧ (∃ d : UInt8, cntB2 4 (ansP s c) = (⟨#[0, d]⟩, 0)) ∧ ∃ F, cntB2 5 (ansP s c) = (⟨#[]⟩, F) ∧ F ≠ 0) ∨
    (c ≠ 0 ∧ s = false ∧ ¬ (0 ≤ c ∧ c ≤ 5) ∧ (∃ E, cntB2 4 (ansP s c) = (⟨#[]⟩, E) ∧ E ≠ 0) ∧ ((∃ d : UInt8, cntB2 5 (ansP s c) = (⟨#[0, d, 0]⟩, 0)) ∨ ∃ F, cntB2 5 (ansP s c) = (⟨#[]⟩, F) ∧ F ≠ 0)) := by
  have e4 := ansP_E 4 s c (.inl rfl)
  have e5 := ansP_E 5 s c (.inr rfl)
  rw [if_pos rfl] at e4
  rw [if_neg (by decide : ¬ (5 : Int) = 4)] at e5
  have hbad : ∀ v, cntE v (ansP s c) = 2 → ∃ E, cntB2 v (ansP s c) = (⟨#[]⟩, E) ∧ E ≠ 0 := fun v h => ⟨2, by unfold cntB2; rw [h, if_neg (by decide)], by decide⟩
  have hgood : ∀ v, cntE v (ansP s c) = 0 → cntB2 v (ansP s c) = (ackS8 v (ansP s c), 0) := fun v h => by unfold cntB2; rw [if_pos h]
  have t4 : tail8 4 (ansP s c).kind (ansP s c).props = ⟨#[]⟩ := rfl
  have t5 : tail8 5 (ansP s c).kind (ansP s c).props = ⟨#[0]⟩ := by
    unfold tail8
    rw [if_neg (by decide), show (ansP s c).props = [] from rfl, bytesS_none]
  by_cases hc : c = 0
  · refine .inl ⟨hc, if s = true then 1 else 0, ?_, ?_⟩
    · have hr : retB c = true := by rw [hc]; rfl
      rw [if_pos ⟨hr, .inl hc⟩] at e4
      rw [hgood 4 e4]
      unfold ackS8
      rw [t4, show (ansP s c).code = c from rfl, hc]
      cases s <;> rfl
    · have hr : may 2 c = true := by rw [hc]; decide +kernel
      rw [if_pos ⟨hr, .inl hc⟩] at e5
      rw [hgood 5 e5]
      unfold ackS8
      rw [t5, show (ansP s c).code = c from rfl, hc]
      cases s <;> rfl
  · cases s
    · by_cases h5 : 0 ≤ c ∧ c ≤ 5
      · have hr : retB c = true := by unfold retB; rw [decide_eq_true h5.1, decide_eq_true h5.2]; rfl
        have hm : ¬ may 2 c = true := fun y => by rcases may2_low c y with z | z <;> omega
        rw [if_pos ⟨hr, .inr rfl⟩] at e4
        rw [if_neg (fun y => hm y.1)] at e5
        obtain ⟨d, hd, _⟩ := put_one c h5.1 (by omega)
        refine .inr (.inr (.inl ⟨hc, rfl, h5.1, h5.2, ⟨d, ?_⟩, hbad 5 e5⟩))
        rw [hgood 4 e4]
        unfold ackS8
        rw [t4, show (ansP false c).code = c from rfl, hd]
        rfl
      · have hr : ¬ retB c = true := fun y => h5 (by unfold retB at y; simpa using y)
        rw [if_neg (fun y => hr y.1)] at e4
        refine .inr (.inr (.inr ⟨hc, rfl, h5, hbad 4 e4, ?_⟩))
        by_cases hm : may 2 c = true
        · rw [if_pos ⟨hm, .inr rfl⟩] at e5
          have hmr := may_range hm
          obtain ⟨d, hd, _⟩ := put_one c hmr.1 hmr.2
          refine .inl ⟨d, ?_⟩
          rw [hgood 5 e5]
          unfold ackS8
          rw [t5, show (ansP false c).code = c from rfl, hd]
          rfl
        · rw [if_neg (fun y => hm y.1)] at e5
          exact .inr (hbad 5 e5)
    · have hn : ¬ (c = 0 ∨ true = false) := fun y => y.elim hc (fun z => by cases z)
      rw [if_neg (fun y => hn y.2)] at e4 e5
      obtain ⟨E, hE, hE0⟩ := hbad 4 e4
      obtain ⟨F, hF, hF0⟩ := hbad 5 e5
      exact .inr (.inl ⟨hc, rfl, E, F, hE, hE0, hF, hF0⟩)
end Go.Proofs.Ytdpeljnoaiaplaa
