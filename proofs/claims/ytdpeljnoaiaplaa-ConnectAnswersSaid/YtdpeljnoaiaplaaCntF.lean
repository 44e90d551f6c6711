/- The law ConnectAnswers: its walk. -/
import Derived.Test.YtdpeljnoaiaplaaCntE
namespace Go.Proofs.Ytdpeljnoaiaplaa
open Go.RowKit
attribute [local go_sem ↓] to_ldPk to_bxPk to_bdPk to_alPk to_stPk
attribute [local go_sem] run_bxPk run_bxPk_agg ld_fresh run_alPk run_bd0 run_bdK run_bdKI run_bdKIC run_bdKC run_bdKICP run_stPk_fresh pkC_0 pkC_1 pkC_2 pkC_3 pkC_4 pkC_5 pkC_6 pkC_7 pkC_8 pkC_9 pkC_10 pkC_11 pkC_12 pkC_13 pkC_14 pkC_15 pkC_16 pkC_17 pkC_18 pkC_19 pkC_20 pkC_21 pkC_22 pkC_23 pkC_24
set_option maxHeartbeats 1000000 in
set_option maxRecDepth 10000 in
theorem lives8_any (w : World) :
    Calls Try.prog 30 #[] w fun e w' => e = .returned (.bool true) ∧ Below w.heap.size w w' := by
  go_enter Try.func30, Try.ntmps30
  go_wp2_with fail
  refine (cntBody2_any 4 (ansP false 5) hs0 _ (ansP_in _ _ _ _) (ansP_ok _ _) rfl).mono ?_
  rintro e w1 ⟨rfl, hb⟩
  have HB := Lib.hid hb; clear hb
  rw [example_cnt]
  go_wp2
  go_ret
  exact ⟨rfl, HB.out⟩
theorem cut2 (a : UInt8) : (⟨#[a, 0, 0]⟩ : ByteArray).extract 0 2 = ⟨#[a, 0]⟩ := by
  apply ls_ext
  have := extract_ls (⟨#[a, 0, 0]⟩ : ByteArray) 0 2
  rw [show (0 + 2 : Nat) = 2 from rfl] at this
  rw [this]
  rfl
set_option maxHeartbeats 4000000 in
set_option maxRecDepth 10000 in
theorem connectAnswers_any (s : Bool) (c : Int) (w : World) :
    Calls Try.prog 9 #[.bool s, .int .i64 c] w fun e w' => e = .returned (.bool true) ∧ Below w.heap.size w w' := by
  have hbd := run_bdAns
  have S0 := Lib.hid (St.start w)
  go_enter Try.func9, Try.ntmps9
  go_wp2_with fail
  refine (lives8_any _).mono ?_
  rintro e w1 ⟨rfl, hb⟩
  have S1 := Lib.hid (S0.out.below hb); clear hb
  have S2 : Hid (St w [(w1.heap.size, ansP s c, hs0)] (w1.alloc (.cells (pkC (ansP s c) hs0) PkT))) := Lib.hid (S1.out.push (ansP_in _ _ _ _))
  have hl := S2.out.ld 0 rfl
  go_wp2_with fail
  refine (cntBody2_any 4 (ansP s c) hs0 _ (ansP_in _ _ _ _) (ansP_ok _ _) rfl).mono ?_
  rintro e w2 ⟨rfl, hb⟩
  have S3 := Lib.hid (S2.out.below hb); clear hb hl
  have hl := S3.out.ld 0 rfl
  go_wp2_with fail
  refine (cntBody2_any 5 (ansP s c) hs0 _ (ansP_in _ _ _ _) (ansP_ok _ _) rfl).mono ?_
  rintro e w3 ⟨rfl, hb⟩
  have S4 := Lib.hid (S3.out.below hb); clear hb hl
  rcases ans_ways s c with ⟨hc, a, hA, hB⟩ | ⟨hc, hs, E, F, hA, hE, hB, hF⟩ | ⟨hc, hs, h0, h5, ⟨d, hA⟩, F, hB, hF⟩ | ⟨hc, hs, h05, ⟨E, hA, hE⟩, ⟨d, hB⟩ | ⟨F, hB, hF⟩⟩
  all_goals
    rw [hA, hB]
    clear hA hB
    simp only
  · subst hc
    have r2 : (⟨#[a, 0, 0]⟩ : ByteArray)[2]'(Nat.lt_succ_self 2) = 0 := rfl
    have hx := cut2 a
    cases s
    · go_wp2
      go_ret
      exact ⟨rfl, S4.out.kept⟩
    · go_wp2
      go_ret
      exact ⟨rfl, S4.out.kept⟩
  · subst hs
    have e1 : (E == 0) = false := beq_eq_false_iff_ne.2 hE
    have e2 : (F == 0) = false := beq_eq_false_iff_ne.2 hF
    have e3 : (c == 0) = false := beq_eq_false_iff_ne.2 hc
    have e4 : (c != 0) = true := bne_iff_ne.2 hc
    by_cases h0 : 0 ≤ c
    · by_cases h5 : c ≤ 5
      · clear hE hF hc
        go_wp2
        go_ret
        exact ⟨rfl, S4.out.kept⟩
      · have h5' : 5 < c := by omega
        clear hE hF hc h5
        go_wp2
        go_ret
        exact ⟨rfl, S4.out.kept⟩
    · have h0' : c < 0 := by omega
      clear hE hF hc h0
      go_wp2
      go_ret
      exact ⟨rfl, S4.out.kept⟩
  · subst hs
    have e2 : (F == 0) = false := beq_eq_false_iff_ne.2 hF
    have e3 : (c == 0) = false := beq_eq_false_iff_ne.2 hc
    have e4 : (c != 0) = true := bne_iff_ne.2 hc
    clear hF hc
    go_wp2
    go_ret
    exact ⟨rfl, S4.out.kept⟩
  · subst hs
    have e1 : (E == 0) = false := beq_eq_false_iff_ne.2 hE
    have e3 : (c == 0) = false := beq_eq_false_iff_ne.2 hc
    have e4 : (c != 0) = true := bne_iff_ne.2 hc
    have r2 : (⟨#[0, d, 0]⟩ : ByteArray)[2]'(Nat.lt_succ_self 2) = 0 := rfl
    by_cases h0 : 0 ≤ c
    · have h5' : 5 < c := by omega
      clear hE hc h05
      go_wp2
      go_ret
      exact ⟨rfl, S4.out.kept⟩
    · have h0' : c < 0 := by omega
      clear hE hc h05 h0
      go_wp2
      go_ret
      exact ⟨rfl, S4.out.kept⟩
  · subst hs
    have e1 : (E == 0) = false := beq_eq_false_iff_ne.2 hE
    have e2 : (F == 0) = false := beq_eq_false_iff_ne.2 hF
    have e3 : (c == 0) = false := beq_eq_false_iff_ne.2 hc
    have e4 : (c != 0) = true := bne_iff_ne.2 hc
    by_cases h0 : 0 ≤ c
    · have h5' : 5 < c := by omega
      clear hE hF hc h05
      go_wp2
      go_ret
      exact ⟨rfl, S4.out.kept⟩
    · have h0' : c < 0 := by omega
      clear hE hF hc h05 h0
      go_wp2
      go_ret
      exact ⟨rfl, S4.out.kept⟩
end Go.Proofs.Ytdpeljnoaiaplaa
