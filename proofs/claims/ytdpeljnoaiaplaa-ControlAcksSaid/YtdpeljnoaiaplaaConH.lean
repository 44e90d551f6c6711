/- The law ControlAcks: its walk. -/
import Derived.Test.YtdpeljnoaiaplaaConG
namespace Go.Proofs.Ytdpeljnoaiaplaa
open Go.RowKit
attribute [local go_sem ↓] to_ldPk to_bxPk to_bdPk to_alPk to_stPk
attribute [local go_sem] run_bxPk run_bxPk_agg ld_fresh run_alPk run_bd0 run_bdK run_bdKI run_bdKIC run_bdKC run_bdKICP run_stPk_fresh pkC_0 pkC_1 pkC_2 pkC_3 pkC_4 pkC_5 pkC_6 pkC_7 pkC_8 pkC_9 pkC_10 pkC_11 pkC_12 pkC_13 pkC_14 pkC_15 pkC_16 pkC_17 pkC_18 pkC_19 pkC_20 pkC_21 pkC_22 pkC_23 pkC_24
theorem ackGood_tail {p : Pk} (g : AckGood 5 p) : tailS p.code p.props p.kind = ackT p := by
  unfold tailS
  rw [if_neg (fun x => x.elim (fun y => by have := g.c1; omega) (fun y => y.elim (fun z => by have := g.c2; omega) (fun z => z g.bytes)))]
  rfl
set_option maxHeartbeats 4000000 in
set_option maxRecDepth 10000 in
theorem controlAcks_any (p : Pk) (h : Hs) (w : World) (ip : PkIn w w.heap.size p h) (ok : PkOk p) :
    Calls Try.prog 8 #[pkV p h] w fun e w' => e = .returned (.bool true) ∧ Below w.heap.size w w' := by
  have OK := Lib.hid ok
  have S0 := Lib.hid ((St.start w).push ip)
  clear ip ok
  go_enter Try.func8, Try.ntmps8
  go_wp2_with fail
  refine (lives12_any _).mono ?_
  rintro e w1 ⟨rfl, hb⟩
  have S1 := Lib.hid (S0.out.below hb); clear hb
  have hl := S1.out.ld 0 rfl
  go_wp2_with fail
  refine (lightK_any p h _ (S1.out.into 0 rfl) OK.out).mono ?_
  rintro e w2 ⟨rfl, hb⟩
  have S2 := Lib.hid (S1.out.below hb); clear hb hl
  cases hL : lightK p
  · go_wp2
    go_ret
    exact ⟨rfl, S2.out.kept⟩
  clear hL
  have hl := S2.out.ld 0 rfl
  go_wp2_with fail
  refine (ackBody_any 5 p h _ (S2.out.into 0 rfl) OK.out).mono ?_
  rintro e w3 ⟨rfl, hb⟩
  have S3 := Lib.hid (S2.out.below hb); clear hb hl
  by_cases hE : ackE 5 p = 0
  · have G := ackE_good hE
    have hB : ackB 5 p = (putL p.id.toNat 2 ++ ackT p, 0) := by unfold ackB; rw [if_pos hE]
    rw [hB]
    simp only
    obtain ⟨X, hX⟩ : ∃ X : ByteArray, (⟨(putL p.id.toNat 2 ++ ackT p).toArray⟩ : ByteArray) = X := ⟨_, rfl⟩
    have hXE : (⟨(tailS p.code p.props p.kind).toArray⟩ : ByteArray) = X.extract 2 X.size := by
      apply ls_ext
      rw [rest_ls, ← hX, ls_mk, ls_mk, ackGood_tail G, List.drop_left' (putL_len _ _)]
    have hXS : X.size = 2 + (ackT p).length := by rw [← hX, mk_size, List.length_append, putL_len]
    have i1 : (2 : Int) ≤ (X.size : Int) := by omega
    rw [hX]
    have c1 := regrown (W := w3) (fun x hx => tailS_any p.code p.kind p.props _ rfl OK.out.props h.props.a h.props.c x ((S3.out.into 0 rfl).next hx).props OK.out.len.2.2.2)
    rw [hXE] at c1
    have k1 := bk_regrown (S3.out.bk 0 rfl)
    have HBQ := Lib.hid (fun d os => S3.out.kept.trans ((below_regrown w3 d os).mono S3.out.kept.size))
    clear G hB hX hXE hXS hE
    go_wp2_with fail
    refine wp_region_quiet_below (by as_aux_lemma => kernel_rfl) (by as_aux_lemma => kernel_rfl) ?_
    repeat (go_big_quiet_step (first | with_reducible exact c1 _ _))
    refine wpQuiet_nil ?_
    intro _ hw'
    obtain ⟨⟨dq, osq⟩, hw''⟩ := hw'
    subst hw''
    have KF := Lib.hid (HBQ.out dq osq)
    clear k1 c1 HBQ
    generalize Sort.grow (redrawn _ dq) osq = wq at *
    go_wp2
    go_ret
    exact ⟨rfl, KF.out⟩
  · have hB : ackB 5 p = ([], ackE 5 p) := by unfold ackB; rw [if_neg hE]
    rw [hB]
    have hl := S3.out.ld 0 rfl
    have e0 : (ackE 5 p != 0) = true := bne_iff_ne.2 hE
    have e1 : (ackE 5 p == ackE 5 p) = true := beq_iff_eq.2 rfl
    clear hB hE
    simp only
    go_wp2_with fail
    refine (ackValid_any 5 p h _ (S3.out.into 0 rfl) OK.out).mono ?_
    rintro e w4 ⟨rfl, hb⟩
    have S4 := Lib.hid (S3.out.below hb); clear hb hl
    go_wp2
    go_ret
    exact ⟨rfl, S4.out.kept⟩
end Go.Proofs.Ytdpeljnoaiaplaa
