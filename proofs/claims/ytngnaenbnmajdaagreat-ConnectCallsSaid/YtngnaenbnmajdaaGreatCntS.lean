/- The law ConnectBack: the walk. -/
import Derived.Test.YtngnaenbnmajdaaGreatCntR
import Derived.Test.YtngnaenbnmajdaaGreatCntH
namespace Go.Proofs.YtngnaenbnmajdaaGreat
open Go.RowKit
attribute [local go_sem ↓] to_ldPk to_bxPk to_bdPk to_alPk to_stPk
attribute [local go_sem] run_bxPk run_bxPk_agg ld_fresh run_alPk run_bd0 run_bdK run_bdKI run_bdKIC run_bdKC run_bdKICP run_stPk_fresh pkC_0 pkC_1 pkC_2 pkC_3 pkC_4 pkC_5 pkC_6 pkC_7 pkC_8 pkC_9 pkC_10 pkC_11 pkC_12 pkC_13 pkC_14 pkC_15 pkC_16 pkC_17 pkC_18 pkC_19 pkC_20 pkC_21 pkC_22 pkC_23 pkC_24

/-! ### Sizes of bodies -/
theorem ackS8_size (v : Int) (p : Pk) : (ackS8 v p).size ≤ 131075010 ∧ 2 ≤ (ackS8 v p).size := by
  unfold ackS8
  rw [catL_size]
  simp only [List.map, List.sum_cons, List.sum_nil]
  have h1 := tail8_size v p.kind p.props
  have h2 : (⟨(putL p.code.toNat 1).toArray⟩ : ByteArray).size = 1 := by rw [mk_size, putL_len]
  have h3 : (⟨#[if p.session = true then (1 : UInt8) else 0]⟩ : ByteArray).size = 1 := rfl
  omega
theorem cntS_size (v : Int) (p : Pk) : (cntS v p).size ≤ 600000000 ∧ 6 ≤ (cntS v p).size := by
  have h1 : (cntS1 v p).size ≤ 131140700 ∧ 6 ≤ (cntS1 v p).size := by
    unfold cntS1
    rw [catL_size]
    simp only [List.map, List.sum_cons, List.sum_nil]
    have h1 := tail8_size v p.kind p.props
    have h2 : (⟨(putL v.toNat 1).toArray⟩ : ByteArray).size = 1 := by rw [mk_size, putL_len]
    have h3 : (⟨(putL (flN p).toNat 1).toArray⟩ : ByteArray).size = 1 := by rw [mk_size, putL_len]
    have h4 : (⟨(putL p.alive.toNat 2).toArray⟩ : ByteArray).size = 2 := by rw [mk_size, putL_len]
    have h5 := dataB_size p.client
    have h6 : cntName.size = 6 := rfl
    omega
  have h2 : (cntS2 v p).size ≤ 262346900 ∧ 6 ≤ (cntS2 v p).size := by
    unfold cntS2
    split
    · rw [catL_size]
      simp only [List.map, List.sum_cons, List.sum_nil]
      have h3 := tail8_size v 16 p.will.props
      have h5 := dataB_size p.will.topic
      have h6 := dataB_size p.will.payload
      omega
    · omega
  have h3 : (cntS3 v p).size ≤ 262446900 ∧ 6 ≤ (cntS3 v p).size := by
    unfold cntS3
    split
    · rw [catL_size]
      simp only [List.map, List.sum_cons, List.sum_nil]
      have h5 := dataB_size p.user
      omega
    · omega
  unfold cntS
  split
  · rw [catL_size]
    simp only [List.map, List.sum_cons, List.sum_nil]
    have h5 := dataB_size p.pass
    omega
  · omega
theorem cntB_size {v : Int} {p : Pk} (x : cntE v p = 0) : (cntB v p).1.size ≤ 600000000 ∧ 2 ≤ (cntB v p).1.size := by
  rw [cntB_zero x]
  have h1 := ackS8_size v p
  have h2 := cntS_size v p
  simp only
  split <;> omega
theorem cntB_bad {v : Int} {p : Pk} (x : cntE v p ≠ 0) : cntB v p = (⟨#[]⟩, cntE v p) := by
  unfold cntB cntB2
  rw [if_neg x, if_neg x]
  split <;> rfl
theorem pickN_lt (n : Int) {m : Int} (h : 1 ≤ m) : 0 ≤ pickN n m ∧ pickN n m < m := by
  unfold pickN
  rw [if_neg (by omega)]
  exact ⟨Int.emod_nonneg _ (by omega), Int.emod_lt_of_pos _ (by omega)⟩
theorem SR.of {gp : Nat} {v : Value} {W y : World} (hk : W.cell? ⟨gp, 0, none⟩ = some v) (hb : Below W.heap.size W y) : SR gp v W y := ⟨(hb.cell (p := ⟨gp, 0, none⟩) (World.block_lt_of_cell? _ _ hk)).trans hk, hb⟩
theorem example_cnt' : cntB2 4 { pk0 with kind := 2, code := 5 } = (⟨#[0, 5]⟩, 0) := by decide +kernel
set_option maxHeartbeats 1000000 in
set_option maxRecDepth 10000 in
theorem lives08_any (w : World) :
    Calls Tryz.prog 4 #[] w fun e w' => e = .returned (.bool true) ∧ Below w.heap.size w w' := by
  go_enter Tryz.func4, Tryz.ntmps4
  go_wp2_with fail
  refine (cntBody2_any 4 { pk0 with kind := 2, code := 5 } hs0 _ (PkIn.zero _ _ 2 0 5) (PkOk.zero 2 0 5) rfl).mono ?_
  rintro e w1 ⟨rfl, hb⟩
  have HB := Lib.hid hb; clear hb
  rw [example_cnt']
  go_wp2
  go_ret
  exact ⟨rfl, HB.out⟩
end Go.Proofs.YtngnaenbnmajdaaGreat
