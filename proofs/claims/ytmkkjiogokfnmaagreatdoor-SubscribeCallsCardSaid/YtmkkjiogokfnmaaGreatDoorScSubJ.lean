/- The law SubscribeBack: its walk. -/
import Derived.Test.YtmkkjiogokfnmaaGreatDoorScMSubG
import Derived.Test.YtmkkjiogokfnmaaGreatDoorScOwnK
namespace Go.Proofs.YtmkkjiogokfnmaaGreatDoor
open Go.RowKit
attribute [local go_sem ↓] to_ldPk to_bxPk to_bdPk to_alPk to_stPk
attribute [local go_sem] run_bxPk run_bxPk_agg ld_fresh run_alPk run_bd0 run_bdK run_bdKI run_bdKIC run_bdKC run_bdKICP run_stPk_fresh pkC_0 pkC_1 pkC_2 pkC_3 pkC_4 pkC_5 pkC_6 pkC_7 pkC_8 pkC_9 pkC_10 pkC_11 pkC_12 pkC_13 pkC_14 pkC_15 pkC_16 pkC_17 pkC_18 pkC_19 pkC_20 pkC_21 pkC_22 pkC_23 pkC_24
theorem fi_size (k : Int) : ∀ l : List Fi, (l.flatMap (fiL k)).length ≤ ft l + 3 * l.length
  | [] => Nat.le_refl _
  | f :: l => by
    have h := fi_size k l
    have h1 : (fiL k f).length ≤ f.topic.size + 3 := by
      unfold fiL
      rw [List.length_append, ls_len, framedS_size]
      split
      · simp
      · simp
    have h2 : ft (f :: l) = f.topic.size + ft l := by unfold ft; simp
    rw [List.flatMap_cons, List.length_append, List.length_cons, h2]
    omega
theorem tail8L_size (v k : Int) (l : List Pr) : (tailL8 v k l).length ≤ 131075004 := by
  unfold tailL8
  split
  · simp
  · by_cases h : (bytesS k l).2 = 0
    · exact (bytesS_size k l h).2
    · rw [bytesS_bad k l h]; simp
theorem light_size (v : Int) {p : Pk} (h : lightK p = true) : (sbS v p).length ≤ 132000000 := by
  have hl := light_lens h
  unfold lightK at h
  simp only [Bool.and_eq_true, decide_eq_true_eq] at h
  have h1 := fi_size p.kind p.filters
  have h2 := tail8L_size v p.kind p.props
  unfold sbS sbHead cdL
  simp only [List.length_append, List.length_map, putL_len]
  omega
theorem sbR_ok {v k : Int} {s : ByteArray} (hs : s.size ≤ 140737488351000) : PkOk (sbR v k s).1 := by
  have h0 : PkOk pk0 := pkOk_R1 (k := 0) (i := 0) (c := 0) (l := []) (by simp) (by simp)
  unfold sbR
  split
  · exact h0
  · split
    · exact h0
    · split
      · exact h0
      · exact sbFull_ok hs
end Go.Proofs.YtmkkjiogokfnmaaGreatDoor

