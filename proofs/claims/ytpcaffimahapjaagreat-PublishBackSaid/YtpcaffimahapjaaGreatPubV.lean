/- publish: what is written is read back, whatever payload follows (plain). -/
import Derived.Test.YtpcaffimahapjaaGreatPubT
namespace Go.Proofs.YtpcaffimahapjaaGreat
open Go.RowKit
theorem drop_two {l r : List UInt8} {n : Nat} (h : l.length = n) : (l ++ r).drop n = r := by
  rw [← h, List.drop_left]
theorem pubS2_ls (v : Int) (p : Pk) (y : ByteArray) : ls (pubS2 v p ++ y) = (putL p.topic.size 2 ++ ls p.topic) ++ ((if p.qos ≠ 0 then putL p.id.toNat 2 else []) ++ ((if v = 5 then (bytesS p.kind p.props).1 else []) ++ ls y)) := by
  unfold pubS2 pubS1 framedS
  by_cases h5 : v = 5 <;> by_cases h0 : p.qos ≠ 0
  · rw [if_pos h5, if_pos h0, if_pos h0, if_pos h5]; simp only [ls_app, ls_mk, List.append_assoc]
  · rw [if_pos h5, if_neg h0, if_neg h0, if_pos h5]; simp only [ls_app, ls_mk, List.append_assoc, List.nil_append]
  · rw [if_neg h5, if_pos h0, if_pos h0, if_neg h5]; simp only [ls_app, ls_mk, List.append_assoc, List.nil_append]
  · rw [if_neg h5, if_neg h0, if_neg h0, if_neg h5]; simp only [ls_app, ls_mk, List.append_assoc, List.nil_append]
theorem pubS2_framed (v : Int) (p : Pk) (y : ByteArray) : pubS2 v p ++ y = framedS p.topic ++ ⟨((if p.qos ≠ 0 then putL p.id.toNat 2 else []) ++ ((if v = 5 then (bytesS p.kind p.props).1 else []) ++ ls y)).toArray⟩ := ls_ext (by
  rw [pubS2_ls]
  generalize (if p.qos ≠ 0 then putL p.id.toNat 2 else []) ++ ((if v = 5 then (bytesS p.kind p.props).1 else []) ++ ls y) = C
  rw [ls_framed, ls_mk C, List.append_assoc])
theorem pubR_body {v : Int} {p : Pk} (x : pubE v p = 0) (hn : ∀ q ∈ p.props, q.n < 4294967296) (y : ByteArray) : pubR v (flagsP p) (pubS2 v p ++ y) = ({ p with payload := y }, 0) := by
  have g := pubE_good x
  obtain ⟨f1, f2, f3, f4⟩ := flags_good g.flags
  have hts : p.topic.size < 65536 := by
    have := g.topic
    unfold validB at this
    simp only [Bool.and_eq_true, decide_eq_true_eq] at this
    omega
  have hU : readU (pubS2 v p ++ y) = (p.topic, 2 + p.topic.size, 0) := by rw [pubS2_framed]; exact readU_framed _ _ hts g.topic
  have hk : hdKnown v = true := decide_eq_true g.k
  have hl := pubS2_ls v p y
  have hA : (putL p.topic.size 2 ++ ls p.topic).length = 2 + p.topic.size := by rw [List.length_append, putL_len, ls_len]
  have hsz : (pubS2 v p ++ y).size = 2 + p.topic.size + ((if p.qos ≠ 0 then putL p.id.toNat 2 else []).length + ((if v = 5 then (bytesS p.kind p.props).1 else []).length + y.size)) := by
    rw [← ls_len, hl, List.length_append, hA, List.length_append, List.length_append, ls_len]
  have hAt : pubAt (flagsP p) (pubS2 v p ++ y) = 2 + p.topic.size + (if p.qos ≠ 0 then putL p.id.toNat 2 else []).length := by
    unfold pubAt
    rw [hU, f3]
    by_cases h0 : p.qos ≠ 0
    · rw [if_pos h0, if_pos h0, putL_len]
    · rw [if_neg h0, if_neg h0]; rfl
  have hI : pubId (flagsP p) (pubS2 v p ++ y) = p.id := by
    unfold pubId
    rw [hU, f3]
    by_cases h0 : p.qos ≠ 0
    · have := g.id1 h0
      rw [if_pos h0, extract_ls, hl, drop_two hA, if_pos h0, List.take_append_of_le_length (by rw [putL_len]; exact Nat.le_refl 2), List.take_of_length_le (by rw [putL_len]; exact Nat.le_refl 2), get_put2 _ (by omega)]
      omega
    · rw [if_neg h0]
      exact (g.id0 (Decidable.not_not.1 h0)).symm
  have hdrop : (ls (pubS2 v p ++ y)).drop (pubAt (flagsP p) (pubS2 v p ++ y)) = (if v = 5 then (bytesS p.kind p.props).1 else []) ++ ls y := by
    rw [hAt, ← List.drop_drop, hl, drop_two hA, drop_two rfl]
  have hP : pubPr v (flagsP p) (pubS2 v p ++ y) = (p.props, (if v = 5 then (bytesS p.kind p.props).1 else []).length, 0) := by
    unfold pubPr
    by_cases h5 : v = 5
    · rw [if_pos h5] at hdrop ⊢
      rw [if_pos h5]
      rw [g.kind] at hdrop ⊢
      exact readP_front g.bytes hn (rest := ls y) (by rw [rest_ls]; exact hdrop)
    · rw [if_neg h5, if_neg h5, g.old (g.k.resolve_right h5)]; rfl
  have hY : (pubS2 v p ++ y).extract (pubAt (flagsP p) (pubS2 v p ++ y) + (if v = 5 then (bytesS p.kind p.props).1 else []).length) (pubS2 v p ++ y).size = y := ls_ext (by
    rw [rest_ls, ← List.drop_drop, hdrop, drop_two rfl])
  have hFull : pubFull v (flagsP p) (pubS2 v p ++ y) = { p with payload := y } := by
    unfold pubFull
    rw [hU, hI, hP]
    simp only
    rw [hY]
    unfold rdPub
    rw [f2, f3, f4]
    have e := congrArg (fun q : Pk => { q with payload := y }) g.same
    refine Eq.trans ?_ e.symm
    unfold pubQ
    rw [g.kind]
  have hE : pubE v (pubFull v (flagsP p) (pubS2 v p ++ y)) = 0 := by rw [hFull, pubE_pay]; exact x
  unfold pubR
  rw [if_neg (fun z => by rw [hk] at z; cases z), if_neg (fun z => z (by unfold hdCheck3; rw [if_neg (fun z => by rw [hk] at z; cases z), if_neg (fun z => by rw [f1] at z; cases z)])), hU, if_neg (fun z => z rfl), f3, if_neg, hP, if_neg (fun z => z rfl), hE, if_neg (fun z => z rfl), hFull]
  rintro ⟨h0, h⟩
  rw [hsz, if_pos h0, putL_len] at h
  simp only at h
  omega
end Go.Proofs.YtpcaffimahapjaaGreat
