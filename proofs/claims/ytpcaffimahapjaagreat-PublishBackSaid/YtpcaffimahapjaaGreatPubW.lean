/- publish: what Read takes Body writes (plain). -/
import Derived.Test.YtpcaffimahapjaaGreatPubV
namespace Go.Proofs.YtpcaffimahapjaaGreat
open Go.RowKit
theorem pubR_ok {v f : Int} {s : ByteArray} {q : Pk} (h : pubR v f s = (q, 0)) : hdKnown v = true ∧ hdCheck3 v f = 0 ∧ (readU s).2.2 = 0 ∧ ¬ (f / 2 % 4 ≠ 0 ∧ s.size < (readU s).2.1 + 2) ∧ (pubPr v f s).2.2 = 0 ∧ pubE v (pubFull v f s) = 0 ∧ q = pubFull v f s := by
  unfold pubR at h
  by_cases h1 : hdKnown v = false
  · rw [if_pos h1] at h; cases h
  rw [if_neg h1] at h
  by_cases h2 : hdCheck3 v f ≠ 0
  · rw [if_pos h2] at h; cases h
  rw [if_neg h2] at h
  by_cases h3 : (readU s).2.2 ≠ 0
  · rw [if_pos h3] at h; exact absurd (congrArg Prod.snd h) h3
  rw [if_neg h3] at h
  by_cases h4 : f / 2 % 4 ≠ 0 ∧ s.size < (readU s).2.1 + 2
  · rw [if_pos h4] at h; cases h
  rw [if_neg h4] at h
  by_cases h5 : (pubPr v f s).2.2 ≠ 0
  · rw [if_pos h5] at h; exact absurd (congrArg Prod.snd h) h5
  rw [if_neg h5] at h
  by_cases h6 : pubE v (pubFull v f s) ≠ 0
  · rw [if_pos h6] at h; exact absurd (congrArg Prod.snd h) h6
  rw [if_neg h6] at h
  exact ⟨by simpa using h1, Decidable.not_not.1 h2, Decidable.not_not.1 h3, h4, Decidable.not_not.1 h5, Decidable.not_not.1 h6, (congrArg Prod.fst h).symm⟩
theorem pubR_none {v f : Int} {s : ByteArray} (h : (pubR v f s).2 ≠ 0) : (pubR v f s).1 = pk0 := by
  unfold pubR at h ⊢
  repeat' split
  all_goals first
    | rfl
    | (exfalso; simp_all)
theorem rdPub_back {v f : Int} (hk : hdKnown v = true) (hc : hdCheck3 v f = 0) (t : ByteArray) (i : Int) (l : List Pr) (y : ByteArray) : flagsP (rdPub f t i l y) = f := by
  have h2 : hdFlag3 f = true := by
    unfold hdCheck3 at hc
    rw [if_neg (fun x => by rw [hk] at x; cases x)] at hc
    cases hh : hdFlag3 f
    · rw [hh, if_pos rfl] at hc; exact absurd hc (by decide)
    · rfl
  have := of_decide_eq_true h2
  show 2 * (f / 2 % 4) + (if decide (f % 2 = 1) = true then 1 else 0) + (if decide (8 ≤ f) = true then 8 else 0) = f
  clear h2 hc hk
  obtain rfl | rfl | rfl | rfl | rfl | rfl | rfl | rfl | rfl | rfl := this
  all_goals decide
theorem pubR_back {v f : Int} {s : ByteArray} {q : Pk} (h : pubR v f s = (q, 0)) : pubE v q = 0 ∧ pubS2 v q ++ q.payload = s ∧ flagsP q = f := by
  obtain ⟨hk, hc, hu, hs, hp, he, rfl⟩ := pubR_ok h
  refine ⟨he, ?_, rdPub_back hk hc _ _ _ _⟩
  have hR : readU s = ((readU s).1, (readU s).2.1, 0) := by rw [← hu]
  obtain ⟨hs1, htz, hv, hn, hle⟩ := readU_back hR
  have hls : ls s = (putL (readU s).1.size 2 ++ ls (readU s).1) ++ (ls s).drop (readU s).2.1 := by
    have := congrArg ls hs1
    rw [ls_framed, rest_ls, ← List.append_assoc] at this
    exact this
  have hD : (ls s).drop (readU s).2.1 = (if f / 2 % 4 ≠ 0 then putL (pubId f s).toNat 2 else []) ++ (ls s).drop (pubAt f s) := by
    unfold pubId pubAt
    by_cases h0 : f / 2 % 4 ≠ 0
    · rw [if_pos h0, if_pos h0, if_pos h0, Int.toNat_natCast, extract_ls, put_get2 _ (by
        rw [List.length_take, List.length_drop, ls_len]
        have : ¬ s.size < (readU s).2.1 + 2 := fun z => hs ⟨h0, z⟩
        omega), ← List.drop_drop, List.take_append_drop]
    · rw [if_neg h0, if_neg h0]; rfl
  have hP : (ls s).drop (pubAt f s) = (if v = 5 then (bytesS 3 (pubPr v f s).1).1 else []) ++ (ls s).drop (pubAt f s + (pubPr v f s).2.1) := by
    unfold pubPr at hp ⊢
    by_cases h5 : v = 5
    · rw [if_pos h5] at hp ⊢
      rw [if_pos h5]
      have hb := (readP_back (kind := 3) (s := s.extract (pubAt f s) s.size) (l := (readP 3 (s.extract (pubAt f s) s.size)).1) (n := (readP 3 (s.extract (pubAt f s) s.size)).2.1) (by rw [← hp])).2.1
      rw [hb, rest_ls, ← List.drop_drop, List.take_append_drop]
    · rw [if_neg h5, if_neg h5]; rfl
  refine ls_ext ?_
  rw [pubS2_ls]
  show (putL (readU s).1.size 2 ++ ls (readU s).1) ++ ((if f / 2 % 4 ≠ 0 then putL (pubId f s).toNat 2 else []) ++ ((if v = 5 then (bytesS 3 (pubPr v f s).1).1 else []) ++ ls (s.extract (pubAt f s + (pubPr v f s).2.1) s.size))) = ls s
  rw [rest_ls, ← hP, ← hD, ← hls]
end Go.Proofs.YtpcaffimahapjaaGreat
