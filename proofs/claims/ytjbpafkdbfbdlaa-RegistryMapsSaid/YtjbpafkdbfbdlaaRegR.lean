/-
  The registry in plain words: a client's topics, collected in any order and sorted; what RegistryMaps asks of each step.
-/
import Derived.Test.YtjbpafkdbfbdlaaRegQ
import Derived.Test.YtjbpafkdbfbdlaaRegI
import Derived.Test.YtjbpafkdbfbdlaaRegF

namespace Go.Proofs.Ytjbpafkdbfbdlaa
open Go.RowKit
/-- Whatever order they came in, sorted by ids they are the topics by rising ids. -/
theorem tps_sorted : ∀ {T l : List Tp}, TpUp T → l.Perm T → (l.Pairwise fun a b => a.id ≤ b.id) → l = T
  | [], l, _, hp, _ => List.Perm.eq_nil hp
  | t :: T, [], _, hp, _ => absurd hp.length_eq (by simp)
  | t :: T, a :: l, hu, hp, hs => by
    have hu' := hu
    unfold TpUp at hu'
    rw [List.pairwise_cons] at hu' hs
    have ha : a ∈ t :: T := hp.subset (by simp)
    have ht : t ∈ a :: l := hp.symm.subset (by simp)
    have e : a = t := by
      rcases List.mem_cons.1 ha with e | ha
      · exact e
      · have h1 := hu'.1 a ha
        rcases List.mem_cons.1 ht with e | ht
        · exact e.symm
        · have := hs.1 t ht
          omega
    subst e
    rw [tps_sorted hu'.2 (List.Perm.cons_inv hp) hs.2]
/-- The least free id, as the law reckons it. -/
theorem frS_first {l : List Tp} {i : Nat} (h : i < l.length) : frS 1 (l.take (i + 1)) = if l[i].id = frS 1 (l.take i) then frS 1 (l.take i) + 1 else frS 1 (l.take i) := frS_take h
/-- How many Clear takes, and what is left. -/
theorem rfClr_count {L : Rg} {c : ByteArray} : (rfClr L c).1 + ((rgT (rfClr L c).2 c).length : Int) = ((rgT L c).length : Int) := by
  unfold rfClr
  rw [rgT_set]
  have : ((rgT L c).filter (·.fixed)).length ≤ (rgT L c).length := List.length_filter_le _ _
  show ((rgT L c).length : Int) - (((rgT L c).filter (·.fixed)).length : Int) + (((rgT L c).filter (·.fixed)).length : Int) = _
  omega
/-- A name with another put ahead of it is another name. -/
theorem other_ne (c : ByteArray) : (⟨#[111, 116, 104, 101, 114, 32, 111, 102, 32]⟩ : ByteArray) ++ c ≠ c := by
  intro h
  have := congrArg ByteArray.size h
  rw [ByteArray.size_append] at this
  have h9 : (⟨#[111, 116, 104, 101, 114, 32, 111, 102, 32]⟩ : ByteArray).size = 9 := rfl
  omega
/-- All that RegistryMaps asks of the topics that stand. -/
theorem maps_in {L : Rg} (h : RgOk L) (hn : RgNm L) {c : ByteArray} {t : Tp} (ht : t ∈ rgT L c) :
    rfName L c (t.id : Int) = (t.name, 0) ∧ rfID L c t.name = ((t.id : Int), 0) ∧ 1 ≤ t.id ∧ t.id ≤ 65534 ∧ rfFix L c (t.id : Int) = t.fixed ∧ nameB t.name = true :=
  ⟨rfName_in h ht, rfID_in h ht, ((h.tops c).ids t ht).1, ((h.tops c).ids t ht).2, rfFix_in h ht, hn.tops c t ht⟩
theorem maps_up {L : Rg} (h : RgOk L) {c : ByteArray} {k : Nat} (hk : k + 1 < (rgT L c).length) : (rgT L c)[k].id < (rgT L c)[k + 1].id := by
  have := (h.tops c).up
  unfold TpUp at this
  rw [List.pairwise_iff_getElem] at this
  exact this k (k + 1) (by omega) hk (by omega)
end Go.Proofs.Ytjbpafkdbfbdlaa
