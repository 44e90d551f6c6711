/- ack.Read, plain: what is read from a body; a body is read back. -/
import Derived.Test.YtpcaffimahapjaaGreatTaiA
import Derived.Test.YtpcaffimahapjaaGreatMAck
namespace Go.Proofs.YtpcaffimahapjaaGreat
open Go.RowKit

/-- A packet of a kind, an id, a code, properties. -/
def ackR1 (k i c : Int) (l : List Pr) : Pk := { pk0 with kind := k, id := i, code := c, props := l }
theorem ackP_R1 (p : Pk) : ackP p = ackR1 p.kind p.id p.code p.props := rfl
theorem ackQ_R1 (k i c : Int) : ackQ k i c = ackR1 k i c [] := rfl
/-- Code and properties, where they may be. -/
def restV (v k : Int) (t : ByteArray) : Int × List Pr × Nat × Int := if v = 5 then restS k t 2 else (0, [], 2, 0)
/-- The packet that is read, before it is looked at. -/
def ackPre (v k : Int) (s : ByteArray) : Pk := ackR1 k (numS s 0 0 2 : Nat) (restV v k s).1 (restV v k s).2.1
/-- The cursor's error, before the packet is looked at. -/
def ackErr (v k : Int) (s : ByteArray) : Int := if (restV v k s).2.2.2 ≠ 0 then (restV v k s).2.2.2 else if (restV v k s).2.2.1 < s.size then 5 else 0
def ackR (v k : Int) (s : ByteArray) : Pk × Int :=
  if ackK v k = false then (pk0, 2)
  else if s.size < 2 then (pk0, 3)
  else if ackErr v k s ≠ 0 then (pk0, ackErr v k s)
  else if ackE v (ackPre v k s) ≠ 0 then (pk0, ackE v (ackPre v k s))
  else (ackPre v k s, 0)
theorem ackK_four {v k : Int} (h : ackK v k = true) : v = 4 ∨ v = 5 := (of_decide_eq_true h).1

theorem ackR_front {v : Int} {p : Pk} (g : AckGood v p) (hn : ∀ q ∈ p.props, q.n < 4294967296) {s : ByteArray} (hs : ls s = putL p.id.toNat 2 ++ ackT p) : ackR v p.kind s = (p, 0) := by
  have i1 := g.id1
  have i2 := g.id2
  have hl := congrArg List.length hs
  rw [ls_len, List.length_append, putL_len] at hl
  have hid : numS s 0 0 2 = p.id.toNat := by
    have := num_front (k := 2) (t := s) (a := 0) (by rw [List.drop_zero]; exact hs) (putL_len _ _) (by omega)
    rw [show ((2 : Nat) : Int) = 2 from rfl] at this
    rw [this, get_put2 _ (by omega)]
  have hd : (ls s).drop 2 = tailL p.kind p.code p.props := by
    have := drop_after (t := s) (a := 0) (by rw [List.drop_zero]; exact hs)
    rwa [putL_len, Nat.zero_add] at this
  have hr : restV v p.kind s = (p.code, p.props, s.size, 0) := by
    unfold restV
    by_cases h5 : v = 5
    · rw [if_pos h5, rest_front hd (by omega) g.c1 g.c2 g.bytes hn]
    · rw [if_neg h5]
      obtain ⟨e1, e2⟩ := g.old ((ackK_four g.k).resolve_right h5)
      have hz : ackT p = [] := by unfold ackT; rw [if_pos ⟨e1, by rw [e2]; rfl⟩]
      rw [hz] at hl
      rw [e1, e2, show s.size = 2 by simpa using hl]
  have hp : ackPre v p.kind s = p := by
    unfold ackPre
    rw [hr, hid, show ((p.id.toNat : Nat) : Int) = p.id by omega]
    exact g.same.symm
  have he : ackErr v p.kind s = 0 := by
    unfold ackErr
    rw [hr]
    simp
  unfold ackR
  rw [g.k, if_neg (by decide), if_neg (by omega), he, if_neg (by decide), hp, g.ok, if_neg (by decide)]

theorem ackR_ways (v k : Int) (s : ByteArray) : (ackR v k s = (pk0, (ackR v k s).2) ∧ (ackR v k s).2 ≠ 0) ∨
    ((ackR v k s).2 = 0 ∧ AckGood v (ackR v k s).1 ∧ (ackR v k s).1.kind = k ∧ putL (ackR v k s).1.id.toNat 2 ++ ackT (ackR v k s).1 = ls s) := by
  unfold ackR
  by_cases h1 : ackK v k = false
  · rw [if_pos h1]; exact .inl ⟨rfl, by decide⟩
  rw [if_neg h1]
  by_cases h2 : s.size < 2
  · rw [if_pos h2]; exact .inl ⟨rfl, by decide⟩
  rw [if_neg h2]
  by_cases h3 : ackErr v k s ≠ 0
  · rw [if_pos h3]; exact .inl ⟨rfl, h3⟩
  rw [if_neg h3]
  by_cases h4 : ackE v (ackPre v k s) ≠ 0
  · rw [if_pos h4]; exact .inl ⟨rfl, h4⟩
  rw [if_neg h4]
  refine .inr ⟨rfl, ackE_good (Decidable.not_not.1 h4), rfl, ?_⟩
  show putL ((numS s 0 0 2 : Nat) : Int).toNat 2 ++ ackT (ackPre v k s) = ls s
  have hb := num_back2 (t := s) (a := 0) (by omega)
  rw [List.drop_zero, Nat.zero_add] at hb
  rw [Int.toNat_natCast, hb]
  congr 1
  have h3 := Decidable.not_not.1 h3
  unfold ackErr at h3
  have he : (restV v k s).2.2.2 = 0 := Decidable.not_not.1 fun x => by rw [if_pos x] at h3; exact x h3
  rw [if_neg (fun x => x he)] at h3
  have hend : ¬ (restV v k s).2.2.1 < s.size := fun x => by rw [if_pos x] at h3; cases h3
  rw [ackT_tail]
  show tailL k (restV v k s).1 (restV v k s).2.1 = _
  unfold restV at he hend ⊢
  by_cases h5 : v = 5
  · rw [if_pos h5] at he hend ⊢
    exact (rest_back (by omega) he (by omega)).1.symm
  · rw [if_neg h5] at he hend ⊢
    rw [List.drop_eq_nil_of_le (by rw [ls_len]; simp at hend; omega)]
    rfl
theorem ackPre_good {v k : Int} {s : ByteArray} (hs : s.size ≤ 140737488351232) : ∀ p ∈ (ackPre v k s).props, prGood p := by
  show ∀ p ∈ (restV v k s).2.1, prGood p
  unfold restV
  split
  · exact rest_good hs
  · simp
theorem pkOk_R1 {k i c : Int} {l : List Pr} (h : ∀ p ∈ l, prGood p) (hl : l.length ≤ 140737488351232) : PkOk (ackR1 k i c l) := by
  refine ⟨?_, h, ?_, ?_, ?_⟩
  · intro q hq; cases hq
  · intro q hq; cases hq
  · exact ⟨Nat.zero_le _, Nat.zero_le _, Nat.zero_le _, Nat.zero_le _, Nat.zero_le _, Nat.zero_le _, Nat.zero_le _⟩
  · exact ⟨Nat.zero_le _, Nat.zero_le _, Nat.zero_le _, hl⟩
theorem rest_many (k : Int) (t : ByteArray) (a : Nat) : (restS k t a).2.1.length ≤ 1000 := by
  unfold restS
  split
  · exact Nat.zero_le _
  · split
    · exact Nat.zero_le _
    · show (readP k (t.extract (a + 1) t.size)).1.length ≤ 1000
      by_cases h : (readP k (t.extract (a + 1) t.size)).2.2 = 0
      · exact readP_len h
      · rw [readP_bad h]; exact Nat.zero_le _
theorem ackR_ok {v k : Int} {s : ByteArray} (hs : s.size ≤ 140737488351232) : PkOk (ackR v k s).1 := by
  have hpre : PkOk (ackPre v k s) := by
    refine pkOk_R1 (ackPre_good hs) ?_
    unfold restV
    split
    · have := rest_many k s 2; omega
    · exact Nat.zero_le _
  have h0 : PkOk pk0 := pkOk_R1 (k := 0) (i := 0) (c := 0) (l := []) (by simp) (by simp)
  unfold ackR
  split
  · exact h0
  · split
    · exact h0
    · split
      · exact h0
      · split
        · exact h0
        · exact hpre
end Go.Proofs.YtpcaffimahapjaaGreat
