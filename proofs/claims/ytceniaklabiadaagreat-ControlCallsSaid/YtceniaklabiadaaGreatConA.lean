/- control, plain: what is valid, bodies, what is read; a body is read back. -/
import Derived.Test.YtceniaklabiadaaGreatMTai
namespace Go.Proofs.YtceniaklabiadaaGreat
open Go.RowKit

def conIs (k : Int) : Bool := decide (12 ≤ k ∧ k ≤ 15)
def conMay (v k : Int) : Bool := decide ((k = 14 ∨ k = 15) ∧ v = 5)
def conK (v k : Int) : Int := if conIs k = false ∨ ¬ (v = 4 ∨ v = 5) then 2 else if k = 15 ∧ v = 4 then 8 else 0
def conQ (v : Int) (p : Pk) : Pk := if conMay v p.kind = true then ackR1 p.kind 0 p.code p.props else ackR1 p.kind 0 0 []
def conE (v : Int) (p : Pk) : Int :=
  if conK v p.kind ≠ 0 then conK v p.kind
  else if conMay v p.kind = true ∧ may p.kind p.code = false then 2
  else if p ≠ conQ v p then 2
  else (bytesS p.kind p.props).2
def tailS (code : Int) (l : List Pr) (k : Int) : List UInt8 := if code < 0 ∨ 255 < code ∨ (bytesS k l).2 ≠ 0 then [] else tailL k code l
def conB (v : Int) (p : Pk) : List UInt8 × Int := if conE v p = 0 then (tailS p.code p.props p.kind, 0) else ([], conE v p)
/-- The error behind a tail that must be whole. -/
def toldE (k : Int) (s : ByteArray) : Int := if (restS k s 0).2.2.2 ≠ 0 then (restS k s 0).2.2.2 else if (restS k s 0).2.2.1 < s.size then 5 else 0
def toldS (k : Int) (s : ByteArray) : Int × List Pr × Int := if toldE k s ≠ 0 then (0, [], toldE k s) else ((restS k s 0).1, (restS k s 0).2.1, 0)
def toldV (v k : Int) (s : ByteArray) : Int × List Pr × Int := if conMay v k = true then toldS k s else (0, [], if s.size ≠ 0 then 5 else 0)
def conPre (v k : Int) (s : ByteArray) : Pk := ackR1 k 0 (toldV v k s).1 (toldV v k s).2.1
def conR (v k : Int) (s : ByteArray) : Pk × Int :=
  if conK v k ≠ 0 then (pk0, conK v k)
  else if (toldV v k s).2.2 ≠ 0 then (pk0, (toldV v k s).2.2)
  else if conE v (conPre v k s) ≠ 0 then (pk0, conE v (conPre v k s))
  else (conPre v k s, 0)

structure ConGood (v : Int) (p : Pk) : Prop where
  k : conK v p.kind = 0
  may : conMay v p.kind = true → may p.kind p.code = true
  old : conMay v p.kind = false → p.code = 0 ∧ p.props = []
  same : p = conQ v p
  c1 : 0 ≤ p.code
  c2 : p.code < 256
  bytes : (bytesS p.kind p.props).2 = 0
theorem conE_good {v : Int} {p : Pk} (x : conE v p = 0) : ConGood v p := by
  unfold conE at x
  split at x
  · next h => exact absurd x h
  · next hk =>
    split at x
    · cases x
    · next hm =>
      split at x
      · cases x
      · next hs =>
        have hs' := Decidable.not_not.1 hs
        have hq : conMay v p.kind = false → p.code = 0 ∧ p.props = [] := fun hf => by
          have hq : conQ v p = ackR1 p.kind 0 0 [] := by unfold conQ; rw [if_neg (by rw [hf]; decide)]
          rw [hq] at hs'
          exact ⟨congrArg Pk.code hs', congrArg Pk.props hs'⟩
        have hmay : conMay v p.kind = true → Go.Proofs.YtceniaklabiadaaGreat.may p.kind p.code = true := fun ht => by
          cases e : Go.Proofs.YtceniaklabiadaaGreat.may p.kind p.code
          · exact absurd ⟨ht, e⟩ hm
          · rfl
        have hc : 0 ≤ p.code ∧ p.code < 256 := by
          cases e : conMay v p.kind
          · have := (hq e).1; omega
          · exact may_range (hmay e)
        exact ⟨Decidable.not_not.1 hk, hmay, hq, hs', hc.1, hc.2, x⟩
theorem ConGood.ok {v : Int} {p : Pk} (x : ConGood v p) : conE v p = 0 := by
  unfold conE
  rw [if_neg (fun h => h x.k), if_neg, if_neg (fun h => h x.same)]
  · exact x.bytes
  · rintro ⟨h1, h2⟩
    rw [x.may h1] at h2; cases h2
theorem ConGood.tail {v : Int} {p : Pk} (x : ConGood v p) : tailS p.code p.props p.kind = tailL p.kind p.code p.props := by
  unfold tailS
  rw [if_neg]
  rintro (h | h | h)
  · have := x.c1; omega
  · have := x.c2; omega
  · exact h x.bytes

theorem conR_front {v : Int} {p : Pk} (g : ConGood v p) (hn : ∀ q ∈ p.props, q.n < 4294967296) {s : ByteArray} (hs : ls s = tailS p.code p.props p.kind) : conR v p.kind s = (p, 0) := by
  rw [g.tail] at hs
  have ht : toldV v p.kind s = (p.code, p.props, 0) := by
    unfold toldV
    cases e : conMay v p.kind
    · rw [if_neg (by decide)]
      obtain ⟨e1, e2⟩ := g.old e
      have hz : tailL p.kind p.code p.props = [] := by unfold tailL; rw [if_pos ⟨e1, by rw [e2]; rfl⟩]
      rw [hz] at hs
      have := congrArg List.length hs
      rw [ls_len] at this
      rw [e1, e2, if_neg (fun x => x this)]
    · rw [if_pos rfl]
      have hr := rest_front (t := s) (a := 0) (by rw [List.drop_zero]; exact hs) (by omega) g.c1 g.c2 g.bytes hn
      have he : toldE p.kind s = 0 := by
        unfold toldE
        rw [hr]
        simp
      unfold toldS
      rw [he, if_neg (by decide), hr]
  have hp : conPre v p.kind s = p := by
    unfold conPre
    rw [ht]
    have := g.same
    unfold conQ at this
    cases e : conMay v p.kind
    · obtain ⟨e1, e2⟩ := g.old e
      rw [if_neg (by rw [e]; decide)] at this
      rw [e1, e2]
      exact this.symm
    · rw [if_pos e] at this
      exact this.symm
  unfold conR
  rw [g.k, if_neg (by decide), ht, if_neg (fun x => x rfl), hp, g.ok, if_neg (by decide)]
theorem toldV_tail {v k : Int} {s : ByteArray} (h : (toldV v k s).2.2 = 0) : tailL k (toldV v k s).1 (toldV v k s).2.1 = ls s := by
  unfold toldV at h ⊢
  cases e : conMay v k
  · rw [e, if_neg (by decide)] at h
    rw [if_neg (by decide)]
    have hz : s.size = 0 := Decidable.not_not.1 fun x => by simp only at h; rw [if_pos x] at h; cases h
    have : ls s = [] := List.eq_nil_of_length_eq_zero (by rw [ls_len]; exact hz)
    rw [this]
    rfl
  · rw [e, if_pos rfl] at h
    rw [if_pos rfl]
    unfold toldS at h ⊢
    have he : toldE k s = 0 := Decidable.not_not.1 fun x => by rw [if_pos x] at h; exact x h
    rw [if_neg (fun x => x he)]
    unfold toldE at he
    have h1 : (restS k s 0).2.2.2 = 0 := Decidable.not_not.1 fun x => by rw [if_pos x] at he; exact x he
    rw [if_neg (fun x => x h1)] at he
    have h2 : ¬ (restS k s 0).2.2.1 < s.size := fun x => by rw [if_pos x] at he; cases he
    have := (rest_back (k := k) (t := s) (a := 0) (by omega) h1 (by omega)).1
    rw [List.drop_zero] at this
    exact this.symm
theorem conR_ways (v k : Int) (s : ByteArray) : (conR v k s = (pk0, (conR v k s).2) ∧ (conR v k s).2 ≠ 0) ∨
    ((conR v k s).2 = 0 ∧ ConGood v (conR v k s).1 ∧ (conR v k s).1.kind = k ∧ tailS (conR v k s).1.code (conR v k s).1.props (conR v k s).1.kind = ls s) := by
  unfold conR
  by_cases h1 : conK v k ≠ 0
  · rw [if_pos h1]; exact .inl ⟨rfl, h1⟩
  rw [if_neg h1]
  by_cases h2 : (toldV v k s).2.2 ≠ 0
  · rw [if_pos h2]; exact .inl ⟨rfl, h2⟩
  rw [if_neg h2]
  by_cases h3 : conE v (conPre v k s) ≠ 0
  · rw [if_pos h3]; exact .inl ⟨rfl, h3⟩
  rw [if_neg h3]
  have g := conE_good (Decidable.not_not.1 h3)
  refine .inr ⟨rfl, g, rfl, ?_⟩
  simp only
  rw [g.tail]
  exact toldV_tail (Decidable.not_not.1 h2)
theorem toldV_good {v k : Int} {s : ByteArray} (hs : s.size ≤ 140737488351232) : (∀ p ∈ (toldV v k s).2.1, prGood p) ∧ (toldV v k s).2.1.length ≤ 1000 := by
  unfold toldV
  split
  · unfold toldS
    split
    · exact ⟨by simp, Nat.zero_le _⟩
    · exact ⟨rest_good hs, rest_many k s 0⟩
  · exact ⟨by simp, Nat.zero_le _⟩
theorem conR_ok {v k : Int} {s : ByteArray} (hs : s.size ≤ 140737488351232) : PkOk (conR v k s).1 := by
  have hpre : PkOk (conPre v k s) := pkOk_R1 (toldV_good hs).1 (by have := (toldV_good (v := v) (k := k) hs).2; omega)
  have h0 : PkOk pk0 := pkOk_R1 (k := 0) (i := 0) (c := 0) (l := []) (by simp) (by simp)
  unfold conR
  split
  · exact h0
  · split
    · exact h0
    · split
      · exact h0
      · exact hpre
end Go.Proofs.YtceniaklabiadaaGreat
