/- A tail (a code, properties), plain: as it is written, as it is read. -/
import Derived.Test.YtpcaffimahapjaaGreatMAck
import Derived.Test.YtpcaffimahapjaaGreatMLis
namespace Go.Proofs.YtpcaffimahapjaaGreat
open Go.RowKit

/-- What the reading of a tail finds: the code, the properties, the place behind, the error. -/
def restS (k : Int) (t : ByteArray) (a : Nat) : Int × List Pr × Nat × Int :=
  if t.size ≤ a then (0, [], a, 0)
  else if t.size = a + 1 then ((numS t a 0 1 : Nat), [], a + 1, if numS t a 0 1 = 0 then 5 else 0)
  else ((numS t a 0 1 : Nat), (readP k (t.extract (a + 1) t.size)).1, a + 1 + (readP k (t.extract (a + 1) t.size)).2.1,
    if (readP k (t.extract (a + 1) t.size)).2.2 ≠ 0 then (readP k (t.extract (a + 1) t.size)).2.2 else if (readP k (t.extract (a + 1) t.size)).1.length = 0 then 5 else 0)
/-- A tail's bytes. -/
def tailL (k code : Int) (l : List Pr) : List UInt8 := if code = 0 ∧ l.length = 0 then [] else putL code.toNat 1 ++ (if l.length = 0 then [] else (bytesS k l).1)
theorem ackT_tail (p : Pk) : ackT p = tailL p.kind p.code p.props := rfl

theorem take_yes {t : ByteArray} {a k : Nat} (h : a + k ≤ t.size) : takeS t a 0 k = (t.extract a (a + k), a + k, 0) := by
  have h1 := needS_take t a 0 k (.inr (by simp [hasC]; omega))
  rw [← h1, needS_yes h]
theorem take_no {t : ByteArray} {a k : Nat} (h : ¬ a + k ≤ t.size) : takeS t a 0 k = (⟨#[]⟩, a, 3) := by
  have hh : hasC t a k = false := by simp [hasC]; omega
  unfold takeS
  rw [if_pos rfl, if_neg (by rw [hh]; decide)]
theorem num_front {t : ByteArray} {a k : Nat} {x rest : List UInt8} (h : (ls t).drop a = x ++ rest) (hx : x.length = k) (ha : a ≤ t.size) : numS t a 0 k = getL x := by
  have hl := congrArg List.length h
  rw [List.length_drop, List.length_append, ls_len] at hl
  unfold numS
  rw [take_yes (by omega), extract_ls, h, ← hx, List.take_left']
  rfl
theorem num_one_lt (t : ByteArray) (a : Nat) (e : Int) : numS t a e 1 < 256 := by
  unfold numS
  have h1 := getL_lt (ls (takeS t a e 1).1)
  have h2 : (ls (takeS t a e 1).1).length ≤ 1 := by
    rw [ls_len]
    unfold takeS
    split
    · split
      · show (t.extract a (a + Int.toNat 1)).size ≤ 1
        rw [ByteArray.size_extract]; omega
      · exact Nat.zero_le _
    · exact Nat.zero_le _
  have h3 : 256 ^ (ls (takeS t a e 1).1).length ≤ 256 ^ 1 := Nat.pow_le_pow_right (by omega) h2
  omega
theorem num_back {t : ByteArray} {a : Nat} (h : a + 1 ≤ t.size) : (ls t).drop a = putL (numS t a 0 1) 1 ++ (ls t).drop (a + 1) := by
  unfold numS
  rw [show ((1 : Int)) = ((1 : Nat) : Int) from rfl, take_yes h, put_get1 _ (by rw [ls_len, ByteArray.size_extract]; omega), extract_ls, ← List.drop_drop, List.take_append_drop]
theorem num_back2 {t : ByteArray} {a : Nat} (h : a + 2 ≤ t.size) : (ls t).drop a = putL (numS t a 0 2) 2 ++ (ls t).drop (a + 2) := by
  unfold numS
  rw [show ((2 : Int)) = ((2 : Nat) : Int) from rfl, take_yes h, put_get2 _ (by rw [ls_len, ByteArray.size_extract]; omega), extract_ls, ← List.drop_drop, List.take_append_drop]
theorem bytesS_two {k : Int} {l : List Pr} (h : (bytesS k l).2 = 0) : 0 < (bytesS k l).1.length := by
  rw [bytesS_bytes k l h, List.length_append]
  have : 0 < (varL (l.flatMap propL).length).length := by
    unfold varL varF
    split <;> simp
  omega

theorem rest_front {k code : Int} {l : List Pr} {t : ByteArray} {a : Nat} (h : (ls t).drop a = tailL k code l) (ha : a ≤ t.size) (h0 : 0 ≤ code) (h1 : code < 256) (hb : (bytesS k l).2 = 0) (hn : ∀ p ∈ l, p.n < 4294967296) :
    restS k t a = (code, l, t.size, 0) := by
  have hl := congrArg List.length h
  rw [List.length_drop, ls_len] at hl
  unfold tailL at h hl
  by_cases hz : code = 0 ∧ l.length = 0
  · rw [if_pos hz] at h hl
    have he : t.size ≤ a := by simp at hl; omega
    unfold restS
    rw [if_pos he, List.eq_nil_of_length_eq_zero hz.2, hz.1, show a = t.size by omega]
  · rw [if_neg hz] at h hl
    rw [List.length_append, putL_len] at hl
    have hc : numS t a 0 1 = code.toNat := by
      have := num_front (k := 1) h (putL_len _ _) ha
      rw [show ((1 : Nat) : Int) = 1 from rfl] at this
      rw [this, get_put1 _ (by omega)]
    unfold restS
    rw [if_neg (by omega), hc]
    by_cases hp : l.length = 0
    · rw [if_pos hp] at hl
      have : l = [] := List.eq_nil_of_length_eq_zero hp
      subst this
      rw [if_pos (by simp at hl; omega), if_neg (by intro x; exact hz ⟨by omega, rfl⟩), show ((code.toNat : Nat) : Int) = code by omega, show a + 1 = t.size by simp at hl; omega]
    · rw [if_neg hp] at h hl
      have h2 := bytesS_two hb
      rw [if_neg (by omega)]
      have hd : ls (t.extract (a + 1) t.size) = (bytesS k l).1 ++ [] := by
        rw [rest_ls, ← putL_len code.toNat 1, drop_after (t := t) (a := a) h, List.append_nil]
      rw [readP_front hb hn hd]
      simp only
      rw [if_neg (by decide), if_neg hp, show ((code.toNat : Nat) : Int) = code by omega, show a + 1 + (bytesS k l).1.length = t.size by omega]

theorem rest_code (k : Int) (t : ByteArray) (a : Nat) : 0 ≤ (restS k t a).1 ∧ (restS k t a).1 < 256 := by
  have := num_one_lt t a 0
  unfold restS
  split
  · exact ⟨by simp, by simp⟩
  · split
    · exact ⟨by simp, by simp; omega⟩
    · exact ⟨by simp, by simp; omega⟩
theorem rest_back {k : Int} {t : ByteArray} {a : Nat} (_ha : a ≤ t.size) (h : (restS k t a).2.2.2 = 0) (hend : t.size ≤ (restS k t a).2.2.1) :
    (ls t).drop a = tailL k (restS k t a).1 (restS k t a).2.1 ∧ (bytesS k (restS k t a).2.1).2 = 0 := by
  unfold restS at h hend ⊢
  by_cases h1 : t.size ≤ a
  · rw [if_pos h1] at h hend ⊢
    refine ⟨?_, rfl⟩
    rw [List.drop_eq_nil_of_le (by rw [ls_len]; exact h1)]
    rfl
  · rw [if_neg h1] at h hend ⊢
    have hnb := num_back (t := t) (a := a) (by omega)
    by_cases h2 : t.size = a + 1
    · rw [if_pos h2] at h hend ⊢
      refine ⟨?_, rfl⟩
      simp only at h ⊢
      have hc : numS t a 0 1 ≠ 0 := fun x => by rw [if_pos x] at h; cases h
      rw [hnb, List.drop_eq_nil_of_le (by rw [ls_len]; omega)]
      unfold tailL
      rw [if_neg (fun x => hc (by have := x.1; omega)), if_pos List.length_nil, Int.toNat_natCast]
    · rw [if_neg h2] at h hend ⊢
      simp only at h hend ⊢
      have hx : (readP k (t.extract (a + 1) t.size)).2.2 = 0 := Decidable.not_not.1 fun x => by rw [if_pos x] at h; exact x h
      rw [if_neg (fun x => x hx)] at h
      have hl : (readP k (t.extract (a + 1) t.size)).1.length ≠ 0 := fun x => by rw [if_pos x] at h; cases h
      obtain ⟨b1, b2, b3⟩ := readP_back (kind := k) (s := t.extract (a + 1) t.size) (l := (readP k (t.extract (a + 1) t.size)).1) (n := (readP k (t.extract (a + 1) t.size)).2.1) (by rw [← hx])
      rw [rest_len] at b3
      refine ⟨?_, b1⟩
      unfold tailL
      rw [if_neg (fun x => hl x.2), if_neg hl, hnb, b2, rest_ls, List.take_of_length_le (by rw [List.length_drop, ls_len]; omega)]
      rfl
theorem rest_good {k : Int} {t : ByteArray} {a : Nat} (ht : t.size ≤ 140737488351232) : ∀ p ∈ (restS k t a).2.1, prGood p := by
  unfold restS
  split
  · simp
  · split
    · simp
    · exact readP_good (by rw [ByteArray.size_extract]; omega)
theorem tail_len (k code : Int) (l : List Pr) : ((tailL k code l).length = 0 ↔ (code = 0 ∧ l.length = 0)) ∧ ((bytesS k l).2 = 0 → ((tailL k code l).length = 1 ↔ (code ≠ 0 ∧ l.length = 0))) := by
  unfold tailL
  by_cases h : code = 0 ∧ l.length = 0
  · rw [if_pos h]
    simp [h.1, h.2]
  · rw [if_neg h, List.length_append, putL_len]
    refine ⟨⟨fun x => by omega, fun x => absurd x h⟩, fun hb => ?_⟩
    by_cases hl : l.length = 0
    · rw [if_pos hl]
      simp only [List.length_nil]
      exact ⟨fun _ => ⟨fun x => h ⟨x, hl⟩, hl⟩, fun _ => trivial⟩
    · rw [if_neg hl]
      have := bytesS_two hb
      exact ⟨fun x => by omega, fun x => absurd x.2 hl⟩
end Go.Proofs.YtpcaffimahapjaaGreat
