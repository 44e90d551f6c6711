/-
  A tail (a code, properties), plain: as it is written, as it is read.
  ack.Read, plain: what is read from a body; a body is read back.
  ack: the walk of rest.
  ack: the walk of Read.
-/
import Derived.Test.YtmkkjiogokfnmaaDoorMAck
import Derived.Test.YtmkkjiogokfnmaaDoorMLis
import Derived.Test.YtmkkjiogokfnmaaDoorMPk
import Derived.Deep.RegionHeld3
import Derived.Deep.DrawnRows

namespace Go.Proofs.YtmkkjiogokfnmaaDoor
open Go.RowKit

/-- What the reading of a tail finds: the code, the properties, the place behind, the error. -/
def restS (k : Int) (t : ByteArray) (a : Nat) : Int × List Pr × Nat × Int :=
  if t.size ≤ a then (0, [], a, 0)
  else if t.size = a + 1 then ((numS t a 0 1 : Nat), [], a + 1, if numS t a 0 1 = 0 then 5 else 0)
  else ((numS t a 0 1 : Nat), (readP k (t.extract (a + 1) t.size)).1, a + 1 + (readP k (t.extract (a + 1) t.size)).2.1,
    if (readP k (t.extract (a + 1) t.size)).2.2 ≠ 0 then (readP k (t.extract (a + 1) t.size)).2.2 else if (readP k (t.extract (a + 1) t.size)).1.length = 0 then 5 else 0)
/-- A tail's bytes. -/
def tailL (k code : Int) (l : List Pr) : List UInt8 := if code = 0 ∧ l.length = 0 then [] else putL code.toNat 1 ++ (if l.length = 0 then [] else (bytesS k l).1)
theorem ackT_tail (p : Pk) : ackT p = tailL p.kind p.code p.props := rfl

theorem take_yes {t : ByteArray} {a k : Nat} (h : a + k ≤ t.size) : takeS t a 0 k = (t.extract a (a + k), a + k, 0) := by
  have h1 := needS_take t a 0 k (.inr (by simp [hasC]; omega))
  rw [← h1, needS_yes h]
theorem take_no {t : ByteArray} {a k : Nat} (h : ¬ a + k ≤ t.size) : takeS t a 0 k = (⟨#[]⟩, a, 3) := by
  have hh : hasC t a k = false := by simp [hasC]; omega
  unfold takeS
  rw [if_pos rfl, if_neg (by rw [hh]; decide)]
theorem num_front {t : ByteArray} {a k : Nat} {x rest : List UInt8} (h : (ls t).drop a = x ++ rest) (hx : x.length = k) (ha : a ≤ t.size) : numS t a 0 k = getL x := by
  have hl := congrArg List.length h
  rw [List.length_drop, List.length_append, ls_len] at hl
  unfold numS
  rw [take_yes (by omega), extract_ls, h, ← hx, List.take_left']
  rfl
theorem num_one_lt (t : ByteArray) (a : Nat) (e : Int) : numS t a e 1 < 256 := by
  unfold numS
  have h1 := getL_lt (ls (takeS t a e 1).1)
  have h2 : (ls (takeS t a e 1).1).length ≤ 1 := by
    rw [ls_len]
    unfold takeS
    split
    · split
      · show (t.extract a (a + Int.toNat 1)).size ≤ 1
        rw [ByteArray.size_extract]; omega
      · exact Nat.zero_le _
    · exact Nat.zero_le _
  have h3 : 256 ^ (ls (takeS t a e 1).1).length ≤ 256 ^ 1 := Nat.pow_le_pow_right (by omega) h2
  omega
theorem num_back {t : ByteArray} {a : Nat} (h : a + 1 ≤ t.size) : (ls t).drop a = putL (numS t a 0 1) 1 ++ (ls t).drop (a + 1) := by
  unfold numS
  rw [show ((1 : Int)) = ((1 : Nat) : Int) from rfl, take_yes h, put_get1 _ (by rw [ls_len, ByteArray.size_extract]; omega), extract_ls, ← List.drop_drop, List.take_append_drop]
theorem num_back2 {t : ByteArray} {a : Nat} (h : a + 2 ≤ t.size) : (ls t).drop a = putL (numS t a 0 2) 2 ++ (ls t).drop (a + 2) := by
  unfold numS
  rw [show ((2 : Int)) = ((2 : Nat) : Int) from rfl, take_yes h, put_get2 _ (by rw [ls_len, ByteArray.size_extract]; omega), extract_ls, ← List.drop_drop, List.take_append_drop]
theorem bytesS_two {k : Int} {l : List Pr} (h : (bytesS k l).2 = 0) : 0 < (bytesS k l).1.length := by
  rw [bytesS_bytes k l h, List.length_append]
  have : 0 < (varL (l.flatMap propL).length).length := by
    unfold varL varF
    split <;> simp
  omega

theorem rest_front {k code : Int} {l : List Pr} {t : ByteArray} {a : Nat} (h : (ls t).drop a = tailL k code l) (ha : a ≤ t.size) (h0 : 0 ≤ code) (h1 : code < 256) (hb : (bytesS k l).2 = 0) (hn : ∀ p ∈ l, p.n < 4294967296) :
    restS k t a = (code, l, t.size, 0) := by
  have hl := congrArg List.length h
  rw [List.length_drop, ls_len] at hl
  unfold tailL at h hl
  by_cases hz : code = 0 ∧ l.length = 0
  · rw [if_pos hz] at h hl
    have he : t.size ≤ a := by simp at hl; omega
    unfold restS
    rw [if_pos he, List.eq_nil_of_length_eq_zero hz.2, hz.1, show a = t.size by omega]
  · rw [if_neg hz] at h hl
    rw [List.length_append, putL_len] at hl
    have hc : numS t a 0 1 = code.toNat := by
      have := num_front (k := 1) h (putL_len _ _) ha
      rw [show ((1 : Nat) : Int) = 1 from rfl] at this
      rw [this, get_put1 _ (by omega)]
    unfold restS
    rw [if_neg (by omega), hc]
    by_cases hp : l.length = 0
    · rw [if_pos hp] at hl
      have : l = [] := List.eq_nil_of_length_eq_zero hp
      subst this
      rw [if_pos (by simp at hl; omega), if_neg (by intro x; exact hz ⟨by omega, rfl⟩), show ((code.toNat : Nat) : Int) = code by omega, show a + 1 = t.size by simp at hl; omega]
    · rw [if_neg hp] at h hl
      have h2 := bytesS_two hb
      rw [if_neg (by omega)]
      have hd : ls (t.extract (a + 1) t.size) = (bytesS k l).1 ++ [] := by
        rw [rest_ls, ← putL_len code.toNat 1, drop_after (t := t) (a := a) h, List.append_nil]
      rw [readP_front hb hn hd]
      simp only
      rw [if_neg (by decide), if_neg hp, show ((code.toNat : Nat) : Int) = code by omega, show a + 1 + (bytesS k l).1.length = t.size by omega]

theorem rest_code (k : Int) (t : ByteArray) (a : Nat) : 0 ≤ (restS k t a).1 ∧ (restS k t a).1 < 256 := by
  have := num_one_lt t a 0
  unfold restS
  split
  · exact ⟨by simp, by simp⟩
  · split
    · exact ⟨by simp, by simp; omega⟩
    · exact ⟨by simp, by simp; omega⟩
theorem rest_back {k : Int} {t : ByteArray} {a : Nat} (_ha : a ≤ t.size) (h : (restS k t a).2.2.2 = 0) (hend : t.size ≤ (restS k t a).2.2.1) :
    (ls t).drop a = tailL k (restS k t a).1 (restS k t a).2.1 ∧ (bytesS k (restS k t a).2.1).2 = 0 := by
  unfold restS at h hend ⊢
  by_cases h1 : t.size ≤ a
  · rw [if_pos h1] at h hend ⊢
    refine ⟨?_, rfl⟩
    rw [List.drop_eq_nil_of_le (by rw [ls_len]; exact h1)]
    rfl
  · rw [if_neg h1] at h hend ⊢
    have hnb := num_back (t := t) (a := a) (by omega)
    by_cases h2 : t.size = a + 1
    · rw [if_pos h2] at h hend ⊢
      refine ⟨?_, rfl⟩
      simp only at h ⊢
      have hc : numS t a 0 1 ≠ 0 := fun x => by rw [if_pos x] at h; cases h
      rw [hnb, List.drop_eq_nil_of_le (by rw [ls_len]; omega)]
      unfold tailL
      rw [if_neg (fun x => hc (by have := x.1; omega)), if_pos List.length_nil, Int.toNat_natCast]
    · rw [if_neg h2] at h hend ⊢
      simp only at h hend ⊢
      have hx : (readP k (t.extract (a + 1) t.size)).2.2 = 0 := Decidable.not_not.1 fun x => by rw [if_pos x] at h; exact x h
      rw [if_neg (fun x => x hx)] at h
      have hl : (readP k (t.extract (a + 1) t.size)).1.length ≠ 0 := fun x => by rw [if_pos x] at h; cases h
      obtain ⟨b1, b2, b3⟩ := readP_back (kind := k) (s := t.extract (a + 1) t.size) (l := (readP k (t.extract (a + 1) t.size)).1) (n := (readP k (t.extract (a + 1) t.size)).2.1) (by rw [← hx])
      rw [rest_len] at b3
      refine ⟨?_, b1⟩
      unfold tailL
      rw [if_neg (fun x => hl x.2), if_neg hl, hnb, b2, rest_ls, List.take_of_length_le (by rw [List.length_drop, ls_len]; omega)]
      rfl
theorem rest_good {k : Int} {t : ByteArray} {a : Nat} (ht : t.size ≤ 140737488351232) : ∀ p ∈ (restS k t a).2.1, prGood p := by
  unfold restS
  split
  · simp
  · split
    · simp
    · exact readP_good (by rw [ByteArray.size_extract]; omega)
theorem tail_len (k code : Int) (l : List Pr) : ((tailL k code l).length = 0 ↔ (code = 0 ∧ l.length = 0)) ∧ ((bytesS k l).2 = 0 → ((tailL k code l).length = 1 ↔ (code ≠ 0 ∧ l.length = 0))) := by
  unfold tailL
  by_cases h : code = 0 ∧ l.length = 0
  · rw [if_pos h]
    simp [h.1, h.2]
  · rw [if_neg h, List.length_append, putL_len]
    refine ⟨⟨fun x => by omega, fun x => absurd x h⟩, fun hb => ?_⟩
    by_cases hl : l.length = 0
    · rw [if_pos hl]
      simp only [List.length_nil]
      exact ⟨fun _ => ⟨fun x => h ⟨x, hl⟩, hl⟩, fun _ => trivial⟩
    · rw [if_neg hl]
      have := bytesS_two hb
      exact ⟨fun x => by omega, fun x => absurd x.2 hl⟩
end Go.Proofs.YtmkkjiogokfnmaaDoor

namespace Go.Proofs.YtmkkjiogokfnmaaDoor
open Go.RowKit

/-- A packet of a kind, an id, a code, properties. -/
def ackR1 (k i c : Int) (l : List Pr) : Pk := { pk0 with kind := k, id := i, code := c, props := l }
theorem ackP_R1 (p : Pk) : ackP p = ackR1 p.kind p.id p.code p.props := rfl
theorem ackQ_R1 (k i c : Int) : ackQ k i c = ackR1 k i c [] := rfl
/-- Code and properties, where they may be. -/
def restV (v k : Int) (t : ByteArray) : Int × List Pr × Nat × Int := if v = 5 then restS k t 2 else (0, [], 2, 0)
/-- The packet that is read, before it is looked at. -/
def ackPre (v k : Int) (s : ByteArray) : Pk := ackR1 k (numS s 0 0 2 : Nat) (restV v k s).1 (restV v k s).2.1
/-- The cursor's error, before the packet is looked at. -/
def ackErr (v k : Int) (s : ByteArray) : Int := if (restV v k s).2.2.2 ≠ 0 then (restV v k s).2.2.2 else if (restV v k s).2.2.1 < s.size then 5 else 0
def ackR (v k : Int) (s : ByteArray) : Pk × Int :=
  if ackK v k = false then (pk0, 2)
  else if s.size < 2 then (pk0, 3)
  else if ackErr v k s ≠ 0 then (pk0, ackErr v k s)
  else if ackE v (ackPre v k s) ≠ 0 then (pk0, ackE v (ackPre v k s))
  else (ackPre v k s, 0)
theorem ackK_four {v k : Int} (h : ackK v k = true) : v = 4 ∨ v = 5 := (of_decide_eq_true h).1

theorem ackR_front {v : Int} {p : Pk} (g : AckGood v p) (hn : ∀ q ∈ p.props, q.n < 4294967296) {s : ByteArray} (hs : ls s = putL p.id.toNat 2 ++ ackT p) : ackR v p.kind s = (p, 0) := by
  have i1 := g.id1
  have i2 := g.id2
  have hl := congrArg List.length hs
  rw [ls_len, List.length_append, putL_len] at hl
  have hid : numS s 0 0 2 = p.id.toNat := by
    have := num_front (k := 2) (t := s) (a := 0) (by rw [List.drop_zero]; exact hs) (putL_len _ _) (by omega)
    rw [show ((2 : Nat) : Int) = 2 from rfl] at this
    rw [this, get_put2 _ (by omega)]
  have hd : (ls s).drop 2 = tailL p.kind p.code p.props := by
    have := drop_after (t := s) (a := 0) (by rw [List.drop_zero]; exact hs)
    rwa [putL_len, Nat.zero_add] at this
  have hr : restV v p.kind s = (p.code, p.props, s.size, 0) := by
    unfold restV
    by_cases h5 : v = 5
    · rw [if_pos h5, rest_front hd (by omega) g.c1 g.c2 g.bytes hn]
    · rw [if_neg h5]
      obtain ⟨e1, e2⟩ := g.old ((ackK_four g.k).resolve_right h5)
      have hz : ackT p = [] := by unfold ackT; rw [if_pos ⟨e1, by rw [e2]; rfl⟩]
      rw [hz] at hl
      rw [e1, e2, show s.size = 2 by simpa using hl]
  have hp : ackPre v p.kind s = p := by
    unfold ackPre
    rw [hr, hid, show ((p.id.toNat : Nat) : Int) = p.id by omega]
    exact g.same.symm
  have he : ackErr v p.kind s = 0 := by
    unfold ackErr
    rw [hr]
    simp
  unfold ackR
  rw [g.k, if_neg (by decide), if_neg (by omega), he, if_neg (by decide), hp, g.ok, if_neg (by decide)]

theorem ackR_ways (v k : Int) (s : ByteArray) : (ackR v k s = (pk0, (ackR v k s).2) ∧ (ackR v k s).2 ≠ 0) ∨
    ((ackR v k s).2 = 0 ∧ AckGood v (ackR v k s).1 ∧ (ackR v k s).1.kind = k ∧ putL (ackR v k s).1.id.toNat 2 ++ ackT (ackR v k s).1 = ls s) := by
  unfold ackR
  by_cases h1 : ackK v k = false
  · rw [if_pos h1]; exact .inl ⟨rfl, by decide⟩
  rw [if_neg h1]
  by_cases h2 : s.size < 2
  · rw [if_pos h2]; exact .inl ⟨rfl, by decide⟩
  rw [if_neg h2]
  by_cases h3 : ackErr v k s ≠ 0
  · rw [if_pos h3]; exact .inl ⟨rfl, h3⟩
  rw [if_neg h3]
  by_cases h4 : ackE v (ackPre v k s) ≠ 0
  · rw [if_pos h4]; exact .inl ⟨rfl, h4⟩
  rw [if_neg h4]
  refine .inr ⟨rfl, ackE_good (Decidable.not_not.1 h4), rfl, ?_⟩
  show putL ((numS s 0 0 2 : Nat) : Int).toNat 2 ++ ackT (ackPre v k s) = ls s
  have hb := num_back2 (t := s) (a := 0) (by omega)
  rw [List.drop_zero, Nat.zero_add] at hb
  rw [Int.toNat_natCast, hb]
  congr 1
  have h3 := Decidable.not_not.1 h3
  unfold ackErr at h3
  have he : (restV v k s).2.2.2 = 0 := Decidable.not_not.1 fun x => by rw [if_pos x] at h3; exact x h3
  rw [if_neg (fun x => x he)] at h3
  have hend : ¬ (restV v k s).2.2.1 < s.size := fun x => by rw [if_pos x] at h3; cases h3
  rw [ackT_tail]
  show tailL k (restV v k s).1 (restV v k s).2.1 = _
  unfold restV at he hend ⊢
  by_cases h5 : v = 5
  · rw [if_pos h5] at he hend ⊢
    exact (rest_back (by omega) he (by omega)).1.symm
  · rw [if_neg h5] at he hend ⊢
    rw [List.drop_eq_nil_of_le (by rw [ls_len]; simp at hend; omega)]
    rfl
theorem ackPre_good {v k : Int} {s : ByteArray} (hs : s.size ≤ 140737488351232) : ∀ p ∈ (ackPre v k s).props, prGood p := by
  show ∀ p ∈ (restV v k s).2.1, prGood p
  unfold restV
  split
  · exact rest_good hs
  · simp
theorem pkOk_R1 {k i c : Int} {l : List Pr} (h : ∀ p ∈ l, prGood p) (hl : l.length ≤ 140737488351232) : PkOk (ackR1 k i c l) := by
  refine ⟨?_, h, ?_, ?_, ?_⟩
  · intro q hq; cases hq
  · intro q hq; cases hq
  · exact ⟨Nat.zero_le _, Nat.zero_le _, Nat.zero_le _, Nat.zero_le _, Nat.zero_le _, Nat.zero_le _, Nat.zero_le _⟩
  · exact ⟨Nat.zero_le _, Nat.zero_le _, Nat.zero_le _, hl⟩
theorem rest_many (k : Int) (t : ByteArray) (a : Nat) : (restS k t a).2.1.length ≤ 1000 := by
  unfold restS
  split
  · exact Nat.zero_le _
  · split
    · exact Nat.zero_le _
    · show (readP k (t.extract (a + 1) t.size)).1.length ≤ 1000
      by_cases h : (readP k (t.extract (a + 1) t.size)).2.2 = 0
      · exact readP_len h
      · rw [readP_bad h]; exact Nat.zero_le _
theorem ackR_ok {v k : Int} {s : ByteArray} (hs : s.size ≤ 140737488351232) : PkOk (ackR v k s).1 := by
  have hpre : PkOk (ackPre v k s) := by
    refine pkOk_R1 (ackPre_good hs) ?_
    unfold restV
    split
    · have := rest_many k s 2; omega
    · exact Nat.zero_le _
  have h0 : PkOk pk0 := pkOk_R1 (k := 0) (i := 0) (c := 0) (l := []) (by simp) (by simp)
  unfold ackR
  split
  · exact h0
  · split
    · exact h0
    · split
      · exact h0
      · split
        · exact h0
        · exact hpre
end Go.Proofs.YtmkkjiogokfnmaaDoor

namespace Go.Proofs.YtmkkjiogokfnmaaDoor
open Go.RowKit
attribute [local go_sem ↓] Go.wp_at_zero Go.wp_at_succ

theorem pk_code (k i c c' : Int) (l : List Pr) (h : Hs) : (pkC (ackR1 k i c l) h).setIfInBounds 21 (.int .i64 c') = pkC (ackR1 k i c' l) h := rfl
theorem pk_props (k i c : Int) (l l' : List Pr) (A : Option Addr) (n : Nat) (h : Hs) : (pkC (ackR1 k i c l) h).setIfInBounds 24 (.slice A l'.length n) = pkC (ackR1 k i c l') { h with props := ⟨A, n⟩ } := rfl
/-- A cell stands, and nothing that was there has turned. -/
abbrev SR (gp : Nat) (v : Value) (W x : World) : Prop := x.cell? ⟨gp, 0, none⟩ = some v ∧ Below W.heap.size W x
theorem SR.to {gp : Nat} {v : Value} {W x : World} (h : SR gp v W x) : Below W.heap.size W x := h.2
theorem SR.below {gp : Nat} {v : Value} {W x y : World} (h : SR gp v W x) (hb : Below x.heap.size x y) : SR gp v W y :=
  ⟨(hb.cell (p := ⟨gp, 0, none⟩) (World.block_lt_of_cell? x _ h.1)).trans h.1, h.2.trans (hb.mono h.2.size)⟩
theorem takeS_bad {t : ByteArray} {a : Nat} {e n : Int} (h : e ≠ 0) : takeS t a e n = (⟨#[]⟩, a, e) := by
  unfold takeS; rw [if_neg h]
/-- Properties lie in no block without a number of 32 bits. -/
theorem Rd.other {w w' : World} {B g : Nat} {A : Option Addr} {l : List Pr} {t : TypeId} {cs : Array Value} (h : Rd w B 4 A l.length (prs l)) (hbk : Bk w g t cs) (hcs : ∀ (i : Nat) (n : Int), cs[i]? ≠ some (Value.int IntKind.u32 n)) (hm : w.grownBy w' (some g)) (hB : B ≤ w.heap.size) : Rd w' B 4 A l.length (prs l) := by
  refine h.grown hm hB fun b o hA hx hbg => ?_
  subst hbg
  have hl : 0 < l.length := by
    cases l with
    | nil => exact absurd rfl hx
    | cons => simp
  obtain ⟨b', o', he, _, _, c1, _⟩ := h.atP hl
  rw [hA] at he
  cases he
  rw [hbk.cell] at c1
  exact hcs _ _ c1
theorem cur_no32 (t : ByteArray) (a : Nat) (e : Int) : ∀ (i : Nat) (n : Int), (curC t a e)[i]? ≠ some (Value.int IntKind.u32 n) := by
  intro i n
  rcases i with _ | _ | _ | i <;> simp [curC]
theorem pk_no32 (p : Pk) (h : Hs) : ∀ (i : Nat) (n : Int), (pkC p h)[i]? ≠ some (Value.int IntKind.u32 n) := by
  intro i n
  rcases i with _ | _ | _ | _ | _ | _ | _ | _ | _ | _ | _ | _ | _ | _ | _ | _ | _ | _ | _ | _ | _ | _ | _ | _ | _ | i <;> simp [pkC]
end Go.Proofs.YtmkkjiogokfnmaaDoor

namespace Go.Proofs.YtmkkjiogokfnmaaDoor
open Go.RowKit
attribute [local go_sem ↓] to_ldPk to_bxPk to_bdPk to_alPk to_stPk
attribute [local go_sem] run_bxPk run_bxPk_agg ld_fresh run_alPk run_bd0 run_bdK run_bdKI run_bdKIC run_bdKC run_bdKICP run_stPk_fresh pkC_0 pkC_1 pkC_2 pkC_3 pkC_4 pkC_5 pkC_6 pkC_7 pkC_8 pkC_9 pkC_10 pkC_11 pkC_12 pkC_13 pkC_14 pkC_15 pkC_16 pkC_17 pkC_18 pkC_19 pkC_20 pkC_21 pkC_22 pkC_23 pkC_24

theorem PkIn.R1 {w : World} {B : Nat} {A : Option Addr} {n : Nat} {l : List Pr} (h : Rd w B 4 A l.length (prs l)) (hn : l.length ≤ n) (k i c : Int) : PkIn w B (ackR1 k i c l) { hs0 with props := ⟨A, n⟩ } :=
  ⟨Rd.nil _ _ _ _, Rd.nil _ _ _ _, Rd.nil _ _ _ _, h, Nat.zero_le _, Nat.zero_le _, Nat.zero_le _, hn⟩

section
variable {w x y : World} {g gp gc : Nat} {k i c : Int} {l : List Pr} {A : Option Addr} {n : Nat} {t : ByteArray} {a a' : Nat} {e e' : Int}
end
/-- What a reading of a packet leaves. -/
def PkOut (r : Pk × Int) (w : World) (e : Ending) (w' : World) : Prop := ∃ h, e = .returned (.tuple #[pkV r.1 h, .int .i64 r.2]) ∧ PkIn w' w'.heap.size r.1 h ∧ Below w.heap.size w w'
theorem pkOut_bad {r : Pk × Int} {x : Int} {w w' : World} (h : r = (pk0, x)) (hb : Below w.heap.size w w') : PkOut r w (.returned (.tuple #[pkV pk0 hs0, .int .i64 x])) w' := by
  subst h
  exact ⟨hs0, rfl, ⟨Rd.nil _ _ _ _, Rd.nil _ _ _ _, Rd.nil _ _ _ _, Rd.nil _ _ _ _, Nat.zero_le _, Nat.zero_le _, Nat.zero_le _, Nat.zero_le _⟩, hb⟩
theorem pkOut_ok {r : Pk × Int} {p : Pk} {h : Hs} {w w' : World} (hr : r = (p, 0)) (hi : PkIn w' w'.heap.size p h) (hb : Below w.heap.size w w') : PkOut r w (.returned (.tuple #[pkV p h, .int .i64 0])) w' := by
  subst hr
  exact ⟨h, rfl, hi, hb⟩
theorem fail_then {e n : Int} : (if e = 0 then n else e) = if e ≠ 0 then e else n := by
  by_cases h : e = 0
  · rw [if_pos h, if_neg (fun x => x h)]
  · rw [if_neg h, if_pos h]
theorem num_two_lt (t : ByteArray) (a : Nat) (e : Int) (ha : a ≤ t.size) : numS t a e 2 < 65536 := by
  unfold numS
  have h1 := getL_lt (ls (takeS t a e 2).1)
  have h2 : (ls (takeS t a e 2).1).length ≤ 2 := by
    rw [ls_len]
    exact takeS_size ha e 2 2 (by decide)
  have h3 : 256 ^ (ls (takeS t a e 2).1).length ≤ 256 ^ 2 := Nat.pow_le_pow_right (by omega) h2
  omega

theorem ackR_last {v k : Int} {s : ByteArray} (hk : ackK v k = true) (h2 : ¬ s.size < 2) :
    ((if ackErr v k s = 0 then ackE v (ackPre v k s) else ackErr v k s) = 0 ∧ ackR v k s = (ackPre v k s, 0)) ∨ ((if ackErr v k s = 0 then ackE v (ackPre v k s) else ackErr v k s) ≠ 0 ∧ ackR v k s = (pk0, (if ackErr v k s = 0 then ackE v (ackPre v k s) else ackErr v k s))) := by
  have e1 : ackR v k s = if ackErr v k s ≠ 0 then (pk0, ackErr v k s) else if ackE v (ackPre v k s) ≠ 0 then (pk0, ackE v (ackPre v k s)) else (ackPre v k s, 0) := by
    unfold ackR
    rw [if_neg (fun x => by rw [hk] at x; cases x), if_neg h2]
  rw [e1]
  by_cases h3 : ackErr v k s = 0
  · rw [if_pos h3, if_neg (fun x => x h3)]
    by_cases h4 : ackE v (ackPre v k s) = 0
    · rw [if_neg (fun x => x h4)]
      exact .inl ⟨h4, rfl⟩
    · rw [if_pos h4]
      exact .inr ⟨h4, rfl⟩
  · rw [if_neg h3, if_pos h3]
    exact .inr ⟨h3, rfl⟩
theorem ackR1_ki (k i : Int) : ({ pk0 with kind := k, id := i } : Pk) = ackR1 k i 0 [] := rfl
end Go.Proofs.YtmkkjiogokfnmaaDoor
