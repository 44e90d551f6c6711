/- A part of what the laws stand on: MTai, HdP. -/
import Derived.Test.YtbdgkkmbnahgiaaGreatDoorMsG0MPubA
namespace Go.Proofs.YtbdgkkmbnahgiaaGreatDoor
open Go.RowKit

/-- What the reading of a tail finds: the code, the properties, the place behind, the error. -/
def restS (k : Int) (t : ByteArray) (a : Nat) : Int × List Pr × Nat × Int :=
  if t.size ≤ a then (0, [], a, 0)
  else if t.size = a + 1 then ((numS t a 0 1 : Nat), [], a + 1, if numS t a 0 1 = 0 then 5 else 0)
  else ((numS t a 0 1 : Nat), (readP k (t.extract (a + 1) t.size)).1, a + 1 + (readP k (t.extract (a + 1) t.size)).2.1,
    if (readP k (t.extract (a + 1) t.size)).2.2 ≠ 0 then (readP k (t.extract (a + 1) t.size)).2.2 else if (readP k (t.extract (a + 1) t.size)).1.length = 0 then 5 else 0)
/-- A tail's bytes. -/
def tailL (k code : Int) (l : List Pr) : List UInt8 := if code = 0 ∧ l.length = 0 then [] else putL code.toNat 1 ++ (if l.length = 0 then [] else (bytesS k l).1)
theorem ackT_tail (p : Pk) : ackT p = tailL p.kind p.code p.props := rfl

theorem take_yes {t : ByteArray} {a k : Nat} (h : a + k ≤ t.size) : takeS t a 0 k = (t.extract a (a + k), a + k, 0) := by
  have h1 := needS_take t a 0 k (.inr (by simp [hasC]; omega))
  rw [← h1, needS_yes h]
theorem take_no {t : ByteArray} {a k : Nat} (h : ¬ a + k ≤ t.size) : takeS t a 0 k = (⟨#[]⟩, a, 3) := by
  have hh : hasC t a k = false := by simp [hasC]; omega
  unfold takeS
  rw [if_pos rfl, if_neg (by rw [hh]; decide)]
theorem num_front {t : ByteArray} {a k : Nat} {x rest : List UInt8} (h : (ls t).drop a = x ++ rest) (hx : x.length = k) (ha : a ≤ t.size) : numS t a 0 k = getL x := by
  have hl := congrArg List.length h
  rw [List.length_drop, List.length_append, ls_len] at hl
  unfold numS
  rw [take_yes (by omega), extract_ls, h, ← hx, List.take_left']
  rfl
theorem num_one_lt (t : ByteArray) (a : Nat) (e : Int) : numS t a e 1 < 256 := by
  unfold numS
  have h1 := getL_lt (ls (takeS t a e 1).1)
  have h2 : (ls (takeS t a e 1).1).length ≤ 1 := by
    rw [ls_len]
    unfold takeS
    split
    · split
      · show (t.extract a (a + Int.toNat 1)).size ≤ 1
        rw [ByteArray.size_extract]; omega
      · exact Nat.zero_le _
    · exact Nat.zero_le _
  have h3 : 256 ^ (ls (takeS t a e 1).1).length ≤ 256 ^ 1 := Nat.pow_le_pow_right (by omega) h2
  omega
theorem num_back {t : ByteArray} {a : Nat} (h : a + 1 ≤ t.size) : (ls t).drop a = putL (numS t a 0 1) 1 ++ (ls t).drop (a + 1) := by
  unfold numS
  rw [show ((1 : Int)) = ((1 : Nat) : Int) from rfl, take_yes h, put_get1 _ (by rw [ls_len, ByteArray.size_extract]; omega), extract_ls, ← List.drop_drop, List.take_append_drop]
theorem num_back2 {t : ByteArray} {a : Nat} (h : a + 2 ≤ t.size) : (ls t).drop a = putL (numS t a 0 2) 2 ++ (ls t).drop (a + 2) := by
  unfold numS
  rw [show ((2 : Int)) = ((2 : Nat) : Int) from rfl, take_yes h, put_get2 _ (by rw [ls_len, ByteArray.size_extract]; omega), extract_ls, ← List.drop_drop, List.take_append_drop]
theorem rest_back {k : Int} {t : ByteArray} {a : Nat} (_ha : a ≤ t.size) (h : (restS k t a).2.2.2 = 0) (hend : t.size ≤ (restS k t a).2.2.1) :
    (ls t).drop a = tailL k (restS k t a).1 (restS k t a).2.1 ∧ (bytesS k (restS k t a).2.1).2 = 0 := by
  unfold restS at h hend ⊢
  by_cases h1 : t.size ≤ a
  · rw [if_pos h1] at h hend ⊢
    refine ⟨?_, rfl⟩
    rw [List.drop_eq_nil_of_le (by rw [ls_len]; exact h1)]
    rfl
  · rw [if_neg h1] at h hend ⊢
    have hnb := num_back (t := t) (a := a) (by omega)
    by_cases h2 : t.size = a + 1
    · rw [if_pos h2] at h hend ⊢
      refine ⟨?_, rfl⟩
      simp only at h ⊢
      have hc : numS t a 0 1 ≠ 0 := fun x => by rw [if_pos x] at h; cases h
      rw [hnb, List.drop_eq_nil_of_le (by rw [ls_len]; omega)]
      unfold tailL
      rw [if_neg (fun x => hc (by have := x.1; omega)), if_pos List.length_nil, Int.toNat_natCast]
    · rw [if_neg h2] at h hend ⊢
      simp only at h hend ⊢
      have hx : (readP k (t.extract (a + 1) t.size)).2.2 = 0 := Decidable.not_not.1 fun x => by rw [if_pos x] at h; exact x h
      rw [if_neg (fun x => x hx)] at h
      have hl : (readP k (t.extract (a + 1) t.size)).1.length ≠ 0 := fun x => by rw [if_pos x] at h; cases h
      obtain ⟨b1, b2, b3⟩ := readP_back (kind := k) (s := t.extract (a + 1) t.size) (l := (readP k (t.extract (a + 1) t.size)).1) (n := (readP k (t.extract (a + 1) t.size)).2.1) (by rw [← hx])
      rw [rest_len] at b3
      refine ⟨?_, b1⟩
      unfold tailL
      rw [if_neg (fun x => hl x.2), if_neg hl, hnb, b2, rest_ls, List.take_of_length_le (by rw [List.length_drop, ls_len]; omega)]
      rfl
theorem rest_good {k : Int} {t : ByteArray} {a : Nat} (ht : t.size ≤ 140737488351232) : ∀ p ∈ (restS k t a).2.1, prGood p := by
  unfold restS
  split
  · simp
  · split
    · simp
    · exact readP_good (by rw [ByteArray.size_extract]; omega)
end Go.Proofs.YtbdgkkmbnahgiaaGreatDoor

namespace Go.Proofs.YtbdgkkmbnahgiaaGreatDoor
open Go.RowKit

/-- A packet of a kind, an id, a code, properties. -/
def ackR1 (k i c : Int) (l : List Pr) : Pk := { pk0 with kind := k, id := i, code := c, props := l }
/-- Code and properties, where they may be. -/
def restV (v k : Int) (t : ByteArray) : Int × List Pr × Nat × Int := if v = 5 then restS k t 2 else (0, [], 2, 0)
/-- The packet that is read, before it is looked at. -/
def ackPre (v k : Int) (s : ByteArray) : Pk := ackR1 k (numS s 0 0 2 : Nat) (restV v k s).1 (restV v k s).2.1
/-- The cursor's error, before the packet is looked at. -/
def ackErr (v k : Int) (s : ByteArray) : Int := if (restV v k s).2.2.2 ≠ 0 then (restV v k s).2.2.2 else if (restV v k s).2.2.1 < s.size then 5 else 0
def ackR (v k : Int) (s : ByteArray) : Pk × Int :=
  if ackK v k = false then (pk0, 2)
  else if s.size < 2 then (pk0, 3)
  else if ackErr v k s ≠ 0 then (pk0, ackErr v k s)
  else if ackE v (ackPre v k s) ≠ 0 then (pk0, ackE v (ackPre v k s))
  else (ackPre v k s, 0)
theorem ackK_four {v k : Int} (h : ackK v k = true) : v = 4 ∨ v = 5 := (of_decide_eq_true h).1

theorem ackR_ways (v k : Int) (s : ByteArray) : (ackR v k s = (pk0, (ackR v k s).2) ∧ (ackR v k s).2 ≠ 0) ∨
    ((ackR v k s).2 = 0 ∧ AckGood v (ackR v k s).1 ∧ (ackR v k s).1.kind = k ∧ putL (ackR v k s).1.id.toNat 2 ++ ackT (ackR v k s).1 = ls s) := by
  unfold ackR
  by_cases h1 : ackK v k = false
  · rw [if_pos h1]; exact .inl ⟨rfl, by decide⟩
  rw [if_neg h1]
  by_cases h2 : s.size < 2
  · rw [if_pos h2]; exact .inl ⟨rfl, by decide⟩
  rw [if_neg h2]
  by_cases h3 : ackErr v k s ≠ 0
  · rw [if_pos h3]; exact .inl ⟨rfl, h3⟩
  rw [if_neg h3]
  by_cases h4 : ackE v (ackPre v k s) ≠ 0
  · rw [if_pos h4]; exact .inl ⟨rfl, h4⟩
  rw [if_neg h4]
  refine .inr ⟨rfl, ackE_good (Decidable.not_not.1 h4), rfl, ?_⟩
  show putL ((numS s 0 0 2 : Nat) : Int).toNat 2 ++ ackT (ackPre v k s) = ls s
  have hb := num_back2 (t := s) (a := 0) (by omega)
  rw [List.drop_zero, Nat.zero_add] at hb
  rw [Int.toNat_natCast, hb]
  congr 1
  have h3 := Decidable.not_not.1 h3
  unfold ackErr at h3
  have he : (restV v k s).2.2.2 = 0 := Decidable.not_not.1 fun x => by rw [if_pos x] at h3; exact x h3
  rw [if_neg (fun x => x he)] at h3
  have hend : ¬ (restV v k s).2.2.1 < s.size := fun x => by rw [if_pos x] at h3; cases h3
  rw [ackT_tail]
  show tailL k (restV v k s).1 (restV v k s).2.1 = _
  unfold restV at he hend ⊢
  by_cases h5 : v = 5
  · rw [if_pos h5] at he hend ⊢
    exact (rest_back (by omega) he (by omega)).1.symm
  · rw [if_neg h5] at he hend ⊢
    rw [List.drop_eq_nil_of_le (by rw [ls_len]; simp at hend; omega)]
    rfl
theorem ackPre_good {v k : Int} {s : ByteArray} (hs : s.size ≤ 140737488351232) : ∀ p ∈ (ackPre v k s).props, prGood p := by
  show ∀ p ∈ (restV v k s).2.1, prGood p
  unfold restV
  split
  · exact rest_good hs
  · simp
theorem pkOk_R1 {k i c : Int} {l : List Pr} (h : ∀ p ∈ l, prGood p) (hl : l.length ≤ 140737488351232) : PkOk (ackR1 k i c l) := by
  refine ⟨?_, h, ?_, ?_, ?_⟩
  · intro q hq; cases hq
  · intro q hq; cases hq
  · exact ⟨Nat.zero_le _, Nat.zero_le _, Nat.zero_le _, Nat.zero_le _, Nat.zero_le _, Nat.zero_le _, Nat.zero_le _⟩
  · exact ⟨Nat.zero_le _, Nat.zero_le _, Nat.zero_le _, hl⟩
theorem rest_many (k : Int) (t : ByteArray) (a : Nat) : (restS k t a).2.1.length ≤ 1000 := by
  unfold restS
  split
  · exact Nat.zero_le _
  · split
    · exact Nat.zero_le _
    · show (readP k (t.extract (a + 1) t.size)).1.length ≤ 1000
      by_cases h : (readP k (t.extract (a + 1) t.size)).2.2 = 0
      · exact readP_len h
      · rw [readP_bad h]; exact Nat.zero_le _
theorem ackR_ok {v k : Int} {s : ByteArray} (hs : s.size ≤ 140737488351232) : PkOk (ackR v k s).1 := by
  have hpre : PkOk (ackPre v k s) := by
    refine pkOk_R1 (ackPre_good hs) ?_
    unfold restV
    split
    · have := rest_many k s 2; omega
    · exact Nat.zero_le _
  have h0 : PkOk pk0 := pkOk_R1 (k := 0) (i := 0) (c := 0) (l := []) (by simp) (by simp)
  unfold ackR
  split
  · exact h0
  · split
    · exact h0
    · split
      · exact h0
      · split
        · exact h0
        · exact hpre
end Go.Proofs.YtbdgkkmbnahgiaaGreatDoor

namespace Go.Proofs.YtbdgkkmbnahgiaaGreatDoor
open Go.RowKit
attribute [local go_sem ↓] Go.wp_at_zero Go.wp_at_succ

theorem pk_code (k i c c' : Int) (l : List Pr) (h : Hs) : (pkC (ackR1 k i c l) h).setIfInBounds 21 (.int .i64 c') = pkC (ackR1 k i c' l) h := rfl
theorem pk_props (k i c : Int) (l l' : List Pr) (A : Option Addr) (n : Nat) (h : Hs) : (pkC (ackR1 k i c l) h).setIfInBounds 24 (.slice A l'.length n) = pkC (ackR1 k i c l') { h with props := ⟨A, n⟩ } := rfl
theorem pk_ne_cur {w : World} {gp gc a : Nat} {p : Pk} {h : Hs} {t : ByteArray} {e : Int} (hp : Bk w gp PkT (pkC p h)) (hc : Cur w gc t a e) : gp ≠ gc := by
  rintro rfl
  have h1 := hp
  have h2 := hc.1
  unfold Bk at h1 h2
  rw [h1] at h2
  simp only [Option.some.injEq, Obj.cells.injEq] at h2
  exact absurd h2.2.1 (by decide)
/-- A cell stands, and nothing that was there has turned. -/
abbrev SR (gp : Nat) (v : Value) (W x : World) : Prop := x.cell? ⟨gp, 0, none⟩ = some v ∧ Below W.heap.size W x
theorem SR.to {gp : Nat} {v : Value} {W x : World} (h : SR gp v W x) : Below W.heap.size W x := h.2
theorem SR.below {gp : Nat} {v : Value} {W x y : World} (h : SR gp v W x) (hb : Below x.heap.size x y) : SR gp v W y :=
  ⟨(hb.cell (p := ⟨gp, 0, none⟩) (World.block_lt_of_cell? x _ h.1)).trans h.1, h.2.trans (hb.mono h.2.size)⟩
theorem takeS_bad {t : ByteArray} {a : Nat} {e n : Int} (h : e ≠ 0) : takeS t a e n = (⟨#[]⟩, a, e) := by
  unfold takeS; rw [if_neg h]
/-- What rest leaves. -/
def RestOut (gp gc : Nat) (k i : Int) (t : ByteArray) (r : Int × List Pr × Nat × Int) (w : World) (e : Ending) (w' : World) : Prop :=
  e = .returned (.tuple #[]) ∧ ∃ A c, r.2.1.length ≤ c ∧ Rd w' w'.heap.size 4 A r.2.1.length (prs r.2.1) ∧ Bk w' gp PkT (pkC (ackR1 k i r.1 r.2.1) { hs0 with props := ⟨A, c⟩ }) ∧ Cur w' gc t r.2.2.1 r.2.2.2 ∧ Mods (two gp gc) w w'
theorem restOut_mk {gp gc : Nat} {k i : Int} {t : ByteArray} {r : Int × List Pr × Nat × Int} {w w' : World} {c : Int} {a : Nat} {e : Int} (hr : r = (c, [], a, e)) (hp : Bk w' gp PkT (pkC (ackR1 k i c []) hs0)) (hc : Cur w' gc t a e) (hm : Mods (two gp gc) w w') : RestOut gp gc k i t r w (.returned (.tuple #[])) w' := by
  subst hr
  exact ⟨rfl, none, 0, Nat.le_refl _, Rd.nil _ _ _ _, hp, hc, hm⟩

/-- Properties lie in no block without a number of 32 bits. -/
theorem Rd.other {w w' : World} {B g : Nat} {A : Option Addr} {l : List Pr} {t : TypeId} {cs : Array Value} (h : Rd w B 4 A l.length (prs l)) (hbk : Bk w g t cs) (hcs : ∀ (i : Nat) (n : Int), cs[i]? ≠ some (Value.int IntKind.u32 n)) (hm : w.grownBy w' (some g)) (hB : B ≤ w.heap.size) : Rd w' B 4 A l.length (prs l) := by
  refine h.grown hm hB fun b o hA hx hbg => ?_
  subst hbg
  have hl : 0 < l.length := by
    cases l with
    | nil => exact absurd rfl hx
    | cons => simp
  obtain ⟨b', o', he, _, _, c1, _⟩ := h.atP hl
  rw [hA] at he
  cases he
  rw [hbk.cell] at c1
  exact hcs _ _ c1
theorem cur_no32 (t : ByteArray) (a : Nat) (e : Int) : ∀ (i : Nat) (n : Int), (curC t a e)[i]? ≠ some (Value.int IntKind.u32 n) := by
  intro i n
  rcases i with _ | _ | _ | i <;> simp [curC]
theorem pk_no32 (p : Pk) (h : Hs) : ∀ (i : Nat) (n : Int), (pkC p h)[i]? ≠ some (Value.int IntKind.u32 n) := by
  intro i n
  rcases i with _ | _ | _ | _ | _ | _ | _ | _ | _ | _ | _ | _ | _ | _ | _ | _ | _ | _ | _ | _ | _ | _ | _ | _ | _ | i <;> simp [pkC]
/-- What stands behind the reading of the properties. -/
structure RJ (gp gc : Nat) (k i q : Int) (l : List Pr) (A : Option Addr) (t : ByteArray) (a : Nat) (e : Int) (w x : World) : Prop where
  pk : Bk x gp PkT (pkC (ackR1 k i q []) hs0)
  cur : Cur x gc t a e
  rd : Rd x x.heap.size 4 A l.length (prs l)
  mods : Mods (two gp gc) w x
  ne : gp ≠ gc
theorem RJ.turn {gp gc : Nat} {k i q : Int} {l : List Pr} {A : Option Addr} {t : ByteArray} {a a' : Nat} {e e' : Int} {w x y : World} (h : RJ gp gc k i q l A t a e w x) (hc : Cur y gc t a' e') (hm : x.grownBy y (some gc)) : RJ gp gc k i q l A t a' e' w y :=
  ⟨h.pk.mods (S := fun z => z = gc) (Mods.of_grown hm rfl) h.ne, hc, (h.rd.other h.cur.1 (cur_no32 _ _ _) hm (Nat.le_refl _)).wider hm.size, h.mods.trans (Mods.of_grown hm (.inr rfl)), h.ne⟩
theorem RJ.fin {gp gc : Nat} {k i q : Int} {l : List Pr} {A : Option Addr} {t : ByteArray} {a : Nat} {e : Int} {w x : World} {c : Nat} {r : Int × List Pr × Nat × Int} (h : RJ gp gc k i q l A t a e w x) (hr : r = (q, l, a, e)) (hc : l.length ≤ c) :
    RestOut gp gc k i t r w (.returned (.tuple #[])) (x.setCell ⟨gp, 24, none⟩ (.slice A l.length c)) := by
  subst hr
  exact ⟨rfl, A, c, hc, (h.rd.other h.pk (pk_no32 _ _) (mod_set x gp 24 _) (Nat.le_refl _)).wider (mod_set x gp 24 _).size, h.pk.upd 24 _ (pk_props k i q [] l A c hs0), ⟨h.cur.1.other (Ne.symm h.ne) _, h.cur.2⟩, h.mods.set gp 24 (.inl (.inl rfl)) _⟩

set_option maxHeartbeats 2000000 in
set_option maxRecDepth 10000 in
theorem ackRest_any (gp gc a : Nat) (t : ByteArray) (k i : Int) (w : World) (hp : Bk w gp PkT (pkC (ackR1 k i 0 []) hs0)) (hc : Cur w gc t a 0) (ht : t.size ≤ 140737488351232) :
    Calls Tryz.prog 271 #[.pointer (some ⟨gp, 0, none⟩), .pointer (some ⟨gc, 0, none⟩)] w (RestOut gp gc k i t (restS k t a) w) := by
  have hne := pk_ne_cur hp hc
  have hle := hc.2.1
  have HP := Lib.hid hp; have HC := Lib.hid hc; have HT := Lib.hid ht; have HN := Lib.hid hne
  clear hp hc ht hne
  by_cases h1 : t.size ≤ a
  · have HX : Hid (restS k t a = (0, [], a, 0)) := Lib.hid (by unfold restS; rw [if_pos h1])
    have z0 : (((t.size - a : Nat) : Int) == 0) = true := beq_iff_eq.2 (by omega)
    clear h1 hle
    go_enter Tryz.func271, Tryz.ntmps271
    go_wp2_with fail
    refine (left_any gc a t 0 _ HC.out).mono ?_
    rintro e w1 ⟨rfl, hb⟩
    have HB := Lib.hid hb; clear hb
    go_wp2
    go_end0
    exact restOut_mk HX.out (HP.out.below HB.out HP.out.lt) (HC.out.below HB.out) (Mods.of_below HB.out)
  · have HE : Hid (takeS t a 0 1 = (t.extract a (a + 1), a + 1, 0)) := Lib.hid (take_yes (k := 1) (by omega))
    have z0 : (((t.size - a : Nat) : Int) == 0) = false := beq_eq_false_iff_ne.2 (by omega)
    have HNB := Lib.hid (num_one_lt t a 0)
    by_cases h2 : t.size = a + 1
    · have HX : Hid (restS k t a = (((numS t a 0 1 : Nat) : Int), [], a + 1, if numS t a 0 1 = 0 then 5 else 0)) := Lib.hid (by unfold restS; rw [if_neg h1, if_pos h2])
      have z1 : (((t.size - (a + 1) : Nat) : Int) == 0) = true := beq_iff_eq.2 (by omega)
      clear h1 h2 hle
      go_enter Tryz.func271, Tryz.ntmps271
      go_wp2_with fail
      refine (left_any gc a t 0 _ HC.out).mono ?_
      rintro e w1 ⟨rfl, hb⟩
      have HC1 := Lib.hid (HC.out.below hb); have HP1 := Lib.hid (HP.out.below hb HP.out.lt); have M1 := Lib.hid (Mods.of_below (S := two gp gc) hb); clear hb
      go_wp2_with fail
      refine (number_any gc a t 0 1 _ HC1.out (by decide)).mono ?_
      rintro e w2 ⟨rfl, hc, hm⟩
      rw [HE.out] at hc
      have HP2 := Lib.hid (HP1.out.mods (S := fun x => x = gc) (Mods.of_grown hm rfl) HN.out)
      have HC2 := Lib.hid hc; have M2 := Lib.hid (M1.out.trans (Mods.of_grown hm (.inr rfl)))
      clear hc hm HE
      generalize numS t a 0 1 = q at *
      have hw : IntKind.i64.wrap (q : Int) = (q : Int) := by rw [IntKind.wrap_i64]; have := HNB.out; omega
      have k2 : w2.cell? ⟨gp, 21, none⟩ = some (.int .i64 0) := HP2.out.cell 21
      have f2 := HP2.out.free 21
      have HP3 := Lib.hid (HP2.out.upd 21 (.int .i64 q) (pk_code k i 0 q [] hs0))
      have HC3 : Hid (Cur (w2.setCell ⟨gp, 21, none⟩ (.int .i64 q)) gc t (a + 1) 0) := Lib.hid ⟨HC2.out.1.other (Ne.symm HN.out) _, HC2.out.2⟩
      have M3 := Lib.hid (M2.out.set gp 21 (.inl (.inl rfl)) (.int .i64 q))
      go_wp2_with fail
      refine (left_any gc (a + 1) t 0 _ HC3.out).mono ?_
      rintro e w3 ⟨rfl, hb⟩
      have HC4 := Lib.hid (HC3.out.below hb); have HP4 := Lib.hid (HP3.out.below hb HP3.out.lt); have M4 := Lib.hid (M3.out.trans (Mods.of_below hb)); clear hb k2 f2
      have k4 : w3.cell? ⟨gp, 21, none⟩ = some (.int .i64 q) := HP4.out.cell 21
      by_cases hq : q = 0
      · have z2 : ((q : Int) == 0) = true := beq_iff_eq.2 (by omega)
        have HY : Hid (restS k t a = ((q : Int), [], a + 1, 5)) := Lib.hid (by rw [HX.out, if_pos hq])
        clear hq
        go_wp2_with fail
        refine (fail_any gc (a + 1) t 0 5 _ HC4.out).mono ?_
        rintro e w4 ⟨rfl, hc, hm⟩
        rw [if_pos rfl] at hc
        have HP5 := Lib.hid (HP4.out.mods (S := fun x => x = gc) (Mods.of_grown hm rfl) HN.out)
        have HC5 := Lib.hid hc; have M5 := Lib.hid (M4.out.trans (Mods.of_grown hm (.inr rfl)))
        clear hc hm k4
        go_wp2
        go_end0
        exact restOut_mk HY.out HP5.out HC5.out M5.out
      · have z2 : ((q : Int) == 0) = false := beq_eq_false_iff_ne.2 (by omega)
        have HY : Hid (restS k t a = ((q : Int), [], a + 1, 0)) := Lib.hid (by rw [HX.out, if_neg hq])
        clear hq
        go_wp2
        go_end0
        exact restOut_mk HY.out HP4.out HC4.out M4.out
    · have HX : Hid (restS k t a = (((numS t a 0 1 : Nat) : Int), (readP k (t.extract (a + 1) t.size)).1, a + 1 + (readP k (t.extract (a + 1) t.size)).2.1,
        if (readP k (t.extract (a + 1) t.size)).2.2 ≠ 0 then (readP k (t.extract (a + 1) t.size)).2.2 else if (readP k (t.extract (a + 1) t.size)).1.length = 0 then 5 else 0)) := Lib.hid (by unfold restS; rw [if_neg h1, if_neg h2])
      have z1 : (((t.size - (a + 1) : Nat) : Int) == 0) = false := beq_eq_false_iff_ne.2 (by omega)
      have HZ : Hid ((t.extract (a + 1) t.size).size ≤ 140737488351232) := Lib.hid (by rw [rest_len]; have := HT.out; omega)
      have HZ1 : Hid (a + 1 + (t.extract (a + 1) t.size).size = t.size) := Lib.hid (by rw [rest_len]; omega)
      clear h1 h2 hle
      go_enter Tryz.func271, Tryz.ntmps271
      go_wp2_with fail
      refine (left_any gc a t 0 _ HC.out).mono ?_
      rintro e w1 ⟨rfl, hb⟩
      have HC1 := Lib.hid (HC.out.below hb); have HP1 := Lib.hid (HP.out.below hb HP.out.lt); have M1 := Lib.hid (Mods.of_below (S := two gp gc) hb); clear hb
      go_wp2_with fail
      refine (number_any gc a t 0 1 _ HC1.out (by decide)).mono ?_
      rintro e w2 ⟨rfl, hc, hm⟩
      rw [HE.out] at hc
      have HP2 := Lib.hid (HP1.out.mods (S := fun x => x = gc) (Mods.of_grown hm rfl) HN.out)
      have HC2 := Lib.hid hc; have M2 := Lib.hid (M1.out.trans (Mods.of_grown hm (.inr rfl)))
      clear hc hm HE
      generalize numS t a 0 1 = q at *
      have hw : IntKind.i64.wrap (q : Int) = (q : Int) := by rw [IntKind.wrap_i64]; have := HNB.out; omega
      have k2 : w2.cell? ⟨gp, 21, none⟩ = some (.int .i64 0) := HP2.out.cell 21
      have f2 := HP2.out.free 21
      have HP3 := Lib.hid (HP2.out.upd 21 (.int .i64 q) (pk_code k i 0 q [] hs0))
      have HC3 : Hid (Cur (w2.setCell ⟨gp, 21, none⟩ (.int .i64 q)) gc t (a + 1) 0) := Lib.hid ⟨HC2.out.1.other (Ne.symm HN.out) _, HC2.out.2⟩
      have M3 := Lib.hid (M2.out.set gp 21 (.inl (.inl rfl)) (.int .i64 q))
      go_wp2_with fail
      refine (left_any gc (a + 1) t 0 _ HC3.out).mono ?_
      rintro e w3 ⟨rfl, hb⟩
      have HC4 := Lib.hid (HC3.out.below hb); have HP4 := Lib.hid (HP3.out.below hb HP3.out.lt); have M4 := Lib.hid (M3.out.trans (Mods.of_below hb)); clear hb k2 f2
      have k4 : w3.cell? ⟨gp, 0, none⟩ = some (.int .i64 k) := HP4.out.cell 0
      go_wp2_with fail
      go_region_held3 (fun x => x.cell? ⟨gp, 0, none⟩ = some (.int .i64 k) ∧ Below w3.heap.size w3 x)
        (first | exact ⟨k4, below_drawn (Below.refl _ _) _⟩ | exact SR.below (by assumption) hbr | exact SR.below (by assumption) hbd | go_keep)
        (first | (go_at_call 64; refine (rest_any gc (a + 1) t 0 _ (HC4.out.below (SR.to (by assumption)))).mono ?_; rintro e x1 ⟨rfl, hbr⟩)
               | (go_at_call 63; refine (readP_any k _ _ HZ.out).mono ?_; rintro e x2 ⟨A, c, rfl, hcap, hrd, hbd⟩))
      have hSR : Below w3.heap.size w3 x2 := (SR.to (gp := gp) (v := .int .i64 k) (by assumption))
      have HC5 := Lib.hid (HC4.out.below hSR); have HP5 := Lib.hid (HP4.out.below hSR HP4.out.lt); have M5 := Lib.hid (M4.out.trans (Mods.of_below hSR))
      have HCAP := Lib.hid hcap; have HRD := Lib.hid hrd
      have HLB : Hid ((readP k (t.extract (a + 1) t.size)).2.2 = 0 → (readP k (t.extract (a + 1) t.size)).2.1 ≤ (t.extract (a + 1) t.size).size) := Lib.hid fun h0 =>
        (readP_back (kind := k) (s := t.extract (a + 1) t.size) (l := (readP k (t.extract (a + 1) t.size)).1) (n := (readP k (t.extract (a + 1) t.size)).2.1) (by rw [← h0])).2.2
      have HBAD : Hid ((readP k (t.extract (a + 1) t.size)).2.2 ≠ 0 → (readP k (t.extract (a + 1) t.size)).1 = [] ∧ (readP k (t.extract (a + 1) t.size)).2.1 = 0) := Lib.hid fun h0 => by rw [readP_bad h0]; exact ⟨rfl, rfl⟩
      clear hSR hcap hrd
      generalize readP k (t.extract (a + 1) t.size) = R at *
      obtain ⟨l, n, x⟩ := R
      simp only at HX HLB HBAD HCAP HRD
      have J5 : Hid (RJ gp gc k i q l A t (a + 1) 0 w x2) := Lib.hid ⟨HP5.out, HC5.out, HRD.out, M5.out, HN.out⟩
      clear HP5 HC5 HRD M5 HP4 HC4 M4 HP3 HC3 M3 HP2 HC2 M2 HP1 HC1 M1 HP HC
      simp only
      by_cases hx : x = 0
      · have HT5 : Hid (takeS t (a + 1) 0 n = (t.extract (a + 1) (a + 1 + n), a + 1 + n, 0)) := Lib.hid (take_yes (by have := HLB.out hx; have := HZ1.out; omega))
        subst hx
        have f5 : x2.cell? ⟨gp, 24, none⟩ = some (.slice none 0 0) := J5.out.pk.cell 24
        clear k4
        go_wp2_with fail
        refine (fail_any gc (a + 1) t 0 0 _ J5.out.cur).mono ?_
        rintro e w4 ⟨rfl, hc, hm⟩
        rw [if_pos rfl] at hc
        have J6 := Lib.hid (J5.out.turn hc hm); clear hc hm f5
        go_wp2_with fail
        refine (take_any gc (a + 1) t 0 n _ J6.out.cur).mono ?_
        rintro e w5 ⟨rfl, hc, hm⟩
        rw [HT5.out] at hc ⊢
        have J7 := Lib.hid (J6.out.turn hc hm); clear hc hm
        by_cases hl : l.length = 0
        · have z2 : ((l.length : Int) == 0) = true := beq_iff_eq.2 (by omega)
          have HY : Hid (restS k t a = ((q : Int), l, a + 1 + n, 5)) := Lib.hid (by rw [HX.out, if_neg (by decide), if_pos hl])
          clear hl
          go_wp2_with fail
          refine (fail_any gc (a + 1 + n) t 0 5 _ J7.out.cur).mono ?_
          rintro e w6 ⟨rfl, hc, hm⟩
          rw [if_pos rfl] at hc
          have J8 := Lib.hid (J7.out.turn hc hm); clear hc hm
          have f8 : w6.cell? ⟨gp, 24, none⟩ = some (.slice none 0 0) := J8.out.pk.cell 24
          have g8 := J8.out.pk.free 24
          go_wp2
          go_end0
          exact J8.out.fin HY.out HCAP.out
        · have z2 : ((l.length : Int) == 0) = false := beq_eq_false_iff_ne.2 (by omega)
          have HY : Hid (restS k t a = ((q : Int), l, a + 1 + n, 0)) := Lib.hid (by rw [HX.out, if_neg (by decide), if_neg hl])
          clear hl
          have f8 : w5.cell? ⟨gp, 24, none⟩ = some (.slice none 0 0) := J7.out.pk.cell 24
          have g8 := J7.out.pk.free 24
          go_wp2
          go_end0
          exact J7.out.fin HY.out HCAP.out
      · have hn0 := HBAD.out hx
        obtain ⟨rfl, rfl⟩ := hn0
        have HT5 := Lib.hid (takeS_bad (t := t) (a := a + 1) (n := ((0 : Nat) : Int)) hx)
        have HY : Hid (restS k t a = ((q : Int), [], a + 1, x)) := Lib.hid (by rw [HX.out, if_pos hx])
        have z2 : ((([] : List Pr).length : Int) == 0) = true := rfl
        have HXX := Lib.hid hx
        clear hx k4
        go_wp2_with fail
        refine (fail_any gc (a + 1) t 0 x _ J5.out.cur).mono ?_
        rintro e w4 ⟨rfl, hc, hm⟩
        rw [if_pos rfl] at hc
        have J6 := Lib.hid (J5.out.turn hc hm); clear hc hm
        go_wp2_with fail
        refine (take_any gc (a + 1) t x 0 _ J6.out.cur).mono ?_
        rintro e w5 ⟨rfl, hc, hm⟩
        have HT5' : Hid (takeS t (a + 1) x 0 = (⟨#[]⟩, a + 1, x)) := HT5
        rw [HT5'.out] at hc ⊢
        have J7 := Lib.hid (J6.out.turn hc hm); clear hc hm
        go_wp2_with fail
        refine (fail_any gc (a + 1) t x 5 _ J7.out.cur).mono ?_
        rintro e w6 ⟨rfl, hc, hm⟩
        have HF : Hid ((if x = 0 then 5 else x) = x) := Lib.hid (by by_cases h : x = 0; · subst h; exact absurd rfl HXX.out
                                                                    · rw [if_neg h])
        rw [HF.out] at hc
        have J8 := Lib.hid (J7.out.turn hc hm); clear hc hm
        have f8 : w6.cell? ⟨gp, 24, none⟩ = some (.slice none 0 0) := J8.out.pk.cell 24
        have g8 := J8.out.pk.free 24
        go_wp2
        go_end0
        exact J8.out.fin HY.out HCAP.out
end Go.Proofs.YtbdgkkmbnahgiaaGreatDoor

namespace Go.Proofs.YtbdgkkmbnahgiaaGreatDoor
open Go.RowKit
attribute [local go_sem ↓] to_ldPk to_bxPk to_bdPk to_alPk to_stPk
attribute [local go_sem] run_bxPk run_bxPk_agg ld_fresh run_alPk run_bd0 run_bdK run_bdKI run_bdKIC run_bdKC run_bdKICP run_stPk_fresh pkC_0 pkC_1 pkC_2 pkC_3 pkC_4 pkC_5 pkC_6 pkC_7 pkC_8 pkC_9 pkC_10 pkC_11 pkC_12 pkC_13 pkC_14 pkC_15 pkC_16 pkC_17 pkC_18 pkC_19 pkC_20 pkC_21 pkC_22 pkC_23 pkC_24

theorem PkIn.R1 {w : World} {B : Nat} {A : Option Addr} {n : Nat} {l : List Pr} (h : Rd w B 4 A l.length (prs l)) (hn : l.length ≤ n) (k i c : Int) : PkIn w B (ackR1 k i c l) { hs0 with props := ⟨A, n⟩ } :=
  ⟨Rd.nil _ _ _ _, Rd.nil _ _ _ _, Rd.nil _ _ _ _, h, Nat.zero_le _, Nat.zero_le _, Nat.zero_le _, hn⟩

/-- What stands while a packet is read: the result's block, the packet's, the cursor's. -/
structure RI (w : World) (g gp gc : Nat) (k i c : Int) (l : List Pr) (A : Option Addr) (n : Nat) (t : ByteArray) (a : Nat) (e : Int) (x : World) : Prop where
  kept : Below w.heap.size w x
  res : Bk x g PkT (pkC pk0 hs0)
  pk : Bk x gp PkT (pkC (ackR1 k i c l) { hs0 with props := ⟨A, n⟩ })
  cur : Cur x gc t a e
  rd : Rd x x.heap.size 4 A l.length (prs l)
  cap : l.length ≤ n
  ne : g ≠ gp ∧ g ≠ gc ∧ gp ≠ gc
  base : w.heap.size ≤ g ∧ w.heap.size ≤ gp ∧ w.heap.size ≤ gc
section
variable {w x y : World} {g gp gc : Nat} {k i c : Int} {l : List Pr} {A : Option Addr} {n : Nat} {t : ByteArray} {a a' : Nat} {e e' : Int}
theorem RI.below (h : RI w g gp gc k i c l A n t a e x) (hb : Below x.heap.size x y) : RI w g gp gc k i c l A n t a e y :=
  ⟨h.kept.trans (hb.mono h.kept.size), h.res.below hb h.res.lt, h.pk.below hb h.pk.lt, h.cur.below hb, (h.rd.below hb).wider hb.size, h.cap, h.ne, h.base⟩
theorem RI.turn (h : RI w g gp gc k i c l A n t a e x) (hc : Cur y gc t a' e') (hm : x.grownBy y (some gc)) : RI w g gp gc k i c l A n t a' e' y :=
  ⟨below_mod h.kept hm h.kept.size h.base.2.2, h.res.mods (S := fun z => z = gc) (Mods.of_grown hm rfl) h.ne.2.1, h.pk.mods (S := fun z => z = gc) (Mods.of_grown hm rfl) h.ne.2.2, hc,
    (h.rd.other h.cur.1 (cur_no32 _ _ _) hm (Nat.le_refl _)).wider hm.size, h.cap, h.ne, h.base⟩
theorem RI.rest {r : Int × List Pr × Nat × Int} {ee : Ending} (h : RI w g gp gc k i 0 [] none 0 t a e x) (hr : RestOut gp gc k i t r x ee y) : ee = .returned (.tuple #[]) ∧ ∃ A n, RI w g gp gc k i r.1 r.2.1 A n t r.2.2.1 r.2.2.2 y := by
  obtain ⟨h1, A, n, h2, h3, h4, h5, h6⟩ := hr
  refine ⟨h1, A, n, ⟨Mods.below h.kept h6 h.kept.size (fun z hz => hz.elim (fun e => by rw [e]; exact h.base.2.1) (fun e => by rw [e]; exact h.base.2.2)), h.res.mods h6 (fun hz => hz.elim h.ne.1 h.ne.2.1), h4, h5, h3, h2, h.ne, h.base⟩⟩
theorem RI.into (h : RI w g gp gc k i c l A n t a e x) : PkIn x x.heap.size (ackR1 k i c l) { hs0 with props := ⟨A, n⟩ } := PkIn.R1 h.rd h.cap k i c
/-- The result stored. -/
theorem RI.none (h : RI w g gp gc k i c l A n t a e x) : Below w.heap.size w (putPk x g pk0 hs0) ∧ Bk (putPk x g pk0 hs0) g PkT (pkC pk0 hs0) := ⟨below_put h.kept h.kept.size h.base.1 _ _, put_bk h.res _ _⟩
theorem RI.some (h : RI w g gp gc k i c l A n t a e x) : Below w.heap.size w (putPk x g (ackR1 k i c l) { hs0 with props := ⟨A, n⟩ }) ∧ Bk (putPk x g (ackR1 k i c l) { hs0 with props := ⟨A, n⟩ }) g PkT (pkC (ackR1 k i c l) { hs0 with props := ⟨A, n⟩ }) ∧
    PkIn (putPk x g (ackR1 k i c l) { hs0 with props := ⟨A, n⟩ }) (putPk x g (ackR1 k i c l) { hs0 with props := ⟨A, n⟩ }).heap.size (ackR1 k i c l) { hs0 with props := ⟨A, n⟩ } :=
  ⟨below_put h.kept h.kept.size h.base.1 _ _, put_bk h.res _ _, PkIn.R1 ((h.rd.other h.res (pk_no32 _ _) (putPk_mods _ _ _ _) (Nat.le_refl _)).wider (putPk_mods _ _ _ _).size) h.cap k i c⟩
end
/-- What a reading of a packet leaves. -/
def PkOut (r : Pk × Int) (w : World) (e : Ending) (w' : World) : Prop := ∃ h, e = .returned (.tuple #[pkV r.1 h, .int .i64 r.2]) ∧ PkIn w' w'.heap.size r.1 h ∧ Below w.heap.size w w'
theorem pkOut_bad {r : Pk × Int} {x : Int} {w w' : World} (h : r = (pk0, x)) (hb : Below w.heap.size w w') : PkOut r w (.returned (.tuple #[pkV pk0 hs0, .int .i64 x])) w' := by
  subst h
  exact ⟨hs0, rfl, ⟨Rd.nil _ _ _ _, Rd.nil _ _ _ _, Rd.nil _ _ _ _, Rd.nil _ _ _ _, Nat.zero_le _, Nat.zero_le _, Nat.zero_le _, Nat.zero_le _⟩, hb⟩
theorem pkOut_ok {r : Pk × Int} {p : Pk} {h : Hs} {w w' : World} (hr : r = (p, 0)) (hi : PkIn w' w'.heap.size p h) (hb : Below w.heap.size w w') : PkOut r w (.returned (.tuple #[pkV p h, .int .i64 0])) w' := by
  subst hr
  exact ⟨h, rfl, hi, hb⟩
theorem fail_then {e n : Int} : (if e = 0 then n else e) = if e ≠ 0 then e else n := by
  by_cases h : e = 0
  · rw [if_pos h, if_neg (fun x => x h)]
  · rw [if_neg h, if_pos h]
theorem num_two_lt (t : ByteArray) (a : Nat) (e : Int) (ha : a ≤ t.size) : numS t a e 2 < 65536 := by
  unfold numS
  have h1 := getL_lt (ls (takeS t a e 2).1)
  have h2 : (ls (takeS t a e 2).1).length ≤ 2 := by
    rw [ls_len]
    exact takeS_size ha e 2 2 (by decide)
  have h3 : 256 ^ (ls (takeS t a e 2).1).length ≤ 256 ^ 2 := Nat.pow_le_pow_right (by omega) h2
  omega

theorem ackR_last {v k : Int} {s : ByteArray} (hk : ackK v k = true) (h2 : ¬ s.size < 2) :
    ((if ackErr v k s = 0 then ackE v (ackPre v k s) else ackErr v k s) = 0 ∧ ackR v k s = (ackPre v k s, 0)) ∨ ((if ackErr v k s = 0 then ackE v (ackPre v k s) else ackErr v k s) ≠ 0 ∧ ackR v k s = (pk0, (if ackErr v k s = 0 then ackE v (ackPre v k s) else ackErr v k s))) := by
  have e1 : ackR v k s = if ackErr v k s ≠ 0 then (pk0, ackErr v k s) else if ackE v (ackPre v k s) ≠ 0 then (pk0, ackE v (ackPre v k s)) else (ackPre v k s, 0) := by
    unfold ackR
    rw [if_neg (fun x => by rw [hk] at x; cases x), if_neg h2]
  rw [e1]
  by_cases h3 : ackErr v k s = 0
  · rw [if_pos h3, if_neg (fun x => x h3)]
    by_cases h4 : ackE v (ackPre v k s) = 0
    · rw [if_neg (fun x => x h4)]
      exact .inl ⟨h4, rfl⟩
    · rw [if_pos h4]
      exact .inr ⟨h4, rfl⟩
  · rw [if_neg h3, if_pos h3]
    exact .inr ⟨h3, rfl⟩
theorem ackR1_ki (k i : Int) : ({ pk0 with kind := k, id := i } : Pk) = ackR1 k i 0 [] := rfl
set_option maxHeartbeats 8000000 in
set_option maxRecDepth 10000 in
theorem ackRead_any (v k : Int) (s : ByteArray) (w : World) (hs : s.size ≤ 140737488351232) :
    Calls Tryz.prog 196 #[.int .i64 v, .int .i64 k, .string s] w (PkOut (ackR v k s) w) := by
  have HS := Lib.hid hs
  have HB0 := Lib.hid ((Below.refl w.heap.size w).alloc (Nat.le_refl _) (.cells (pkC pk0 hs0) PkT))
  have H60 := Lib.hid (Bk.fresh w PkT (pkC pk0 hs0))
  go_enter Tryz.func196, Tryz.ntmps196
  go_wp2_with fail
  refine (ackKnown_any v k _).mono ?_
  rintro e w1 ⟨rfl, rfl⟩
  cases hk : ackK v k
  · have HX : Hid (ackR v k s = (pk0, 2)) := Lib.hid (by unfold ackR; rw [if_pos hk])
    clear hk
    go_wp2
    refine bodyPost_ret (results_pk rfl _ rfl H60.out) rfl ?_
    exact pkOut_bad HX.out HB0.out
  have HK := Lib.hid hk
  clear hk
  go_wp2_with fail
  refine (newCur_any s _ (by have := HS.out; omega)).mono ?_
  rintro e w1 ⟨rfl, hc, hb⟩
  have hgc : (w.alloc (.cells (pkC pk0 hs0) PkT)).heap.size = w.heap.size + 1 := by simp
  have HB1 := Lib.hid (HB0.out.trans (hb.mono HB0.out.size)); have H61 := Lib.hid (H60.out.below hb H60.out.lt)
  rw [hgc] at hc ⊢
  have HC1 := Lib.hid hc
  clear hc hb hgc
  go_wp2_with fail
  refine (number_any (w.heap.size + 1) 0 s 0 2 _ HC1.out (by decide)).mono ?_
  rintro e w2 ⟨rfl, hc, hm⟩
  have HB2 := Lib.hid (below_mod HB1.out hm HB1.out.size (by omega)); have H62 := Lib.hid (H61.out.mods (S := fun z => z = w.heap.size + 1) (Mods.of_grown hm rfl) (by omega)); have HC2 := Lib.hid hc
  have HZ := Lib.hid HC2.out.lt
  have hid := num_two_lt s 0 0 (by omega)
  have HNUM : Hid (ackPre v k s = ackR1 k (numS s 0 0 2 : Nat) (restV v k s).1 (restV v k s).2.1) := Lib.hid rfl
  have HN0 : Hid (s.size < 2 → numS s 0 0 2 = 0) := Lib.hid fun h => by
    unfold numS
    rw [show ((2 : Int)) = ((2 : Nat) : Int) from rfl, take_no (by omega)]
    rfl
  clear hc hm
  generalize numS s 0 0 2 = m at *
  obtain ⟨id, hm1⟩ : ∃ id : Int, id = (m : Int) := ⟨_, rfl⟩
  have hw : IntKind.i64.wrap (m : Int) = id := by rw [hm1, IntKind.wrap_i64]; omega
  rw [← hm1] at HNUM
  have HM := Lib.hid hm1
  clear hid hm1
  have I3 : Hid (∀ e a, Cur w2 (w.heap.size + 1) s a e → RI w w.heap.size w2.heap.size (w.heap.size + 1) k id 0 [] none 0 s a e (w2.alloc (.cells (pkC (ackR1 k id 0 []) hs0) PkT))) := Lib.hid fun e a hc =>
    ⟨HB2.out.alloc HB2.out.size _, H62.out.alloc _, Bk.fresh _ _ _, ⟨hc.1.alloc _, hc.2⟩, Rd.nil _ _ _ _, Nat.le_refl _, ⟨by have := HZ.out; omega, by omega, by have := HZ.out; omega⟩, Nat.le_refl _, by have := HZ.out; omega, by omega⟩
  have h45 := ackK_four HK.out
  by_cases h2 : s.size < 2
  · have HT : Hid (takeS s 0 0 2 = (⟨#[]⟩, 0, 3)) := Lib.hid (take_no (k := 2) (by omega))
    obtain ⟨er, her⟩ : ∃ e : Int, e = 3 := ⟨3, rfl⟩
    have hc3 := HC2.out
    rw [HT.out] at hc3
    replace hc3 : Cur w2 (w.heap.size + 1) s 0 er := her ▸ hc3
    have hi0 : id = 0 := by rw [HM.out, HN0.out h2]; rfl
    have HW : Hid (((if er = 0 then ackE v (ackR1 k id 0 []) else er) = 0 ∧ ackR v k s = (ackR1 k id 0 [], 0)) ∨ ((if er = 0 then ackE v (ackR1 k id 0 []) else er) ≠ 0 ∧ ackR v k s = (pk0, (if er = 0 then ackE v (ackR1 k id 0 []) else er)))) := Lib.hid (by
      rw [if_neg (by omega)]
      refine .inr ⟨by omega, ?_⟩
      subst her
      unfold ackR
      rw [if_neg (by rw [HK.out]; decide), if_pos h2])
    have HOK : Hid (PkOk (ackR1 k id 0 [])) := Lib.hid (pkOk_R1 (by simp) (by simp))
    have I4 := Lib.hid (I3.out er 0 hc3)
    have e3 : (er == 0) = false := beq_eq_false_iff_ne.2 (by omega)
    clear hc3 HC2 hi0 I3 h2
    obtain ⟨E1, HE1'⟩ : ∃ E : Int, E = er := ⟨er, rfl⟩
    have HE1 : Hid (E1 = if er ≠ 0 then er else if 0 < s.size then 5 else 0) := Lib.hid (by rw [HE1', if_pos (by omega)])
    rw [← HE1'] at HW
    clear HE1' her
    rcases h45 with h4 | h5
    · have e5 : (v == 5) = false := beq_eq_false_iff_ne.2 (by omega)
      clear h4
      go_wp2_with fail
      refine (left_any _ 0 s er _ I4.out.cur).mono ?_
      rintro ee wL ⟨rfl, hb⟩
      have IL := Lib.hid (I4.out.below hb); clear hb
      by_cases hlt : 0 < s.size
      · have d1 : (0 : Int) < ((s.size - 0 : Nat) : Int) := by omega
        have HE3 : Hid ((if er = 0 then 5 else er) = E1) := Lib.hid (by rw [HE1.out, fail_then, if_pos hlt])
        clear hlt
        go_wp2_with fail
        refine (fail_any _ 0 s er 5 _ IL.out.cur).mono ?_
        rintro ee wF ⟨rfl, hc, hm⟩
        rw [HE3.out] at hc
        have IF := Lib.hid (IL.out.turn hc hm); clear hc hm
        have hl := ld_bk IF.out.pk
        go_wp2_with fail
        refine (ackValid_any v (ackR1 k id 0 []) _ _ IF.out.into HOK.out).mono ?_
        rintro ee wV ⟨rfl, hb⟩
        have IV := Lib.hid (IF.out.below hb); clear hb hl
        go_wp2_with fail
        refine (fail_any _ 0 s E1 (ackE v (ackR1 k id 0 [])) _ IV.out.cur).mono ?_
        rintro ee wG ⟨rfl, hc, hm⟩
        have IG := Lib.hid (IV.out.turn hc hm); clear hc hm
        have HW2 := HW
        generalize (if E1 = 0 then ackE v (ackR1 k id 0 []) else E1) = E2 at *
        go_wp2_with fail
        refine (err_any _ 0 s E2 _ IG.out.cur).mono ?_
        rintro ee wH ⟨rfl, rfl⟩
        have hl := ld_bk IG.out.pk
        have hst := run_stPk IG.out.res
        rcases HW2.out with ⟨h2, hr⟩ | ⟨h2, hr⟩
        · subst h2
          have HR := Lib.hid hr; clear hr
          go_wp2
          refine bodyPost_ret (results_pk rfl _ rfl IG.out.some.2.1) rfl ?_
          exact pkOut_ok HR.out IG.out.some.2.2 IG.out.some.1
        · have e0 : (E2 != 0) = true := bne_iff_ne.2 h2
          have HR := Lib.hid hr; clear hr h2
          go_wp2
          refine bodyPost_ret (results_pk rfl _ rfl IG.out.none.2) rfl ?_
          exact pkOut_bad HR.out IG.out.none.1
      · have d1 : ((s.size - 0 : Nat) : Int) ≤ 0 := by omega
        have HE3 : Hid (er = E1) := Lib.hid (by
          rw [HE1.out]
          by_cases h : er = 0
          · rw [if_neg (fun x => x h), if_neg hlt, h]
          · rw [if_pos h])
        have IF : Hid (RI w w.heap.size w2.heap.size (w.heap.size + 1) k id 0 [] none 0 s 0 E1 wL) := Lib.hid (HE3.out ▸ IL.out)
        clear hlt
        have hl := ld_bk IF.out.pk
        go_wp2_with fail
        refine (ackValid_any v (ackR1 k id 0 []) _ _ IF.out.into HOK.out).mono ?_
        rintro ee wV ⟨rfl, hb⟩
        have IV := Lib.hid (IF.out.below hb); clear hb hl
        go_wp2_with fail
        refine (fail_any _ 0 s E1 (ackE v (ackR1 k id 0 [])) _ IV.out.cur).mono ?_
        rintro ee wG ⟨rfl, hc, hm⟩
        have IG := Lib.hid (IV.out.turn hc hm); clear hc hm
        have HW2 := HW
        generalize (if E1 = 0 then ackE v (ackR1 k id 0 []) else E1) = E2 at *
        go_wp2_with fail
        refine (err_any _ 0 s E2 _ IG.out.cur).mono ?_
        rintro ee wH ⟨rfl, rfl⟩
        have hl := ld_bk IG.out.pk
        have hst := run_stPk IG.out.res
        rcases HW2.out with ⟨h2, hr⟩ | ⟨h2, hr⟩
        · subst h2
          have HR := Lib.hid hr; clear hr
          go_wp2
          refine bodyPost_ret (results_pk rfl _ rfl IG.out.some.2.1) rfl ?_
          exact pkOut_ok HR.out IG.out.some.2.2 IG.out.some.1
        · have e0 : (E2 != 0) = true := bne_iff_ne.2 h2
          have HR := Lib.hid hr; clear hr h2
          go_wp2
          refine bodyPost_ret (results_pk rfl _ rfl IG.out.none.2) rfl ?_
          exact pkOut_bad HR.out IG.out.none.1
    · have e5 : (v == 5) = true := beq_iff_eq.2 h5
      clear h5
      go_wp2_with fail
      rw [ackR1_ki]
      refine (err_any _ 0 s er _ I4.out.cur).mono ?_
      rintro ee wE ⟨rfl, rfl⟩
      go_wp2_with fail
      refine (left_any _ 0 s er _ I4.out.cur).mono ?_
      rintro ee wL ⟨rfl, hb⟩
      have IL := Lib.hid (I4.out.below hb); clear hb
      by_cases hlt : 0 < s.size
      · have d1 : (0 : Int) < ((s.size - 0 : Nat) : Int) := by omega
        have HE3 : Hid ((if er = 0 then 5 else er) = E1) := Lib.hid (by rw [HE1.out, fail_then, if_pos hlt])
        clear hlt
        go_wp2_with fail
        refine (fail_any _ 0 s er 5 _ IL.out.cur).mono ?_
        rintro ee wF ⟨rfl, hc, hm⟩
        rw [HE3.out] at hc
        have IF := Lib.hid (IL.out.turn hc hm); clear hc hm
        have hl := ld_bk IF.out.pk
        go_wp2_with fail
        refine (ackValid_any v (ackR1 k id 0 []) _ _ IF.out.into HOK.out).mono ?_
        rintro ee wV ⟨rfl, hb⟩
        have IV := Lib.hid (IF.out.below hb); clear hb hl
        go_wp2_with fail
        refine (fail_any _ 0 s E1 (ackE v (ackR1 k id 0 [])) _ IV.out.cur).mono ?_
        rintro ee wG ⟨rfl, hc, hm⟩
        have IG := Lib.hid (IV.out.turn hc hm); clear hc hm
        have HW2 := HW
        generalize (if E1 = 0 then ackE v (ackR1 k id 0 []) else E1) = E2 at *
        go_wp2_with fail
        refine (err_any _ 0 s E2 _ IG.out.cur).mono ?_
        rintro ee wH ⟨rfl, rfl⟩
        have hl := ld_bk IG.out.pk
        have hst := run_stPk IG.out.res
        rcases HW2.out with ⟨h2, hr⟩ | ⟨h2, hr⟩
        · subst h2
          have HR := Lib.hid hr; clear hr
          go_wp2
          refine bodyPost_ret (results_pk rfl _ rfl IG.out.some.2.1) rfl ?_
          exact pkOut_ok HR.out IG.out.some.2.2 IG.out.some.1
        · have e0 : (E2 != 0) = true := bne_iff_ne.2 h2
          have HR := Lib.hid hr; clear hr h2
          go_wp2
          refine bodyPost_ret (results_pk rfl _ rfl IG.out.none.2) rfl ?_
          exact pkOut_bad HR.out IG.out.none.1
      · have d1 : ((s.size - 0 : Nat) : Int) ≤ 0 := by omega
        have HE3 : Hid (er = E1) := Lib.hid (by
          rw [HE1.out]
          by_cases h : er = 0
          · rw [if_neg (fun x => x h), if_neg hlt, h]
          · rw [if_pos h])
        have IF : Hid (RI w w.heap.size w2.heap.size (w.heap.size + 1) k id 0 [] none 0 s 0 E1 wL) := Lib.hid (HE3.out ▸ IL.out)
        clear hlt
        have hl := ld_bk IF.out.pk
        go_wp2_with fail
        refine (ackValid_any v (ackR1 k id 0 []) _ _ IF.out.into HOK.out).mono ?_
        rintro ee wV ⟨rfl, hb⟩
        have IV := Lib.hid (IF.out.below hb); clear hb hl
        go_wp2_with fail
        refine (fail_any _ 0 s E1 (ackE v (ackR1 k id 0 [])) _ IV.out.cur).mono ?_
        rintro ee wG ⟨rfl, hc, hm⟩
        have IG := Lib.hid (IV.out.turn hc hm); clear hc hm
        have HW2 := HW
        generalize (if E1 = 0 then ackE v (ackR1 k id 0 []) else E1) = E2 at *
        go_wp2_with fail
        refine (err_any _ 0 s E2 _ IG.out.cur).mono ?_
        rintro ee wH ⟨rfl, rfl⟩
        have hl := ld_bk IG.out.pk
        have hst := run_stPk IG.out.res
        rcases HW2.out with ⟨h2, hr⟩ | ⟨h2, hr⟩
        · subst h2
          have HR := Lib.hid hr; clear hr
          go_wp2
          refine bodyPost_ret (results_pk rfl _ rfl IG.out.some.2.1) rfl ?_
          exact pkOut_ok HR.out IG.out.some.2.2 IG.out.some.1
        · have e0 : (E2 != 0) = true := bne_iff_ne.2 h2
          have HR := Lib.hid hr; clear hr h2
          go_wp2
          refine bodyPost_ret (results_pk rfl _ rfl IG.out.none.2) rfl ?_
          exact pkOut_bad HR.out IG.out.none.1
  · have HT : Hid (takeS s 0 0 2 = (s.extract 0 2, 2, 0)) := Lib.hid (take_yes (k := 2) (by omega))
    obtain ⟨er, her⟩ : ∃ e : Int, e = 0 := ⟨0, rfl⟩
    have hc3 := HC2.out
    rw [HT.out] at hc3
    replace hc3 : Cur w2 (w.heap.size + 1) s 2 er := her ▸ hc3
    have HW0 := Lib.hid (ackR_last HK.out h2)
    have I4 := Lib.hid (I3.out er 2 hc3)
    clear hc3 HC2 I3
    rcases h45 with h4 | h5
    · have e5 : (v == 5) = false := beq_eq_false_iff_ne.2 (by omega)
      have hv : restV v k s = (0, [], 2, 0) := by unfold restV; rw [if_neg (by omega)]
      rw [hv] at HNUM
      obtain ⟨E1, HE1'⟩ : ∃ E : Int, E = ackErr v k s := ⟨_, rfl⟩
      have HE1 : Hid (E1 = if er ≠ 0 then er else if 2 < s.size then 5 else 0) := Lib.hid (by rw [HE1', her]; unfold ackErr; rw [hv])
      have HW1 := HW0.out
      rw [← HE1', HNUM.out] at HW1
      have HW := Lib.hid HW1
      have HOK : Hid (PkOk (ackR1 k id 0 [])) := Lib.hid (pkOk_R1 (by simp) (by simp))
      clear h4 HE1' HW1 hv HNUM HW0 h2 her
      go_wp2_with fail
      refine (left_any _ 2 s er _ I4.out.cur).mono ?_
      rintro ee wL ⟨rfl, hb⟩
      have IL := Lib.hid (I4.out.below hb); clear hb
      by_cases hlt : 2 < s.size
      · have d1 : (0 : Int) < ((s.size - 2 : Nat) : Int) := by omega
        have HE3 : Hid ((if er = 0 then 5 else er) = E1) := Lib.hid (by rw [HE1.out, fail_then, if_pos hlt])
        clear hlt
        go_wp2_with fail
        refine (fail_any _ 2 s er 5 _ IL.out.cur).mono ?_
        rintro ee wF ⟨rfl, hc, hm⟩
        rw [HE3.out] at hc
        have IF := Lib.hid (IL.out.turn hc hm); clear hc hm
        have hl := ld_bk IF.out.pk
        go_wp2_with fail
        refine (ackValid_any v (ackR1 k id 0 []) _ _ IF.out.into HOK.out).mono ?_
        rintro ee wV ⟨rfl, hb⟩
        have IV := Lib.hid (IF.out.below hb); clear hb hl
        go_wp2_with fail
        refine (fail_any _ 2 s E1 (ackE v (ackR1 k id 0 [])) _ IV.out.cur).mono ?_
        rintro ee wG ⟨rfl, hc, hm⟩
        have IG := Lib.hid (IV.out.turn hc hm); clear hc hm
        have HW2 := HW
        generalize (if E1 = 0 then ackE v (ackR1 k id 0 []) else E1) = E2 at *
        go_wp2_with fail
        refine (err_any _ 2 s E2 _ IG.out.cur).mono ?_
        rintro ee wH ⟨rfl, rfl⟩
        have hl := ld_bk IG.out.pk
        have hst := run_stPk IG.out.res
        rcases HW2.out with ⟨h2, hr⟩ | ⟨h2, hr⟩
        · subst h2
          have HR := Lib.hid hr; clear hr
          go_wp2
          refine bodyPost_ret (results_pk rfl _ rfl IG.out.some.2.1) rfl ?_
          exact pkOut_ok HR.out IG.out.some.2.2 IG.out.some.1
        · have e0 : (E2 != 0) = true := bne_iff_ne.2 h2
          have HR := Lib.hid hr; clear hr h2
          go_wp2
          refine bodyPost_ret (results_pk rfl _ rfl IG.out.none.2) rfl ?_
          exact pkOut_bad HR.out IG.out.none.1
      · have d1 : ((s.size - 2 : Nat) : Int) ≤ 0 := by omega
        have HE3 : Hid (er = E1) := Lib.hid (by
          rw [HE1.out]
          by_cases h : er = 0
          · rw [if_neg (fun x => x h), if_neg hlt, h]
          · rw [if_pos h])
        have IF : Hid (RI w w.heap.size w2.heap.size (w.heap.size + 1) k id 0 [] none 0 s 2 E1 wL) := Lib.hid (HE3.out ▸ IL.out)
        clear hlt
        have hl := ld_bk IF.out.pk
        go_wp2_with fail
        refine (ackValid_any v (ackR1 k id 0 []) _ _ IF.out.into HOK.out).mono ?_
        rintro ee wV ⟨rfl, hb⟩
        have IV := Lib.hid (IF.out.below hb); clear hb hl
        go_wp2_with fail
        refine (fail_any _ 2 s E1 (ackE v (ackR1 k id 0 [])) _ IV.out.cur).mono ?_
        rintro ee wG ⟨rfl, hc, hm⟩
        have IG := Lib.hid (IV.out.turn hc hm); clear hc hm
        have HW2 := HW
        generalize (if E1 = 0 then ackE v (ackR1 k id 0 []) else E1) = E2 at *
        go_wp2_with fail
        refine (err_any _ 2 s E2 _ IG.out.cur).mono ?_
        rintro ee wH ⟨rfl, rfl⟩
        have hl := ld_bk IG.out.pk
        have hst := run_stPk IG.out.res
        rcases HW2.out with ⟨h2, hr⟩ | ⟨h2, hr⟩
        · subst h2
          have HR := Lib.hid hr; clear hr
          go_wp2
          refine bodyPost_ret (results_pk rfl _ rfl IG.out.some.2.1) rfl ?_
          exact pkOut_ok HR.out IG.out.some.2.2 IG.out.some.1
        · have e0 : (E2 != 0) = true := bne_iff_ne.2 h2
          have HR := Lib.hid hr; clear hr h2
          go_wp2
          refine bodyPost_ret (results_pk rfl _ rfl IG.out.none.2) rfl ?_
          exact pkOut_bad HR.out IG.out.none.1
    · have e5 : (v == 5) = true := beq_iff_eq.2 h5
      have hv : restV v k s = restS k s 2 := by unfold restV; rw [if_pos h5]
      rw [hv] at HNUM
      obtain ⟨E1, HE1'⟩ : ∃ E : Int, E = ackErr v k s := ⟨_, rfl⟩
      have HE0 : Hid (E1 = if (restS k s 2).2.2.2 ≠ 0 then (restS k s 2).2.2.2 else if (restS k s 2).2.2.1 < s.size then 5 else 0) := Lib.hid (by rw [HE1']; unfold ackErr; rw [hv])
      have HW1 := HW0.out
      rw [← HE1', HNUM.out] at HW1
      have HW2 := Lib.hid HW1
      have HOK0 : Hid (PkOk (ackR1 k id (restS k s 2).1 (restS k s 2).2.1)) := Lib.hid (pkOk_R1 (rest_good HS.out) (by have := rest_many k s 2; omega))
      clear h5 HE1' HW1 hv HNUM HW0 h2
      subst her
      go_wp2_with fail
      rw [ackR1_ki]
      refine (err_any _ 2 s 0 _ I4.out.cur).mono ?_
      rintro ee wE ⟨rfl, rfl⟩
      go_wp2_with fail
      refine (ackRest_any _ _ 2 s k id _ I4.out.pk I4.out.cur HS.out).mono ?_
      rintro ee wR hr
      obtain ⟨rfl, A, n, hI⟩ := I4.out.rest hr
      generalize restS k s 2 = R at *
      obtain ⟨c, l, a, er⟩ := R
      simp only at HE0 HW2 HOK0 hI
      have HE1 := HE0; have HW := HW2; have HOK := HOK0
      have I4 := Lib.hid hI
      clear hI hr
      go_wp2_with fail
      refine (left_any _ a s er _ I4.out.cur).mono ?_
      rintro ee wL ⟨rfl, hb⟩
      have IL := Lib.hid (I4.out.below hb); clear hb
      by_cases hlt : a < s.size
      · have d1 : (0 : Int) < ((s.size - a : Nat) : Int) := by omega
        have HE3 : Hid ((if er = 0 then 5 else er) = E1) := Lib.hid (by rw [HE1.out, fail_then, if_pos hlt])
        clear hlt
        go_wp2_with fail
        refine (fail_any _ a s er 5 _ IL.out.cur).mono ?_
        rintro ee wF ⟨rfl, hc, hm⟩
        rw [HE3.out] at hc
        have IF := Lib.hid (IL.out.turn hc hm); clear hc hm
        have hl := ld_bk IF.out.pk
        go_wp2_with fail
        refine (ackValid_any v (ackR1 k id c l) _ _ IF.out.into HOK.out).mono ?_
        rintro ee wV ⟨rfl, hb⟩
        have IV := Lib.hid (IF.out.below hb); clear hb hl
        go_wp2_with fail
        refine (fail_any _ a s E1 (ackE v (ackR1 k id c l)) _ IV.out.cur).mono ?_
        rintro ee wG ⟨rfl, hc, hm⟩
        have IG := Lib.hid (IV.out.turn hc hm); clear hc hm
        have HW2 := HW
        generalize (if E1 = 0 then ackE v (ackR1 k id c l) else E1) = E2 at *
        go_wp2_with fail
        refine (err_any _ a s E2 _ IG.out.cur).mono ?_
        rintro ee wH ⟨rfl, rfl⟩
        have hl := ld_bk IG.out.pk
        have hst := run_stPk IG.out.res
        rcases HW2.out with ⟨h2, hr⟩ | ⟨h2, hr⟩
        · subst h2
          have HR := Lib.hid hr; clear hr
          go_wp2
          refine bodyPost_ret (results_pk rfl _ rfl IG.out.some.2.1) rfl ?_
          exact pkOut_ok HR.out IG.out.some.2.2 IG.out.some.1
        · have e0 : (E2 != 0) = true := bne_iff_ne.2 h2
          have HR := Lib.hid hr; clear hr h2
          go_wp2
          refine bodyPost_ret (results_pk rfl _ rfl IG.out.none.2) rfl ?_
          exact pkOut_bad HR.out IG.out.none.1
      · have d1 : ((s.size - a : Nat) : Int) ≤ 0 := by omega
        have HE3 : Hid (er = E1) := Lib.hid (by
          rw [HE1.out]
          by_cases h : er = 0
          · rw [if_neg (fun x => x h), if_neg hlt, h]
          · rw [if_pos h])
        have IF : Hid (RI w w.heap.size w2.heap.size (w.heap.size + 1) k id c l A n s a E1 wL) := Lib.hid (HE3.out ▸ IL.out)
        clear hlt
        have hl := ld_bk IF.out.pk
        go_wp2_with fail
        refine (ackValid_any v (ackR1 k id c l) _ _ IF.out.into HOK.out).mono ?_
        rintro ee wV ⟨rfl, hb⟩
        have IV := Lib.hid (IF.out.below hb); clear hb hl
        go_wp2_with fail
        refine (fail_any _ a s E1 (ackE v (ackR1 k id c l)) _ IV.out.cur).mono ?_
        rintro ee wG ⟨rfl, hc, hm⟩
        have IG := Lib.hid (IV.out.turn hc hm); clear hc hm
        have HW2 := HW
        generalize (if E1 = 0 then ackE v (ackR1 k id c l) else E1) = E2 at *
        go_wp2_with fail
        refine (err_any _ a s E2 _ IG.out.cur).mono ?_
        rintro ee wH ⟨rfl, rfl⟩
        have hl := ld_bk IG.out.pk
        have hst := run_stPk IG.out.res
        rcases HW2.out with ⟨h2, hr⟩ | ⟨h2, hr⟩
        · subst h2
          have HR := Lib.hid hr; clear hr
          go_wp2
          refine bodyPost_ret (results_pk rfl _ rfl IG.out.some.2.1) rfl ?_
          exact pkOut_ok HR.out IG.out.some.2.2 IG.out.some.1
        · have e0 : (E2 != 0) = true := bne_iff_ne.2 h2
          have HR := Lib.hid hr; clear hr h2
          go_wp2
          refine bodyPost_ret (results_pk rfl _ rfl IG.out.none.2) rfl ?_
          exact pkOut_bad HR.out IG.out.none.1
end Go.Proofs.YtbdgkkmbnahgiaaGreatDoor

namespace Go.Proofs.YtbdgkkmbnahgiaaGreatDoor
open Go.RowKit

/-- May a kind have these flags? -/
def hdFlagged (k f : Int) : Bool := if k = 3 then hdFlag3 f else decide (f = hdFixed k)
def hdChk (v k f : Int) : Int := if hdKnown v = false then 2 else if hdKinds v k = false then 8 else if hdFlagged k f = false then 7 else 0
/-- A header. -/
structure Hdr where
  k : Int
  f : Int
  n : Nat
def hdr0 : Hdr := ⟨0, 0, 0⟩
def hdrV (h : Hdr) : Value := .agg #[.int .i64 h.k, .int .i64 h.f, .int .i64 h.n]
def hdByte (s : ByteArray) : Nat := ((ls s).headD 0).toNat
def hdR (v : Int) (s : ByteArray) : Hdr × Nat × Int :=
  if hdKnown v = false then (hdr0, 0, 2)
  else if s.size = 0 then (hdr0, 0, 3)
  else if hdChk v (hdByte s / 16 : Nat) (hdByte s % 16 : Nat) ≠ 0 then (hdr0, 0, hdChk v (hdByte s / 16 : Nat) (hdByte s % 16 : Nat))
  else if (readV (ls (s.extract 1 s.size))).2.2 ≠ 0 then (hdr0, 0, (readV (ls (s.extract 1 s.size))).2.2)
  else (⟨(hdByte s / 16 : Nat), (hdByte s % 16 : Nat), (readV (ls (s.extract 1 s.size))).1⟩, (readV (ls (s.extract 1 s.size))).2.1 + 1, 0)
/-- A header's bytes. -/
def hdS (k f : Int) (n : Nat) : List UInt8 := putL (16 * k + f).toNat 1 ++ varL n

theorem hdChk_ok {v k f : Int} : hdChk v k f = 0 ↔ hdKnown v = true ∧ hdKinds v k = true ∧ hdFlagged k f = true := by
  unfold hdChk
  cases hdKnown v <;> cases hdKinds v k <;> cases hdFlagged k f <;> simp
theorem kinds_range {v k : Int} (h : hdKinds v k = true) : 1 ≤ k ∧ k ≤ 15 := by
  have := of_decide_eq_true h
  omega
theorem flagged_range {k f : Int} (h : hdFlagged k f = true) : 0 ≤ f ∧ f ≤ 15 := by
  unfold hdFlagged at h
  by_cases h3 : k = 3
  · rw [if_pos h3] at h
    have := of_decide_eq_true h
    omega
  · rw [if_neg h3] at h
    have := of_decide_eq_true h
    unfold hdFixed at this
    split at this <;> omega
theorem flagged_three (f : Int) : hdFlagged 3 f = hdFlag3 f := if_pos rfl
theorem hd_rest_ls (s : ByteArray) : ls (s.extract 1 s.size) = (ls s).drop 1 := by
  unfold ls
  rw [Lib.extract_data, List.take_of_length_le]
  rw [List.length_drop]
  show s.data.size - 1 ≤ s.data.size - 1
  exact Nat.le_refl _
theorem hdS_two (k f : Int) (n : Nat) : 2 ≤ (hdS k f n).length ∧ (hdS k f n).length ≤ 5 := by
  unfold hdS
  rw [List.length_append, putL_len]
  have h1 : 0 < (varL n).length := by
    unfold varL varF
    split <;> simp
  have h2 : (varL n).length ≤ 4 := varF_len 3 n
  omega
theorem hdR_front {v k f : Int} {n : Nat} (hc : hdChk v k f = 0) (hn : n ≤ 268435455) {s : ByteArray} {R : List UInt8} (hs : ls s = hdS k f n ++ R) :
    hdR v s = (⟨k, f, n⟩, (hdS k f n).length, 0) := by
  obtain ⟨h1, h2, h3⟩ := hdChk_ok.1 hc
  have r1 := kinds_range h2
  have r2 := flagged_range h3
  obtain ⟨a, ha, hb⟩ := put_one (16 * k + f) (by omega) (by omega)
  have e1 : ls s = a :: (varL n ++ R) := by
    rw [hs]
    unfold hdS
    rw [ha]
    rfl
  have hz : s.size ≠ 0 := by
    intro h0
    have := ls_len s
    rw [e1, h0] at this
    simp at this
  have hB : hdByte s = a.toNat := by
    unfold hdByte
    rw [e1]
    rfl
  have e2 : ((hdByte s / 16 : Nat) : Int) = k := by rw [hB]; omega
  have e3 : ((hdByte s % 16 : Nat) : Int) = f := by rw [hB]; omega
  have e4 : readV (ls (s.extract 1 s.size)) = (n, (varL n).length, 0) := by
    rw [hd_rest_ls, e1]
    exact readV_varL n hn R
  unfold hdR
  rw [if_neg (by rw [h1]; decide), if_neg hz, e2, e3, hc, e4, if_neg (by decide), if_neg (fun x => x rfl)]
  have : (hdS k f n).length = (varL n).length + 1 := by
    unfold hdS
    rw [List.length_append, putL_len, Nat.add_comm]
  rw [this]
theorem hdR_back {v : Int} {s : ByteArray} {h : Hdr} {a : Nat} (hr : hdR v s = (h, a, 0)) :
    hdChk v h.k h.f = 0 ∧ h.n ≤ 268435455 ∧ ls s = hdS h.k h.f h.n ++ (ls s).drop a ∧ a = (hdS h.k h.f h.n).length ∧ a ≤ s.size := by
  unfold hdR at hr
  split at hr
  · simp at hr
  split at hr
  · simp at hr
  rename_i h1 h2
  split at hr
  · rename_i h3
    simp only [Prod.mk.injEq] at hr
    exact absurd hr.2.2 h3
  split at hr
  · rename_i h3 h4
    simp only [Prod.mk.injEq] at hr
    exact absurd hr.2.2 h4
  rename_i h3 h4
  simp only [Prod.mk.injEq] at hr
  obtain ⟨rfl, rfl, -⟩ := hr
  have h3' : hdChk v (hdByte s / 16 : Nat) (hdByte s % 16 : Nat) = 0 := Classical.not_not.1 h3
  have h4' : (readV (ls (s.extract 1 s.size))).2.2 = 0 := Classical.not_not.1 h4
  obtain ⟨b1, b2, b3⟩ := readV_back (l := ls (s.extract 1 s.size)) (n := (readV (ls (s.extract 1 s.size))).1) (k := (readV (ls (s.extract 1 s.size))).2.1) (by rw [← h4'])
  have hsz := readV_size (ls (s.extract 1 s.size))
  generalize readV (ls (s.extract 1 s.size)) = r at *
  rw [hd_rest_ls] at b1 hsz
  have hl := ls_len s
  cases hx : ls s with
  | nil => rw [hx] at hl; exact absurd hl.symm h2
  | cons x l =>
    have hB : hdByte s = x.toNat := by unfold hdByte; rw [hx]; rfl
    have hb := x.toNat_lt
    rw [hx] at b1 hsz hl
    simp only [List.drop_succ_cons, List.drop_zero] at b1 hsz
    have e1 : putL (16 * ((hdByte s / 16 : Nat) : Int) + ((hdByte s % 16 : Nat) : Int)).toNat 1 = [x] := by
      rw [hB, show (16 * ((x.toNat / 16 : Nat) : Int) + ((x.toNat % 16 : Nat) : Int)).toNat = x.toNat by omega]
      have := put_get1 [x] rfl
      rw [show getL [x] = x.toNat by simp [getL]] at this
      exact this
    refine ⟨h3', b3, ?_, ?_, ?_⟩
    · show x :: l = (putL (16 * ((hdByte s / 16 : Nat) : Int) + ((hdByte s % 16 : Nat) : Int)).toNat 1 ++ varL r.1) ++ (x :: l).drop (r.2.1 + 1)
      rw [e1, List.drop_succ_cons]
      show x :: l = x :: (varL r.1 ++ l.drop r.2.1)
      rw [← b1]
    · show r.2.1 + 1 = (putL (16 * ((hdByte s / 16 : Nat) : Int) + ((hdByte s % 16 : Nat) : Int)).toNat 1 ++ varL r.1).length
      rw [List.length_append, putL_len, ← b2, Nat.add_comm]
    · show r.2.1 + 1 ≤ s.size
      simp only [List.length_cons] at hl
      omega
end Go.Proofs.YtbdgkkmbnahgiaaGreatDoor

