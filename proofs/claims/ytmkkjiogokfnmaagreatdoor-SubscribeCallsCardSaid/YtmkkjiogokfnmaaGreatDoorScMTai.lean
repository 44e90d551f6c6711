/-
  A tail (a code, properties), plain: as it is written, as it is read.
  ack.Read, plain: what is read from a body; a body is read back.
  ack: the walk of rest.
  ack: the walk of Read.
-/
import Derived.Test.YtmkkjiogokfnmaaGreatDoorScMAck
import Derived.Test.YtmkkjiogokfnmaaGreatDoorScMLis
import Derived.Test.YtmkkjiogokfnmaaGreatDoorScMPk
import Derived.Deep.RegionHeld3
import Derived.Deep.DrawnRows
namespace Go.Proofs.YtmkkjiogokfnmaaGreatDoor
open Go.RowKit

theorem take_yes {t : ByteArray} {a k : Nat} (h : a + k ≤ t.size) : takeS t a 0 k = (t.extract a (a + k), a + k, 0) := by
  have h1 := needS_take t a 0 k (.inr (by simp [hasC]; omega))
  rw [← h1, needS_yes h]
theorem take_no {t : ByteArray} {a k : Nat} (h : ¬ a + k ≤ t.size) : takeS t a 0 k = (⟨#[]⟩, a, 3) := by
  have hh : hasC t a k = false := by simp [hasC]; omega
  unfold takeS
  rw [if_pos rfl, if_neg (by rw [hh]; decide)]
theorem num_front {t : ByteArray} {a k : Nat} {x rest : List UInt8} (h : (ls t).drop a = x ++ rest) (hx : x.length = k) (ha : a ≤ t.size) : numS t a 0 k = getL x := by
  have hl := congrArg List.length h
  rw [List.length_drop, List.length_append, ls_len] at hl
  unfold numS
  rw [take_yes (by omega), extract_ls, h, ← hx, List.take_left']
  rfl
theorem num_one_lt (t : ByteArray) (a : Nat) (e : Int) : numS t a e 1 < 256 := by
  unfold numS
  have h1 := getL_lt (ls (takeS t a e 1).1)
  have h2 : (ls (takeS t a e 1).1).length ≤ 1 := by
    rw [ls_len]
    unfold takeS
    split
    · split
      · show (t.extract a (a + Int.toNat 1)).size ≤ 1
        rw [ByteArray.size_extract]; omega
      · exact Nat.zero_le _
    · exact Nat.zero_le _
  have h3 : 256 ^ (ls (takeS t a e 1).1).length ≤ 256 ^ 1 := Nat.pow_le_pow_right (by omega) h2
  omega
theorem num_back2 {t : ByteArray} {a : Nat} (h : a + 2 ≤ t.size) : (ls t).drop a = putL (numS t a 0 2) 2 ++ (ls t).drop (a + 2) := by
  unfold numS
  rw [show ((2 : Int)) = ((2 : Nat) : Int) from rfl, take_yes h, put_get2 _ (by rw [ls_len, ByteArray.size_extract]; omega), extract_ls, ← List.drop_drop, List.take_append_drop]
end Go.Proofs.YtmkkjiogokfnmaaGreatDoor

namespace Go.Proofs.YtmkkjiogokfnmaaGreatDoor
open Go.RowKit

/-- A packet of a kind, an id, a code, properties. -/
def ackR1 (k i c : Int) (l : List Pr) : Pk := { pk0 with kind := k, id := i, code := c, props := l }
theorem pkOk_R1 {k i c : Int} {l : List Pr} (h : ∀ p ∈ l, prGood p) (hl : l.length ≤ 140737488351232) : PkOk (ackR1 k i c l) := by
  refine ⟨?_, h, ?_, ?_, ?_⟩
  · intro q hq; cases hq
  · intro q hq; cases hq
  · exact ⟨Nat.zero_le _, Nat.zero_le _, Nat.zero_le _, Nat.zero_le _, Nat.zero_le _, Nat.zero_le _, Nat.zero_le _⟩
  · exact ⟨Nat.zero_le _, Nat.zero_le _, Nat.zero_le _, hl⟩
end Go.Proofs.YtmkkjiogokfnmaaGreatDoor

namespace Go.Proofs.YtmkkjiogokfnmaaGreatDoor
open Go.RowKit
attribute [local go_sem ↓] Go.wp_at_zero Go.wp_at_succ

theorem pk_code (k i c c' : Int) (l : List Pr) (h : Hs) : (pkC (ackR1 k i c l) h).setIfInBounds 21 (.int .i64 c') = pkC (ackR1 k i c' l) h := rfl
theorem pk_props (k i c : Int) (l l' : List Pr) (A : Option Addr) (n : Nat) (h : Hs) : (pkC (ackR1 k i c l) h).setIfInBounds 24 (.slice A l'.length n) = pkC (ackR1 k i c l') { h with props := ⟨A, n⟩ } := rfl
/-- A cell stands, and nothing that was there has turned. -/
abbrev SR (gp : Nat) (v : Value) (W x : World) : Prop := x.cell? ⟨gp, 0, none⟩ = some v ∧ Below W.heap.size W x
theorem SR.below {gp : Nat} {v : Value} {W x y : World} (h : SR gp v W x) (hb : Below x.heap.size x y) : SR gp v W y :=
  ⟨(hb.cell (p := ⟨gp, 0, none⟩) (World.block_lt_of_cell? x _ h.1)).trans h.1, h.2.trans (hb.mono h.2.size)⟩
theorem takeS_bad {t : ByteArray} {a : Nat} {e n : Int} (h : e ≠ 0) : takeS t a e n = (⟨#[]⟩, a, e) := by
  unfold takeS; rw [if_neg h]
/-- What rest leaves. -/
def RestOut (gp gc : Nat) (k i : Int) (t : ByteArray) (r : Int × List Pr × Nat × Int) (w : World) (e : Ending) (w' : World) : Prop :=
  e = .returned (.tuple #[]) ∧ ∃ A c, r.2.1.length ≤ c ∧ Rd w' w'.heap.size 4 A r.2.1.length (prs r.2.1) ∧ Bk w' gp PkT (pkC (ackR1 k i r.1 r.2.1) { hs0 with props := ⟨A, c⟩ }) ∧ Cur w' gc t r.2.2.1 r.2.2.2 ∧ Mods (two gp gc) w w'
/-- Properties lie in no block without a number of 32 bits. -/
theorem Rd.other {w w' : World} {B g : Nat} {A : Option Addr} {l : List Pr} {t : TypeId} {cs : Array Value} (h : Rd w B 4 A l.length (prs l)) (hbk : Bk w g t cs) (hcs : ∀ (i : Nat) (n : Int), cs[i]? ≠ some (Value.int IntKind.u32 n)) (hm : w.grownBy w' (some g)) (hB : B ≤ w.heap.size) : Rd w' B 4 A l.length (prs l) := by
  refine h.grown hm hB fun b o hA hx hbg => ?_
  subst hbg
  have hl : 0 < l.length := by
    cases l with
    | nil => exact absurd rfl hx
    | cons => simp
  obtain ⟨b', o', he, _, _, c1, _⟩ := h.atP hl
  rw [hA] at he
  cases he
  rw [hbk.cell] at c1
  exact hcs _ _ c1
theorem cur_no32 (t : ByteArray) (a : Nat) (e : Int) : ∀ (i : Nat) (n : Int), (curC t a e)[i]? ≠ some (Value.int IntKind.u32 n) := by
  intro i n
  rcases i with _ | _ | _ | i <;> simp [curC]
theorem pk_no32 (p : Pk) (h : Hs) : ∀ (i : Nat) (n : Int), (pkC p h)[i]? ≠ some (Value.int IntKind.u32 n) := by
  intro i n
  rcases i with _ | _ | _ | _ | _ | _ | _ | _ | _ | _ | _ | _ | _ | _ | _ | _ | _ | _ | _ | _ | _ | _ | _ | _ | _ | i <;> simp [pkC]
/-- What stands behind the reading of the properties. -/
structure RJ (gp gc : Nat) (k i q : Int) (l : List Pr) (A : Option Addr) (t : ByteArray) (a : Nat) (e : Int) (w x : World) : Prop where
  pk : Bk x gp PkT (pkC (ackR1 k i q []) hs0)
  cur : Cur x gc t a e
  rd : Rd x x.heap.size 4 A l.length (prs l)
  mods : Mods (two gp gc) w x
  ne : gp ≠ gc
theorem RJ.turn {gp gc : Nat} {k i q : Int} {l : List Pr} {A : Option Addr} {t : ByteArray} {a a' : Nat} {e e' : Int} {w x y : World} (h : RJ gp gc k i q l A t a e w x) (hc : Cur y gc t a' e') (hm : x.grownBy y (some gc)) : RJ gp gc k i q l A t a' e' w y :=
  ⟨h.pk.mods (S := fun z => z = gc) (Mods.of_grown hm rfl) h.ne, hc, (h.rd.other h.cur.1 (cur_no32 _ _ _) hm (Nat.le_refl _)).wider hm.size, h.mods.trans (Mods.of_grown hm (.inr rfl)), h.ne⟩
end Go.Proofs.YtmkkjiogokfnmaaGreatDoor

namespace Go.Proofs.YtmkkjiogokfnmaaGreatDoor
open Go.RowKit
attribute [local go_sem ↓] to_ldPk to_bxPk to_bdPk to_alPk to_stPk
attribute [local go_sem] run_bxPk run_bxPk_agg ld_fresh run_alPk run_bd0 run_bdK run_bdKI run_bdKIC run_bdKC run_bdKICP run_stPk_fresh pkC_0 pkC_1 pkC_2 pkC_3 pkC_4 pkC_5 pkC_6 pkC_7 pkC_8 pkC_9 pkC_10 pkC_11 pkC_12 pkC_13 pkC_14 pkC_15 pkC_16 pkC_17 pkC_18 pkC_19 pkC_20 pkC_21 pkC_22 pkC_23 pkC_24

theorem PkIn.R1 {w : World} {B : Nat} {A : Option Addr} {n : Nat} {l : List Pr} (h : Rd w B 4 A l.length (prs l)) (hn : l.length ≤ n) (k i c : Int) : PkIn w B (ackR1 k i c l) { hs0 with props := ⟨A, n⟩ } :=
  ⟨Rd.nil _ _ _ _, Rd.nil _ _ _ _, Rd.nil _ _ _ _, h, Nat.zero_le _, Nat.zero_le _, Nat.zero_le _, hn⟩

/-- What stands while a packet is read: the result's block, the packet's, the cursor's. -/
structure RI (w : World) (g gp gc : Nat) (k i c : Int) (l : List Pr) (A : Option Addr) (n : Nat) (t : ByteArray) (a : Nat) (e : Int) (x : World) : Prop where
  kept : Below w.heap.size w x
  res : Bk x g PkT (pkC pk0 hs0)
  pk : Bk x gp PkT (pkC (ackR1 k i c l) { hs0 with props := ⟨A, n⟩ })
  cur : Cur x gc t a e
  rd : Rd x x.heap.size 4 A l.length (prs l)
  cap : l.length ≤ n
  ne : g ≠ gp ∧ g ≠ gc ∧ gp ≠ gc
  base : w.heap.size ≤ g ∧ w.heap.size ≤ gp ∧ w.heap.size ≤ gc
section
variable {w x y : World} {g gp gc : Nat} {k i c : Int} {l : List Pr} {A : Option Addr} {n : Nat} {t : ByteArray} {a a' : Nat} {e e' : Int}
theorem RI.below (h : RI w g gp gc k i c l A n t a e x) (hb : Below x.heap.size x y) : RI w g gp gc k i c l A n t a e y :=
  ⟨h.kept.trans (hb.mono h.kept.size), h.res.below hb h.res.lt, h.pk.below hb h.pk.lt, h.cur.below hb, (h.rd.below hb).wider hb.size, h.cap, h.ne, h.base⟩
theorem RI.turn (h : RI w g gp gc k i c l A n t a e x) (hc : Cur y gc t a' e') (hm : x.grownBy y (some gc)) : RI w g gp gc k i c l A n t a' e' y :=
  ⟨below_mod h.kept hm h.kept.size h.base.2.2, h.res.mods (S := fun z => z = gc) (Mods.of_grown hm rfl) h.ne.2.1, h.pk.mods (S := fun z => z = gc) (Mods.of_grown hm rfl) h.ne.2.2, hc,
    (h.rd.other h.cur.1 (cur_no32 _ _ _) hm (Nat.le_refl _)).wider hm.size, h.cap, h.ne, h.base⟩
theorem RI.rest {r : Int × List Pr × Nat × Int} {ee : Ending} (h : RI w g gp gc k i 0 [] none 0 t a e x) (hr : RestOut gp gc k i t r x ee y) : ee = .returned (.tuple #[]) ∧ ∃ A n, RI w g gp gc k i r.1 r.2.1 A n t r.2.2.1 r.2.2.2 y := by
  obtain ⟨h1, A, n, h2, h3, h4, h5, h6⟩ := hr
  refine ⟨h1, A, n, ⟨Mods.below h.kept h6 h.kept.size (fun z hz => hz.elim (fun e => by rw [e]; exact h.base.2.1) (fun e => by rw [e]; exact h.base.2.2)), h.res.mods h6 (fun hz => hz.elim h.ne.1 h.ne.2.1), h4, h5, h3, h2, h.ne, h.base⟩⟩
theorem RI.into (h : RI w g gp gc k i c l A n t a e x) : PkIn x x.heap.size (ackR1 k i c l) { hs0 with props := ⟨A, n⟩ } := PkIn.R1 h.rd h.cap k i c
/-- The result stored. -/
theorem RI.none (h : RI w g gp gc k i c l A n t a e x) : Below w.heap.size w (putPk x g pk0 hs0) ∧ Bk (putPk x g pk0 hs0) g PkT (pkC pk0 hs0) := ⟨below_put h.kept h.kept.size h.base.1 _ _, put_bk h.res _ _⟩
theorem RI.some (h : RI w g gp gc k i c l A n t a e x) : Below w.heap.size w (putPk x g (ackR1 k i c l) { hs0 with props := ⟨A, n⟩ }) ∧ Bk (putPk x g (ackR1 k i c l) { hs0 with props := ⟨A, n⟩ }) g PkT (pkC (ackR1 k i c l) { hs0 with props := ⟨A, n⟩ }) ∧
    PkIn (putPk x g (ackR1 k i c l) { hs0 with props := ⟨A, n⟩ }) (putPk x g (ackR1 k i c l) { hs0 with props := ⟨A, n⟩ }).heap.size (ackR1 k i c l) { hs0 with props := ⟨A, n⟩ } :=
  ⟨below_put h.kept h.kept.size h.base.1 _ _, put_bk h.res _ _, PkIn.R1 ((h.rd.other h.res (pk_no32 _ _) (putPk_mods _ _ _ _) (Nat.le_refl _)).wider (putPk_mods _ _ _ _).size) h.cap k i c⟩
end
/-- What a reading of a packet leaves. -/
def PkOut (r : Pk × Int) (w : World) (e : Ending) (w' : World) : Prop := ∃ h, e = .returned (.tuple #[pkV r.1 h, .int .i64 r.2]) ∧ PkIn w' w'.heap.size r.1 h ∧ Below w.heap.size w w'
theorem pkOut_bad {r : Pk × Int} {x : Int} {w w' : World} (h : r = (pk0, x)) (hb : Below w.heap.size w w') : PkOut r w (.returned (.tuple #[pkV pk0 hs0, .int .i64 x])) w' := by
  subst h
  exact ⟨hs0, rfl, ⟨Rd.nil _ _ _ _, Rd.nil _ _ _ _, Rd.nil _ _ _ _, Rd.nil _ _ _ _, Nat.zero_le _, Nat.zero_le _, Nat.zero_le _, Nat.zero_le _⟩, hb⟩
theorem pkOut_ok {r : Pk × Int} {p : Pk} {h : Hs} {w w' : World} (hr : r = (p, 0)) (hi : PkIn w' w'.heap.size p h) (hb : Below w.heap.size w w') : PkOut r w (.returned (.tuple #[pkV p h, .int .i64 0])) w' := by
  subst hr
  exact ⟨h, rfl, hi, hb⟩
theorem num_two_lt (t : ByteArray) (a : Nat) (e : Int) (ha : a ≤ t.size) : numS t a e 2 < 65536 := by
  unfold numS
  have h1 := getL_lt (ls (takeS t a e 2).1)
  have h2 : (ls (takeS t a e 2).1).length ≤ 2 := by
    rw [ls_len]
    exact takeS_size ha e 2 2 (by decide)
  have h3 : 256 ^ (ls (takeS t a e 2).1).length ≤ 256 ^ 2 := Nat.pow_le_pow_right (by omega) h2
  omega

theorem ackR1_ki (k i : Int) : ({ pk0 with kind := k, id := i } : Pk) = ackR1 k i 0 [] := rfl
end Go.Proofs.YtmkkjiogokfnmaaGreatDoor

