/-
  Reference 02: Size, Bytes.
  Reference 01: Put, Get and the cursor answer what the program's own answer.
  Reference 05: a property's row.
  Reference 05: a property's row (look).
  Reference 05: Shape, May, Many, Check, value.
  Reference 05: Check.
  Reference 03: texts and binary data; reference 05: value, Get, twice, lone.
-/
import Derived.Test.YtmkkjiogokfnmaaDoorMVar
import Derived.Test.YtmkkjiogokfnmaaDoorMPrp
import Derived.Test.YtmkkjiogokfnmaaDoorMOct
import Derived.Test.YtmkkjiogokfnmaaDoorMPro
import Derived.Test.YtmkkjiogokfnmaaDoorMRef
import Derived.Test.YtmkkjiogokfnmaaDoorPubD
import Derived.Test.YtmkkjiogokfnmaaDoorMPubB
import Derived.Test.YtmkkjiogokfnmaaDoorMPubA

namespace Go.Proofs.YtmkkjiogokfnmaaDoor
open Go.RowKit

theorem varL_len (n : Nat) : (varL n).length = if n < 128 then 1 else if n < 16384 then 2 else if n < 2097152 then 3 else 4 := by
  unfold varL
  by_cases h1 : n < 128
  · simp [varF, h1]
  · rw [if_neg h1]
    by_cases h2 : n < 16384
    · have : n / 128 < 128 := by omega
      simp [varF, h1, h2, this]
    · rw [if_neg h2]
      have a2 : ¬ n / 128 < 128 := by omega
      by_cases h3 : n < 2097152
      · have : n / 128 / 128 < 128 := by omega
        simp [varF, h1, a2, h3, this]
      · have : ¬ n / 128 / 128 < 128 := by omega
        simp [varF, h1, a2, h3, this]
theorem varF_pos (f n : Nat) : 1 ≤ (varF f n).length := by
  cases f with
  | zero => simp [varF]
  | succ f => unfold varF; split <;> simp
end Go.Proofs.YtmkkjiogokfnmaaDoor

namespace Go.Proofs.YtmkkjiogokfnmaaDoor
open Go.RowKit

theorem putL_step {n k m : Nat} (hm : m + 1 ≤ k) (hk : k ≤ 8) : bys ((putL n k).take (k - m)) = bys ((putL n k).take (k - (m + 1))) ++ [.int .u8 ((n : Int) / 2 ^ (8 * m) % 256)] := by
  have e : k - m = (k - (m + 1)) + 1 := by omega
  have hl : k - (m + 1) < (putL n k).length := by rw [putL_len]; omega
  rw [e, List.take_succ_eq_append_getElem hl, bys, List.map_append]
  have hb : (putL n k)[k - (m + 1)] = UInt8.ofNat (n / 2 ^ (8 * m)) := by
    simp only [putL, List.getElem_map, List.getElem_range]
    rw [if_pos (by omega), show k - 1 - (k - (m + 1)) = m by omega]
  rw [hb]
  simp [bys, UInt8.toNat_ofNat']
/-- What is seen of the next bytes. -/
def peekS (t : ByteArray) (a : Nat) (e n : Int) : ByteArray := if e = 0 ∧ hasC t a n = true then t.extract a (a + n.toNat) else ⟨#[]⟩
theorem peek_take {t : ByteArray} {a : Nat} {e n : Int} : peekS t a (takeS t a e n).2.2 n = (takeS t a e n).1 ∧ (takeS t a e n).2.1 = a + (takeS t a e n).1.size := by
  unfold peekS takeS
  by_cases he : e = 0
  · subst he
    cases hh : hasC t a n
    · simp
      rfl
    · have : 0 ≤ n ∧ n ≤ (t.size : Int) - a := by simpa [hasC] using hh
      simp only [if_true, and_self, true_and]
      rw [ByteArray.size_extract]
      omega
  · simp [he]
    rfl
end Go.Proofs.YtmkkjiogokfnmaaDoor

namespace Go.Proofs.YtmkkjiogokfnmaaDoor
open Go.RowKit
/-- Who may have a property, as the reference lists it. -/
def kindTab : List (Nat × List Int) :=
  [(1, [3, 16]), (2, [3, 16]), (3, [3, 16]), (8, [3, 16]), (9, [3, 16]), (11, [3, 8]), (17, [1, 2, 14]), (18, [2]), (26, [2]), (19, [2]), (21, [1, 2, 15]), (22, [1, 2, 15]), (23, [1]), (25, [1]), (24, [16]), (28, [2, 14]),
   (31, [2, 4, 5, 6, 7, 9, 11, 14, 15]), (33, [1, 2]), (34, [1, 2]), (35, [3]), (36, [2]), (37, [2]), (40, [2]), (41, [2]), (42, [2]), (38, [1, 2, 3, 4, 5, 6, 7, 8, 9, 10, 11, 14, 15, 16]), (39, [1, 2])]
def kindsOf (id : Int) : List Int := ((kindTab.find? fun p => (p.1 : Int) == id).map (·.2)).getD []
def rowV (id : Int) (A : Option Addr) (c : Nat) : Value := .agg #[.int .i64 (ruleOf id).shape, .slice A (kindsOf id).length c, .int .u32 (ruleOf id).least, .int .u32 (ruleOf id).most]
def RowOut (id : Int) (w : World) (e : Ending) (w' : World) : Prop := ∃ A c, e = .returned (rowV id A c) ∧ Rd w' w'.heap.size 1 A (kindsOf id).length (iv (kindsOf id)) ∧ Below w.heap.size w w'
end Go.Proofs.YtmkkjiogokfnmaaDoor

namespace Go.Proofs.YtmkkjiogokfnmaaDoor
open Go.RowKit
theorem heap_alloc_sz (w : World) (o : Obj) : (w.alloc o).heap.size = w.heap.size + 1 := by simp
theorem Rd.of_bk {w : World} {g n : Nat} {t : TypeId} {cs : Array Value} {xs : List Value} (h : Bk w g t cs) (hx : cs.toList = xs) (hn : xs.length = n) : Rd w w.heap.size 1 (some ⟨g, 0, none⟩) n xs := by
  subst hx hn
  refine Rd.of_addr (by omega) h.lt fun j u hu => ?_
  have e : (⟨g, 0, none⟩ : Addr).add j = ⟨g, j, none⟩ := by simp [Addr.add]; intro e; exact e.symm
  rw [e, h.cell, ← hu]
  simp
theorem row_fin {w x : World} {id : Int} {cs : Array Value} {t : TypeId} {n : Nat} {sh le mo : Int} {a b c d : Value} {ks : List Int} (hk : kindsOf id = ks) (hc : cs.toList = iv ks) (hn : ks.length = n) (hr : ((ruleOf id).shape : Int) = sh ∧ ((ruleOf id).least : Int) = le ∧ ((ruleOf id).most : Int) = mo)
    (hs : Bk x (w.heap.size + 1) t cs) (hb : Below w.heap.size w x) :
    RowOut id w (.returned (.agg #[.int .i64 sh, .slice (some ⟨w.heap.size + 1, 0, none⟩) n n, .int .u32 le, .int .u32 mo])) ((((x.setCell ⟨w.heap.size, 0, none⟩ a).setCell ⟨w.heap.size, 1, none⟩ b).setCell ⟨w.heap.size, 2, none⟩ c).setCell ⟨w.heap.size, 3, none⟩ d) := by
  obtain ⟨rfl, rfl, rfl⟩ := hr
  subst hk hn
  exact ⟨_, _, rfl, Rd.of_bk (hs.put_other (by omega)) hc (iv_len _), below_four hb (Nat.le_refl _) _ _ _ _⟩
theorem find_absent {X : Type} {id : Int} {l : List (Nat × X)} (h : ∀ k : Nat, k ∈ l.map (·.1) → id ≠ (k : Int)) : (l.find? fun p => (p.1 : Int) == id) = none := by
  rw [List.find?_eq_none]
  intro p hp
  have := h p.1 (List.mem_map_of_mem hp)
  simp
  exact fun e => this e.symm
end Go.Proofs.YtmkkjiogokfnmaaDoor

namespace Go.Proofs.YtmkkjiogokfnmaaDoor
open Go.RowKit
theorem kinds_in (id : Int) : ∀ k ∈ kindsOf id, 1 ≤ k ∧ k ≤ 16 := by
  have h : ∀ p ∈ kindTab, ∀ k ∈ p.2, 1 ≤ k ∧ k ≤ 16 := by decide +kernel
  unfold kindsOf
  cases hf : kindTab.find? fun p => (p.1 : Int) == id with
  | none => simp
  | some p => exact h p (List.mem_of_find?_eq_some hf)
theorem kinds_tab : ∀ p ∈ kindTab, ∀ k : Fin 17, (p.2.contains ((k.1 : Nat) : Int)) = hasR (ruleOf p.1) ((k.1 : Nat) : Int) := by decide +kernel
theorem may_kinds (kind id : Int) : (kindsOf id).contains kind = mayP kind id := by
  by_cases hk : 0 ≤ kind ∧ kind ≤ 16
  · obtain ⟨k, rfl⟩ := Int.eq_ofNat_of_zero_le hk.1
    have hk' : k < 17 := by omega
    unfold kindsOf mayP
    cases hf : kindTab.find? fun p => (p.1 : Int) == id with
    | none =>
      have hr : ruleOf id = ⟨0, 0, 0, 0⟩ := by
        have h0 := List.find?_eq_none.1 hf
        unfold ruleOf
        rw [find_absent (fun j hj e => ?_)]
        · rfl
        · have h1 : ∀ j ∈ ruleTab.map (·.1), j ∈ kindTab.map (·.1) := by decide +kernel
          obtain ⟨p, hp, hpe⟩ := List.mem_map.1 (h1 j hj)
          have := h0 p hp
          subst hpe
          simp [e] at this
      rw [hr]
      simp [hasR]
    | some p =>
      have hp := List.mem_of_find?_eq_some hf
      have he : (p.1 : Int) = id := by simpa using List.find?_some hf
      have := kinds_tab p hp ⟨k, hk'⟩
      simp only [Option.map_some, Option.getD_some]
      rw [← he]
      exact this
  · have h1 : hasR (ruleOf id) kind = false := by
      unfold hasR
      by_cases h : 1 ≤ kind
      · rw [decide_eq_true h, decide_eq_false (by omega)]; rfl
      · rw [decide_eq_false h]; rfl
    unfold mayP
    rw [h1]
    rw [← Bool.not_eq_true, List.contains_iff_mem]
    intro h
    have := kinds_in id kind h
    omega
end Go.Proofs.YtmkkjiogokfnmaaDoor

namespace Go.Proofs.YtmkkjiogokfnmaaDoor
open Go.RowKit
theorem rule_eight {sh ki le mo : Nat} {id : Int} (h : ruleOf id = ⟨sh, ki, le, mo⟩) (h5 : sh ≠ 5) : (id == 8) = false := by
  refine beq_eq_false_iff_ne.2 fun e => h5 ?_
  subst e
  have : (ruleOf 8).shape = 5 := by decide +kernel
  rw [h] at this
  exact this
end Go.Proofs.YtmkkjiogokfnmaaDoor

namespace Go.Proofs.YtmkkjiogokfnmaaDoor
open Go.RowKit
/-- Is there one of an id among some already, that may not come often? -/
def twB (kind : Int) (l : List Pr) (id : Int) : Bool := (getP l id).isSome && !manyP kind id
def loneL (l : List Pr) : Bool := (getP l 22).isSome && !(getP l 21).isSome
end Go.Proofs.YtmkkjiogokfnmaaDoor
