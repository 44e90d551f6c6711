/-
  The laws of the registry: rows of topics and of names are the same; what the laws call of a registry of their own.
-/
import Derived.Test.YtjbpafkdbfbdlaaLwB

namespace Go.Proofs.Ytjbpafkdbfbdlaa
open Go.RowKit
theorem Rd.lit3 (w : World) (cs : Array Value) (t : TypeId) (l : List Tp) (hx : cs.toList = tpCs l) : Rd (w.alloc (.cells cs t)) (w.alloc (.cells cs t)).heap.size 3 (some ⟨w.heap.size, 0, none⟩) l.length (tpCs l) := by
  refine ⟨tpCs_len l, .inr ⟨w.heap.size, 0, rfl, by simp, fun j u hu => ?_⟩⟩
  rw [Nat.zero_add, cell_of_row _ w.heap.size j cs t (0, 0) (heap_alloc_new w _)]
  rw [← hx] at hu
  simpa using hu
theorem Rd.litN (w : World) (cs : Array Value) (t : TypeId) (l : List ByteArray) (hx : cs.toList = nmV l) : Rd (w.alloc (.cells cs t)) (w.alloc (.cells cs t)).heap.size 1 (some ⟨w.heap.size, 0, none⟩) l.length (nmV l) := by
  refine ⟨by simp [nmV], .inr ⟨w.heap.size, 0, rfl, by simp, fun j u hu => ?_⟩⟩
  rw [Nat.zero_add, cell_of_row _ w.heap.size j cs t (0, 0) (heap_alloc_new w _)]
  rw [← hx] at hu
  simpa using hu
theorem Rd.atN {w : World} {B : Nat} {A : Option Addr} {l : List ByteArray} (h : Rd w B 1 A l.length (nmV l)) {i : Nat} (hi : i < l.length) : ∃ b o, A = some ⟨b, o, none⟩ ∧ b < B ∧ w.cell? ⟨b, o + i, none⟩ = some (.string l[i]) := by
  obtain ⟨b, o, u, h1, h2, h3, h4⟩ := h.at1 hi
  refine ⟨b, o, h1, h2, ?_⟩
  have : (nmV l)[i]? = some (.string l[i]) := by
    unfold nmV
    rw [List.getElem?_map, List.getElem?_eq_getElem hi]
    rfl
  rw [this] at h3
  rw [h4, ← h3]
set_option maxHeartbeats 1000000 in
set_option maxRecDepth 10000 in
theorem sameTp_any (A A' : Option Addr) (n m c c' : Nat) (l : List Tp) (w : World) (hl : Rd w w.heap.size 3 A n (tpCs l)) (hm : Rd w w.heap.size 3 A' m (tpCs l)) (hn : n ≤ 4611686018427387904) :
    Calls Try.prog 14 #[.slice A n c, .slice A' m c'] w fun e w' => e = .returned (.bool true) ∧ Below w.heap.size w w' := by
  have hgt := guard_tp
  obtain rfl : n = l.length := by have := hl.len; rw [tpCs_len] at this; omega
  obtain rfl : m = l.length := by have := hm.len; rw [tpCs_len] at this; omega
  have HL := Lib.hid hl
  have HM := Lib.hid hm
  clear hl hm
  generalize hN : l.length = n at hn
  have HN := Lib.hid hN
  clear hN
  go_enter Try.func14, Try.ntmps14
  go_wp2
  go_loopw [5] (fun i wr => ∃ k : Nat, k ≤ n ∧ i = .int .i64 k ∧ Below w.heap.size w wr) (fun i _ => n - (intOf i).toNat)
  case atStart => exact ⟨0, by omega, rfl, Below.refl _ _⟩
  case round =>
    obtain ⟨k, hk, rfl, hbel⟩ := hrel
    by_cases hlt : k < n
    · have hlt' : k < l.length := by rw [HN.out]; exact hlt
      obtain ⟨bA, oA, rfl, hb, c0, c1, c2⟩ := (HL.out.below hbel).atT hlt'
      obtain ⟨bA', oA', rfl, hb', d0, d1, d2⟩ := (HM.out.below hbel).atT hlt'
      generalize l[k] = p at *
      have b1 : (0 : Int) ≤ (k : Int) := by omega
      have b2 : (k : Int) < (n : Int) := by omega
      have hne := fun W => neq_tp p p W
      have hd : decide (p = p) = true := by simp
      rw [hd] at hne
      clear hd hlt'
      go_wp2
      go_quiet (fail)
      go_wp2
      go_roundw
      case rel => exact ⟨k + 1, by omega, by go_num, below_drawn hbel _⟩
      case measure => simp [intOf]; omega
    · go_wp2
      go_ret
      exact ⟨rfl, hbel⟩
section
variable {w0 w : World} {Ex : Nat → Prop} {gp K : Nat} {L : Rg}
theorem nameN (h : RgN w0 Ex gp L K w) (c : ByteArray) (hc : c.size ≤ maxLen) (i : Int) (hi : (Lit.int .i64 i).wf = true) :
    Calls Try.prog 15 #[.pointer (some ⟨gp, 0, none⟩), .string c, .int .i64 i] w fun e w' => e = .returned (.tuple #[.string (rfName L c i).1, .int .i64 (rfName L c i).2]) ∧ RgN w0 Ex gp L K w' ∧ Below w.heap.size w w' := by
  obtain ⟨F, h1, -⟩ := h.st
  refine (rname_any h1 c hc i hi).mono ?_
  rintro e w' ⟨he, hb⟩
  exact ⟨he, h.keep hb, hb⟩
theorem idN (h : RgN w0 Ex gp L K w) (c n : ByteArray) (hc : c.size ≤ maxLen) (hn : n.size ≤ maxLen) :
    Calls Try.prog 16 #[.pointer (some ⟨gp, 0, none⟩), .string c, .string n] w fun e w' => e = .returned (.tuple #[.int .i64 (rfID L c n).1, .int .i64 (rfID L c n).2]) ∧ w = w' := by
  obtain ⟨F, h1, -⟩ := h.st
  exact rid_any h1 c n hc hn
theorem fixN (h : RgN w0 Ex gp L K w) (c : ByteArray) (hc : c.size ≤ maxLen) (i : Int) (hi : (Lit.int .i64 i).wf = true) :
    Calls Try.prog 17 #[.pointer (some ⟨gp, 0, none⟩), .string c, .int .i64 i] w fun e w' => e = .returned (.bool (rfFix L c i)) ∧ w = w' := by
  obtain ⟨F, h1, -⟩ := h.st
  exact rfix_any h1 c hc i hi
theorem topN (h : RgN w0 Ex gp L K w) (c : ByteArray) (hc : c.size ≤ maxLen) (hK : K < 100000000) :
    Calls Try.prog 7 #[.pointer (some ⟨gp, 0, none⟩), .string c] w fun e w' => ∃ v, e = .returned v ∧ w'.ownsRow w.heap.size 39 3 v (rgT L c).length (tpCs (rgT L c)) ∧ Below w.heap.size w w' ∧ RgN w0 (fun i => Ex i ∨ v.ownBlock = some i) gp L K w' := by
  obtain ⟨F, h1, -⟩ := h.st
  refine (topics_any h1 c hc hK).mono ?_
  rintro e w' ⟨v, he, hr, hb⟩
  exact ⟨v, he, hr, hb, h.more hb fun i hi => hi.imp id fun h2 => hr.lt i h2⟩
end
theorem clear_nil (w : World) (c : ByteArray) : Calls Try.prog 10 #[.pointer none, .string c] w fun e w' => e = .returned (.int .i64 0) ∧ w = w' := by
  have ho := of_nil w c
  go_enter Try.func10, Try.ntmps10
  go_wp2_with fail
  refine ho.mono ?_
  rintro e w1 ⟨rfl, rfl⟩
  go_wp2
  go_ret
  exact ⟨rfl, rfl⟩
end Go.Proofs.Ytjbpafkdbfbdlaa
