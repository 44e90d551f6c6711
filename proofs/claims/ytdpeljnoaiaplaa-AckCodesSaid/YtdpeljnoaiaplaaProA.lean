/- The rules of properties: a map that the program fills; a look-up in it. -/
import Derived.Test.YtdpeljnoaiaplaaProg
import Derived.Test.YtdpeljnoaiaplaaKit
import Derived.Maps.Own
import Derived.MapKept
namespace Go.Proofs.Ytdpeljnoaiaplaa
open Go.RowKit

/-- What a property has: its shape, who may have it, the least and the greatest number. -/
structure Rule where
  shape : Nat
  kinds : Nat
  least : Nat
  most : Nat
def Rule.val (r : Rule) : Value := .agg #[.int .i64 r.shape, .int .i64 r.kinds, .int .u32 r.least, .int .u32 r.most]
def ruleTab : List (Nat × Rule) := [(1, ⟨1, 65544, 0, 1⟩), (2, ⟨3, 65544, 0, 4294967295⟩), (3, ⟨5, 65544, 0, 0⟩), (8, ⟨5, 65544, 0, 0⟩), (9, ⟨6, 65544, 0, 0⟩), (11, ⟨4, 264, 1, 268435455⟩), (17, ⟨3, 16390, 0, 4294967295⟩), (18, ⟨5, 4, 0, 0⟩), (19, ⟨2, 4, 0, 65535⟩), (21, ⟨5, 32774, 0, 0⟩), (22, ⟨6, 32774, 0, 0⟩), (23, ⟨1, 2, 0, 1⟩), (24, ⟨3, 65536, 0, 4294967295⟩), (25, ⟨1, 2, 0, 1⟩), (26, ⟨5, 4, 0, 0⟩), (28, ⟨5, 16388, 0, 0⟩), (31, ⟨5, 51956, 0, 0⟩), (33, ⟨2, 6, 1, 65535⟩), (34, ⟨2, 6, 0, 65535⟩), (35, ⟨2, 8, 1, 65535⟩), (36, ⟨1, 4, 0, 1⟩), (37, ⟨1, 4, 0, 1⟩), (38, ⟨7, 118782, 0, 0⟩), (39, ⟨3, 6, 1, 4294967295⟩), (40, ⟨1, 4, 0, 1⟩), (41, ⟨1, 4, 0, 1⟩), (42, ⟨1, 4, 0, 1⟩)]
def entry (i : Nat) (p : Nat × Rule) : MapEntry := { key := .int .i64 p.1, val := p.2.val, born := i }
def entries : Nat → List (Nat × Rule) → List MapEntry
  | _, [] => []
  | i, p :: l => entry i p :: entries (i + 1) l
theorem entries_snoc (i : Nat) (l : List (Nat × Rule)) (p : Nat × Rule) : entries i (l ++ [p]) = entries i l ++ [entry (i + l.length) p] := by
  induction l generalizing i with
  | nil => rfl
  | cons q l ih => simp [entries, ih, Nat.add_assoc, Nat.add_comm 1]
/-- Block r is the map of the first n rules. -/
def Tabn (w : World) (r n : Nat) : Prop := w.heap[r]? = some (.map (entries 0 (ruleTab.take n)).toArray n)
def Tab (w : World) (r : Nat) : Prop := Tabn w r 27
def ruleOf (id : Int) : Rule := ((ruleTab.find? fun p => (p.1 : Int) == id).map (·.2)).getD ⟨0, 0, 0, 0⟩

section
variable {w w' : World} {r n : Nat}
theorem Tabn.lt (h : Tabn w r n) : r < w.heap.size := (Array.getElem?_eq_some_iff.1 h).1
theorem Tabn.below {B : Nat} (h : Tabn w r n) (hb : Below B w w') (hr : r < B) : Tabn w' r n := (hb.block r hr).trans h
theorem Tabn.alloc (h : Tabn w r n) (o : Obj) : Tabn (w.alloc o) r n := (Below.heap_alloc w o r h.lt).trans h
theorem Tabn.other (h : Tabn w r n) {p : Addr} (hp : r ≠ p.block) (u : Value) : Tabn (w.setCell p u) r n := (Below.heap_setCell w p u r hp).trans h
theorem Tabn.drewN (h : Tabn w r n) (k : Nat) : Tabn (w.drewN k) r n := h
end

theorem find_none (key : Int) : ∀ (l : List (Nat × Rule)) (i j : Nat), (∀ p ∈ l, (p.1 : Int) ≠ key) → Instr.findNow (.int .i64) (.int .i64 key) (entries i l) j = some none
  | [], _, _, _ => rfl
  | p :: l, i, j, h => by
    have h0 := h p (.head _)
    have : (key == (p.1 : Int)) = false := by simpa using fun e => h0 e.symm
    simp [entries, entry, Instr.findNow, Instr.sameNow, this]
    exact find_none key l _ _ (fun q hq => h q (.tail _ hq))
theorem find_rule (key : Int) : ∀ (l : List (Nat × Rule)) (i j : Nat), ∃ o, Instr.findNow (.int .i64) (.int .i64 key) (entries i l) j = some o ∧ o.map (·.2) = (l.find? fun p => (p.1 : Int) == key).map (·.2.val)
  | [], _, _ => ⟨none, rfl, rfl⟩
  | p :: l, i, j => by
    by_cases h : key = (p.1 : Int)
    · refine ⟨some (j, p.2.val), ?_, ?_⟩
      · subst h; simp [entries, entry, Instr.findNow, Instr.sameNow]
      · subst h; simp
    · have h1 : (key == (p.1 : Int)) = false := by simpa using h
      have h2 : ((p.1 : Int) == key) = false := by simpa using fun e => h e.symm
      obtain ⟨o, ho, hm⟩ := find_rule key l (i + 1) (j + 1)
      exact ⟨o, by simp [entries, entry, Instr.findNow, Instr.sameNow, h1]; exact ho, by simp [List.find?, h2]; simpa using hm⟩

theorem insert_run {P : Program} {w : World} {t k e : TypeId} {r n : Nat} (ht : P.underlying t = some (.map k e)) (hk : P.underlying k = some (.int .i64)) (h : Tabn w r n) (p : Nat × Rule) (hp : ruleTab[n]? = some p)
    (hu : ∀ q ∈ ruleTab.take n, (q.1 : Int) ≠ (p.1 : Int)) : ∃ w', (Instr.mapUpdate t (.map (some r)) (.int .i64 p.1) p.2.val).run P w = .ok () w' ∧ Tabn w' r (n + 1) ∧ w.grownBy w' (some r) := by
  have hg := MapKept.run_getObj_map (P := P) h
  have hc := MapKept.run_checkKey (P := P) (w := w) (kt := k) (d := .int .i64) (k := .int .i64 p.1) hk rfl false 9999
  have hf := MapKept.run_findKey (P := P) (w := w) (kt := k) (d := .int .i64) (k := .int .i64 p.1) (l := entries 0 (ruleTab.take n)) (a := none) hk (find_none _ _ _ _ hu)
  have hs := fun o => MapKept.run_setObj_map (P := P) o h
  have hl : n < ruleTab.length := (List.getElem?_eq_some_iff.1 hp).1
  have ht' : (ruleTab.take (n + 1)) = ruleTab.take n ++ [p] := by
    rw [List.take_add_one, hp]; rfl
  have hln : (ruleTab.take n).length = n := by simp; omega
  refine ⟨_, by
    unfold Instr.mapUpdate
    simp only [Sem.run_bind, run_underlying ht, hg, hc, hf, Result.andThen]
    exact hs _, ?_, ?_⟩
  · unfold Tabn
    rw [ht', entries_snoc, hln]
    simp [h.lt, entry]
  · exact ⟨rfl, rfl, rfl, by simp, fun i _ hi => by
      have : r ≠ i := fun e => hi (by rw [e])
      simp [this]⟩

theorem wpList_rule {P : Program} (w : World) {ops : Array Oper} {rest : List Oper} {o : Oper} {a : Act} {Q : Exit → Act → World → Prop}
    (hg : o.guard = none) (m x v : Operand) (t : TypeId) (hop : o.op = Op.insert t m x v) (k e : TypeId) (ht : P.underlying t = some (.map k e)) (hk : P.underlying k = some (.int .i64))
    (r n : Nat) (hm : a.eval m = .map (some r)) (h : Tabn w r n) (p : Nat × Rule) (hp : ruleTab[n]? = some p) (hx : a.eval x = .int .i64 p.1) (hv : a.eval v = p.2.val)
    (hu : ∀ q ∈ ruleTab.take n, (q.1 : Int) ≠ (p.1 : Int)) (hK : ∀ w', Tabn w' r (n + 1) → w.grownBy w' (some r) → wpList P ops Q rest (a.put o.dst undef) w') :
    wpList P ops Q (o :: rest) a w := by
  refine wpList_plain hg fun K' hK' => ?_
  obtain ⟨w', hrun, r1, r2⟩ := insert_run ht hk h p hp hu
  unfold Oper.wp
  simp [execOp, hop, hm, hx, hv, hrun, Result.andThen]
  exact hK' _ _ (hK w' r1 r2)

theorem look_run {P : Program} {w : World} {t k e : TypeId} {r : Nat} (ht : P.underlying t = some (.map k e)) (hk : P.underlying k = some (.int .i64)) (hz : (zeroValue e).run P w = .ok (Rule.val ⟨0, 0, 0, 0⟩) w) (h : Tab w r) (id : Int) :
    (Instr.lookup t (.map (some r)) (.int .i64 id) false).run P w = .ok (ruleOf id).val w := by
  have hg := MapKept.run_getObj_map (P := P) h
  have hc := fun b => MapKept.run_checkKey (P := P) (w := w) (kt := k) (d := .int .i64) (k := .int .i64 id) hk rfl b 9999
  obtain ⟨o, ho, hm⟩ := find_rule id (ruleTab.take 27) 0 0
  have hf := MapKept.run_findKey (P := P) (w := w) (kt := k) (d := .int .i64) (k := .int .i64 id) (l := entries 0 (ruleTab.take 27)) (a := o) hk ho
  unfold Instr.lookup
  simp only [Sem.run_bind, run_underlying ht, hg, hc, Result.andThen, Sem.run_pure, hf]
  have e27 : ruleTab.take 27 = ruleTab := rfl
  rw [e27] at hm
  unfold ruleOf
  cases hq : ruleTab.find? fun p => (p.1 : Int) == id with
  | none =>
    rw [hq] at hm
    cases o with
    | none => simp [hz]
    | some a => simp at hm
  | some p =>
    rw [hq] at hm
    cases o with
    | none => simp at hm
    | some a => simp at hm; simp [hm, Sem.run_pure]

set_option maxHeartbeats 1000000 in
set_option maxRecDepth 10000 in
theorem rules_any (w : World) : Calls Try.prog 78 #[] w fun e w' => e = .returned (.map (some w.heap.size)) ∧ Tab w' w.heap.size ∧ Below w.heap.size w w' := by
  have hmm := @run_makeMap Try.prog
  have HT := Lib.hid (show Tabn (w.alloc (.map #[] 0)) w.heap.size 0 from heap_alloc_new w _)
  have HB := Lib.hid ((Below.refl w.heap.size w).alloc (Nat.le_refl _) (.map #[] 0))
  go_enter Try.func78, Try.ntmps78
  go_wp2_with (refine wpList_rule _ rfl _ _ _ 97 rfl 3 102 (by kernel_rfl) (by kernel_rfl) w.heap.size _ rfl HT.out _ rfl rfl rfl (by decide) ?_; intro w1 hT hg; have hb := HB.out.grown hg (HB.out.size) (fun k hk => by cases hk; exact Nat.le_refl _); clear HT HB hg; have HT := Lib.hid hT; have HB := Lib.hid hb; clear hT hb)
  exact bodyPost_ret (v := .map (some w.heap.size)) (by simp [results, Try.results78, go_sem]) rfl ⟨rfl, HT.out, HB.out⟩

def RuleOk (r : Rule) : Prop := r.shape ≤ 7 ∧ r.kinds < 131072 ∧ r.least < 4294967296 ∧ r.most < 4294967296
instance (r : Rule) : Decidable (RuleOk r) := by unfold RuleOk; infer_instance
theorem ruleOf_ok (id : Int) : RuleOk (ruleOf id) := by
  unfold ruleOf
  cases hq : ruleTab.find? fun p => (p.1 : Int) == id with
  | none => exact (by decide)
  | some p =>
    have h : ∀ p ∈ ruleTab, RuleOk p.2 := by decide
    exact h p (List.mem_of_find?_eq_some hq)
theorem zeroRule (W : World) : (zeroValue 102).run Try.prog W = .ok (Rule.val ⟨0, 0, 0, 0⟩) W := by
  obtain ⟨i0, hi, hz0, hz1, hz2⟩ := info_parts (show (Try.prog.info? 102).map (fun i => (i.zero, i.size, i.bytes)) = some (some (Rule.val ⟨0, 0, 0, 0⟩), 4, 24) by kernel_rfl)
  simp [zeroValue, typeInfo, hi, hz0, Result.andThen]
end Go.Proofs.Ytdpeljnoaiaplaa
