/- Maps that the program writes out, with keys that are ints; what turns in some blocks alone. -/
import Derived.Test.YtcokgfmlkanoiaaKit2
import Derived.Maps.Own
import Derived.MapKept
namespace Go.Proofs.Ytcokgfmlkanoiaa
open Go.RowKit

def mentry (kd : IntKind) (i : Nat) (p : Int × Value) : MapEntry := { key := .int kd p.1, val := p.2, born := i }
def mentries (kd : IntKind) : Nat → List (Int × Value) → List MapEntry
  | _, [] => []
  | i, p :: l => mentry kd i p :: mentries kd (i + 1) l
theorem mentries_snoc (kd : IntKind) (i : Nat) (l : List (Int × Value)) (p : Int × Value) : mentries kd i (l ++ [p]) = mentries kd i l ++ [mentry kd (i + l.length) p] := by
  induction l generalizing i with
  | nil => rfl
  | cons q l ih => simp [mentries, ih, Nat.add_assoc, Nat.add_comm 1]
/-- Block r is the map of these entries, in the order in which they came. -/
def IMap (kd : IntKind) (w : World) (r : Nat) (l : List (Int × Value)) : Prop := w.heap[r]? = some (.map (mentries kd 0 l).toArray l.length)
def lookI (l : List (Int × Value)) (x : Int) : Option Value := (l.find? fun p => p.1 == x).map (·.2)
section
variable {kd : IntKind} {w w' : World} {r : Nat} {l : List (Int × Value)}
theorem IMap.lt (h : IMap kd w r l) : r < w.heap.size := (Array.getElem?_eq_some_iff.1 h).1
theorem IMap.below {B : Nat} (h : IMap kd w r l) (hb : Below B w w') (hr : r < B) : IMap kd w' r l := (hb.block r hr).trans h
theorem IMap.alloc (h : IMap kd w r l) (o : Obj) : IMap kd (w.alloc o) r l := (Below.heap_alloc w o r h.lt).trans h
theorem IMap.other (h : IMap kd w r l) {p : Addr} (hp : r ≠ p.block) (u : Value) : IMap kd (w.setCell p u) r l := (Below.heap_setCell w p u r hp).trans h
theorem IMap.drewN (h : IMap kd w r l) (k : Nat) : IMap kd (w.drewN k) r l := h
theorem IMap.made (w : World) (kd : IntKind) : IMap kd (w.alloc (.map #[] 0)) w.heap.size [] := heap_alloc_new w _

theorem mfind_none (key : Int) : ∀ (l : List (Int × Value)) (i j : Nat), (∀ p ∈ l, p.1 ≠ key) → Instr.findNow (.int kd) (.int kd key) (mentries kd i l) j = some none
  | [], _, _, _ => rfl
  | p :: l, i, j, h => by
    have h0 := h p (.head _)
    have : (key == p.1) = false := by simpa using fun e => h0 e.symm
    simp [mentries, mentry, Instr.findNow, Instr.sameNow, this]
    exact mfind_none key l _ _ (fun q hq => h q (.tail _ hq))
theorem mfind_some (key : Int) : ∀ (l : List (Int × Value)) (i j : Nat), ∃ o, Instr.findNow (.int kd) (.int kd key) (mentries kd i l) j = some o ∧ o.map (·.2) = lookI l key
  | [], _, _ => ⟨none, rfl, rfl⟩
  | p :: l, i, j => by
    by_cases h : key = p.1
    · refine ⟨some (j, p.2), ?_, ?_⟩
      · subst h; simp [mentries, mentry, Instr.findNow, Instr.sameNow]
      · subst h; simp [lookI]
    · have h1 : (key == p.1) = false := by simpa using h
      have h2 : (p.1 == key) = false := by simpa using fun e => h e.symm
      obtain ⟨o, ho, hm⟩ := mfind_some key l (i + 1) (j + 1)
      exact ⟨o, by simp [mentries, mentry, Instr.findNow, Instr.sameNow, h1]; exact ho, by simp [lookI, List.find?, h2]; simpa [lookI] using hm⟩

theorem mput_run {P : Program} {t k e : TypeId} (ht : P.underlying t = some (.map k e)) (hk : P.underlying k = some (.int kd)) (h : IMap kd w r l) (x : Int) (v : Value) (hu : ∀ q ∈ l, q.1 ≠ x) :
    ∃ w', (Instr.mapUpdate t (.map (some r)) (.int kd x) v).run P w = .ok () w' ∧ IMap kd w' r (l ++ [(x, v)]) ∧ w.grownBy w' (some r) := by
  have hg := MapKept.run_getObj_map (P := P) h
  have hc := MapKept.run_checkKey (P := P) (w := w) (kt := k) (d := .int kd) (k := .int kd x) hk rfl false 9999
  have hf := MapKept.run_findKey (P := P) (w := w) (kt := k) (d := .int kd) (k := .int kd x) (l := mentries kd 0 l) (a := none) hk (mfind_none _ _ _ _ hu)
  have hs := fun o => MapKept.run_setObj_map (P := P) o h
  refine ⟨_, by
    unfold Instr.mapUpdate
    simp only [Sem.run_bind, run_underlying ht, hg, hc, hf, Result.andThen]
    exact hs _, ?_, ?_⟩
  · unfold IMap
    rw [mentries_snoc]
    simp [h.lt, mentry]
  · exact ⟨rfl, rfl, rfl, by simp, fun i _ hi => by
      have : r ≠ i := fun e => hi (by rw [e])
      simp [this]⟩
theorem wpList_mput {P : Program} (w : World) {ops : Array Oper} {rest : List Oper} {o : Oper} {a : Act} {Q : Exit → Act → World → Prop}
    (hg : o.guard = none) (m x v : Operand) (t : TypeId) (hop : o.op = Op.insert t m x v) (k e : TypeId) (ht : P.underlying t = some (.map k e)) (hk : P.underlying k = some (.int kd))
    (r : Nat) (l : List (Int × Value)) (hm : a.eval m = .map (some r)) (h : IMap kd w r l) (z : Int) (u : Value) (hx : a.eval x = .int kd z) (hv : a.eval v = u)
    (hu : (l.all fun q => q.1 != z) = true) (hK : ∀ w', IMap kd w' r (l ++ [(z, u)]) → w.grownBy w' (some r) → wpList P ops Q rest (a.put o.dst undef) w') :
    wpList P ops Q (o :: rest) a w := by
  refine wpList_plain hg fun K' hK' => ?_
  obtain ⟨w', hrun, r1, r2⟩ := mput_run ht hk h z u (fun q hq => by simpa using List.all_eq_true.1 hu q hq)
  unfold Oper.wp
  simp [execOp, hop, hm, hx, hv, hrun, Result.andThen]
  exact hK' _ _ (hK w' r1 r2)
theorem mlook_run {P : Program} {t k e : TypeId} {z : Value} (ht : P.underlying t = some (.map k e)) (hk : P.underlying k = some (.int kd)) (hz : (zeroValue e).run P w = .ok z w) (h : IMap kd w r l) (x : Int) :
    (Instr.lookup t (.map (some r)) (.int kd x) false).run P w = .ok ((lookI l x).getD z) w ∧ (Instr.lookup t (.map (some r)) (.int kd x) true).run P w = .ok (.tuple #[(lookI l x).getD z, .bool (lookI l x).isSome]) w := by
  have hg := MapKept.run_getObj_map (P := P) h
  have hc := fun b => MapKept.run_checkKey (P := P) (w := w) (kt := k) (d := .int kd) (k := .int kd x) hk rfl b 9999
  obtain ⟨o, ho, hm⟩ := mfind_some (kd := kd) x l 0 0
  have hf := MapKept.run_findKey (P := P) (w := w) (kt := k) (d := .int kd) (k := .int kd x) (l := mentries kd 0 l) (a := o) hk ho
  unfold Instr.lookup
  simp only [Sem.run_bind, run_underlying ht, hg, hc, Result.andThen, Sem.run_pure, hf]
  rw [← hm]
  cases o with
  | none => simp [hz]
  | some a => simp [Sem.run_pure]
end

/-! ### Worlds that differ in some blocks alone -/
structure Mods (S : Nat → Prop) (w w' : World) : Prop where
  os : w'.os = w.os
  tape : w'.tape = w.tape
  output : w'.output = w.output
  size : w.heap.size ≤ w'.heap.size
  block : ∀ i, i < w.heap.size → ¬ S i → w'.heap[i]? = w.heap[i]?
section
variable {S T : Nat → Prop} {w w' w'' : World}
theorem Mods.refl (w : World) : Mods S w w := ⟨rfl, rfl, rfl, Nat.le_refl _, fun _ _ _ => rfl⟩
theorem Mods.trans (h : Mods S w w') (h' : Mods S w' w'') : Mods S w w'' :=
  ⟨h'.os.trans h.os, h'.tape.trans h.tape, h'.output.trans h.output, Nat.le_trans h.size h'.size, fun i hi hs => (h'.block i (Nat.lt_of_lt_of_le hi h.size) hs).trans (h.block i hi hs)⟩
theorem Mods.mono (h : Mods S w w') (hs : ∀ i, i < w.heap.size → S i → T i) : Mods T w w' := ⟨h.os, h.tape, h.output, h.size, fun i hi ht => h.block i hi (fun x => ht (hs i hi x))⟩
theorem Mods.of_below (h : Below w.heap.size w w') : Mods S w w' := ⟨h.os, h.tape, h.output, h.size, fun i hi _ => h.block i hi⟩
theorem Mods.of_grown {g : Nat} (h : w.grownBy w' (some g)) (hg : S g) : Mods S w w' := ⟨h.os, h.tape, h.output, h.size, fun i hi hs => h.block i hi (fun e => hs (by cases e; exact hg))⟩
theorem Mods.drewN (h : Mods S w w') (n : Nat) : Mods S w (w'.drewN n) := ⟨h.os, h.tape, h.output, h.size, h.block⟩
theorem Mods.alloc (h : Mods S w w') (o : Obj) : Mods S w (w'.alloc o) := h.trans (Mods.of_below ((Below.refl _ _).alloc (Nat.le_refl _) o))
theorem Mods.set (h : Mods S w w') (g i : Nat) (hg : S g ∨ w.heap.size ≤ g) (u : Value) : Mods S w (w'.setCell ⟨g, i, none⟩ u) :=
  ⟨h.os, h.tape, h.output, by simpa [World.setCell] using h.size, fun k hk hs => (Below.heap_setCell w' ⟨g, i, none⟩ u k (by
    rintro rfl
    rcases hg with hg | hg
    · exact hs hg
    · omega)).trans (h.block k hk hs)⟩
/-- What lies below a bound is kept, if all that may turn lies above it. -/
theorem Mods.below {B : Nat} {w0 : World} (h0 : Below B w0 w) (h : Mods S w w') (hB : B ≤ w.heap.size) (hs : ∀ i, S i → B ≤ i) : Below B w0 w' :=
  ⟨h.os.trans h0.os, h.tape.trans h0.tape, h.output.trans h0.output, Nat.le_trans h0.size h.size, fun k hk => (h.block k (by omega) (fun x => by have := hs k x; omega)).trans (h0.block k hk)⟩
theorem Bk.mods {g : Nat} {t : TypeId} {cs : Array Value} (h : Bk w g t cs) (hm : Mods S w w') (hg : ¬ S g) : Bk w' g t cs := (hm.block g h.lt hg).trans h
theorem IMap.mods {kd : IntKind} {r : Nat} {l : List (Int × Value)} (h : IMap kd w r l) (hm : Mods S w w') (hg : ¬ S r) : IMap kd w' r l := (hm.block r h.lt hg).trans h
theorem Rd.mods {B k n : Nat} {A : Option Addr} {xs : List Value} (h : Rd w B k A n xs) (hm : Mods S w w') (hB : B ≤ w.heap.size) (hs : ∀ i, S i → B ≤ i) : Rd w' B k A n xs :=
  h.by_cells fun p hp => World.cell?_of_block (hm.block p.block (by omega) (fun x => by have := hs _ x; omega))
theorem own_mods {base : Nat} {e : TypeId} {k n : Nat} {v : Value} {xs : List Value} (h : w.ownsRow base e k v n xs) (hm : Mods S w w') (hs : ∀ g, v.ownBlock = some g → ¬ S g) : w'.ownsRow base e k v n xs := by
  refine ⟨h.1, ?_⟩
  rcases h.2 with h2 | ⟨g, cap, cur, rfl, h3, hg, hr⟩
  · exact .inl h2
  · exact .inr ⟨g, cap, cur, rfl, h3, (hm.block g (Array.getElem?_eq_some_iff.1 hg).1 (hs g rfl)).trans hg, hr⟩
end
end Go.Proofs.Ytcokgfmlkanoiaa
