/- kit: a region each of whose operations, whenever it comes up, turns no block that stood at its start: it is walked once, in the text's order; what an operation makes is told by a relation. -/
import Derived.OrdersHeld
import Derived.Below
namespace Go.Proofs.Ytjbpafkdbfbdlaa
open Go Go.RowKit

/-- What an operation yields: one value, or a value of which a relation is known. -/
inductive Kd where
  | fix (v : Value)
  | rel (R : Value → World → Prop)
def Kd.val : Kd → Value → Value
  | .fix v, _ => v
  | .rel _, u => u
def Kd.fits : Kd → Value → World → Prop
  | .fix v, u, _ => u = v
  | .rel R, u, w => R u w
def Kd.holds (k : Kd) (u : Value) (w : World) : Prop := k.fits (k.val u) w
def Kd.stable (k : Kd) : Prop := ∀ u x y, k.fits u x → Below x.heap.size x y → k.fits u y
theorem Kd.val_of {k : Kd} {u : Value} {w : World} (h : k.fits u w) : k.val u = u := by
  cases k with
  | fix v => exact h.symm
  | rel R => rfl
theorem stable_fix (v : Value) : (Kd.fix v).stable := fun _ _ _ h _ => h
/-- What an operation's run gives. -/
def givesG (P : Program) (Post : Value → World → Prop) : Result Next → Prop
  | .ok (.value v) w' => Post v w'
  | .ok .skip w' => Post undef w'
  | .ok (.enter f args) w' => Calls P f args w' fun e w'' => ∃ v, e = .returned v ∧ Post v w''
  | _ => False
def waitsB (o : Oper) (j : Nat) : Bool := o.after.any fun e => Region.binds .any e && e.on == j
/-- Two operations: each slot is written once, and looked at by those alone that wait for who writes it. -/
def pairB (ops : Array Oper) (i : Nat) (o oj : Oper) : Bool :=
  (match o.dst with | some d => oj.dst != some d && (!(oj.looksAt ops).contains d || waitsB oj i) | none => true) &&
  (match oj.dst with | some d => !(o.looksAt ops).contains d | none => true)
def chkG (ops : Array Oper) : Nat → List Oper → Bool
  | _, [] => true
  | i, o :: l => (o.after.all fun e => !Region.binds .any e || decide (e.on < i)) && ((match o.dst with | some d => !(o.looksAt ops).contains d | none => true) && ((l.all fun oj => pairB ops i o oj) && chkG ops (i + 1) l))

section
variable {P : Program} {ops : Array Oper} {Q : Exit → Act → World → Prop}

structure ChkG (ops : Array Oper) : Prop where
  up : ∀ (i : Nat) (o : Oper), ops[i]? = some o → ∀ e ∈ o.after, Region.binds .any e = true → e.on < i
  one : ∀ (i j : Nat) (o oj : Oper) (d : Tmp), ops[i]? = some o → ops[j]? = some oj → o.dst = some d → oj.dst = some d → i = j
  look : ∀ (i j : Nat) (o oj : Oper) (d : Tmp), ops[i]? = some o → ops[j]? = some oj → oj.dst = some d → d ∈ o.looksAt ops → waitsB o j = true
theorem chk_pair {i : Nat} : ∀ {l : List Oper} {k : Nat}, chkG ops k l = true → ∀ a b o oj, a < b → l[a]? = some o → l[b]? = some oj → pairB ops (k + a) o oj = true
  | [], _, _, a, _, _, _, _, h, _ => by simp at h
  | x :: l, k, hB, a, b, o, oj, hab, ha, hb => by
    simp only [chkG, Bool.and_eq_true] at hB
    obtain ⟨-, -, h1, h2⟩ := hB
    obtain ⟨b, rfl⟩ : ∃ c, b = c + 1 := ⟨b - 1, by omega⟩
    rw [List.getElem?_cons_succ] at hb
    cases a with
    | zero =>
      rw [List.getElem?_cons_zero] at ha
      cases ha
      exact List.all_eq_true.1 h1 oj (List.mem_of_getElem? hb)
    | succ a =>
      rw [List.getElem?_cons_succ] at ha
      have := chk_pair (i := i) h2 a b o oj (by omega) ha hb
      rwa [Nat.add_assoc, Nat.add_comm 1 a] at this
theorem chk_self : ∀ {l : List Oper} {k : Nat}, chkG ops k l = true → ∀ a o, l[a]? = some o → (∀ e ∈ o.after, Region.binds .any e = true → e.on < k + a) ∧ (∀ d, o.dst = some d → d ∉ o.looksAt ops)
  | [], _, _, a, _, h => by simp at h
  | x :: l, k, hB, a, o, ha => by
    simp only [chkG, Bool.and_eq_true] at hB
    obtain ⟨h1, h2, h3, h4⟩ := hB
    cases a with
    | zero =>
      rw [List.getElem?_cons_zero] at ha
      cases ha
      refine ⟨fun e he hb => ?_, fun d hd hm => ?_⟩
      · have := Array.all_eq_true_iff_forall_mem.1 h1 e he
        rw [hb] at this
        simpa using this
      · rw [hd] at h2
        simp only [Bool.not_eq_true', List.contains_eq_mem, decide_eq_false_iff_not] at h2
        exact h2 hm
    | succ a =>
      rw [List.getElem?_cons_succ] at ha
      have := chk_self h4 a o ha
      rwa [Nat.add_assoc, Nat.add_comm 1 a] at this
theorem chk_of (h : chkG ops 0 ops.toList = true) : ChkG ops := by
  have hl : ∀ i, ops.toList[i]? = ops[i]? := fun i => Array.getElem?_toList
  refine ⟨fun i o ho e he hb => ?_, fun i j o oj d ho hoj hd hd' => ?_, fun i j o oj d ho hoj hd hm => ?_⟩
  · have := (chk_self h i o (by rw [hl]; exact ho)).1 e he hb
    omega
  · rcases Nat.lt_trichotomy i j with hij | hij | hij
    · have := chk_pair (i := 0) h i j o oj hij (by rw [hl]; exact ho) (by rw [hl]; exact hoj)
      simp [pairB, hd, hd'] at this
    · exact hij
    · have := chk_pair (i := 0) h j i oj o hij (by rw [hl]; exact hoj) (by rw [hl]; exact ho)
      simp [pairB, hd, hd'] at this
  · rcases Nat.lt_trichotomy i j with hij | hij | hij
    · have := chk_pair (i := 0) h i j o oj hij (by rw [hl]; exact ho) (by rw [hl]; exact hoj)
      simp only [pairB, hd, Bool.and_eq_true, Bool.not_eq_true', List.contains_eq_mem, decide_eq_false_iff_not] at this
      exact absurd hm this.2
    · subst hij
      obtain rfl : o = oj := Option.some.inj (ho.symm.trans hoj)
      exact absurd hm ((chk_self h i o (by rw [hl]; exact ho)).2 d hd)
    · have := chk_pair (i := 0) h j i oj o hij (by rw [hl]; exact hoj) (by rw [hl]; exact ho)
      simp only [pairB, hd, Bool.and_eq_true, Bool.or_eq_true, Bool.not_eq_true', List.contains_eq_mem, decide_eq_false_iff_not, Nat.zero_add] at this
      exact this.1.2.resolve_left (fun x => x hm)
/-- The act in which just the operations of L have come up. -/
structure ActIs (ops : Array Oper) (a0 : Act) (f : Nat → Value) (L : Nat → Prop) (a : Act) : Prop where
  size : a.tmps.size = a0.tmps.size
  defs : a.defers = a0.defers
  got : ∀ (j : Nat) (o : Oper) (d : Tmp), ops[j]? = some o → o.dst = some d → L j → a.tmps[d]? = if d < a0.tmps.size then some (f j) else none
  old : ∀ d : Tmp, (∀ (j : Nat) (o : Oper), ops[j]? = some o → o.dst = some d → ¬ L j) → a.tmps[d]? = a0.tmps[d]?
theorem ActIs.eq {a0 a b : Act} {f : Nat → Value} {L : Nat → Prop} (ha : ActIs ops a0 f L a) (hb : ActIs ops a0 f L b) : a = b := by
  obtain ⟨ta, da⟩ := a
  obtain ⟨tb, db⟩ := b
  obtain rfl : da = db := ha.defs.trans hb.defs.symm
  congr 1
  apply Array.ext_getElem?
  intro d
  by_cases h : ∃ j : Nat, ∃ o : Oper, ops[j]? = some o ∧ o.dst = some d ∧ L j
  · obtain ⟨j, o, h1, h2, h3⟩ := h
    exact (ha.got j o d h1 h2 h3).trans (hb.got j o d h1 h2 h3).symm
  · have h' : ∀ j (o : Oper), ops[j]? = some o → o.dst = some d → ¬ L j := fun j o h1 h2 h3 => h ⟨j, o, h1, h2, h3⟩
    exact (ha.old d h').trans (hb.old d h').symm
theorem ActIs.congr {a0 a : Act} {f g : Nat → Value} {L L' : Nat → Prop} (ha : ActIs ops a0 f L a) (hL : ∀ j, L j ↔ L' j) (hf : ∀ j, L j → f j = g j) : ActIs ops a0 g L' a :=
  ⟨ha.size, ha.defs, fun j o d h1 h2 h3 => by rw [ha.got j o d h1 h2 ((hL j).2 h3), hf j ((hL j).2 h3)], fun d h => ha.old d fun j o h1 h2 h3 => h j o h1 h2 ((hL j).1 h3)⟩
theorem ActIs.put {a0 a : Act} {f : Nat → Value} {L : Nat → Prop} (hc : ChkG ops) (ha : ActIs ops a0 f L a) {i : Nat} {o : Oper} (ho : ops[i]? = some o) (hi : ¬ L i) : ActIs ops a0 f (fun j => L j ∨ j = i) (a.put o.dst (f i)) := by
  unfold Act.put
  cases hd : o.dst with
  | none =>
    refine ⟨ha.size, ha.defs, fun j oj d h1 h2 h3 => ?_, fun d h => ha.old d fun j oj h1 h2 h3 => h j oj h1 h2 (.inl h3)⟩
    rcases h3 with h3 | rfl
    · exact ha.got j oj d h1 h2 h3
    · rw [ho] at h1
      cases h1
      rw [hd] at h2
      cases h2
  | some e =>
    refine ⟨by simp [ha.size], ha.defs, fun j oj d h1 h2 h3 => ?_, fun d h => ?_⟩
    · show (a.tmps.setIfInBounds e (f i))[d]? = _
      by_cases hde : e = d
      · subst hde
        obtain rfl := hc.one i j o oj e ho h1 hd h2
        rw [← ha.size]
        simp [Array.getElem?_setIfInBounds]
      · rw [Array.getElem?_setIfInBounds_ne hde]
        rcases h3 with h3 | rfl
        · exact ha.got j oj d h1 h2 h3
        · rw [ho] at h1
          cases h1
          rw [hd] at h2
          exact absurd (Option.some.inj h2) hde
    · show (a.tmps.setIfInBounds e (f i))[d]? = _
      have hde : e ≠ d := fun x => h i o ho (by rw [hd, x]) (.inr rfl)
      rw [Array.getElem?_setIfInBounds_ne hde]
      exact ha.old d fun j oj h1 h2 h3 => h j oj h1 h2 (.inl h3)
theorem ActIs.slot {a0 a b : Act} {f : Nat → Value} {L L' : Nat → Prop} (hc : ChkG ops) (ha : ActIs ops a0 f L a) (hb : ActIs ops a0 f L' b) {i : Nat} {o : Oper} (ho : ops[i]? = some o)
    (h1 : ∀ j, waitsB o j = true → L j ∧ L' j) {t : Tmp} (ht : t ∈ o.looksAt ops) : a.tmps[t]? = b.tmps[t]? := by
  by_cases h : ∃ j : Nat, ∃ oj : Oper, ops[j]? = some oj ∧ oj.dst = some t
  · obtain ⟨j, oj, h2, h3⟩ := h
    have h4 := h1 j (hc.look i j o oj t ho h2 h3 ht)
    exact (ha.got j oj t h2 h3 h4.1).trans (hb.got j oj t h2 h3 h4.2).symm
  · exact (ha.old t fun j oj h2 h3 _ => h ⟨j, oj, h2, h3⟩).trans (hb.old t fun j oj h2 h3 _ => h ⟨j, oj, h2, h3⟩).symm
theorem ActIs.exec {a0 a b : Act} {f : Nat → Value} {L L' : Nat → Prop} (hc : ChkG ops) (ha : ActIs ops a0 f L a) (hb : ActIs ops a0 f L' b) {i : Nat} {o : Oper} (ho : ops[i]? = some o) (hs : ∀ cs b, o.op ≠ .select cs b)
    (h1 : ∀ j, waitsB o j = true → L j ∧ L' j) : execOp a.eval o = execOp b.eval o ∧ Region.wanted o (yielded ops a.tmps) = Region.wanted o (yielded ops b.tmps) := by
  refine ⟨execOp_congr o hs fun x hx => ?_, ?_⟩
  · cases x with
    | tmp t =>
      have ht : t ∈ o.looksAt ops := List.mem_append_left _ (List.mem_filterMap.2 ⟨.tmp t, by simpa using hx, rfl⟩)
      have := ha.slot hc hb ho h1 ht
      simp only [Act.eval, Array.getD_eq_getD_getElem?, this]
    | _ => rfl
  · unfold Region.wanted
    cases hg : o.guard with
    | none => rfl
    | some gw =>
      obtain ⟨g, want⟩ := gw
      have hy : yielded ops a.tmps g = yielded ops b.tmps g := by
        unfold yielded
        cases ht : (ops[g]?).bind (·.dst) with
        | none => rfl
        | some t =>
          have := ha.slot hc hb ho h1 (t := t) (by simp [Oper.looksAt, hg, ht])
          simp only [Option.bind_some, this]
      simp only [hy]
/-- One operation in the text's order. -/
def clauseG (P : Program) (ops : Array Oper) (w0 : World) (H : Nat → World → Prop) (o : Oper) (a : Act) (kd : Kd) : Prop :=
  kd.stable ∧ ∀ x, Below w0.heap.size w0 x → (∀ j, waitsB o j = true → H j x) → if Region.wanted o (yielded ops a.tmps) = true then givesG P (fun u y => kd.fits u y ∧ Below x.heap.size x y) ((execOp a.eval o).run P x) else kd.fits undef x
def wpG (P : Program) (ops : Array Oper) (w0 : World) (vs : Nat → Value) (H : Nat → World → Prop) (Qf : Act → Prop) : List Kd → Nat → List Oper → Act → Prop
  | kd :: ks, k, o :: l, a => clauseG P ops w0 H o a kd ∧ wpG P ops w0 vs H Qf ks (k + 1) l (a.put o.dst (kd.val (vs k)))
  | [], _, [], a => Qf a
  | _, _, _, _ => False
theorem wpG_all {w0 : World} {vs : Nat → Value} {H : Nat → World → Prop} {Qf : Act → Prop} {a0 : Act} {K : Nat → Kd} (hc : ChkG ops) : ∀ (ks : List Kd) (k : Nat) (l : List Oper) (a : Act), wpG P ops w0 vs H Qf ks k l a → (∀ j, l[j]? = ops[k + j]?) → (∀ j, j < ks.length → ks[j]? = some (K (k + j))) →
    ActIs ops a0 (fun j => (K j).val (vs j)) (fun j => j < k) a →
    (∀ i o, k ≤ i → ops[i]? = some o → ∃ b, ActIs ops a0 (fun j => (K j).val (vs j)) (fun j => j < i) b ∧ clauseG P ops w0 H o b (K i)) ∧ ∃ b, ActIs ops a0 (fun j => (K j).val (vs j)) (fun j => j < ops.size) b ∧ Qf b
  | kd :: ks, k, o :: l, a, h, hl, hK, hA => by
    obtain ⟨h1, h2⟩ := h
    have ho : ops[k]? = some o := (hl 0).symm
    have hk : kd = K k := by
      have := hK 0 (by simp)
      simpa using this
    subst hk
    obtain ⟨i1, i2⟩ := wpG_all hc ks (k + 1) l _ h2 (fun j => by have := hl (j + 1); rw [List.getElem?_cons_succ] at this; rw [this]; congr 1; omega) (fun j hj => by have := hK (j + 1) (by simpa using hj); rw [List.getElem?_cons_succ] at this; rw [this]; congr 2; omega)
      ((hA.put hc ho (Nat.lt_irrefl k)).congr (fun j => by omega) (fun _ _ => rfl))
    refine ⟨fun i oi hi hoi => ?_, i2⟩
    rcases Nat.eq_or_lt_of_le hi with rfl | hlt
    · rw [ho] at hoi
      cases hoi
      exact ⟨a, hA, h1⟩
    · exact i1 i oi hlt hoi
  | [], k, [], a, h, hl, _, hA => by
    have hn : ops.size ≤ k := by
      have := hl 0
      rw [List.getElem?_nil, Nat.add_zero] at this
      exact Array.getElem?_eq_none_iff.1 this.symm
    have hno : ∀ j o, ops[j]? = some o → j < ops.size := fun j o ho => (Array.getElem?_eq_some_iff.1 ho).1
    refine ⟨fun i o hi ho => absurd (hno i o ho) (by omega), a, ⟨hA.size, hA.defs, fun j o d h1 h2 h3 => hA.got j o d h1 h2 (by omega), fun d hd => hA.old d fun j o h1 h2 _ => hd j o h1 h2 (hno j o h1)⟩, h⟩
  | [], _, _ :: _, _, h, _, _, _ => by cases h
  | _ :: _, _, [], _, h, _, _, _ => by cases h
theorem cnt_le {p q : Nat → Bool} (h : ∀ x, q x = true → p x = true) : ∀ l : List Nat, (l.filter q).length ≤ (l.filter p).length
  | [] => Nat.le_refl _
  | x :: l => by
    have := cnt_le h l
    by_cases hq : q x = true
    · rw [List.filter_cons_of_pos hq, List.filter_cons_of_pos (h x hq)]
      simpa using this
    · rw [List.filter_cons_of_neg hq]
      by_cases hp : p x = true
      · rw [List.filter_cons_of_pos hp, List.length_cons]
        omega
      · rw [List.filter_cons_of_neg hp]
        exact this
theorem cnt_lt {p q : Nat → Bool} (h : ∀ x, q x = true → p x = true) {i : Nat} (hp : p i = true) (hq : ¬ q i = true) : ∀ l : List Nat, i ∈ l → (l.filter q).length < (l.filter p).length
  | [], h => by cases h
  | x :: l, hm => by
    have hle := cnt_le h l
    by_cases hx : x = i
    · subst hx
      rw [List.filter_cons_of_pos hp, List.filter_cons_of_neg hq, List.length_cons]
      omega
    · have := cnt_lt h hp hq l ((List.mem_cons.1 hm).resolve_left (fun e => hx e.symm))
      by_cases hqx : q x = true
      · rw [List.filter_cons_of_pos hqx, List.filter_cons_of_pos (h x hqx)]
        simpa using this
      · rw [List.filter_cons_of_neg hqx]
        by_cases hpx : p x = true
        · rw [List.filter_cons_of_pos hpx, List.length_cons]
          omega
        · rw [List.filter_cons_of_neg hpx]
          exact this
theorem listed_tt {listed : Array Bool} {j : Nat} (hj : j < listed.size) (h : listed.getD j true = false) : listed.getD j false = false := by
  simp [hj] at h ⊢
  exact h
theorem any_G {w0 : World} {a0 : Act} {K : Nat → Kd} (hc : ChkG ops) (hs : Region.noSelect ops = true) (hst : ∀ j, (K j).stable)
    (hcl : ∀ vs : Nat → Value, (∀ i o, ops[i]? = some o → ∃ b, ActIs ops a0 (fun j => (K j).val (vs j)) (fun j => j < i) b ∧ clauseG P ops w0 (fun j x => (K j).holds (vs j) x) o b (K i)) ∧
      ∃ b, ActIs ops a0 (fun j => (K j).val (vs j)) (fun j => j < ops.size) b ∧ ∀ x, Below w0.heap.size w0 x → (∀ j, j < ops.size → (K j).holds (vs j) x) → Q .normal b x) :
    ∀ (fuel : Nat) (listed : Array Bool) (a : Act) (w : World) (vs : Nat → Value), listed.size = ops.size → ((List.range ops.size).filter fun i => !listed.getD i true).length ≤ fuel →
      ActIs ops a0 (fun j => (K j).val (vs j)) (fun j => listed.getD j false = true) a → Below w0.heap.size w0 w → (∀ j, listed.getD j false = true → (K j).holds (vs j) w) → wpAny P .any ops Q fuel listed a w := by
  have hend : ∀ (listed : Array Bool) (a : Act) (w : World) (vs : Nat → Value), listed.size = ops.size → ActIs ops a0 (fun j => (K j).val (vs j)) (fun j => listed.getD j false = true) a → Below w0.heap.size w0 w → (∀ j, listed.getD j false = true → (K j).holds (vs j) w) → (∀ j, j < ops.size → listed.getD j false = true) → Q .normal a w := by
    intro listed a w vs hz hA hB hR hall
    obtain ⟨-, b, hb, hq⟩ := hcl vs
    have : a = b := (hA.congr (L' := fun j => j < ops.size) (fun j => ⟨fun h => by
      rcases Nat.lt_or_ge j listed.size with h' | h'
      · omega
      · simp [Array.getElem?_eq_none h'] at h, hall j⟩) (fun _ _ => rfl)).eq hb
    rw [this]
    exact hq w hB fun j hj => hR j (hall j hj)
  intro fuel
  induction fuel with
  | zero =>
    intro listed a w vs hz hf hA hB hR
    have h0 := List.eq_nil_of_length_eq_zero (Nat.le_zero.1 hf)
    have hall : ∀ j, j < ops.size → listed.getD j false = true := fun j hj => by
      have := List.filter_eq_nil_iff.1 h0 j (List.mem_range.2 hj)
      simp [show j < listed.size by omega] at this ⊢
      exact this
    refine ⟨List.eq_nil_iff_forall_not_mem.2 fun j hj => ?_, hend listed a w vs hz hA hB hR hall⟩
    obtain ⟨h1, o, ho, -⟩ := mem_ready.1 hj
    have hlt : j < ops.size := (Array.getElem?_eq_some_iff.1 ho).1
    have := hall j hlt
    rw [listed_tt (by omega) h1] at this
    cases this
  | succ fuel ih =>
    intro listed a w vs hz hf hA hB hR
    refine ⟨fun h0 => hend listed a w vs hz hA hB hR fun j hj => ?_, fun i hi => ?_⟩
    · induction j using Nat.strongRecOn with
      | ind j ihj =>
        cases hl : listed.getD j false with
        | true => rfl
        | false =>
          exfalso
          obtain ⟨o, ho⟩ : ∃ o, ops[j]? = some o := ⟨ops[j], Array.getElem?_eq_getElem hj⟩
          have : j ∈ Region.ready .any ops listed := mem_ready.2 ⟨by
            simp [show j < listed.size by omega] at hl ⊢
            exact hl, o, ho, fun e he hb => by
            have := hc.up j o ho e he hb
            exact ihj e.on this (by omega)⟩
          rw [h0] at this
          cases this
    · obtain ⟨hun, o, ho, hall⟩ := mem_ready.1 hi
      have hlt : i < ops.size := (Array.getElem?_eq_some_iff.1 ho).1
      have hunl := listed_tt (by omega) hun
      have hdep : ∀ j, waitsB o j = true → listed.getD j false = true ∧ j < i := fun j hj => by
        obtain ⟨e, he, hb⟩ := Array.any_eq_true'.1 hj
        simp only [Bool.and_eq_true, beq_iff_eq] at hb
        rw [← hb.2]
        exact ⟨hall e he hb.1, hc.up i o ho e he hb.1⟩
      obtain ⟨b, hb, hcl1⟩ := (hcl vs).1 i o ho
      obtain ⟨he, hw⟩ := hA.exec hc hb ho (fun cs b => Region.noSelect_spec hs i o cs b ho) hdep
      have hres := hcl1.2 w hB fun j hj => hR j (hdep j hj).1
      have next : ∀ u y, (K i).fits u y → Below w.heap.size w y → wpAny P .any ops Q fuel (listed.setIfInBounds i true) (a.put o.dst u) y := by
        intro u y hu hy
        have hsz : i < listed.size := by omega
        have hset : ∀ j, (listed.setIfInBounds i true).getD j false = true ↔ (listed.getD j false = true ∨ j = i) := fun j => by
          by_cases hij : i = j
          · subst hij
            simp [hsz]
          · rw [getD_set_ne false hij]
            exact ⟨.inl, fun h => h.resolve_right fun e => hij e.symm⟩
        have hA' := (hA.congr (g := fun j => (K j).val (if j = i then u else vs j)) (fun _ => Iff.rfl) (fun j hj => by
          rw [if_neg (fun e => by rw [e, hunl] at hj; cases hj)])).put hc ho (by rw [hunl]; decide)
        rw [if_pos rfl, Kd.val_of hu] at hA'
        refine ih (listed.setIfInBounds i true) (a.put o.dst u) y (fun j => if j = i then u else vs j) (by rw [Array.size_setIfInBounds]; exact hz) ?_ (hA'.congr (fun j => (hset j).symm) (fun _ _ => rfl)) (hB.trans (hy.mono hB.size)) fun j hj => ?_
        · have := cnt_lt (p := fun k => !listed.getD k true) (q := fun k => !(listed.setIfInBounds i true).getD k true) (fun k hk => by
            by_cases hik : i = k
            · subst hik
              simp [hsz] at hk
            · rw [getD_set_ne true hik] at hk
              exact hk) (i := i) (by simp [hun]) (by simp [hsz]) (List.range ops.size) (List.mem_range.2 hlt)
          omega
        · rcases (hset j).1 hj with h | rfl
          · rw [if_neg (fun e => by rw [e, hunl] at h; cases h)]
            exact hst j _ w y (hR j h) hy
          · rw [if_pos rfl]
            unfold Kd.holds
            rw [Kd.val_of hu]
            exact hu
      unfold wpOp
      simp only [ho]
      rw [hw]
      split
      · rename_i hwt
        rw [if_pos hwt] at hres
        refine .inl ?_
        unfold Oper.wp
        rw [he]
        generalize (execOp b.eval o).run P w = r at *
        cases r with
        | ok n w' =>
          cases n <;> simp only [givesG] at hres <;> simp only [Oper.upon]
          case value u => exact next u w' hres.1 hres.2
          case skip => exact next undef w' hres.1 hres.2
          case enter f args =>
            refine Calls.mono hres fun e w'' hp => ?_
            obtain ⟨u, rfl, h1, h2⟩ := hp
            exact next u w'' h1 h2
        | halt x w' => exact absurd hres (by simp [givesG])
      · rename_i hwt
        rw [if_neg hwt] at hres
        exact next undef w hres (Below.refl _ _)
theorem wp_region_G {id : Nat} {a : Act} {w : World} (ks : List Kd) (hm : P.follows .mixedOrders = true)
    (h : ∀ vs : Nat → Value, wpG P ops w vs (fun j x => (ks.getD j (.fix undef)).holds (vs j) x) (fun a' => ∀ x, Below w.heap.size w x → (∀ j, j < ops.size → (ks.getD j (.fix undef)).holds (vs j) x) → Q .normal a' x) ks 0 ops.toList a)
    (hB : (Region.noSelect ops && (ks.length == ops.size && chkG ops 0 ops.toList)) = true) : (Code.region id ops true).wp P Q a w := by
  simp only [Bool.and_eq_true, beq_iff_eq] at hB
  obtain ⟨h1, h2, h3⟩ := hB
  have hc := chk_of h3
  have hA0 : ∀ f : Nat → Value, ActIs ops a f (fun j => j < 0) a := fun f => ⟨rfl, rfl, fun j o d _ _ h => absurd h (Nat.not_lt_zero _), fun d _ => rfl⟩
  have hall := fun vs : Nat → Value => wpG_all (K := fun j => ks.getD j (.fix undef)) hc ks 0 ops.toList a (h vs) (fun j => by rw [Nat.zero_add]; exact Array.getElem?_toList) (fun j hj => by
    rw [Nat.zero_add, List.getElem?_eq_getElem hj]
    simp [List.getD_eq_getElem?_getD, List.getElem?_eq_getElem hj]) (hA0 _)
  have hrep : ∀ j, (Array.replicate ops.size false).getD j false = false := fun j => by
    rcases Nat.lt_or_ge j ops.size with h' | h' <;> simp [h']
  refine wp_region_any hm (any_G (w0 := w) (a0 := a) (K := fun j => ks.getD j (.fix undef)) hc h1 (fun j => ?_) (fun vs => ⟨fun i o ho => (hall vs).1 i o (Nat.zero_le _) ho, (hall vs).2⟩) ops.size _ a _ (fun _ => undef) (by simp) ?_ ((hA0 _).congr (fun j => by rw [hrep]; simp) (fun _ _ => rfl)) ?_ (fun j hj => ?_))
  · rcases Nat.lt_or_ge j ops.size with hj | hj
    · obtain ⟨b, -, hb⟩ := (hall fun _ => undef).1 j ops[j] (Nat.zero_le _) (Array.getElem?_eq_getElem hj)
      exact hb.1
    · show (ks.getD j (.fix undef)).stable
      rw [List.getD_eq_getElem?_getD, List.getElem?_eq_none (by omega)]
      exact stable_fix undef
  · refine Nat.le_trans (List.length_filter_le _ _) ?_
    rw [List.length_range]
    exact Nat.le_refl _
  · exact ⟨rfl, rfl, rfl, Nat.le_refl _, fun _ _ => rfl⟩
  · rw [hrep] at hj
    cases hj
theorem wpG_fix {w0 : World} {vs : Nat → Value} {H : Nat → World → Prop} {Qf : Act → Prop} {ks : List Kd} {k : Nat} {o : Oper} {l : List Oper} {a : Act} {v : Value}
    (hy : YieldsIf P ops (fun x => Below w0.heap.size w0 x) o v a) (h : wpG P ops w0 vs H Qf ks (k + 1) l (a.put o.dst v)) : wpG P ops w0 vs H Qf (.fix v :: ks) k (o :: l) a := by
  refine ⟨⟨stable_fix v, fun x hx _ => ?_⟩, h⟩
  rcases hy with ⟨h1, h2⟩ | ⟨h1, h2⟩
  · rw [if_pos h1, h2 x hx]
    exact ⟨rfl, Below.refl _ _⟩
  · rw [if_neg (by rw [h1]; decide)]
    exact h2.symm
/-- A call with one answer. -/
theorem wpG_call {w0 : World} {vs : Nat → Value} {H : Nat → World → Prop} {Qf : Act → Prop} {ks : List Kd} {k : Nat} {o : Oper} {l : List Oper} {a : Act} {v : Value} {f : FuncId} {args : Array Value}
    (hc : ∀ x, Below w0.heap.size w0 x → (∀ j, waitsB o j = true → H j x) → Calls P f args x fun e y => e = .returned v ∧ Below x.heap.size x y) (hw : Region.wanted o (yielded ops a.tmps) = true)
    (hr : ∀ x, Below w0.heap.size w0 x → (execOp a.eval o).run P x = .ok (.enter f args) x) (h : wpG P ops w0 vs H Qf ks (k + 1) l (a.put o.dst v)) : wpG P ops w0 vs H Qf (.fix v :: ks) k (o :: l) a :=
  ⟨⟨stable_fix v, fun x hx hH => by
    rw [if_pos hw, hr x hx]
    exact (hc x hx hH).mono fun e y he => ⟨v, he.1, rfl, he.2⟩⟩, h⟩
/-- A call of whose answer a relation is known. -/
theorem wpG_callR {w0 : World} {vs : Nat → Value} {H : Nat → World → Prop} {Qf : Act → Prop} {ks : List Kd} {k : Nat} {o : Oper} {l : List Oper} {a : Act} {f : FuncId} {args : Array Value} (R : Value → World → Prop) (hR : (Kd.rel R).stable)
    (hc : ∀ x, Below w0.heap.size w0 x → (∀ j, waitsB o j = true → H j x) → Calls P f args x fun e y => ∃ u, e = .returned u ∧ R u y ∧ Below x.heap.size x y) (hw : Region.wanted o (yielded ops a.tmps) = true)
    (hr : ∀ x, Below w0.heap.size w0 x → (execOp a.eval o).run P x = .ok (.enter f args) x) (h : wpG P ops w0 vs H Qf ks (k + 1) l (a.put o.dst (vs k))) : wpG P ops w0 vs H Qf (.rel R :: ks) k (o :: l) a :=
  ⟨⟨hR, fun x hx hH => by
    rw [if_pos hw, hr x hx]
    exact hc x hx hH⟩, h⟩
/-- Whatever else leaves a value of which a relation is known. -/
theorem wpG_rel {w0 : World} {vs : Nat → Value} {H : Nat → World → Prop} {Qf : Act → Prop} {ks : List Kd} {k : Nat} {o : Oper} {l : List Oper} {a : Act} (R : Value → World → Prop) (hR : (Kd.rel R).stable)
    (hw : Region.wanted o (yielded ops a.tmps) = true) (hy : ∀ x, Below w0.heap.size w0 x → (∀ j, waitsB o j = true → H j x) → ∃ u y, (execOp a.eval o).run P x = .ok (.value u) y ∧ R u y ∧ Below x.heap.size x y) (h : wpG P ops w0 vs H Qf ks (k + 1) l (a.put o.dst (vs k))) : wpG P ops w0 vs H Qf (.rel R :: ks) k (o :: l) a :=
  ⟨⟨hR, fun x hx hH => by
    obtain ⟨u, y, h1, h2⟩ := hy x hx hH
    rw [if_pos hw, h1]
    exact h2⟩, h⟩
/-- A value that leans on what others made. -/
theorem wpG_on {w0 : World} {vs : Nat → Value} {H : Nat → World → Prop} {Qf : Act → Prop} {ks : List Kd} {k : Nat} {o : Oper} {l : List Oper} {a : Act} {v : Value}
    (hw : Region.wanted o (yielded ops a.tmps) = true) (hy : ∀ x, Below w0.heap.size w0 x → (∀ j, waitsB o j = true → H j x) → (execOp a.eval o).run P x = .ok (.value v) x) (h : wpG P ops w0 vs H Qf ks (k + 1) l (a.put o.dst v)) : wpG P ops w0 vs H Qf (.fix v :: ks) k (o :: l) a :=
  ⟨⟨stable_fix v, fun x hx hH => by
    rw [if_pos hw, hy x hx hH]
    exact ⟨rfl, Below.refl _ _⟩⟩, h⟩
theorem wpG_nil {w0 : World} {vs : Nat → Value} {H : Nat → World → Prop} {Qf : Act → Prop} {k : Nat} {a : Act} (h : Qf a) : wpG P ops w0 vs H Qf [] k [] a := h
end
end Go.Proofs.Ytjbpafkdbfbdlaa
