/- Arguments opened: a slice of calls. -/
import Derived.Test.YtjbpafkdbfbdlaaRow
import Derived.Test.YtjbpafkdbfbdlaaLwF
import Derived.SizedLaws
import Derived.Deep.Slices
import Derived.Deep.Fields
import Derived.ChangeArms
import Derived.ChangeMaps5
namespace Go.Proofs.Ytjbpafkdbfbdlaa.OI
open Go.Proofs.Ytjbpafkdbfbdlaa
open Go.ChangeShapes Go.WideShapes Go.ChangeAt Go.RowKit Go.Deep

section
variable {H : Type} {enc : TypeId × Value → H} {P : Program} {w : World} {base : Nat} {spare : Nat → Bool} {held : Bool}

/-- All that a datum weighs is within the reach. -/
def Sized (P : Program) (t : TypeId) (d : DataW H) : Prop := ∀ z ∈ d.weights P t, z ≤ reachBytes

theorem weightsAll_mem {e : TypeId} : ∀ {ds : List (DataW H)} {d : DataW H}, d ∈ ds → ∀ z ∈ d.weights P e, z ∈ DataW.weightsAll P e ds
  | [], _, h, _, _ => by simp at h
  | x :: ds, d, h, z, hz => by
    unfold DataW.weightsAll
    rcases List.mem_cons.1 h with rfl | h
    · exact List.mem_append.2 (.inl hz)
    · exact List.mem_append.2 (.inr (weightsAll_mem h z hz))
theorem Sized.elem {t e : TypeId} {l r : List (DataW H)} (ht : P.underlying t = some (.slice e)) (h : Sized P t (.slice l r)) {d : DataW H} (hd : d ∈ l) : Sized P e d := fun z hz => h z (by
  simp only [DataW.weights, ht]
  exact List.mem_cons_of_mem _ (List.mem_append.2 (.inl (weightsAll_mem hd z hz))))
theorem Sized.len {t e : TypeId} {l r : List (DataW H)} (ht : P.underlying t = some (.slice e)) (h : Sized P t (.slice l r)) : l.length * P.bytesOf e ≤ reachBytes := by
  have := h ((l.length + r.length) * P.bytesOf e) (by simp [DataW.weights, ht])
  exact Nat.le_trans (Nat.mul_le_mul_right _ (by omega)) this
theorem Sized.str {t : TypeId} {s : List UInt8} (h : Sized P t (.lit (.string s) : DataW H)) : s.length ≤ reachBytes := h _ (by simp [DataW.weights])
theorem sized_at {ts : List TypeId} {ds : List (DataW H)} (h : (DataW.weightsEach P ts ds).all (· ≤ reachBytes) = true) {j : Nat} {t : TypeId} {d : DataW H} (ht : ts[j]? = some t) (hd : ds[j]? = some d) : Sized P t d := fun z hz => by
  have := List.all_eq_true.1 h _ (DataW.weights_mem_each ht hd z hz)
  simpa using this
theorem sized_str {ts : List TypeId} {ds : List (DataW H)} (h : (DataW.weightsEach P ts ds).all (· ≤ reachBytes) = true) {j : Nat} {t : TypeId} {s : ByteArray} (ht : ts[j]? = some t) (hd : ds[j]? = some (.lit (.string s.data.toList))) : s.size ≤ 140737488351232 := by
  have := (sized_at h ht hd).str
  simpa [reachBytes] using this

theorem flat_len {X : Type} {k : Nat} {C : X → List Value} (hk : ∀ x, (C x).length = k) : ∀ l : List X, (l.flatMap C).length = l.length * k
  | [] => by simp
  | x :: l => by
    rw [List.flatMap_cons, List.length_append, hk, flat_len hk l, List.length_cons, Nat.add_mul]; omega
theorem flat_at {X : Type} {k : Nat} {C : X → List Value} (hk : ∀ x, (C x).length = k) : ∀ (l : List X) (i r : Nat) (h : i < l.length), r < k → (l.flatMap C)[i * k + r]? = (C l[i])[r]?
  | x :: l, 0, r, _, hr => by
    rw [Nat.zero_mul, Nat.zero_add, List.flatMap_cons, List.getElem?_append_left (by rw [hk]; exact hr)]
    rfl
  | x :: l, i + 1, r, h, hr => by
    have ih := flat_at hk l i r (by simpa using h) hr
    rw [List.flatMap_cons, List.getElem?_append_right (by rw [hk, Nat.add_mul]; omega), hk]
    rw [show (i + 1) * k + r - k = i * k + r by rw [Nat.add_mul]; omega]
    exact ih

/-- A slice, its elements known each by itself, as a list that is read. -/
theorem open_rows {X : Type} [Inhabited X] {k : Nat} (C : X → List Value) (hk : ∀ x, (C x).length = k) (hk0 : 0 < k) {t e : TypeId} (ht : P.underlying t = some (.slice e)) (hc : P.cellsOf e = k) (good : X → Prop)
    (hel : ∀ (n : Nat) (cs : List Value) (D : DataW H) (Pl : List MemPlace), DataW.trod enc P w base spare held n e cs = some (D, Pl) → Sized P e D → (∀ x ∈ Pl, x.block < w.heap.size) → ∃ x, cs = C x ∧ good x)
    {fuel : Nat} {cs : List Value} {d : DataW H} {ps : List MemPlace} (h : DataW.trod enc P w base spare held fuel t cs = some (d, ps)) (hs : Sized P t d) (hlt : ∀ x ∈ ps, x.block < w.heap.size) :
    ∃ (A : Option Addr) (l : List X) (c : Nat), cs = [.slice A l.length c] ∧ Rd w w.heap.size k A l.length (l.flatMap C) ∧ (∀ x ∈ l, good x) ∧ l.length * P.bytesOf e ≤ reachBytes ∧ l.length ≤ c ∧ c ≤ maxLen := by
  rcases open_slice ht h with ⟨rfl, _⟩ | ⟨a, len, cap, m, n, D, Pl, rfl, _, hl, hm, hmm, hx, hi⟩
  · exact ⟨none, [], 0, rfl, Rd.nil _ _ _ _, by simp, by simp, Nat.le_refl _, by unfold maxLen; omega⟩
  · simp only [Prod.mk.injEq] at hx
    obtain ⟨rfl, rfl⟩ := hx
    have hlm : len ≤ m := by rw [hmm]; split <;> omega
    have each : ∀ i, i < len → ∃ x, good x ∧ ∀ r u, (C x)[r]? = some u → w.cell? (a.add (i * k + r)) = some u := by
      intro i hilen
      obtain ⟨cs', h1, h2⟩ := hi i (by omega)
      obtain ⟨x, rfl, hg⟩ := hel n cs' _ _ h2 (hs.elem ht (List.mem_map.2 ⟨i, List.mem_range.2 hilen, rfl⟩)) (fun y hy => hlt y (List.mem_append.2 (.inr (List.mem_flatMap.2 ⟨i, List.mem_range.2 (by omega), hy⟩))))
      refine ⟨x, hg, fun r u hu => ?_⟩
      rw [hc] at h1
      obtain ⟨_, h3, h4⟩ := World.cells?_some h1
      have hr : r < k := by
        rcases Nat.lt_or_ge r k with h | h
        · exact h
        · rw [List.getElem?_eq_none (by rw [hk]; exact h)] at hu; cases hu
      have := h4 r hr
      rw [add_add] at this
      rw [this, hu]
    obtain ⟨f, hf⟩ := choose_lt each
    have hlen : ((List.range len).map f).length = len := by simp
    refine ⟨some a, (List.range len).map f, cap, by rw [hlen], ?_, ?_, ?_, by omega, hm⟩
    · by_cases h0 : len = 0
      · subst h0; exact Rd.nil _ _ _ _
      · rw [hlen]
        refine Rd.of_addr (by rw [flat_len hk, hlen]) ?_ ?_
        · have hrow : (MemPlace.cell a.block a.off) ∈ MemPlace.row a (m * P.cellsOf e) := by
            refine MemPlace.mem_row.2 ⟨0, ?_, by simp⟩
            rw [hc]
            exact Nat.mul_pos (by omega) hk0
          exact hlt _ (List.mem_append.2 (.inl hrow))
        · intro j u hu
          have hj : j < len * k := by
            rcases Nat.lt_or_ge j (len * k) with h | h
            · exact h
            · rw [List.getElem?_eq_none (by rw [flat_len hk, hlen]; exact h)] at hu; cases hu
          have hi1 : j / k < len := Nat.div_lt_of_lt_mul (by rw [Nat.mul_comm]; exact hj)
          have hr1 : j % k < k := Nat.mod_lt _ hk0
          have e : j = j / k * k + j % k := by rw [Nat.mul_comm]; exact (Nat.div_add_mod j k).symm
          rw [e, flat_at hk _ _ _ (by rw [hlen]; exact hi1) hr1] at hu
          rw [e]
          exact (hf _ hi1).2 _ _ (by simpa using hu)
    · intro x hx
      obtain ⟨i, hi2, rfl⟩ := List.mem_map.1 hx
      exact (hf i (List.mem_range.1 hi2)).1
    · have := hs.len ht
      simpa using this

theorem one_fields {fs : Array Field} {n : Nat} {cs : List Value} {xs : List (DataW H × List MemPlace)} (hone : oneCellFields P fs = true)
    (hf : ∀ (i : Nat) (f : Field), fs[i]? = some f → DataW.trod enc P w base spare held n f.type ((cs.drop f.offset).take (P.cellsOf f.type)) = xs[i]?) :
    ∀ (i : Nat) (f : Field), fs[i]? = some f → DataW.trod enc P w base spare held n f.type ((cs.drop i).take 1) = xs[i]? := by
  intro i f hi
  obtain ⟨ho, hk⟩ := hone_of hone i f hi
  have := hf i f hi
  rwa [ho, hk] at this
theorem field_at {fs : Array Field} {n : Nat} {cs : List Value} {xs : List (DataW H × List MemPlace)}
    (hf : ∀ (i : Nat) (f : Field), fs[i]? = some f → DataW.trod enc P w base spare held n f.type ((cs.drop f.offset).take (P.cellsOf f.type)) = xs[i]?)
    (i : Nat) {t : TypeId} {o k : Nat} (hi : (fs[i]?.map fun f => (f.type, f.offset, P.cellsOf f.type)) = some (t, o, k)) : DataW.trod enc P w base spare held n t ((cs.drop o).take k) = xs[i]? := by
  obtain ⟨f, hfi, he⟩ := Option.map_eq_some_iff.1 hi
  simp only [Prod.mk.injEq] at he
  obtain ⟨rfl, rfl, rfl⟩ := he
  exact hf i f hfi
theorem Sized.field {t : TypeId} {fs : Array Field} {ds : List (DataW H)} (ht : P.underlying t = some (.struct fs)) (h : Sized P t (.agg ds)) {i : Nat} {u : TypeId} {d : DataW H} (hu : (fs.toList.map (·.type))[i]? = some u) (hd : ds[i]? = some d) : Sized P u d := fun z hz => h z (by
  simp only [DataW.weights, ht]
  exact DataW.weights_mem_each hu hd z hz)
theorem Sized.text {t : TypeId} {s : ByteArray} (h : Sized P t (.lit (.string s.data.toList) : DataW H)) : s.size ≤ 140737488351232 := by
  have := h.str
  simpa [reachBytes] using this
end
section
variable {H : Type} {enc : TypeId × Value → H} {w : World} {base : Nat} {spare : Nat → Bool} {held : Bool}
instance : Inhabited Ac := ⟨⟨0, .empty, .empty, 0⟩⟩
def acGood (x : Ac) : Prop := (Lit.int .i64 x.id).wf = true ∧ x.client.size ≤ 140737488351232 ∧ x.name.size ≤ 140737488351232
set_option maxRecDepth 100000 in
theorem open_ac {n : Nat} {cs : List Value} {D : DataW H} {Pl : List MemPlace} (h : DataW.trod enc Try.prog w base spare held n 28 cs = some (D, Pl)) (hs : Sized Try.prog 28 D) : ∃ f, cs = acC f ∧ acGood f := by
  obtain ⟨xs, n', rfl, hx, hlen, hxl, hf⟩ := DataW.trod_struct Try.underlying28 h
  simp only [Prod.mk.injEq] at hx
  obtain ⟨rfl, rfl⟩ := hx
  have hc4 : Try.prog.cellsOf 28 = 4 := by kernel_rfl
  rw [hc4] at hlen
  match cs, hlen with
  | [c0, c1, c2, c3], _ =>
    match xs, hxl with
    | [y0, y1, y2, y3], _ =>
      have h0 := field_at hf 0 (t := 3) (o := 0) (k := 1) (by kernel_rfl)
      have h1 := field_at hf 1 (t := 9) (o := 1) (k := 1) (by kernel_rfl)
      have h2 := field_at hf 2 (t := 9) (o := 2) (k := 1) (by kernel_rfl)
      have h3 := field_at hf 3 (t := 3) (o := 3) (k := 1) (by kernel_rfl)
      obtain ⟨z0, e0, rfl, _⟩ := DataW.trod_int Try.underlying3 h0
      obtain ⟨z1, e1, rfl, _⟩ := DataW.trod_string Try.underlying9 h1
      obtain ⟨z2, e2, rfl, _⟩ := DataW.trod_string Try.underlying9 h2
      obtain ⟨z3, e3, rfl, w3⟩ := DataW.trod_int Try.underlying3 h3
      simp only [List.drop_zero, List.drop_succ_cons, List.take_succ_cons, List.take_zero, List.cons.injEq, and_true] at e0 e1 e2 e3
      subst e0 e1 e2 e3
      exact ⟨⟨z0, z1, z2, z3⟩, rfl, w3, (hs.field Try.underlying28 (i := 1) rfl rfl).text, (hs.field Try.underlying28 (i := 2) rfl rfl).text⟩
set_option maxRecDepth 100000 in
theorem open_actsV {r : Reach} {b0 : Nat} {v : Value} {d : DataW H} {ps : List MemPlace} (hval : Value.okWide Try.prog w r b0 22 v) (hd : DataW.Trod enc Try.prog w base spare held 22 v d ps) (hs : Sized Try.prog 22 d) (hlt : ∀ x ∈ ps, x.block < w.heap.size) :
    ∃ (A : Option Addr) (l : List Ac) (c : Nat), v = .slice A l.length c ∧ Rd w w.heap.size 4 A l.length (acCs l) ∧ (∀ z ∈ l, acGood z) ∧ l.length ≤ 140737488351232 := by
  obtain ⟨a, len, cap, rfl⟩ := okWide_slice Try.underlying22 hval
  obtain ⟨fuel, hf⟩ := hd
  obtain ⟨A, l, c, h1, h2, h3, h4, h5, h6⟩ := open_rows (X := Ac) (k := 4) acC (fun _ => rfl) (by omega) Try.underlying22 (by kernel_rfl) acGood
    (fun n cs D Pl h hs _ => open_ac h hs) hf hs hlt
  simp [Value.cells] at h1
  obtain ⟨rfl, rfl, rfl⟩ := h1
  refine ⟨a, l, cap, rfl, h2, h3, ?_⟩
  have hb : Try.prog.bytesOf 28 = 48 := by kernel_rfl
  rw [hb, reachBytes] at h4
  omega
end
end Go.Proofs.Ytjbpafkdbfbdlaa.OI
