/- A part of what the laws stand on: OrdD. -/
import Derived.OrdersHeld
import Derived.Deep.RegionHeld
namespace Go.Proofs.YtbahnolmlodcdaaGreatDoor
open Go

section
variable {P : Program} {ops : Array Oper} {Q : Exit → Act → World → Prop} {md : Region.Mode} {S : World → Prop} {D : List Nat}

/-- Whatever order is picked from here on; S holds behind an operation as long as none of D has come up. -/
def anyD (P : Program) (md : Region.Mode) (ops : Array Oper) (Q : Exit → Act → World → Prop) (S : World → Prop) (D : List Nat) : Nat → Array Bool → Act → World → Prop
  | 0, listed, a, w => Region.ready md ops listed = [] ∧ Q .normal a w
  | fuel + 1, listed, a, w =>
    (Region.ready md ops listed = [] → Q .normal a w) ∧
    ∀ i ∈ Region.ready md ops listed, wpOp P ops Q i (fun a' w' => ((∀ d ∈ D, (listed.setIfInBounds i true).getD d true = false) → S w') ∧ anyD P md ops Q S D fuel (listed.setIfInBounds i true) a' w') a w

theorem any_of_D : ∀ (fuel : Nat) (listed : Array Bool) (a : Act) (w : World), anyD P md ops Q S D fuel listed a w → wpAny P md ops Q fuel listed a w
  | 0, _, _, _, h => h
  | fuel + 1, _, _, _, h => ⟨h.1, fun i hi => wpOp_mono (fun a' w' h' => any_of_D fuel _ a' w' h'.2) (h.2 i hi)⟩

theorem getD_tf {listed : Array Bool} {i : Nat} (h : listed.getD i true = false) : listed.getD i false = false := by
  rcases Nat.lt_or_ge i listed.size with h' | h'
  · simp [h'] at h ⊢; exact h
  · simp [Array.getElem?_eq_none h'] at h

/-- Every operation of L waits for number i, or for one of L. -/
def behindB (md : Region.Mode) (ops : Array Oper) (i : Nat) (L : List Nat) : Bool :=
  L.all fun j => match ops[j]? with
    | some oj => j != i && oj.after.any fun e => Region.binds md e && (e.on == i || L.contains e.on)
    | none => false

theorem behind_spec {i : Nat} {L : List Nat} (h : behindB md ops i L = true) (j : Nat) (hj : j ∈ L) :
    j ≠ i ∧ ∃ oj, ops[j]? = some oj ∧ ∃ e ∈ oj.after, Region.binds md e = true ∧ (e.on = i ∨ e.on ∈ L) := by
  have h1 := List.all_eq_true.1 h j hj
  split at h1
  · rename_i oj hoj
    simp only [Bool.and_eq_true, bne_iff_ne] at h1
    obtain ⟨e, he, hb⟩ := Array.any_eq_true'.1 h1.2
    simp only [Bool.and_eq_true, Bool.or_eq_true, beq_iff_eq, List.contains_iff_mem] at hb
    exact ⟨h1.1, oj, hoj, e, he, hb.1, hb.2⟩
  · cases h1

theorem anyD_first {i : Nat} {oi : Oper} {v : Value} {L : List Nat} (hi : ops[i]? = some oi) (hsel : ∀ (j : Nat) (o : Oper) cs b, ops[j]? = some o → o.op ≠ .select cs b)
    (hQ : ∀ c a w, Q (.panic c) (a.put oi.dst v) w → Q (.panic c) a w) (hD : ∀ d ∈ D, d ∈ L) (hL : behindB md ops i L = true) :
    ∀ (fuel : Nat) (listed : Array Bool) (a : Act) (w : World),
      (∀ j oj, ops[j]? = some oj → j ≠ i → listed.getD j true = false → (∀ e ∈ oj.after, Region.binds md e = true → e.on ≠ i) → oi.apart ops oj = true) →
      i ∈ Region.ready md ops listed → (∀ j ∈ L, listed.getD j true = false) → YieldsIf P ops S oi v a → S w →
      anyD P md ops Q S D fuel (listed.setIfInBounds i true) (a.put oi.dst v) w → anyD P md ops Q S D (fuel + 1) listed a w := by
  intro fuel
  induction fuel with
  | zero =>
    intro listed a w _ hr hun hy hS H
    refine ⟨fun h => (by rw [h] at hr; cases hr), fun j hj => ?_⟩
    by_cases hji : j = i
    · subst hji; exact hy.wpOp hi hS ⟨fun _ => hS, H⟩
    · have := ready_mono hj hji
      rw [H.1] at this
      cases this
  | succ fuel ih =>
    intro listed a w hfree hr hun hy hS H
    refine ⟨fun h => (by rw [h] at hr; cases hr), fun j hj => ?_⟩
    by_cases hji : j = i
    · subst hji; exact hy.wpOp hi hS ⟨fun _ => hS, H⟩
    · have h1 := H.2 j (ready_mono hj hji)
      obtain ⟨hjun, oj, hoj, hall⟩ := mem_ready.1 hj
      have hiun := (mem_ready.1 hr).1
      have hnot : ∀ e ∈ oj.after, Region.binds md e = true → e.on ≠ i := fun e he hb heq => by
        have h1 := hall e he hb
        rw [heq, getD_tf hiun] at h1
        cases h1
      have hjL : j ∉ L := fun hjL => by
        obtain ⟨-, o', ho', e, he, hb, hon⟩ := behind_spec hL j hjL
        have : o' = oj := Option.some.inj (ho'.symm.trans hoj)
        subst this
        have h2 := hall e he hb
        rcases hon with hon | hon
        · rw [hon, getD_tf hiun] at h2; cases h2
        · rw [getD_tf (hun _ hon)] at h2; cases h2
      have h2 := wpOp_putIf hoj (hfree j oj hoj hji hjun hnot) (fun cs b => hsel i oi cs b hi) (fun cs b => hsel j oj cs b hoj) hQ hy h1
      have hfree' : ∀ k ok, ops[k]? = some ok → k ≠ i → (listed.setIfInBounds j true).getD k true = false →
          (∀ e ∈ ok.after, Region.binds md e = true → e.on ≠ i) → oi.apart ops ok = true := fun k ok hk hki hun hno => by
        refine hfree k ok hk hki ?_ hno
        by_cases hjk : j = k
        · subst hjk; exact hjun
        · rw [getD_set_ne true hjk] at hun; exact hun
      have hunj : ∀ k ∈ L, (listed.setIfInBounds j true).getD k true = false := fun k hk => by
        have hjk : j ≠ k := fun h => by rw [h] at hjL; exact hjL hk
        rw [getD_set_ne true hjk]; exact hun k hk
      have hunD : ∀ d ∈ D, ((listed.setIfInBounds i true).setIfInBounds j true).getD d true = false := fun d hd => by
        have hdL := hD d hd
        have hdi : i ≠ d := fun h => (behind_spec hL d hdL).1 h.symm
        have hdj : j ≠ d := fun h => by rw [h] at hjL; exact hjL hdL
        rw [getD_set_ne true hdj, getD_set_ne true hdi]; exact hun d hdL
      refine wpOp_mono (fun a' w' h3 => ⟨fun _ => h3.2.1 hunD, ih (listed.setIfInBounds j true) a' w' hfree' (ready_mono hr (Ne.symm hji)) hunj h3.1 (h3.2.1 hunD) ?_⟩) h2
      rw [Array.setIfInBounds_comm _ _ hji]
      exact h3.2.2

/-- None of L has come up. -/
def noneB (listed : Array Bool) (L : List Nat) : Bool := L.all fun j => !listed.getD j true

/-- Take number i first. -/
theorem anyD_take {i : Nat} (L : List Nat) {oi : Oper} {v : Value} {fuel : Nat} {listed : Array Bool} {a : Act} {w : World} (hi : ops[i]? = some oi)
    (hs : Region.noSelect ops = true) (hf : Region.free md ops listed i = true) (hr : (Region.ready md ops listed).contains i = true)
    (hL : behindB md ops i L = true) (hD : (D.all fun d => L.contains d) = true) (hn : noneB listed L = true)
    (hQ : ∀ c a w, Q (.panic c) (a.put oi.dst v) w → Q (.panic c) a w) (hy : YieldsIf P ops S oi v a) (hS : S w)
    (h : anyD P md ops Q S D fuel (listed.setIfInBounds i true) (a.put oi.dst v) w) : anyD P md ops Q S D (fuel + 1) listed a w :=
  anyD_first (L := L) hi (Region.noSelect_spec hs) hQ (fun d hd => by simpa using List.all_eq_true.1 hD d hd) hL fuel listed a w (Region.free_spec hi hf) (by simpa using hr)
    (fun j hj => by simpa using List.all_eq_true.1 hn j hj) hy hS h

/-- Each of the operations 'rs' comes up next. -/
def AllD (P : Program) (md : Region.Mode) (ops : Array Oper) (Q : Exit → Act → World → Prop) (S : World → Prop) (D : List Nat) (fuel : Nat) (listed : Array Bool) (a : Act) (w : World) (rs : List Nat) : Prop :=
  ∀ i ∈ rs, wpOp P ops Q i (fun a' w' => ((∀ d ∈ D, (listed.setIfInBounds i true).getD d true = false) → S w') ∧ anyD P md ops Q S D fuel (listed.setIfInBounds i true) a' w') a w
theorem AllD.nil {fuel : Nat} {listed : Array Bool} {a : Act} {w : World} : AllD P md ops Q S D fuel listed a w [] := fun _ h => by cases h
theorem AllD.cons {fuel : Nat} {listed : Array Bool} {a : Act} {w : World} {i : Nat} {o : Oper} {rs : List Nat} (ho : ops[i]? = some o)
    (h : ∀ K' : Act → World → Prop, Shut (∀ a w, ((∀ d ∈ D, (listed.setIfInBounds i true).getD d true = false) → S w) → anyD P md ops Q S D fuel (listed.setIfInBounds i true) a w → K' a w) → if Region.wanted o (yielded ops a.tmps) = true then Oper.wp P o a w K' Q else K' (a.put o.dst undef) w)
    (hs : AllD P md ops Q S D fuel listed a w rs) : AllD P md ops Q S D fuel listed a w (i :: rs) := fun j hj => by
  rcases List.mem_cons.1 hj with rfl | hj
  · exact wpOp_step ho (fun K' hK => h K' (fun a w hS hW => hK a w ⟨hS, hW⟩))
  · exact hs j hj
theorem anyD_ready {rs : List Nat} {fuel : Nat} {listed : Array Bool} {a : Act} {w : World} (hr : Region.ready md ops listed = rs) (hne : rs ≠ [])
    (h : AllD P md ops Q S D fuel listed a w rs) : anyD P md ops Q S D (fuel + 1) listed a w := ⟨fun h0 => absurd (hr ▸ h0) hne, hr ▸ h⟩
theorem getD_tt {listed : Array Bool} {i d : Nat} (h : listed.getD d true = true) : (listed.setIfInBounds i true).getD d true = true := by
  by_cases hid : i = d
  · subst hid
    rcases Nat.lt_or_ge i listed.size with h' | h'
    · simp [h']
    · simp [Array.getElem?_eq_none h', Array.setIfInBounds_eq_of_size_le h']
  · rw [getD_set_ne true hid]; exact h
/-- One of D has come up: nothing more is asked of the world. -/
theorem anyD_late {d : Nat} (hd : d ∈ D) : ∀ (fuel : Nat) (listed : Array Bool) (a : Act) (w : World), listed.getD d true = true → wpAny P md ops Q fuel listed a w → anyD P md ops Q S D fuel listed a w
  | 0, _, _, _, _, h => h
  | fuel + 1, _, _, _, hl, h => ⟨h.1, fun i hi => wpOp_mono (fun a' w' h' => ⟨fun hn => absurd ((getD_tt hl).symm.trans (hn d hd)) (by decide), anyD_late hd fuel _ a' w' (getD_tt hl) h'⟩) (h.2 i hi)⟩
/-- As AllReady.cons, the way back shut. -/
theorem allShut {fuel : Nat} {listed : Array Bool} {a : Act} {w : World} {i : Nat} {o : Oper} {rs : List Nat} (ho : ops[i]? = some o)
    (h : ∀ K' : Act → World → Prop, Shut (∀ a w, wpAny P md ops Q fuel (listed.setIfInBounds i true) a w → K' a w) → if Region.wanted o (yielded ops a.tmps) = true then Oper.wp P o a w K' Q else K' (a.put o.dst undef) w)
    (hs : AllReady P md ops Q fuel listed a w rs) : AllReady P md ops Q fuel listed a w (i :: rs) := AllReady.cons ho h hs
theorem wp_region_D {id : Nat} {a : Act} {w : World} (S : World → Prop) (D : List Nat) (hm : P.follows .mixedOrders = true)
    (h : anyD P .any ops Q S D ops.size (Array.replicate ops.size false) a w.drew) : (Code.region id ops true).wp P Q a w :=
  wp_region_any hm (any_of_D _ _ _ _ h)
end
end Go.Proofs.YtbahnolmlodcdaaGreatDoor

