/- A part of what the laws stand on: PkR, MqJ, MqK, MqN. -/
import Derived.Test.YtbahnolmlodcdaaGreatDoorMcConD
import Derived.Test.YtbahnolmlodcdaaGreatDoorMcMSubG
import Derived.Test.YtbahnolmlodcdaaGreatDoorMcMqC
import Derived.OwnWalk
import Derived.Test.YtbahnolmlodcdaaGreatDoorMcOpenK
namespace Go.Proofs.YtbahnolmlodcdaaGreatDoor
open Go.RowKit

def pks (L : List (Pk × Hs)) : List Value := L.flatMap fun x => (pkC x.1 x.2).toList
theorem pkl_len (x : Pk × Hs) : ((pkC x.1 x.2).toList).length = 25 := rfl
theorem pks_len (L : List (Pk × Hs)) : (pks L).length = L.length * 25 := flat_len pkl_len L
theorem pks_nil : pks [] = [] := rfl
theorem pks_cons (x : Pk × Hs) (L : List (Pk × Hs)) : pks (x :: L) = (pkC x.1 x.2).toList ++ pks L := rfl
theorem pks_app (L M : List (Pk × Hs)) : pks (L ++ M) = pks L ++ pks M := by
  unfold pks
  rw [List.flatMap_append]
theorem pks_at (L : List (Pk × Hs)) (i r : Nat) (h : i < L.length) (hr : r < 25) : (pks L)[i * 25 + r]? = (pkC L[i].1 L[i].2)[r]? := by
  have := flat_at pkl_len L i r h hr
  rw [show pks L = L.flatMap fun x => (pkC x.1 x.2).toList from rfl, this]
  simp
theorem pks_take : ∀ (L : List (Pk × Hs)) (n : Nat), (pks L).take (n * 25) = pks (L.take n)
  | L, 0 => by simp [pks]
  | [], n + 1 => by simp [pks]
  | x :: L, n + 1 => by
    rw [List.take_succ_cons, pks_cons, pks_cons, List.take_append, List.take_of_length_le (by rw [pkl_len x]; omega), pkl_len x, show (n + 1) * 25 - 25 = n * 25 by omega, pks_take L n]
theorem pks_drop : ∀ (L : List (Pk × Hs)) (n : Nat), (pks L).drop (n * 25) = pks (L.drop n)
  | L, 0 => by simp
  | [], n + 1 => by simp [pks]
  | x :: L, n + 1 => by
    rw [List.drop_succ_cons, pks_cons, List.drop_append, List.drop_of_length_le (by rw [pkl_len x]; omega), pkl_len x, show (n + 1) * 25 - 25 = n * 25 by omega, pks_drop L n, List.nil_append]
theorem pks_one (L : List (Pk × Hs)) : ∀ u ∈ pks L, u.oneCell' = true := by
  intro u hu
  obtain ⟨x, -, hx⟩ := List.mem_flatMap.1 hu
  have h := pkC_one x.1 x.2
  rw [Array.all_eq_true_iff_forall_mem] at h
  exact h u (by simpa using hx)
theorem pks_idx {L : List (Pk × Hs)} {o : Nat} {v : Value} (h : (pks L)[o]? = some v) : ∃ i r, o = i * 25 + r ∧ r < 25 ∧ i < L.length := by
  have hlt := (List.getElem?_eq_some_iff.1 h).1
  rw [pks_len] at hlt
  exact ⟨o / 25, o % 25, by omega, by omega, by omega⟩
theorem pks_no32 (L : List (Pk × Hs)) : ∀ (i : Nat) (n : Int), (pks L).toArray[i]? ≠ some (Value.int IntKind.u32 n) := by
  intro o n h
  rw [List.getElem?_toArray] at h
  obtain ⟨i, r, rfl, hr, hi⟩ := pks_idx h
  rw [pks_at L i r hi hr] at h
  exact pk_no32 _ _ _ _ h
theorem pks_nofi (L : List (Pk × Hs)) (o : Nat) (a : ByteArray) (b : Int) (_c d : Bool) (h0 : (pks L).toArray[o]? = some (.string a)) (h1 : (pks L).toArray[o + 1]? = some (.int .i64 b)) (h3 : (pks L).toArray[o + 3]? = some (.bool d)) : False := by
  rw [List.getElem?_toArray] at h0 h1 h3
  obtain ⟨i, r, rfl, hr, hi⟩ := pks_idx h0
  rw [pks_at L i r hi hr] at h0
  have g1 : r + 1 < 25 → (pkC L[i].1 L[i].2)[r + 1]? = some (.int .i64 b) := fun h => by rw [← pks_at L i (r + 1) hi h, ← Nat.add_assoc]; exact h1
  have g3 : r + 3 < 25 → (pkC L[i].1 L[i].2)[r + 3]? = some (.bool d) := fun h => by rw [← pks_at L i (r + 3) hi h, ← Nat.add_assoc]; exact h3
  clear h1 h3
  generalize L[i] = x at *
  rcases r with _ | _ | _ | _ | _ | _ | _ | _ | _ | _ | _ | _ | _ | _ | _ | _ | _ | _ | _ | _ | _ | _ | _ | _ | _ | r
  all_goals first | (simp [pkC] at h0; done) | (simp [pkC] at g1; done) | (simp [pkC] at g3; done) | omega
theorem pks_zero (n : Nat) : (Builtin.zeroCells (pkC pk0 hs0) n).toList = pks (List.replicate n (pk0, hs0)) := by
  apply List.ext_getElem?
  intro j
  by_cases hj : j < n * 25
  · have h := pks_at (List.replicate n (pk0, hs0)) (j / 25) (j % 25) (by simp; omega) (by omega)
    rw [show j / 25 * 25 + j % 25 = j by omega] at h
    have h2 : (pkC pk0 hs0)[j % 25]? = some ((pkC pk0 hs0)[j % 25]!) := by
      have hlt : j % 25 < (pkC pk0 hs0).size := by rw [pkC_size]; omega
      rw [Array.getElem?_eq_getElem hlt, getElem!_pos (pkC pk0 hs0) (j % 25) hlt]
    rw [h, List.getElem_replicate, h2]
    simp [Builtin.zeroCells, pkC_size, hj]
  · rw [List.getElem?_eq_none (by rw [Array.length_toList, size_zeroCells, pkC_size]; omega), List.getElem?_eq_none (by rw [pks_len, List.length_replicate]; omega)]

theorem Rd.otherN {w w' : World} {B g : Nat} {A : Option Addr} {l : List Fi} {t : TypeId} {cs : Array Value} (h : Rd w B 5 A l.length (fis l)) (hbk : Bk w g t cs)
    (hcs : ∀ (o : Nat) (a : ByteArray) (b : Int) (_c d : Bool), cs[o]? = some (.string a) → cs[o + 1]? = some (.int .i64 b) → cs[o + 3]? = some (.bool d) → False) (hm : w.grownBy w' (some g)) (hB : B ≤ w.heap.size) : Rd w' B 5 A l.length (fis l) := by
  refine h.grown hm hB ?_
  rintro b o rfl hx rfl
  cases l with
  | nil => exact hx rfl
  | cons f l =>
    obtain ⟨b', o', e, -, h0, h1, h2, h3, -⟩ := h.atF (i := 0) (by simp)
    simp only [Option.some.injEq, Addr.mk.injEq] at e
    obtain ⟨rfl, rfl, -⟩ := e
    rw [hbk.cell] at h0 h1 h2 h3
    simp only [Nat.zero_mul, Nat.add_zero, List.getElem_cons_zero] at h0 h1 h2 h3
    exact hcs o _ _ false _ h0 h1 h3
/-- A packet's codes lie in another block than g. -/
def Apart (g : Nat) (x : Pk × Hs) : Prop := x.1.codes = [] ∨ ∀ b o, x.2.codes.a = some ⟨b, o, none⟩ → b ≠ g
theorem iv_nil {l : List Int} (h : iv l = []) : l = [] := by
  cases l with
  | nil => rfl
  | cons z l => simp [iv] at h
theorem PkIn.apart {w : World} {p : Pk} {h : Hs} {B : Nat} (hi : PkIn w B p h) {g : Nat} (hg : B ≤ g) : Apart g (p, h) := by
  rcases hi.codes.2 with h0 | ⟨b, o, hA, hb, -⟩
  · exact .inl (iv_nil h0)
  · refine .inr fun b' o' e => ?_
    dsimp only at e
    rw [hA] at e
    cases e
    omega
theorem PkFresh.apart {w : World} {p : Pk} {h : Hs} (hf : PkFresh w p h) {g : Nat} (hg : g < w.heap.size) : Apart g (p, h) := by
  rcases hf with h0 | h0
  · exact .inl h0
  · exact .inr fun b o e => by have := h0 b o e; omega
theorem PkIn.row {x y : World} {g : Nat} {p : Pk} {h : Hs} {L : List (Pk × Hs)} (hi : PkIn x x.heap.size p h) (hbk : Bk x g PkT (pks L).toArray) (hm : x.grownBy y (some g)) (hf : Apart g (p, h)) : PkIn y y.heap.size p h := by
  refine ⟨(hi.wp.other hbk (pks_no32 L) hm (Nat.le_refl _)).wider hm.size, ?_, (hi.filters.otherN hbk (pks_nofi L) hm (Nat.le_refl _)).wider hm.size, (hi.props.other hbk (pks_no32 L) hm (Nat.le_refl _)).wider hm.size, hi.caps⟩
  refine (hi.codes.grown hm (Nat.le_refl _) ?_).wider hm.size
  intro b o e hx
  rcases hf with h | h
  · dsimp only at h
    rw [h] at hx
    exact absurd rfl hx
  · exact h b o e

structure RowK (w0 w : World) (A : Option Addr) (n c : Nat) (L : List (Pk × Hs)) : Prop where
  len : L.length = n
  lies : (A = none ∧ n = 0 ∧ c = 0) ∨ ∃ g M, A = some ⟨g, 0, none⟩ ∧ w0.heap.size ≤ g ∧ Bk w g PkT (pks M).toArray ∧ M.length = c ∧ n ≤ c ∧ c ≤ maxLen ∧ M.take n = L
section
variable {w0 w y : World} {A : Option Addr} {n c : Nat} {L : List (Pk × Hs)}
theorem RowK.start (w0 w : World) : RowK w0 w none 0 0 [] := ⟨rfl, .inl ⟨rfl, rfl, rfl⟩⟩
theorem RowK.below (h : RowK w0 w A n c L) (hb : Below w.heap.size w y) : RowK w0 y A n c L := by
  refine ⟨h.len, ?_⟩
  rcases h.lies with h1 | ⟨g, M, h1, h2, h3, h4⟩
  · exact .inl h1
  · exact .inr ⟨g, M, h1, h2, h3.below hb h3.lt, h4⟩
theorem RowK.block (h : RowK w0 w A n c L) {g o : Nat} (e : A = some ⟨g, o, none⟩) : w0.heap.size ≤ g ∧ g < w.heap.size := by
  rcases h.lies with ⟨h1, -⟩ | ⟨g', M, h1, h2, h3, -⟩
  · rw [h1] at e; cases e
  · rw [h1] at e; cases e
    exact ⟨h2, h3.lt⟩
theorem RowK.own (h : RowK w0 w A n c L) {g : Nat} (e : (Value.slice A n c).ownBlock = some g) : w0.heap.size ≤ g ∧ g < w.heap.size := by
  cases A with
  | none => cases e
  | some a =>
    obtain ⟨b, o, s⟩ := a
    rcases h.lies with ⟨h1, -⟩ | ⟨g', M, h1, h2, h3, -⟩
    · cases h1
    · cases h1
      simp only [Value.ownBlock, Option.some.injEq] at e
      subst e
      exact ⟨h2, h3.lt⟩
theorem RowK.cap (h : RowK w0 w A n c L) : n ≤ c := by
  rcases h.lies with ⟨-, h1, -⟩ | ⟨g, M, h1, h2, h3, h4, h5, h6, h7⟩ <;> omega
theorem RowK.rd (h : RowK w0 w A n c L) : Rd w w.heap.size 25 A n (pks L) := by
  refine ⟨by rw [pks_len, h.len], ?_⟩
  rcases h.lies with ⟨-, h1, -⟩ | ⟨g, M, h1, h2, h3, h4, h5, h6, h7⟩
  · refine .inl ?_
    have := h.len
    rw [List.eq_nil_of_length_eq_zero (by omega : L.length = 0)]
    rfl
  · refine .inr ⟨g, 0, h1, h3.lt, fun j u hu => ?_⟩
    rw [Nat.zero_add, h3.cell, List.getElem?_toArray]
    rw [← h7, ← pks_take, List.getElem?_take] at hu
    split at hu
    · exact hu
    · cases hu
/-- What was read before reads behind an append onto the row. -/
theorem RowK.keep (h : RowK w0 w A n c L) (hm : w.grownBy y (Value.slice A n c).ownBlock) {p : Pk} {k : Hs} (hi : PkIn w w.heap.size p k) (ha : ∀ g o, A = some ⟨g, o, none⟩ → Apart g (p, k)) : PkIn y y.heap.size p k := by
  rcases h.lies with ⟨rfl, -⟩ | ⟨g, M, rfl, -, h3, -⟩
  · exact hi.next ⟨hm.os, hm.tape, hm.output, hm.size, fun i hi => hm.block i hi (by simp [Value.ownBlock])⟩
  · exact hi.row h3 hm (ha g 0 rfl)
end
theorem info_row : (Tryz.prog.info? PkT).map (fun i => (i.zero, i.size, i.bytes)) = some (some (pkV pk0 hs0), 25, 312) := by kernel_rfl
theorem size_pk (w : World) : (sizeOf PkT).run Tryz.prog w = .ok 25 w := by kernel_rfl
theorem run_appK {w0 w : World} {A : Option Addr} {n c : Nat} {L : List (Pk × Hs)} (hr : RowK w0 w A n c L) (h0 : w0.heap.size ≤ w.heap.size) (ty : TypeId) (X : Addr) (N : List (Pk × Hs)) (m cx B : Nat) (hN : N.length = m) (hm : 0 < m) (hs : Rd w B 25 (some X) m (pks N)) (hb : n + m ≤ 100000000000) :
    ∃ g c' w', (Builtin.append_ #[48, 48] ty #[.slice A n c, .slice (some X) m cx]).run Tryz.prog w = .ok (.slice (some ⟨g, 0, none⟩) (n + m) c') w' ∧
      RowK w0 w' (some ⟨g, 0, none⟩) (n + m) c' (L ++ N) ∧ w.grownBy w' (Value.slice A n c).ownBlock ∧ ((Value.slice A n c).ownBlock = some g ∨ g = w.heap.size) ∧ g < w'.heap.size := by
  obtain ⟨i, hi, hz, hsize, hby⟩ := info_parts info_row
  have ht := Tryz.underlying48
  have hzc : (pkV pk0 hs0).cells = pkC pk0 hs0 := rfl
  have hlen : (pks N).length = m * i.size := by rw [pks_len, hN, hsize]
  have hlenA : (L ++ N).length = n + m := by rw [List.length_append, hr.len, hN]
  have hsrc : ∀ j u, (pks N)[j]? = some u → w.cell? (X.add j) = some u := by
    obtain ⟨ad, e, -, hc⟩ := hs.addr (by
      intro e
      have := pks_len N
      rw [e] at this
      simp at this
      omega)
    cases e
    exact hc
  have grown : ∀ (need old : Nat), need = n + m → old < need → RowK w0 (w.drew.alloc (.cells ((pks L).toArray ++ (pks N).toArray ++ Builtin.zeroCells (pkV pk0 hs0).cells (grownCap w need old PkT - need)) PkT)) (some ⟨w.heap.size, 0, none⟩) need (grownCap w need old PkT) (L ++ N) ∧
      (∀ row, w.grownBy (w.drew.alloc (.cells ((pks L).toArray ++ (pks N).toArray ++ Builtin.zeroCells (pkV pk0 hs0).cells (grownCap w need old PkT - need)) PkT)) row) ∧ w.heap.size < (w.drew.alloc (.cells ((pks L).toArray ++ (pks N).toArray ++ Builtin.zeroCells (pkV pk0 hs0).cells (grownCap w need old PkT - need)) PkT)).heap.size := by
    intro need old hneed hold
    have hge := grownCap_ge w need old PkT
    have hcm : grownCap w need old PkT ≤ maxLen := grownCap_le_maxLen w need old PkT (by unfold maxLen; omega)
    refine ⟨⟨by rw [hlenA, hneed], .inr ⟨w.heap.size, L ++ N ++ List.replicate (grownCap w need old PkT - need) (pk0, hs0), rfl, h0, ?_, ?_, hge, hcm, ?_⟩⟩, fun row => ⟨rfl, rfl, rfl, by simp, fun k hk _ => heap_alloc_old w.drew _ hk⟩, by simp⟩
    · have : (pks L).toArray ++ (pks N).toArray ++ Builtin.zeroCells (pkV pk0 hs0).cells (grownCap w need old PkT - need) = (pks (L ++ N ++ List.replicate (grownCap w need old PkT - need) (pk0, hs0))).toArray := by
        apply Array.toList_inj.1
        rw [hzc, Array.toList_append, Array.toList_append, pks_zero, pks_app, pks_app]
      rw [this]
      exact Bk.fresh w.drew _ _
    · rw [List.length_append, hlenA, List.length_replicate]; omega
    · rw [List.take_append_of_le_length (by rw [hlenA]; omega), List.take_of_length_le (by rw [hlenA]; omega)]
  rcases hr.lies with ⟨rfl, rfl, rfl⟩ | ⟨g, M, rfl, h2, h3, h4, h5, h6, h7⟩
  · have hL : L = [] := List.eq_nil_of_length_eq_zero hr.len
    subst hL
    have hrun := run_append_nil (P := Tryz.prog) w 48 ty PkT i (pkV pk0 hs0) ht hi hz X m cx (pks N) hlen hsrc hm (by omega) (by rw [hby]; omega)
    obtain ⟨g1, g2, g3⟩ := grown m 0 (by omega) hm
    rw [show (pks []).toArray = #[] from rfl] at g1 g2 g3
    simp only [Array.empty_append] at g1 g2 g3
    rw [Nat.zero_add]
    exact ⟨_, _, _, hrun, g1, g2 _, .inr rfl, g3⟩
  · by_cases hroom : n + m ≤ c
    · have hrun := run_append_room (P := Tryz.prog) w 48 ty PkT i ht hi g n c (pks M).toArray h3 X m cx (pks N) hlen hsrc (pks_one N) hroom (by rw [hsize, pks_len, hN, List.size_toArray, pks_len, h4]; omega)
      refine ⟨g, c, _, hrun, ⟨hlenA, .inr ⟨g, M.take n ++ N ++ M.drop (n + m), rfl, h2, ?_, ?_, hroom, h6, ?_⟩⟩, ⟨rfl, rfl, rfl, by simp, fun k _ hk => setRow_other w g k _ (fun e => hk (by simp [Value.ownBlock, e]))⟩, .inl rfl, ?_⟩
      · have := setRow_heap w g (pks M).toArray ((pks M).take (n * i.size) ++ pks N ++ (pks M).drop (n * i.size + (pks N).length)).toArray PkT (0, 0) h3
        unfold Bk
        rw [pks_app, pks_app, ← pks_take, ← pks_drop]
        rw [hlen, hsize, ← Nat.add_mul] at this ⊢
        exact this
      · rw [List.length_append, List.length_append, List.length_take, List.length_drop, hN, h4]; omega
      · rw [List.take_append_of_le_length (by rw [List.length_append, List.length_take, hN, h4]; omega), List.take_of_length_le (by rw [List.length_append, List.length_take, hN, h4]; omega), h7]
      · simpa using h3.lt
    · have hlo : (pks L).length = n * i.size := by rw [pks_len, hr.len, hsize]
      have hrd := hr.rd
      have hol : ∀ j u, (pks L)[j]? = some u → w.cell? ((⟨g, 0, none⟩ : Addr).add j) = some u := by
        intro j u hu
        rw [Addr.add_lit, Nat.zero_add, h3.cell, List.getElem?_toArray]
        rw [← h7, ← pks_take, List.getElem?_take] at hu
        split at hu
        · exact hu
        · cases hu
      have hrun := run_append_grow (P := Tryz.prog) w 48 ty PkT i (pkV pk0 hs0) ht hi hz ⟨g, 0, none⟩ n c (pks L) hlo hol X m cx (pks N) hlen hsrc (by omega) (by omega) (growslice_fits (by omega) (by rw [hby]; omega))
      obtain ⟨g1, g2, g3⟩ := grown (n + m) c rfl (by omega)
      exact ⟨_, _, _, hrun, g1, g2 _, .inr rfl, g3⟩
theorem wp_appK {w : World} {o : Oper} {a : Act} {K : Act → World → Prop} {Q : Exit → Act → World → Prop} (s x : Operand)
    (ho : o.op = .call { callee := .builtin .append, args := #[s, x], argTypes := #[48, 48] })
    {w0 : World} {A : Option Addr} {n c : Nat} {L : List (Pk × Hs)} (hs : a.eval s = .slice A n c) (hr : RowK w0 w A n c L) (h0 : w0.heap.size ≤ w.heap.size) (X : Addr) (N : List (Pk × Hs)) (m cx B : Nat) (hx : a.eval x = .slice (some X) m cx) (hN : N.length = m) (hm : 0 < m) (hsr : Rd w B 25 (some X) m (pks N)) (hb : n + m ≤ 100000000000)
    (h : ∀ g c' w', RowK w0 w' (some ⟨g, 0, none⟩) (n + m) c' (L ++ N) → w.grownBy w' (Value.slice A n c).ownBlock → ((Value.slice A n c).ownBlock = some g ∨ g = w.heap.size) → g < w'.heap.size → K (a.put o.dst (.slice (some ⟨g, 0, none⟩) (n + m) c')) w') : o.wp Tryz.prog a w K Q := by
  obtain ⟨g, c', w', hrun, h1, h2, h3, h4⟩ := run_appK hr h0 o.type X N m cx B hN hm hsr hb
  unfold Oper.wp execOp
  simp only [ho, resolve, invoke, builtin, Sem.run_bind, Sem.run_pure, Result.andThen_ok, List.map_toArray, List.map_cons, List.map_nil, hs, hx, hrun]
  exact h g c' w' h1 h2 h3 h4
theorem wpList_appK {w : World} {ops : Array Oper} {rest : List Oper} {o : Oper} {a : Act} {Q : Exit → Act → World → Prop} (hgd : o.guard = none) (s x : Operand)
    (ho : o.op = .call { callee := .builtin .append, args := #[s, x], argTypes := #[48, 48] })
    {w0 : World} {A : Option Addr} {n c : Nat} {L : List (Pk × Hs)} (hs : a.eval s = .slice A n c) (hr : RowK w0 w A n c L) (h0 : w0.heap.size ≤ w.heap.size) (X : Addr) (N : List (Pk × Hs)) (m cx B : Nat) (hx : a.eval x = .slice (some X) m cx) (hN : N.length = m) (hm : 0 < m) (hsr : Rd w B 25 (some X) m (pks N)) (hb : n + m ≤ 100000000000)
    (h : ∀ g c' w', RowK w0 w' (some ⟨g, 0, none⟩) (n + m) c' (L ++ N) → w.grownBy w' (Value.slice A n c).ownBlock → ((Value.slice A n c).ownBlock = some g ∨ g = w.heap.size) → g < w'.heap.size → wpList Tryz.prog ops Q rest (a.put o.dst (.slice (some ⟨g, 0, none⟩) (n + m) c')) w') : wpList Tryz.prog ops Q (o :: rest) a w :=
  wpList_plain hgd fun _ hK => wp_appK s x ho hs hr h0 X N m cx B hx hN hm hsr hb fun g c' w' h1 h2 h3 h4 => hK _ _ (h g c' w' h1 h2 h3 h4)
def bsPk (v : Array (Nat × Value)) : Sem Value := Instr.buildSlice 48 1 v
theorem to_bsPk (v : Array (Nat × Value)) : Instr.buildSlice 48 1 v = bsPk v := rfl
theorem run_bsPk (p : Pk) (h : Hs) (w : World) : (bsPk #[(0, pkV p h)]).run Tryz.prog w = .ok (.slice (some ⟨w.heap.size, 0, none⟩) 1 1) (w.alloc (.cells (pkC p h) PkT)) := by kernel_rfl
/-- A slice of one packet, as it is built. -/
theorem rd_pk1 (W : World) (p : Pk) (h : Hs) {g : Nat} (hg : W.heap.size = g) : Rd (W.alloc (.cells (pkC p h) PkT)) (g + 1) 25 (some ⟨g, 0, none⟩) 1 (pks [(p, h)]) := by
  subst hg
  refine ⟨by rw [pks_len]; rfl, .inr ⟨_, 0, rfl, Nat.lt_succ_self _, fun j u hu => ?_⟩⟩
  rw [Nat.zero_add, (Bk.fresh W PkT (pkC p h)).cell]
  have e : pks [(p, h)] = (pkC p h).toList := by rw [pks_cons, pks_nil, List.append_nil]
  rw [e] at hu
  simpa using hu

structure RdK (w : World) (A : Option Addr) (n : Nat) (L : List (Pk × Hs)) : Prop where
  rd : Rd w w.heap.size 25 A n (pks L)
  ins : ∀ x ∈ L, PkIn w w.heap.size x.1 x.2
theorem RdK.below {w y : World} {A : Option Addr} {n : Nat} {L : List (Pk × Hs)} (h : RdK w A n L) (hb : Below w.heap.size w y) : RdK y A n L := ⟨(h.rd.below hb).wider hb.size, fun x hx => (h.ins x hx).next hb⟩
theorem RdK.len {w : World} {A : Option Addr} {n : Nat} {L : List (Pk × Hs)} (h : RdK w A n L) : L.length = n := by
  have h1 := h.rd.1
  rw [pks_len] at h1
  omega
theorem RdK.at {w : World} {A : Option Addr} {n : Nat} {L : List (Pk × Hs)} (h : RdK w A n L) {i : Nat} (hi : i < n) : ∃ b o p k, A = some ⟨b, o, none⟩ ∧ L[i]? = some (p, k) ∧ b < w.heap.size ∧
    (∀ y, Below w.heap.size w y → (ldPk (.pointer (some ⟨b, o + i * 25, none⟩))).run Tryz.prog y = .ok (pkV p k) y) ∧ PkIn w w.heap.size p k := by
  have hl := h.len
  have hlt : i < L.length := by omega
  rcases h.rd.2 with h0 | ⟨b, o, rfl, hb, hc⟩
  · have := pks_len L
    rw [h0] at this
    simp at this
    omega
  · refine ⟨b, o, L[i].1, L[i].2, rfl, List.getElem?_eq_getElem hlt, hb, fun y hy => ?_, h.ins _ (List.getElem_mem hlt)⟩
    unfold ldPk
    refine run_loadAt_mid y b (o + i * 25) PkT (pkC L[i].1 L[i].2).toList _ ?_ Tryz.underlying29 rfl (by rw [Array.length_toList, pkC_size]; exact info_pk)
    intro j u hu
    have hj : j < 25 := by
      rcases Nat.lt_or_ge j 25 with h | h
      · exact h
      · rw [List.getElem?_eq_none (by rw [pkl_len]; exact h)] at hu; cases hu
    rw [Nat.add_assoc, hy.cell (p := ⟨b, o + (i * 25 + j), none⟩) hb]
    refine hc (i * 25 + j) u ?_
    rw [pks_at L i j hlt hj]
    simpa using hu
/-- A row of the call's own, whose packets read. -/
structure RowI (w0 w : World) (A : Option Addr) (n c : Nat) (L : List (Pk × Hs)) : Prop where
  row : RowK w0 w A n c L
  ins : ∀ x ∈ L, PkIn w w.heap.size x.1 x.2
  apart : ∀ x ∈ L, ∀ g o, A = some ⟨g, o, none⟩ → Apart g x
section
variable {w0 w y : World} {A : Option Addr} {n c : Nat} {L : List (Pk × Hs)}
theorem RowI.start (w0 w : World) : RowI w0 w none 0 0 [] := ⟨RowK.start _ _, by simp, by simp⟩
theorem RowI.below (h : RowI w0 w A n c L) (hb : Below w.heap.size w y) : RowI w0 y A n c L := ⟨h.row.below hb, fun x hx => (h.ins x hx).next hb, h.apart⟩
theorem RowI.read (h : RowI w0 w A n c L) : RdK w A n L := ⟨h.row.rd, h.ins⟩
theorem RowI.more (h : RowI w0 w A n c L) {g c' m : Nat} {N : List (Pk × Hs)} (hr : RowK w0 y (some ⟨g, 0, none⟩) (n + m) c' (L ++ N)) (hm : w.grownBy y (Value.slice A n c).ownBlock) (hg : (Value.slice A n c).ownBlock = some g ∨ g = w.heap.size)
    (hi : ∀ x ∈ N, PkIn w w.heap.size x.1 x.2) (ha : ∀ x ∈ N, ∀ g o, A = some ⟨g, o, none⟩ → Apart g x) : RowI w0 y (some ⟨g, 0, none⟩) (n + m) c' (L ++ N) := by
  have hin : ∀ x ∈ L ++ N, PkIn w w.heap.size x.1 x.2 := fun x hx => (List.mem_append.1 hx).elim (h.ins x) (hi x)
  have hap : ∀ x ∈ L ++ N, ∀ g o, A = some ⟨g, o, none⟩ → Apart g x := fun x hx => (List.mem_append.1 hx).elim (h.apart x) (ha x)
  refine ⟨hr, fun x hx => h.row.keep hm (hin x hx) (hap x hx), fun x hx g' o e => ?_⟩
  cases e
  rcases hg with hg | hg
  · cases A with
    | none => cases hg
    | some a =>
      obtain ⟨b, o, s⟩ := a
      rcases h.row.lies with ⟨h1, -⟩ | ⟨g', M, h1, -⟩
      · cases h1
      · cases h1
        simp only [Value.ownBlock, Option.some.injEq] at hg
        subst hg
        exact hap x hx _ 0 rfl
  · exact (hin x hx).apart (by omega)
end
end Go.Proofs.YtbahnolmlodcdaaGreatDoor

namespace Go.Proofs.YtbahnolmlodcdaaGreatDoor
open Go.RowKit

theorem mqAllF_step (v : Int) (s : ByteArray) (f a : Nat) (l : List Pk) : mqAllF v s (f + 1) a l =
    if (mqR v (s.extract a s.size)).2.2 = 3 then (l, a, 0)
    else if (mqR v (s.extract a s.size)).2.2 ≠ 0 then (l, a, (mqR v (s.extract a s.size)).2.2)
    else mqAllF v s f (a + (mqR v (s.extract a s.size)).2.1) (l ++ [(mqR v (s.extract a s.size)).1]) := rfl
theorem mqAllF_cut {v : Int} (hv : hdKnown v = true) {s : ByteArray} : ∀ (l : List Pk) (f a c : Nat) (o : List Pk), (∀ p ∈ l, mqE v p = 0 ∧ (∀ q ∈ p.props, q.n < 4294967296) ∧ (∀ q ∈ p.will.props, q.n < 4294967296)) → a ≤ s.size → s.size < a + f →
    (ls s).drop a = (l.flatMap fun p => ls (mqS v p)).take c → mqAllF v s f a o = (o ++ l.take (frN v l c).1, a + (frN v l c).2, 0)
  | _, 0, a, c, o, _, h1, h2, _ => absurd h2 (by omega)
  | [], f + 1, a, c, o, _, _, _, h => by
    have hz : (s.extract a s.size).size = 0 := by
      rw [← ls_len, drop_ls, h]
      simp
    rw [mqAllF, mqR_none hv hz, if_pos rfl]
    simp [frN]
  | p :: l, f + 1, a, c, o, hl, ha, hf, h => by
    obtain ⟨h1, h2, h3⟩ := hl p (.head _)
    rw [List.flatMap_cons] at h
    rw [frN]
    have h2z := mqS_two v p
    split
    · rename_i hc
      rw [List.take_append, List.take_of_length_le (by rw [ls_len]; exact hc), ls_len] at h
      have hr := mqR_front h1 h2 h3 (s := s.extract a s.size) (by rw [drop_ls]; exact h)
      rw [mqAllF, hr, if_neg (show ¬ ((0 : Int) = 3) by decide), if_neg (show ¬ ((0 : Int) ≠ 0) by decide)]
      have hd : (ls s).drop (a + (mqS v p).size) = (l.flatMap fun p => ls (mqS v p)).take (c - (mqS v p).size) := by
        rw [← List.drop_drop, h, ← ls_len, List.drop_left]
      have hle : a + (mqS v p).size ≤ s.size := by
        have := congrArg List.length h
        rw [List.length_drop, List.length_append, ls_len, ls_len] at this
        omega
      have := mqAllF_cut hv l f (a + (mqS v p).size) (c - (mqS v p).size) (o ++ [p]) (fun q hq => hl q (.tail _ hq)) hle (by omega) hd
      dsimp only
      rw [this, List.append_assoc]
      simp only [List.take_succ_cons, List.cons_append, List.nil_append]
      rw [Nat.add_assoc, Nat.add_comm (mqS v p).size]
    · rename_i hc
      rw [List.take_append_of_le_length (by rw [ls_len]; omega)] at h
      have hr := mqR_cut h1 (s := s.extract a s.size) (c := c) (by rw [drop_ls]; exact h) (by omega)
      rw [mqAllF, hr, if_pos rfl]
      simp
/-- The packets' bytes, one after the other. -/
def mqSs (v : Int) (l : List Pk) : ByteArray := ⟨(l.flatMap fun p => ls (mqS v p)).toArray⟩
theorem mqSs_ls (v : Int) (l : List Pk) : ls (mqSs v l) = l.flatMap fun p => ls (mqS v p) := ls_mk _
theorem mqSs_snoc (v : Int) (l : List Pk) (p : Pk) : mqSs v (l ++ [p]) = mqSs v l ++ mqS v p := ls_ext (by
  rw [ls_app, mqSs_ls, mqSs_ls, List.flatMap_append]
  simp)
theorem mqAll_cut {v : Int} (hv : hdKnown v = true) {l : List Pk} (hl : ∀ p ∈ l, mqE v p = 0 ∧ (∀ q ∈ p.props, q.n < 4294967296) ∧ (∀ q ∈ p.will.props, q.n < 4294967296)) (k : Nat) :
    mqAll v ((mqSs v l).extract 0 k) = (l.take (frN v l k).1, (frN v l k).2, 0) := by
  have h := mqAllF_cut hv (s := (mqSs v l).extract 0 k) l (((mqSs v l).extract 0 k).size + 1) 0 k [] hl (Nat.zero_le _) (by omega) (by
    rw [List.drop_zero]
    have := extract_ls (mqSs v l) 0 k
    rw [Nat.zero_add, List.drop_zero] at this
    rw [this, mqSs_ls])
  unfold mqAll
  rw [h, List.nil_append, Nat.zero_add]
theorem mqAll_none {v : Int} (hv : hdKnown v = false) (s : ByteArray) : mqAll v s = ([], 0, 2) := by
  unfold mqAll
  rw [mqAllF_step, mqR_arg hv, if_neg (by decide), if_pos (by decide)]
/-- Where packets' bytes end. -/
def endsL (v : Int) : Nat → List Pk → List Nat
  | _, [] => []
  | a, p :: l => (a + (mqS v p).size) :: endsL v (a + (mqS v p).size) l
theorem endsL_len (v : Int) : ∀ (l : List Pk) (a : Nat), (endsL v a l).length = l.length
  | [], _ => rfl
  | p :: l, a => by rw [endsL, List.length_cons, List.length_cons, endsL_len v l]
theorem endsL_snoc (v : Int) : ∀ (l : List Pk) (a : Nat) (p : Pk), endsL v a (l ++ [p]) = endsL v a l ++ [a + (mqSs v (l ++ [p])).size]
  | [], a, p => by
    show [a + (mqS v p).size] = [a + (mqSs v [p]).size]
    have : (mqSs v [p]).size = (mqS v p).size := by rw [← ls_len, mqSs_ls]; simp [ls_len]
    rw [this]
  | q :: l, a, p => by
    rw [List.cons_append, endsL, endsL, endsL_snoc v l, List.cons_append]
    have : (mqSs v (q :: (l ++ [p]))).size = (mqS v q).size + (mqSs v (l ++ [p])).size := by
      rw [← ls_len, ← ls_len, ← ls_len, mqSs_ls, mqSs_ls, List.flatMap_cons, List.length_append]
    rw [this, Nat.add_assoc]
/-- How many ends from the first on are no more than k, and the last of them. -/
def lead (k : Nat) : List Nat → Nat → Nat × Nat
  | [], z => (0, z)
  | e :: r, z => if e ≤ k then ((lead k r e).1 + 1, (lead k r e).2) else (0, z)
theorem lead_ends (v : Int) (k : Nat) : ∀ (l : List Pk) (a : Nat), a ≤ k → lead k (endsL v a l) a = ((frN v l (k - a)).1, a + (frN v l (k - a)).2)
  | [], a, _ => by simp [endsL, lead, frN]
  | p :: l, a, ha => by
    rw [endsL, lead, frN]
    by_cases h : a + (mqS v p).size ≤ k
    · rw [if_pos h, if_pos (by omega), lead_ends v k l _ h, show k - (a + (mqS v p).size) = k - a - (mqS v p).size by omega]
      dsimp only
      rw [Nat.add_assoc, Nat.add_comm (mqS v p).size]
    · rw [if_neg h, if_neg (by omega)]
      rfl
theorem lead_drop (k : Nat) {E : List Nat} {n z e : Nat} (h : E[n]? = some e) : lead k (E.drop n) z = if e ≤ k then ((lead k (E.drop (n + 1)) e).1 + 1, (lead k (E.drop (n + 1)) e).2) else (0, z) := by
  obtain ⟨hn, he⟩ := List.getElem?_eq_some_iff.1 h
  rw [List.drop_eq_getElem_cons hn, he]
  rfl
theorem lead_end (k : Nat) {E : List Nat} {n z : Nat} (h : E.length ≤ n) : lead k (E.drop n) z = (0, z) := by
  rw [List.drop_of_length_le h]
  rfl
theorem frN_le (v : Int) : ∀ (l : List Pk) (c : Nat), (frN v l c).1 ≤ l.length
  | [], _ => Nat.le_refl _
  | p :: l, c => by
    rw [frN]
    split
    · have := frN_le v l (c - (mqS v p).size)
      simpa using this
    · exact Nat.zero_le _
/-- The packets that are valid. -/
def goodP (v : Int) (l : List Pk) : List Pk := l.filter fun p => decide (mqE v p = 0)
theorem goodP_yes {v : Int} {l : List Pk} {p : Pk} (h : mqE v p = 0) : goodP v (l ++ [p]) = goodP v l ++ [p] := by simp [goodP, h]
theorem goodP_no {v : Int} {l : List Pk} {p : Pk} (h : mqE v p ≠ 0) : goodP v (l ++ [p]) = goodP v l := by simp [goodP, h]
theorem goodP_none {v : Int} (hv : hdKnown v = false) (l : List Pk) : goodP v l = [] := by
  unfold goodP
  rw [List.filter_eq_nil_iff]
  intro p _ h
  have := of_decide_eq_true h
  unfold mqE at this
  rw [if_pos hv] at this
  cases this
end Go.Proofs.YtbahnolmlodcdaaGreatDoor

namespace Go.Proofs.YtbahnolmlodcdaaGreatDoor
open Go.RowKit
attribute [local go_sem ↓] to_ldPk to_bxPk to_bdPk to_alPk to_stPk
attribute [local go_sem] run_bxPk run_bxPk_agg ld_fresh run_alPk run_bd0 run_bdK run_bdKI run_bdKIC run_bdKC run_bdKICP run_stPk_fresh pkC_0 pkC_1 pkC_2 pkC_3 pkC_4 pkC_5 pkC_6 pkC_7 pkC_8 pkC_9 pkC_10 pkC_11 pkC_12 pkC_13 pkC_14 pkC_15 pkC_16 pkC_17 pkC_18 pkC_19 pkC_20 pkC_21 pkC_22 pkC_23 pkC_24
attribute [local go_sem ↓] to_bsPk
attribute [local go_sem] run_bsPk
/-- What a reading of packets leaves. -/
def AllOut (r : List Pk × Nat × Int) (w : World) (e : Ending) (w' : World) : Prop := ∃ A n c L, e = .returned (.tuple #[.slice A n c, .int .i64 (r.2.1 : Nat), .int .i64 r.2.2]) ∧ RdK w' A n L ∧ L.map Prod.fst = r.1 ∧ Below w.heap.size w w' ∧ n ≤ c ∧ n ≤ 10000000000
theorem allOut_of {w0 w : World} {A : Option Addr} {n c a : Nat} {x : Int} {L : List (Pk × Hs)} {r : List Pk × Nat × Int} (hI : RowI w0 w A n c L) (hB : Below w0.heap.size w0 w) (hr : (L.map Prod.fst, a, x) = r) (hn : n ≤ 10000000000) : AllOut r w0 (.returned (.tuple #[.slice A n c, .int .i64 a, .int .i64 x])) w := by
  subst hr
  exact ⟨A, n, c, L, rfl, hI.read, rfl, hB, hI.row.cap, hn⟩
set_option maxHeartbeats 4000000 in
set_option maxRecDepth 10000 in
theorem mqAll_any (v : Int) (s : ByteArray) (w : World) (hs : s.size ≤ 10000000000) : Calls Tryz.prog 28 #[.int .i64 v, .string s] w (AllOut (mqAll v s) w) := by
  have HS := Lib.hid hs
  obtain ⟨RES, hRES⟩ : ∃ R, mqAll v s = R := ⟨_, rfl⟩
  rw [hRES]
  have HRES : Hid (mqAllF v s (s.size + 1) 0 [] = RES) := Lib.hid hRES
  have HR0 := Lib.hid (RowI.start w w)
  have HRD := Lib.hid (fun (a : Nat) W => mqRead_any v (s.extract a s.size) W (by rw [ByteArray.size_extract]; have := HS.out; omega))
  clear hs hRES
  go_enter Tryz.func28, Tryz.ntmps28
  go_wp2
  go_loopw [4, 5] (fun lv zv wr => ∃ (A : Option Addr) (n c : Nat) (L : List (Pk × Hs)) (a f : Nat), lv = .slice A n c ∧ zv = .int .i64 a ∧ RowI w wr A n c L ∧ Below w.heap.size w wr ∧ n ≤ a ∧ a ≤ s.size ∧ s.size < a + f ∧ mqAllF v s f a (L.map Prod.fst) = RES) (fun _ zv _ => s.size + 1 - (intOf zv).toNat)
  case atStart => exact ⟨none, 0, 0, [], 0, s.size + 1, rfl, rfl, HR0.out, Below.refl _ _, Nat.le_refl _, Nat.zero_le _, by omega, HRES.out⟩
  case round =>
    obtain ⟨A, n, c, L, a, f, rfl, rfl, hI, hB, h1, h2, h3, hF⟩ := hrel
    obtain ⟨f, rfl⟩ : ∃ f', f = f' + 1 := ⟨f - 1, by omega⟩
    rw [mqAllF_step] at hF
    have I0 := Lib.hid hI; have B0 := Lib.hid hB; have HN := Lib.hid h1; have HA := Lib.hid h2; have HFU := Lib.hid h3; have HF := Lib.hid hF
    clear hI hB h1 h2 h3 hF
    have hcall := HRD.out a wr
    have HST := Lib.hid (mqR_step (v := v) (s := s.extract a s.size))
    rw [ByteArray.size_extract] at HST
    obtain ⟨⟨P, q, E⟩, hR⟩ : ∃ R, mqR v (s.extract a s.size) = R := ⟨_, rfl⟩
    rw [hR] at HF HST hcall
    dsimp only at HF HST
    have b1 : (0 : Int) ≤ (a : Int) := by omega
    have b2 : (a : Int) ≤ (s.size : Int) := by have := HA.out; omega
    have CL := Lib.hid hcall
    clear hR hcall
    go_wp2_with fail
    refine CL.out.mono ?_
    rintro e w1 hO
    obtain ⟨hh, rfl, hi1, hb1, hf1⟩ := hO
    have I1 := Lib.hid (I0.out.below hb1)
    have B1 := Lib.hid (B0.out.trans (hb1.mono B0.out.size))
    have P1 := Lib.hid hi1; have F1 := Lib.hid hf1; have S1 := Lib.hid hb1.size
    clear hi1 hb1 hf1 CL
    dsimp only at P1 F1 ⊢
    have I2 := Lib.hid (I1.out.below ((Below.refl _ _).alloc (Nat.le_refl _) (.cells (pkC P hh) PkT)))
    have B2 := Lib.hid (B1.out.alloc B1.out.size (.cells (pkC P hh) PkT))
    have P2 := Lib.hid (P1.out.next ((Below.refl _ _).alloc (Nat.le_refl _) (.cells (pkC P hh) PkT)))
    by_cases h3 : E = 3
    · have HX : Hid ((L.map Prod.fst, a, 0) = RES) := Lib.hid (by rw [← HF.out, if_pos h3])
      have HNB : Hid (n ≤ 10000000000) := Lib.hid (by have := HN.out; have := HA.out; have := HS.out; omega)
      subst h3
      go_wp2
      go_ret3
      exact allOut_of I2.out B2.out HX.out HNB.out
    by_cases h0 : E = 0
    rotate_left
    · have HX : Hid ((L.map Prod.fst, a, E) = RES) := Lib.hid (by rw [← HF.out, if_neg h3, if_pos h0])
      have HNB : Hid (n ≤ 10000000000) := Lib.hid (by have := HN.out; have := HA.out; have := HS.out; omega)
      have e3 : (E == 3) = false := beq_eq_false_iff_ne.2 h3
      have e0 : (E != 0) = true := bne_iff_ne.2 h0
      clear h3 h0
      go_wp2
      go_ret3
      exact allOut_of I2.out B2.out HX.out HNB.out
    subst h0
    have HF2 : Hid (mqAllF v s f (a + q) ((L ++ [(P, hh)]).map Prod.fst) = RES) := Lib.hid (by
      have := HF.out
      rw [if_neg h3, if_neg (by decide)] at this
      rw [List.map_append]
      exact this)
    obtain ⟨q1, q2⟩ := HST.out rfl
    have HQ : Hid (2 ≤ q ∧ a + q ≤ s.size) := Lib.hid (by have := HA.out; omega)
    have I3 := Lib.hid (I2.out.below ((Below.refl _ _).alloc (Nat.le_refl _) (.cells (pkC P hh) PkT)))
    have B3 := Lib.hid (B2.out.alloc B2.out.size (.cells (pkC P hh) PkT))
    have P3 := Lib.hid (P2.out.next ((Below.refl _ _).alloc (Nat.le_refl _) (.cells (pkC P hh) PkT)))
    have R3 := Lib.hid (rd_pk1 (w1.alloc (.cells (pkC P hh) PkT)) P hh (g := w1.heap.size + 1) (by simp))
    have hadd : wrap64 ((a : Int) + (q : Int)) = ((a + q : Nat) : Int) := by have := HS.out; have := HQ.out; unfold wrap64; omega
    have HNB : Hid (n + 1 ≤ 100000000000) := Lib.hid (by have := HN.out; have := HA.out; have := HS.out; omega)
    clear h3 HF HST q1 q2 I1 I2 B1 B2 P1 P2
    go_upto_region 7 with (at_builtin; refine wpList_appK rfl (.tmp 28) (.tmp 30) rfl (w0 := w) (A := A) (n := n) (c := c) (L := L) rfl I3.out.row B3.out.size _ [(P, hh)] 1 1 _ rfl rfl (by decide) R3.out HNB.out ?_; intro g c' w3 hrow hgr hat hlt)
    have I4 := Lib.hid (I3.out.more hrow hgr hat (fun x hx => by rw [List.mem_singleton.1 hx]; exact P3.out) (fun x hx g o e => by rw [List.mem_singleton.1 hx]; exact F1.out.apart (I0.out.row.block e).2))
    have B4 := Lib.hid (below_app B3.out hgr B3.out.size (fun g hg => (I3.out.row.own hg).1))
    clear hrow hgr hat hlt I3 B3 P3 R3
    go_wp2
    go_roundw
    case rel => exact ⟨some ⟨g, 0, none⟩, n + 1, c', L ++ [(P, hh)], a + q, f, rfl, by rw [hadd], I4.out, B4.out, by have := HN.out; have := HQ.out; omega, HQ.out.2, by have := HFU.out; have := HQ.out; omega, HF2.out⟩
    case measure =>
      rw [hadd]
      simp only [intOf, Int.toNat_natCast]
      have := HQ.out
      omega
end Go.Proofs.YtbahnolmlodcdaaGreatDoor

namespace Go.Proofs.YtbahnolmlodcdaaGreatDoor
open Go.RowKit
attribute [local go_sem ↓] to_ldPk to_bxPk to_bdPk to_alPk to_stPk
attribute [local go_sem] run_bxPk run_bxPk_agg ld_fresh run_alPk run_bd0 run_bdK run_bdKI run_bdKIC run_bdKC run_bdKICP run_stPk_fresh pkC_0 pkC_1 pkC_2 pkC_3 pkC_4 pkC_5 pkC_6 pkC_7 pkC_8 pkC_9 pkC_10 pkC_11 pkC_12 pkC_13 pkC_14 pkC_15 pkC_16 pkC_17 pkC_18 pkC_19 pkC_20 pkC_21 pkC_22 pkC_23 pkC_24
def pub13 : Pk := { pk0 with kind := 3, qos := 1, id := 10, topic := ⟨#[97, 47, 98]⟩, payload := ⟨#[104, 105]⟩ }
theorem run_bd13 (k q i : Int) (t y : ByteArray) (w : World) : (bdPk #[(0, .int .i64 k), (3, .int .i64 q), (4, .int .i64 i), (5, .string t), (6, .string y)]).run Tryz.prog w = .ok (pkV { pk0 with kind := k, qos := q, id := i, topic := t, payload := y } hs0) w := by kernel_rfl
attribute [local go_sem] run_bd13
theorem bare_in (w : World) (B : Nat) {p : Pk} (h1 : p.will.props = []) (h2 : p.codes = []) (h3 : p.filters = []) (h4 : p.props = []) : PkIn w B p hs0 := by
  refine ⟨?_, ?_, ?_, ?_, ?_⟩
  · rw [h1]; exact Rd.nil _ _ _ _
  · rw [h2]; exact Rd.nil _ _ _ _
  · rw [h3]; exact Rd.nil _ _ _ _
  · rw [h4]; exact Rd.nil _ _ _ _
  · rw [h1, h2, h3, h4]; exact ⟨Nat.zero_le _, Nat.zero_le _, Nat.zero_le _, Nat.zero_le _⟩
theorem bare_ok {p : Pk} (h1 : p.will.props = []) (h2 : p.codes = []) (h3 : p.filters = []) (h4 : p.props = []) (ht : p.topic.size ≤ 140737488351232 ∧ p.payload.size ≤ 140737488351232 ∧ p.client.size ≤ 140737488351232 ∧ p.user.size ≤ 140737488351232 ∧ p.pass.size ≤ 140737488351232 ∧ p.will.topic.size ≤ 140737488351232 ∧ p.will.payload.size ≤ 140737488351232) : PkOk p := by
  refine ⟨?_, ?_, ?_, ht, ?_⟩
  · rw [h1]; simp
  · rw [h4]; simp
  · rw [h3]; simp
  · rw [h1, h2, h3, h4]; exact ⟨Nat.zero_le _, Nat.zero_le _, Nat.zero_le _, Nat.zero_le _⟩
def bytes13 : ByteArray := ⟨#[50, 9, 0, 3, 97, 47, 98, 0, 10, 104, 105]⟩
theorem ex_1 : mqB 4 pub13 = (bytes13, 0) := by decide +kernel
theorem ex_2 : mqB 5 { pk0 with kind := 14 } = (⟨#[224, 0]⟩, 0) := by decide +kernel
theorem ex_3 : mqB 5 { pk0 with kind := 6, id := 3 } = (⟨#[98, 2, 0, 3]⟩, 0) := by decide +kernel
theorem ex_4 : mqB 3 { pk0 with kind := 12 } = (⟨#[]⟩, 2) := by decide +kernel
theorem ex_5 : mqB 4 { pk0 with kind := 15 } = (⟨#[]⟩, 8) := by decide +kernel
theorem ex_6 : mqB 4 pk0 = (⟨#[]⟩, 8) := by decide +kernel
theorem ex_7 : mqR 4 ⟨#[50, 9, 0, 3, 97, 47, 98, 0, 10, 104]⟩ = (pk0, 0, 3) := by decide +kernel
theorem ex_8 : mqR 4 ⟨#[50, 3, 0, 5, 97]⟩ = (pk0, 0, 5) := by decide +kernel
theorem ex_9 : mqR 4 ⟨#[64, 1, 0]⟩ = (pk0, 0, 5) := by decide +kernel
theorem ex_10 : mqAll 4 ⟨#[192, 0, 50, 9, 0, 3, 97, 47, 98, 0, 10, 104, 105, 208]⟩ = ([{ pk0 with kind := 12 }, pub13], 13, 0) := by decide +kernel
theorem ex_11 : mqAll 4 ⟨#[192, 0, 193, 0]⟩ = ([{ pk0 with kind := 12 }], 2, 7) := by decide +kernel
set_option maxHeartbeats 8000000 in
set_option maxRecDepth 10000 in
theorem mqttNames_any (w : World) : Calls Tryz.prog 6 #[] w fun e w' => e = .returned (.bool true) ∧ Below w.heap.size w w' := by
  have tx : ∀ (k : Int) (i : Int), PkOk { pk0 with kind := k, id := i } := fun k i => bare_ok rfl rfl rfl rfl ⟨Nat.zero_le _, Nat.zero_le _, Nat.zero_le _, Nat.zero_le _, Nat.zero_le _, Nat.zero_le _, Nat.zero_le _⟩
  have C1 := Lib.hid (fun W => mqBytes_any 4 pub13 hs0 W (bare_in W _ rfl rfl rfl rfl) (bare_ok rfl rfl rfl rfl ⟨by decide, by decide, by decide, by decide, by decide, by decide, by decide⟩) (fun hk => absurd hk (by decide)))
  have C2 := Lib.hid (fun W => mqBytes_any 5 { pk0 with kind := 14 } hs0 W (bare_in W _ rfl rfl rfl rfl) (tx 14 0) (fun hk => absurd hk (by decide)))
  have C3 := Lib.hid (fun W => mqSize_any 5 { pk0 with kind := 6, id := 3 } hs0 W (bare_in W _ rfl rfl rfl rfl) (tx 6 3) (fun hk => absurd hk (by decide)))
  have C4 := Lib.hid (fun W => mqBytes_any 3 { pk0 with kind := 12 } hs0 W (bare_in W _ rfl rfl rfl rfl) (tx 12 0) (fun hk => absurd hk (by decide)))
  have C5 := Lib.hid (fun W => mqBytes_any 4 { pk0 with kind := 15 } hs0 W (bare_in W _ rfl rfl rfl rfl) (tx 15 0) (fun hk => absurd hk (by decide)))
  have C6 := Lib.hid (fun W => mqBytes_any 4 pk0 hs0 W (bare_in W _ rfl rfl rfl rfl) (tx 0 0) (fun hk => absurd hk (by decide)))
  have C8 := Lib.hid (fun W => mqRead_any 4 ⟨#[50, 3, 0, 5, 97]⟩ W (by decide))
  have C9 := Lib.hid (fun W => mqRead_any 4 ⟨#[64, 1, 0]⟩ W (by decide))
  have C11 := Lib.hid (fun W => mqAll_any 4 ⟨#[192, 0, 193, 0]⟩ W (by decide))
  obtain ⟨X, hX⟩ : ∃ X, bytes13 = X := ⟨_, rfl⟩
  have C7 := Lib.hid (fun W => mqRead_any 4 (X.extract 0 10) W (by rw [← hX]; decide))
  have C10 := Lib.hid (fun W => mqAll_any 4 (⟨#[192, 0]⟩ ++ X ++ ⟨#[208]⟩) W (by rw [← hX]; decide))
  have h7 : X.extract 0 10 = ⟨#[50, 9, 0, 3, 97, 47, 98, 0, 10, 104]⟩ := by rw [← hX]; rfl
  have h10 : (⟨#[192, 0]⟩ ++ X ++ ⟨#[208]⟩ : ByteArray) = ⟨#[192, 0, 50, 9, 0, 3, 97, 47, 98, 0, 10, 104, 105, 208]⟩ := by rw [← hX]; rfl
  have hxs : (X.size : Int) = 11 := by rw [← hX]; rfl
  have hxe : X.toList = [50, 9, 0, 3, 97, 47, 98, 0, 10, 104, 105] := by rw [← hX]; decide +kernel
  rw [ex_1, hX] at C1
  rw [ex_2] at C2
  rw [ex_3] at C3
  rw [ex_4] at C4
  rw [ex_5] at C5
  rw [ex_6] at C6
  rw [show mqR 4 (X.extract 0 10) = (pk0, 0, 3) by rw [h7]; exact ex_7] at C7
  rw [ex_8] at C8
  rw [ex_9] at C9
  rw [show mqAll 4 (⟨#[192, 0]⟩ ++ X ++ ⟨#[208]⟩) = ([{ pk0 with kind := 12 }, pub13], 13, 0) by rw [h10]; exact ex_10] at C10
  rw [ex_11] at C11
  have HB0 := Lib.hid (Below.refl w.heap.size w)
  clear hX h7 h10 tx
  go_enter Tryz.func6, Tryz.ntmps6
  go_wp2_with fail
  refine (lives13_any _).mono ?_
  rintro e w1 ⟨rfl, hb⟩
  have HB1 := Lib.hid (HB0.out.trans (hb.mono HB0.out.size)); clear hb HB0
  go_wp2_with fail
  refine (C1.out _).mono ?_
  rintro e w2 ⟨rfl, hb⟩
  have HB2 := Lib.hid (HB1.out.trans (hb.mono HB1.out.size)); clear hb HB1 C1
  go_wp2_with fail
  refine (C2.out _).mono ?_
  rintro e w3 ⟨rfl, hb⟩
  have HB3 := Lib.hid (HB2.out.trans (hb.mono HB2.out.size)); clear hb HB2 C2
  go_wp2_with fail
  refine (C3.out _).mono ?_
  rintro e w4 ⟨rfl, hb⟩
  have HB4 := Lib.hid (HB3.out.trans (hb.mono HB3.out.size)); clear hb HB3 C3
  go_wp2_with fail
  refine (C4.out _).mono ?_
  rintro e w5 ⟨rfl, hb⟩
  have HB5 := Lib.hid (HB4.out.trans (hb.mono HB4.out.size)); clear hb HB4 C4
  go_wp2_with fail
  refine (C5.out _).mono ?_
  rintro e w6 ⟨rfl, hb⟩
  have HB6 := Lib.hid (HB5.out.trans (hb.mono HB5.out.size)); clear hb HB5 C5
  go_wp2_with fail
  refine (C6.out _).mono ?_
  rintro e w7 ⟨rfl, hb⟩
  have HB7 := Lib.hid (HB6.out.trans (hb.mono HB6.out.size)); clear hb HB6 C6
  go_wp2_with fail
  refine (C7.out _).mono ?_
  rintro e w8 hO
  obtain ⟨k8, rfl, -, hb, -⟩ := hO
  have HB8 := Lib.hid ((HB7.out.trans (hb.mono HB7.out.size)).alloc (Nat.le_trans HB7.out.size hb.size) (.cells (pkC pk0 k8) PkT)); clear hb HB7 C7
  simp only at HB8 ⊢
  go_wp2_with fail
  refine (C8.out _).mono ?_
  rintro e w9 hO
  obtain ⟨k9, rfl, -, hb, -⟩ := hO
  have HB9 := Lib.hid ((HB8.out.trans (hb.mono HB8.out.size)).alloc (Nat.le_trans HB8.out.size hb.size) (.cells (pkC pk0 k9) PkT)); clear hb HB8 C8
  simp only at HB9 ⊢
  go_wp2_with fail
  refine (C9.out _).mono ?_
  rintro e w10 hO
  obtain ⟨k10, rfl, -, hb, -⟩ := hO
  have HB10 := Lib.hid ((HB9.out.trans (hb.mono HB9.out.size)).alloc (Nat.le_trans HB9.out.size hb.size) (.cells (pkC pk0 k10) PkT)); clear hb HB9 C9
  simp only at HB10 ⊢
  go_wp2_with fail
  refine (C10.out _).mono ?_
  rintro e w11 hO
  obtain ⟨A, n, c, L, rfl, hR, hm, hb, hc, hn⟩ := hO
  have HB11 := Lib.hid (HB10.out.trans (hb.mono HB10.out.size)); clear hb HB10 C10
  obtain rfl : n = 2 := by rw [← hR.len, ← List.length_map, hm]; rfl
  clear hR hm hc hn
  simp only at HB11 ⊢
  go_wp2_with fail
  refine (C11.out _).mono ?_
  rintro e w12 hO
  obtain ⟨A', n', c', L', rfl, hR, hm, hb, hc, hn⟩ := hO
  have HB12 := Lib.hid (HB11.out.trans (hb.mono HB11.out.size)); clear hb HB11 C11
  obtain rfl : n' = 1 := by rw [← hR.len, ← List.length_map, hm]; rfl
  clear hR hm hc hn
  simp only at HB12 ⊢
  go_wp2
  go_ret
  exact ⟨rfl, HB12.out⟩
end Go.Proofs.YtbahnolmlodcdaaGreatDoor

