/- A part of what the laws stand on: MRfB. -/
import Derived.Test.YtbahnolmlodcdaaGreatDoorMcMSubB
import Derived.Deep.RegionHeld3
import Derived.Test.YtbahnolmlodcdaaGreatDoorMcMLis
import Derived.Deep.RegionLaw
namespace Go.Proofs.YtbahnolmlodcdaaGreatDoor
open Go.RowKit
theorem PB.b0 {w x z : World} (h : Below w.heap.size w x) (hb : Below x.drew.heap.size x.drew z) : Below w.heap.size w z := (below_drawn h 1).trans (hb.mono (below_drawn h 1).size)
theorem PB.b1 {w x z : World} {ob : Obj} (h : Below w.heap.size w x) (hb : Below (x.alloc ob).drew.heap.size (x.alloc ob).drew z) : Below w.heap.size w z := PB.b0 (h.alloc h.size ob) hb
theorem PB.b2 {w x z : World} {ob : Obj} (h : Below w.heap.size w x) (hb : Below (x.drew.alloc ob).heap.size (x.drew.alloc ob) z) : Below w.heap.size w z := ((below_drawn h 1).alloc (below_drawn h 1).size ob).trans (hb.mono ((below_drawn h 1).alloc (below_drawn h 1).size ob).size)
/-- One element's cells, and the memory that was. -/
abbrev PB (w : World) (b o : Nat) (p : Pr) (x : World) : Prop := Below w.heap.size w x ∧ x.cell? ⟨b, o, none⟩ = some (.int .i64 p.id) ∧ x.cell? ⟨b, o + 1, none⟩ = some (.int .u32 p.n) ∧ x.cell? ⟨b, o + 2, none⟩ = some (.string p.text) ∧ x.cell? ⟨b, o + 3, none⟩ = some (.string p.value)
theorem PB.of {w x : World} {b o n k : Nat} {l : List Pr} {p : Pr} (h : Rd w w.heap.size 4 (some ⟨b, o, none⟩) n (prs l)) (hn : l.length = n) (hp : l[k]? = some p) (hx : Below w.heap.size w x) : PB w b (o + k * 4) p x := by
  subst hn
  obtain ⟨hk, rfl⟩ := List.getElem?_eq_some_iff.1 hp
  obtain ⟨b', o', he, -, c0, c1, c2, c3⟩ := (h.below hx).atP hk
  cases he
  exact ⟨hx, c0, c1, c2, c3⟩
theorem PB.then {w x y : World} {b o : Nat} {p : Pr} (h : PB w b o p x) (hb : Below x.heap.size x y) : Below w.heap.size w y := h.1.trans (hb.mono h.1.size)
theorem PB.more {w x : World} {b o : Nat} {p : Pr} {ob : Obj} (h : PB w b o p x) : Below w.heap.size w (x.alloc ob) := h.1.alloc h.1.size _
end Go.Proofs.YtbahnolmlodcdaaGreatDoor

namespace Go.Proofs.YtbahnolmlodcdaaGreatDoor
open Go.RowKit
theorem go_err (kind : Int) : ∀ (l : List Pr) (f : Nat → Nat) (o o' : List UInt8), (bytesGo kind l f o).2 = (bytesGo kind l f o').2
  | [], f, o, o' => by rw [bytesGo, bytesGo]; split <;> rfl
  | p :: l, f, o, o' => by
    rw [bytesGo, bytesGo]
    split
    · rfl
    · split
      · rfl
      · exact go_err kind l _ _ _
def cntF (l : List Pr) : Nat → Nat := fun j => cnt j l
theorem cntF_snoc (l : List Pr) (p : Pr) : upd (cntF l) p.id.toNat (cntF l p.id.toNat + 1) = cntF (l ++ [p]) := by
  funext j
  unfold upd cntF
  rw [cnt_append, cnt_cons]
  by_cases h : j = p.id.toNat
  · subst h; simp [cnt]
  · rw [if_neg h, if_neg (fun x => h x.symm)]; simp [cnt]
theorem getP_cnt {kind : Int} {l : List Pr} {p : Pr} (hl : ckL kind l) (hp : 0 ≤ p.id) : (getP l p.id).isSome = decide (1 ≤ cnt p.id.toNat l) := by
  rw [Bool.eq_iff_iff, decide_eq_true_eq]
  unfold getP
  rw [List.find?_isSome]
  constructor
  · rintro ⟨q, hq, he⟩
    exact cnt_pos.2 ⟨q, hq, by rw [show q.id = p.id by simpa using he]⟩
  · intro h
    obtain ⟨q, hq, he⟩ := cnt_pos.1 h
    have := (check_ok (hl q hq)).1.1
    exact ⟨q, hq, by simp; omega⟩
theorem tw_again {kind : Int} {l : List Pr} {p : Pr} (hl : ckL kind l) (hp : checkE (ruleOf p.id) kind p = 0) : twB kind l p.id = againB (cntF l) kind p.id.toNat := by
  unfold twB
  rw [getP_cnt hl (check_ok hp).1.1, many_of_often hp]
  unfold againB cntF
  congr 1
  exact decide_eq_decide.2 (by omega)
theorem lone_cnt (l : List Pr) : loneL l = loneB (cntF l) := by
  have h : ∀ k : Nat, 0 < k → (getP l (k : Int)).isSome = decide (0 < cnt k l) := by
    intro k hk
    rw [Bool.eq_iff_iff, decide_eq_true_eq]
    unfold getP
    rw [List.find?_isSome]
    constructor
    · rintro ⟨q, hq, he⟩
      have : q.id = (k : Int) := by simpa using he
      exact cnt_pos.2 ⟨q, hq, by omega⟩
    · intro h
      obtain ⟨q, hq, he⟩ := cnt_pos.1 h
      exact ⟨q, hq, by simp; omega⟩
  unfold loneL loneB cntF
  rw [show (22 : Int) = ((22 : Nat) : Int) from rfl, show (21 : Int) = ((21 : Nat) : Int) from rfl, h 22 (by omega), h 21 (by omega)]
  congr 1
  by_cases h0 : cnt 21 l = 0
  · simp [h0]
  · have : 0 < cnt 21 l := by omega
    simp [this, h0]
/-- How far the reference's round has come. -/
structure VAt (kind : Int) (l : List Pr) (k : Nat) : Prop where
  ck : ckL kind (l.take k)
  eq : (bytesS kind l).2 = (bytesGo kind (l.drop k) (cntF (l.take k)) []).2
theorem VAt.start {kind : Int} {l : List Pr} (hl : l.length ≤ 1000) : VAt kind l 0 := by
  refine ⟨by simp [ckL], ?_⟩
  unfold bytesS
  rw [if_neg (by omega)]
  rfl
theorem VAt.bad {kind : Int} {l : List Pr} {k : Nat} {p : Pr} (v : VAt kind l k) (hp : l[k]? = some p) (hc : checkE (ruleOf p.id) kind p ≠ 0) : (bytesS kind l).2 = checkE (ruleOf p.id) kind p := by
  obtain ⟨hk, rfl⟩ := List.getElem?_eq_some_iff.1 hp
  rw [v.eq, List.drop_eq_getElem_cons hk, bytesGo, if_pos hc]
theorem VAt.next {kind : Int} {l : List Pr} {k : Nat} {p : Pr} (v : VAt kind l k) (hp : l[k]? = some p) (hc : checkE (ruleOf p.id) kind p = 0) (ht : twB kind (l.take k) p.id = false) : VAt kind l (k + 1) := by
  rw [tw_again v.ck hc] at ht
  obtain ⟨hk, rfl⟩ := List.getElem?_eq_some_iff.1 hp
  have htk : l.take (k + 1) = l.take k ++ [l[k]] := List.take_succ_eq_append_getElem hk
  refine ⟨?_, ?_⟩
  · rw [htk]
    refine ckL_append.2 ⟨v.ck, ?_⟩
    intro q hq
    rw [List.mem_singleton.1 hq]
    exact hc
  · rw [v.eq, List.drop_eq_getElem_cons hk, bytesGo, if_neg (by simpa using hc), if_neg (by rw [ht]; simp), cntF_snoc, ← htk]
    exact go_err kind _ _ _ _
theorem VAt.done {kind : Int} {l : List Pr} (v : VAt kind l l.length) : ckL kind l ∧ (bytesS kind l).2 = if loneL l = true then 9 else 0 := by
  have h1 := v.ck
  have h2 := v.eq
  rw [List.take_length] at h1 h2
  refine ⟨h1, ?_⟩
  rw [h2, List.drop_length, bytesGo, lone_cnt]
  split <;> rfl
end Go.Proofs.YtbahnolmlodcdaaGreatDoor

namespace Go.Proofs.YtbahnolmlodcdaaGreatDoor
open Go.RowKit
attribute [local go_sem] row_f0 row_f1
theorem ex_ex {t : ByteArray} {a i j : Nat} (hj : a + j ≤ t.size) : (t.extract a t.size).extract i j = t.extract (a + i) (a + j) := by
  refine ls_ext ?_
  have e1 : ∀ (s : ByteArray) (i j : Nat), ls (s.extract i j) = (ls s).extract i j := fun s i j => by
    unfold ls
    simp [ByteArray.data_extract]
  rw [e1, e1, e1]
  simp only [List.extract_eq_take_drop, List.drop_take, List.drop_drop, List.take_take]
  congr 1
  rw [Nat.min_def]
  split <;> omega
end Go.Proofs.YtbahnolmlodcdaaGreatDoor

namespace Go.Proofs.YtbahnolmlodcdaaGreatDoor
open Go.RowKit
theorem need_shift {T : ByteArray} {a : Nat} (ha : a ≤ T.size) (b : Nat) (e n : Int) : needS T (a + b) e n = ((needS (T.extract a T.size) b e n).1, a + (needS (T.extract a T.size) b e n).2.1, (needS (T.extract a T.size) b e n).2.2) := by
  have hz : ((T.extract a T.size).size : Int) = (T.size : Int) - a := by rw [ByteArray.size_extract]; omega
  have hh : hasC T (a + b) n = hasC (T.extract a T.size) b n := by
    unfold hasC
    rw [hz]
    congr 1
    exact decide_eq_decide.2 (by omega)
  unfold needS
  rw [hh]
  by_cases he : e = 0
  · rw [if_pos he, if_pos he]
    by_cases hc : hasC (T.extract a T.size) b n = true
    · have h2 : 0 ≤ n ∧ n ≤ ((T.extract a T.size).size : Int) - b := by simpa [hasC] using hc
      rw [if_pos hc, if_pos hc, ex_ex (by omega)]
      simp only [Prod.mk.injEq, and_true]
      exact ⟨by rw [Nat.add_assoc], by omega⟩
    · rw [if_neg hc, if_neg hc]
  · rw [if_neg he, if_neg he]
theorem data_shift {T : ByteArray} {a : Nat} (ha : a ≤ T.size) (b : Nat) (e : Int) : dataS T (a + b) e = ((dataS (T.extract a T.size) b e).1, a + (dataS (T.extract a T.size) b e).2.1, (dataS (T.extract a T.size) b e).2.2) := by
  unfold dataS
  rw [need_shift ha b e 2]
  simp only
  rw [need_shift ha]
theorem writ_shift {T : ByteArray} {a : Nat} (ha : a ≤ T.size) (b : Nat) (e : Int) : writS T (a + b) e = ((writS (T.extract a T.size) b e).1, a + (writS (T.extract a T.size) b e).2.1, (writS (T.extract a T.size) b e).2.2) := by
  unfold writS
  rw [data_shift ha]
theorem pair_shift {T : ByteArray} {a : Nat} (ha : a ≤ T.size) (b : Nat) (e : Int) : pairS T (a + b) e = ((pairS (T.extract a T.size) b e).1, a + (pairS (T.extract a T.size) b e).2.1, (pairS (T.extract a T.size) b e).2.2) := by
  unfold pairS
  rw [writ_shift ha b e]
  simp only
  rw [writ_shift ha]
theorem var_shift {T : ByteArray} {a : Nat} (b : Nat) : varS T (a + b) = ((varS (T.extract a T.size) b).1, a + (varS (T.extract a T.size) b).2.1, (varS (T.extract a T.size) b).2.2) := by
  unfold varS
  rw [rest_ls, List.drop_drop]
  split
  · simp only [Nat.add_assoc]
  · rfl
theorem val_shift {T : ByteArray} {a : Nat} (ha : a ≤ T.size) (sh b : Nat) : valS sh T (a + b) = { valS sh (T.extract a T.size) b with at_ := a + (valS sh (T.extract a T.size) b).at_ } := by
  unfold valS
  rw [need_shift ha b 0 1, need_shift ha b 0 2, need_shift ha b 0 4, var_shift, writ_shift ha, data_shift ha, pair_shift ha]
  repeat' split
  all_goals rfl
/-- How far the reference's reading has come. -/
structure LAt (kind : Int) (T : ByteArray) (m a : Nat) (out : List Pr) : Prop where
  le : a ≤ T.size
  lt : T.size < a + m
  ck : ckL kind out
  len : out.length ≤ 1000
  eq : listS kind T = listGo kind T m a (cntF out) out
theorem LAt.start (kind : Int) (T : ByteArray) : LAt kind T (T.size + 1) 0 [] := ⟨by omega, by omega, by simp [ckL], Nat.zero_le _, rfl⟩
section
variable {kind : Int} {T : ByteArray} {m a sh : Nat} {out : List Pr} {b0 : UInt8}
theorem LAt.done (v : LAt kind T m a out) (h : ¬ a < T.size) : listS kind T = if loneL out = true then ([], 9) else (out, 0) := by
  obtain ⟨k, rfl⟩ : ∃ k, m = k + 1 := ⟨m - 1, by have := v.lt; have := v.le; omega⟩
  have h' : T.size ≤ a := by omega
  rw [v.eq, listGo, if_pos h', lone_cnt]
/-- What a round finds: its number, the property. -/
structure Rnd (kind : Int) (T : ByteArray) (m a : Nat) (out : List Pr) (b0 : UInt8) (sh : Nat) : Prop where
  at_ : LAt kind T m a out
  lt : a < T.size
  id : idAt T a = b0.toNat
  shape : shapeOf (b0.toNat : Int) = sh
def rdQ (sh : Nat) (b0 : UInt8) (X : ByteArray) : Pr := ⟨b0.toNat, (valS sh X 1).n, (valS sh X 1).text, (valS sh X 1).value⟩
theorem Rnd.go (r : Rnd kind T m a out b0 sh) : ∃ k, m = k + 1 ∧ listS kind T = (if hasR (ruleOf (b0.toNat : Int)) kind = false then ([], 9)
    else if (valS sh (T.extract a T.size) 1).err ≠ 0 then ([], (valS sh (T.extract a T.size) 1).err)
    else if checkE (ruleOf (rdQ sh b0 (T.extract a T.size)).id) kind (rdQ sh b0 (T.extract a T.size)) ≠ 0 then ([], checkE (ruleOf (rdQ sh b0 (T.extract a T.size)).id) kind (rdQ sh b0 (T.extract a T.size)))
    else if againB (cntF out) kind b0.toNat = true then ([], 9) else if out.length = 1000 then ([], 4)
    else listGo kind T k (a + (valS sh (T.extract a T.size) 1).at_) (upd (cntF out) b0.toNat (cntF out b0.toNat + 1)) (out ++ [rdQ sh b0 (T.extract a T.size)])) := by
  obtain ⟨k, rfl⟩ : ∃ k, m = k + 1 := ⟨m - 1, by have := r.at_.lt; have := r.lt; omega⟩
  refine ⟨k, rfl, ?_⟩
  rw [r.at_.eq, listGo, if_neg (by have := r.lt; omega)]
  have hs : (ruleOf ((idAt T a : Nat) : Int)).shape = sh := by rw [r.id]; exact r.shape
  have hv := val_shift (T := T) (a := a) r.at_.le sh 1
  rw [hs, hv, r.id]
  rfl
theorem Rnd.no (r : Rnd kind T m a out b0 sh) (h : mayP kind (b0.toNat : Int) = false) : listS kind T = ([], 9) := by
  obtain ⟨k, -, he⟩ := r.go
  rw [he, if_pos (show hasR (ruleOf (b0.toNat : Int)) kind = false from h)]
theorem Rnd.err (r : Rnd kind T m a out b0 sh) (h : mayP kind (b0.toNat : Int) = true) (h1 : (valS sh (T.extract a T.size) 1).err ≠ 0) : listS kind T = ([], (valS sh (T.extract a T.size) 1).err) := by
  obtain ⟨k, -, he⟩ := r.go
  rw [he, if_neg (fun x => by rw [show hasR _ kind = true from h] at x; cases x), if_pos h1]
theorem Rnd.bad (r : Rnd kind T m a out b0 sh) (h : mayP kind (b0.toNat : Int) = true) (h1 : (valS sh (T.extract a T.size) 1).err = 0) {q : Pr} (hq : rdQ sh b0 (T.extract a T.size) = q) (h2 : checkE (ruleOf q.id) kind q ≠ 0) : listS kind T = ([], checkE (ruleOf q.id) kind q) := by
  obtain ⟨k, -, he⟩ := r.go
  subst hq
  rw [he, if_neg (fun x => by rw [show hasR _ kind = true from h] at x; cases x), if_neg (by simpa using h1), if_pos h2]
theorem Rnd.rest (r : Rnd kind T m a out b0 sh) (h : mayP kind (b0.toNat : Int) = true) (h1 : (valS sh (T.extract a T.size) 1).err = 0) {q : Pr} (hq : rdQ sh b0 (T.extract a T.size) = q) (h2 : checkE (ruleOf q.id) kind q = 0) (h3 : twB kind out q.id = false) :
    (out.length = 1000 → listS kind T = ([], 4)) ∧ (out.length ≠ 1000 → ∃ k, LAt kind T k (a + (valS sh (T.extract a T.size) 1).at_) (out ++ [q])) := by
  obtain ⟨k, hk, he⟩ := r.go
  rw [tw_again r.at_.ck h2] at h3
  subst hq
  rw [if_neg (fun x => by rw [show hasR _ kind = true from h] at x; cases x), if_neg (by simpa using h1), if_neg (by simpa using h2)] at he
  rw [show againB (cntF out) kind b0.toNat = false from h3] at he
  rw [if_neg (by simp)] at he
  refine ⟨fun h4 => by rw [he, if_pos h4], fun h4 => ⟨k, ?_, ?_, ?_, ?_, ?_⟩⟩
  · have := (valS_at (t := T.extract a T.size) (a := 1) (by rw [ByteArray.size_extract]; have := r.lt; omega) sh).2
    rw [ByteArray.size_extract] at this
    have := r.lt
    omega
  · have := (valS_at (t := T.extract a T.size) (a := 1) (by rw [ByteArray.size_extract]; have := r.lt; omega) sh).1
    have := r.at_.lt
    omega
  · refine ckL_append.2 ⟨r.at_.ck, ?_⟩
    intro q hq
    rw [List.mem_singleton.1 hq]
    exact h2
  · rw [List.length_append]
    have := r.at_.len
    simp only [List.length_singleton]
    omega
  · rw [he, if_neg h4]
    rw [← cntF_snoc out (rdQ sh b0 (T.extract a T.size))]
    rfl
end
end Go.Proofs.YtbahnolmlodcdaaGreatDoor

