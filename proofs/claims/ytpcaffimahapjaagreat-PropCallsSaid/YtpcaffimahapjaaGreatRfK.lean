/- Reference 05: Read, the plain part. -/
import Derived.Test.YtpcaffimahapjaaGreatRfJ
namespace Go.Proofs.YtpcaffimahapjaaGreat
open Go.RowKit
theorem need_shift {T : ByteArray} {a : Nat} (ha : a ≤ T.size) (b : Nat) (e n : Int) : needS T (a + b) e n = ((needS (T.extract a T.size) b e n).1, a + (needS (T.extract a T.size) b e n).2.1, (needS (T.extract a T.size) b e n).2.2) := by
  have hz : ((T.extract a T.size).size : Int) = (T.size : Int) - a := by rw [ByteArray.size_extract]; omega
  have hh : hasC T (a + b) n = hasC (T.extract a T.size) b n := by
    unfold hasC
    rw [hz]
    congr 1
    exact decide_eq_decide.2 (by omega)
  unfold needS
  rw [hh]
  by_cases he : e = 0
  · rw [if_pos he, if_pos he]
    by_cases hc : hasC (T.extract a T.size) b n = true
    · have h2 : 0 ≤ n ∧ n ≤ ((T.extract a T.size).size : Int) - b := by simpa [hasC] using hc
      rw [if_pos hc, if_pos hc, ex_ex (by omega)]
      simp only [Prod.mk.injEq, and_true]
      exact ⟨by rw [Nat.add_assoc], by omega⟩
    · rw [if_neg hc, if_neg hc]
  · rw [if_neg he, if_neg he]
theorem data_shift {T : ByteArray} {a : Nat} (ha : a ≤ T.size) (b : Nat) (e : Int) : dataS T (a + b) e = ((dataS (T.extract a T.size) b e).1, a + (dataS (T.extract a T.size) b e).2.1, (dataS (T.extract a T.size) b e).2.2) := by
  unfold dataS
  rw [need_shift ha b e 2]
  simp only
  rw [need_shift ha]
theorem writ_shift {T : ByteArray} {a : Nat} (ha : a ≤ T.size) (b : Nat) (e : Int) : writS T (a + b) e = ((writS (T.extract a T.size) b e).1, a + (writS (T.extract a T.size) b e).2.1, (writS (T.extract a T.size) b e).2.2) := by
  unfold writS
  rw [data_shift ha]
theorem pair_shift {T : ByteArray} {a : Nat} (ha : a ≤ T.size) (b : Nat) (e : Int) : pairS T (a + b) e = ((pairS (T.extract a T.size) b e).1, a + (pairS (T.extract a T.size) b e).2.1, (pairS (T.extract a T.size) b e).2.2) := by
  unfold pairS
  rw [writ_shift ha b e]
  simp only
  rw [writ_shift ha]
theorem var_shift {T : ByteArray} {a : Nat} (b : Nat) : varS T (a + b) = ((varS (T.extract a T.size) b).1, a + (varS (T.extract a T.size) b).2.1, (varS (T.extract a T.size) b).2.2) := by
  unfold varS
  rw [rest_ls, List.drop_drop]
  split
  · simp only [Nat.add_assoc]
  · rfl
theorem val_shift {T : ByteArray} {a : Nat} (ha : a ≤ T.size) (sh b : Nat) : valS sh T (a + b) = { valS sh (T.extract a T.size) b with at_ := a + (valS sh (T.extract a T.size) b).at_ } := by
  unfold valS
  rw [need_shift ha b 0 1, need_shift ha b 0 2, need_shift ha b 0 4, var_shift, writ_shift ha, data_shift ha, pair_shift ha]
  repeat' split
  all_goals rfl
/-- How far the reference's reading has come. -/
structure LAt (kind : Int) (T : ByteArray) (m a : Nat) (out : List Pr) : Prop where
  le : a ≤ T.size
  lt : T.size < a + m
  ck : ckL kind out
  len : out.length ≤ 1000
  eq : listS kind T = listGo kind T m a (cntF out) out
theorem LAt.start (kind : Int) (T : ByteArray) : LAt kind T (T.size + 1) 0 [] := ⟨by omega, by omega, by simp [ckL], Nat.zero_le _, rfl⟩
section
variable {kind : Int} {T : ByteArray} {m a sh : Nat} {out : List Pr} {b0 : UInt8}
theorem LAt.done (v : LAt kind T m a out) (h : ¬ a < T.size) : listS kind T = if loneL out = true then ([], 9) else (out, 0) := by
  obtain ⟨k, rfl⟩ : ∃ k, m = k + 1 := ⟨m - 1, by have := v.lt; have := v.le; omega⟩
  have h' : T.size ≤ a := by omega
  rw [v.eq, listGo, if_pos h', lone_cnt]
theorem id_head (h : a < T.size) (hx : 0 < (T.extract a T.size).size) (hb : (T.extract a T.size)[0] = b0) : idAt T a = b0.toNat := by
  refine (idAt_front (rest := (ls T).drop (a + 1)) ?_).1
  have hl : a < (ls T).length := by rw [ls_len]; exact h
  rw [List.drop_eq_getElem_cons hl]
  congr 1
  rw [← hb]
  rw [← ls_at (T.extract a T.size) 0 hx]
  simp only [rest_ls]
  simp
/-- What a round finds: its number, the property. -/
structure Rnd (kind : Int) (T : ByteArray) (m a : Nat) (out : List Pr) (b0 : UInt8) (sh : Nat) : Prop where
  at_ : LAt kind T m a out
  lt : a < T.size
  id : idAt T a = b0.toNat
  shape : shapeOf (b0.toNat : Int) = sh
def rdQ (sh : Nat) (b0 : UInt8) (X : ByteArray) : Pr := ⟨b0.toNat, (valS sh X 1).n, (valS sh X 1).text, (valS sh X 1).value⟩
theorem Rnd.go (r : Rnd kind T m a out b0 sh) : ∃ k, m = k + 1 ∧ listS kind T = (if hasR (ruleOf (b0.toNat : Int)) kind = false then ([], 9)
    else if (valS sh (T.extract a T.size) 1).err ≠ 0 then ([], (valS sh (T.extract a T.size) 1).err)
    else if checkE (ruleOf (rdQ sh b0 (T.extract a T.size)).id) kind (rdQ sh b0 (T.extract a T.size)) ≠ 0 then ([], checkE (ruleOf (rdQ sh b0 (T.extract a T.size)).id) kind (rdQ sh b0 (T.extract a T.size)))
    else if againB (cntF out) kind b0.toNat = true then ([], 9) else if out.length = 1000 then ([], 4)
    else listGo kind T k (a + (valS sh (T.extract a T.size) 1).at_) (upd (cntF out) b0.toNat (cntF out b0.toNat + 1)) (out ++ [rdQ sh b0 (T.extract a T.size)])) := by
  obtain ⟨k, rfl⟩ : ∃ k, m = k + 1 := ⟨m - 1, by have := r.at_.lt; have := r.lt; omega⟩
  refine ⟨k, rfl, ?_⟩
  rw [r.at_.eq, listGo, if_neg (by have := r.lt; omega)]
  have hs : (ruleOf ((idAt T a : Nat) : Int)).shape = sh := by rw [r.id]; exact r.shape
  have hv := val_shift (T := T) (a := a) r.at_.le sh 1
  rw [hs, hv, r.id]
  rfl
theorem Rnd.no (r : Rnd kind T m a out b0 sh) (h : mayP kind (b0.toNat : Int) = false) : listS kind T = ([], 9) := by
  obtain ⟨k, -, he⟩ := r.go
  rw [he, if_pos (show hasR (ruleOf (b0.toNat : Int)) kind = false from h)]
theorem Rnd.err (r : Rnd kind T m a out b0 sh) (h : mayP kind (b0.toNat : Int) = true) (h1 : (valS sh (T.extract a T.size) 1).err ≠ 0) : listS kind T = ([], (valS sh (T.extract a T.size) 1).err) := by
  obtain ⟨k, -, he⟩ := r.go
  rw [he, if_neg (fun x => by rw [show hasR _ kind = true from h] at x; cases x), if_pos h1]
theorem Rnd.bad (r : Rnd kind T m a out b0 sh) (h : mayP kind (b0.toNat : Int) = true) (h1 : (valS sh (T.extract a T.size) 1).err = 0) {q : Pr} (hq : rdQ sh b0 (T.extract a T.size) = q) (h2 : checkE (ruleOf q.id) kind q ≠ 0) : listS kind T = ([], checkE (ruleOf q.id) kind q) := by
  obtain ⟨k, -, he⟩ := r.go
  subst hq
  rw [he, if_neg (fun x => by rw [show hasR _ kind = true from h] at x; cases x), if_neg (by simpa using h1), if_pos h2]
theorem Rnd.twice (r : Rnd kind T m a out b0 sh) (h : mayP kind (b0.toNat : Int) = true) (h1 : (valS sh (T.extract a T.size) 1).err = 0) {q : Pr} (hq : rdQ sh b0 (T.extract a T.size) = q) (h2 : checkE (ruleOf q.id) kind q = 0) (h3 : twB kind out q.id = true) : listS kind T = ([], 9) := by
  obtain ⟨k, -, he⟩ := r.go
  rw [tw_again r.at_.ck h2] at h3
  subst hq
  rw [he, if_neg (fun x => by rw [show hasR _ kind = true from h] at x; cases x), if_neg (by simpa using h1), if_neg (by simpa using h2)]
  rw [show againB (cntF out) kind b0.toNat = true from h3]
  rfl
theorem Rnd.rest (r : Rnd kind T m a out b0 sh) (h : mayP kind (b0.toNat : Int) = true) (h1 : (valS sh (T.extract a T.size) 1).err = 0) {q : Pr} (hq : rdQ sh b0 (T.extract a T.size) = q) (h2 : checkE (ruleOf q.id) kind q = 0) (h3 : twB kind out q.id = false) :
    (out.length = 1000 → listS kind T = ([], 4)) ∧ (out.length ≠ 1000 → ∃ k, LAt kind T k (a + (valS sh (T.extract a T.size) 1).at_) (out ++ [q])) := by
  obtain ⟨k, hk, he⟩ := r.go
  rw [tw_again r.at_.ck h2] at h3
  subst hq
  rw [if_neg (fun x => by rw [show hasR _ kind = true from h] at x; cases x), if_neg (by simpa using h1), if_neg (by simpa using h2)] at he
  rw [show againB (cntF out) kind b0.toNat = false from h3] at he
  rw [if_neg (by simp)] at he
  refine ⟨fun h4 => by rw [he, if_pos h4], fun h4 => ⟨k, ?_, ?_, ?_, ?_, ?_⟩⟩
  · have := (valS_at (t := T.extract a T.size) (a := 1) (by rw [ByteArray.size_extract]; have := r.lt; omega) sh).2
    rw [ByteArray.size_extract] at this
    have := r.lt
    omega
  · have := (valS_at (t := T.extract a T.size) (a := 1) (by rw [ByteArray.size_extract]; have := r.lt; omega) sh).1
    have := r.at_.lt
    omega
  · refine ckL_append.2 ⟨r.at_.ck, ?_⟩
    intro q hq
    rw [List.mem_singleton.1 hq]
    exact h2
  · rw [List.length_append]
    have := r.at_.len
    simp only [List.length_singleton]
    omega
  · rw [he, if_neg h4]
    rw [← cntF_snoc out (rdQ sh b0 (T.extract a T.size))]
    rfl
end
end Go.Proofs.YtpcaffimahapjaaGreat
