/- A region whose order the text's own serves: told by a Bool that is quick to reckon (no program in sight). -/
import Derived.Lib.QuietBelow
namespace Go.Proofs.YtmkkjiogokfnmaaDoor
open Go.RowKit
/-- Each operation waits for earlier ones alone, and each later one waits for it or is apart from it. -/
def fastGo (ops : Array Oper) : Nat → List Oper → Bool
  | _, [] => true
  | k, o :: l => (o.after.all fun e => !Region.binds .any e || decide (e.on < k)) && ((l.all fun oj => (oj.after.any fun e => Region.binds .any e && e.on == k) || o.apart ops oj) && fastGo ops (k + 1) l)
theorem fast_lex (ops : Array Oper) : ∀ (l : List Oper) (k : Nat) (listed : Array Bool), ops.toList.drop k = l → (∀ j, j < ops.size → listed[j]? = some (decide (j < k))) → listed.size = ops.size → fastGo ops k l = true → Region.lexFrom .any ops l.length k listed = true
  | [], k, listed, hd, hL, hs, _ => by
    have hk : ops.size ≤ k := by simpa using hd
    simp only [List.length_nil, Region.lexFrom, List.isEmpty_iff]
    refine List.eq_nil_iff_forall_not_mem.2 fun j hj => ?_
    obtain ⟨h0, o, ho, -⟩ := mem_ready.1 hj
    have hlt : j < ops.size := (Array.getElem?_eq_some_iff.1 ho).1
    have h1 := hL j hlt
    rw [Array.getD_eq_getD_getElem?, h1, decide_eq_true (by omega)] at h0
    cases h0
  | o :: l, k, listed, hd, hL, hs, hf => by
    simp only [fastGo, Bool.and_eq_true] at hf
    obtain ⟨hw, ha, hr⟩ := hf
    have hk : k < ops.size := by
      have := congrArg List.length hd
      simp at this
      omega
    have hdrop : ops.toList.drop (k + 1) = l := by rw [← List.drop_drop, hd]; rfl
    have ho : ops[k]? = some o := by
      have := congrArg (fun z => z[0]?) hd
      simpa using this
    simp only [List.length_cons, Region.lexFrom, Bool.and_eq_true]
    refine ⟨⟨?_, ?_⟩, ?_⟩
    · rw [List.contains_iff_mem]
      refine mem_ready.2 ⟨?_, o, ho, fun e he hb => ?_⟩
      · rw [Array.getD_eq_getD_getElem?, hL k hk]; simp
      · have h1 := Array.all_eq_true_iff_forall_mem.1 hw e he
        simp only [hb, Bool.not_true, Bool.false_or, decide_eq_true_eq] at h1
        rw [Array.getD_eq_getD_getElem?, hL e.on (by omega), decide_eq_true h1]
        rfl
    · simp only [Region.free, ho, List.all_eq_true, List.mem_range]
      intro j hj
      rcases Nat.lt_trichotomy j k with h | h | h
      · have : listed.getD j true = true := by rw [Array.getD_eq_getD_getElem?, hL j hj, decide_eq_true h]; rfl
        simp [this]
      · simp [h]
      · have hoj : ops[j]? = some ops[j] := Array.getElem?_eq_getElem hj
        have hm : ops[j] ∈ l := by
          rw [← hdrop]
          refine List.mem_of_getElem? (i := j - (k + 1)) ?_
          rw [List.getElem?_drop, show k + 1 + (j - (k + 1)) = j by omega]
          simp
        have := List.all_eq_true.1 ha _ hm
        simp only [hoj]
        rw [Bool.or_assoc, this, Bool.or_true] <;> simp
    · refine fast_lex ops l (k + 1) _ hdrop (fun j hj => ?_) (by simpa using hs) hr
      by_cases h : k = j
      · subst h
        rw [Array.getElem?_setIfInBounds_self_of_lt (by omega)]
        simp
      · rw [Array.getElem?_setIfInBounds_ne h, hL j hj]
        congr 1
        exact decide_eq_decide.2 (by omega)
theorem lexB_fast {l : List Oper} (h : (Region.noSelect l.toArray && fastGo l.toArray 0 l) = true) : Region.lexB .any l.toArray = true := by
  simp only [Bool.and_eq_true] at h
  simp only [Region.lexB, Bool.and_eq_true]
  refine ⟨h.1, ?_⟩
  have := fast_lex l.toArray l 0 (Array.replicate l.toArray.size false) (by simp) (fun j hj => ?_) (by simp) h.2
  · simpa using this
  · rw [Array.getElem?_replicate, if_pos hj]; rfl
end Go.Proofs.YtmkkjiogokfnmaaDoor
