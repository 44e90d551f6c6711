/-
  subscribe: a packet's body, what is read: plain.
  subscribe: a packet is read from its body; what is read is valid, and is written as the same: plain.
-/
import Derived.Test.YtmkkjiogokfnmaaGreatDoorScSubA
import Derived.Test.YtmkkjiogokfnmaaGreatDoorScMCnr
import Derived.Test.YtmkkjiogokfnmaaGreatDoorScMCns
namespace Go.Proofs.YtmkkjiogokfnmaaGreatDoor
open Go.RowKit

/-- The byte of a filter's options. -/
def optN (f : Fi) : Int := f.qos % 4 + f.handling % 4 * 16 + bitN f.noLocal 4 + bitN f.asPub 8
theorem optN_lt (f : Fi) : 0 ≤ optN f ∧ optN f < 64 := by
  have h : ∀ b n, 0 ≤ n → 0 ≤ bitN b n ∧ bitN b n ≤ n := fun b n hn => by unfold bitN; split <;> omega
  have h1 := h f.noLocal 4 (by decide); have h2 := h f.asPub 8 (by decide)
  unfold optN
  omega
def fiL (k : Int) (f : Fi) : List UInt8 := ls (framedS f.topic) ++ (if k = 8 then [UInt8.ofNat (optN f).toNat] else [])
def cdL (l : List Int) : List UInt8 := l.map fun c => UInt8.ofNat c.toNat
def sbHead (v : Int) (p : Pk) : List UInt8 := putL p.id.toNat 2 ++ tailL8 v p.kind p.props
def sbS (v : Int) (p : Pk) : List UInt8 := sbHead v p ++ p.filters.flatMap (fiL p.kind) ++ cdL p.codes
def sbB (v : Int) (p : Pk) : ByteArray × Int := if sbE v p = 0 then (⟨(sbS v p).toArray⟩, 0) else (⟨#[]⟩, sbE v p)

/-- Bits that a filter's options can't have. -/
def optBad (v : Int) (n : Nat) : Bool := decide (63 < n) || (decide (v = 4) && decide (3 < n))
def fiOf (t : ByteArray) (n : Nat) : Fi := ⟨t, ((n % 4 : Nat) : Int), decide (n / 4 % 2 = 1), decide (n / 8 % 2 = 1), ((n / 16 % 4 : Nat) : Int)⟩
/-- A filter's options, read. -/
def opR (v : Int) (t : ByteArray) (a : Nat) (e : Int) : Nat × Nat × Int :=
  (numS t a e 1, (takeS t a e 1).2.1, if optBad v (numS t a e 1) = true then failE (takeS t a e 1).2.2 7 else (takeS t a e 1).2.2)
/-- A filter, read. -/
def fiR (v k : Int) (t : ByteArray) (a : Nat) : Fi × Nat × Int :=
  if k = 8 then (fiOf (rtC t a 0).1 (opR v t (rtC t a 0).2.1 (rtC t a 0).2.2).1, (opR v t (rtC t a 0).2.1 (rtC t a 0).2.2).2.1, (opR v t (rtC t a 0).2.1 (rtC t a 0).2.2).2.2)
  else (⟨(rtC t a 0).1, 0, false, false, 0⟩, (rtC t a 0).2.1, (rtC t a 0).2.2)
/-- Filters, or codes, as long as there are bytes. -/
def lsR (v k : Int) (t : ByteArray) : Nat → Nat → Int → List Fi → List Int → List Fi × List Int × Nat × Int
  | 0, a, e, fi, cd => (fi, cd, a, e)
  | n + 1, a, e, fi, cd =>
    if e ≠ 0 ∨ t.size ≤ a then (fi, cd, a, e)
    else if sbAsk k = true then lsR v k t n (fiR v k t a).2.1 (fiR v k t a).2.2 (fi ++ [(fiR v k t a).1]) cd
    else lsR v k t n (a + 1) 0 fi (cd ++ [((numS t a 0 1 : Nat) : Int)])
def sbPr (v k : Int) (s : ByteArray) : List Pr × Nat × Int := prpC v k s (takeS s 0 0 2).2.1 (takeS s 0 0 2).2.2
def sbLs (v k : Int) (s : ByteArray) : List Fi × List Int × Nat × Int := lsR v k s (s.size + 1) (sbPr v k s).2.1 (sbPr v k s).2.2 [] []
def sbPk (k : Int) (i : Nat) (l : List Pr) (fi : List Fi) (cd : List Int) : Pk := { pk0 with kind := k, id := (i : Int), props := l, filters := fi, codes := cd }
def sbFull (v k : Int) (s : ByteArray) : Pk := sbPk k (numS s 0 0 2) (sbPr v k s).1 (sbLs v k s).1 (sbLs v k s).2.1
def sbR (v k : Int) (s : ByteArray) : Pk × Int :=
  if sbKnown v k = false then (pk0, 2)
  else if (sbLs v k s).2.2.2 ≠ 0 then (pk0, (sbLs v k s).2.2.2)
  else if sbE v (sbFull v k s) ≠ 0 then (pk0, sbE v (sbFull v k s)) else (sbFull v k s, 0)
end Go.Proofs.YtmkkjiogokfnmaaGreatDoor

namespace Go.Proofs.YtmkkjiogokfnmaaGreatDoor
open Go.RowKit

theorem fiE_all {v k : Int} : ∀ {l : List Fi}, fiE v k l = 0 ↔ ∀ f ∈ l, filterB f.topic = true ∧ optB v k f = true
  | [] => by simp [fiE]
  | f :: l => by
    have ih := fiE_all (v := v) (k := k) (l := l)
    unfold fiE
    cases h1 : filterB f.topic
    · simp [h1]
    · cases h2 : optB v k f
      · simp [h1, h2]
      · simp [h1, h2, ih]
theorem cdE_all {v k : Int} : ∀ {l : List Int}, cdE v k l = 0 ↔ ∀ c ∈ l, ansB v k c = true
  | [] => by simp [cdE]
  | c :: l => by
    have ih := cdE_all (v := v) (k := k) (l := l)
    unfold cdE
    cases h1 : ansB v k c
    · simp [h1]
    · simp [h1, ih]
structure SbOk (v : Int) (p : Pk) : Prop where
  known : sbKnown v p.kind = true
  id1 : 1 ≤ p.id
  id2 : p.id ≤ 65535
  old : v = 4 → p.props = []
  have' : sbHave v p = true
  same : p = sbQ v p
  props : (bytesS p.kind p.props).2 = 0
  filters : ∀ f ∈ p.filters, filterB f.topic = true ∧ optB v p.kind f = true
  codes : ∀ c ∈ p.codes, ansB v p.kind c = true
theorem sbE_ok {v : Int} {p : Pk} (h : sbE v p = 0) : SbOk v p := by
  unfold sbE at h
  cases ha : sbArg v p
  · rw [ha, if_pos rfl] at h; exact absurd h (by decide)
  rw [ha, if_neg (by decide)] at h
  by_cases hb : (bytesS p.kind p.props).2 = 0
  rotate_left
  · rw [if_pos hb] at h; exact absurd h hb
  rw [if_neg (fun x => x hb)] at h
  by_cases hf : fiE v p.kind p.filters = 0
  rotate_left
  · rw [if_pos hf] at h; exact absurd h hf
  rw [if_neg (fun x => x hf)] at h
  unfold sbArg sbFields at ha
  simp only [Bool.and_eq_true, Bool.not_eq_true', Bool.or_eq_false_iff, decide_eq_true_iff, decide_eq_false_iff_not, Bool.and_eq_false_iff] at ha
  obtain ⟨h1, ⟨h2, h3, h4⟩, h5, h6⟩ := ha
  refine ⟨h1, by omega, by omega, fun x => ?_, h5, h6, hb, fiE_all.1 hf, cdE_all.1 h⟩
  rcases h4 with h4 | h4
  · exact absurd x h4
  · exact List.eq_nil_of_length_eq_zero (by omega)
theorem sb_codes_none {v : Int} {p : Pk} (h : p = sbQ v p) (ha : sbAsk p.kind = true) : p.codes = [] := by
  rw [h]; unfold sbQ; rw [if_pos ha]; rfl
theorem sb_filters_none {v : Int} {p : Pk} (h : p = sbQ v p) (ha : sbAsk p.kind = false) : p.filters = [] := by
  rw [h]; unfold sbQ; rw [if_neg (by rw [ha]; decide)]; split <;> rfl
theorem optN_of (t : ByteArray) (n : Nat) (h : n < 64) : optN (fiOf t n) = n := by
  have : ∀ m : Fin 64, optN (fiOf t m.1) = m.1 := by
    intro m
    have e : optN (fiOf t m.1) = optN (fiOf ⟨#[]⟩ m.1) := rfl
    rw [e]
    clear e
    revert m
    decide +kernel
  exact this ⟨n, h⟩
theorem one_lt {t : ByteArray} {a : Nat} {b : UInt8} {rest : List UInt8} (h : (ls t).drop a = b :: rest) : a < t.size := by
  have hl := congrArg List.length h
  rw [List.length_drop, List.length_cons, ls_len] at hl
  omega
theorem one_num {t : ByteArray} {a : Nat} {b : UInt8} {rest : List UInt8} (h : (ls t).drop a = b :: rest) : numS t a 0 1 = b.toNat := by
  have hlt := one_lt h
  rw [show ((1 : Int)) = ((1 : Nat) : Int) from rfl, num_front (k := 1) (x := [b]) (rest := rest) h rfl (by omega)]
  simp [getL]
theorem filter_valid {s : ByteArray} (h : filterB s = true) : validB s = true := by
  unfold filterB textB at h
  simp only [Bool.and_eq_true] at h
  exact h.1.2
theorem ans_range {v k c : Int} (h : ansB v k c = true) : 0 ≤ c ∧ c < 256 := by
  unfold ansB at h
  split at h
  · unfold grantB at h
    simp at h
    omega
  · exact may_range h
theorem fiR_back {v k : Int} {t : ByteArray} {a : Nat} (hk : k = 8 ∨ k = 10) (ha : a ≤ t.size) (h : (fiR v k t a).2.2 = 0) :
    a < (fiR v k t a).2.1 ∧ (fiR v k t a).2.1 ≤ t.size ∧ (ls t).drop a = fiL k (fiR v k t a).1 ++ (ls t).drop (fiR v k t a).2.1 := by
  have hT : ∀ (e0 : (rtC t a 0).2.2 = 0), a + 2 ≤ (rtC t a 0).2.1 ∧ (rtC t a 0).2.1 ≤ t.size ∧ (ls t).drop a = ls (framedS (rtC t a 0).1) ++ (ls t).drop (rtC t a 0).2.1 := by
    intro e0
    obtain ⟨g1, g2⟩ := rt_txt ha 0
    rw [g1] at e0
    rw [g2 e0]
    obtain ⟨-, h2, -, -, h5⟩ := txt_ok e0
    rw [framed_ls, List.append_assoc]
    refine ⟨?_, h2, h5⟩
    have hl := congrArg List.length h5
    rw [List.length_drop, List.length_append, List.length_append, putL_len, List.length_drop, ls_len, ls_len] at hl
    omega
  unfold fiR at h ⊢
  rcases hk with rfl | rfl
  · rw [if_pos rfl] at h ⊢
    simp only at h ⊢
    have hb : optBad v (numS t (rtC t a 0).2.1 (rtC t a 0).2.2 1) = false := by
      cases hb : optBad v (numS t (rtC t a 0).2.1 (rtC t a 0).2.2 1)
      · rfl
      · unfold opR at h
        rw [hb, if_pos rfl] at h
        exact (failE_zero h (by decide)).elim
    unfold opR at h ⊢
    rw [hb, if_neg (by decide)] at h
    simp only at h ⊢
    obtain ⟨h1, h2, h3⟩ := take_ok (k := 1) h
    obtain ⟨t1, t2, t3⟩ := hT h1
    rw [h1] at hb ⊢
    have h3' : takeS t (rtC t a 0).2.1 0 1 = _ := h3
    rw [h3']
    simp only
    refine ⟨by omega, h2, ?_⟩
    obtain ⟨b, hb1⟩ : ∃ b, (ls t).drop (rtC t a 0).2.1 = b :: (ls t).drop ((rtC t a 0).2.1 + 1) := ⟨_, List.drop_eq_getElem_cons (by rw [ls_len]; omega)⟩
    have hn := one_num hb1
    have hlt : b.toNat < 64 := by
      rw [hn] at hb
      unfold optBad at hb
      simp only [Bool.or_eq_false_iff, decide_eq_false_iff_not] at hb
      omega
    rw [t3, hb1, hn]
    unfold fiL
    rw [if_pos rfl, optN_of _ _ hlt, Int.toNat_natCast, UInt8.ofNat_toNat, List.append_assoc]
    rfl
  · rw [if_neg (by decide)] at h ⊢
    simp only at h ⊢
    obtain ⟨t1, t2, t3⟩ := hT h
    refine ⟨by omega, t2, ?_⟩
    unfold fiL
    rw [if_neg (by decide), List.append_nil]
    exact t3
end Go.Proofs.YtmkkjiogokfnmaaGreatDoor

