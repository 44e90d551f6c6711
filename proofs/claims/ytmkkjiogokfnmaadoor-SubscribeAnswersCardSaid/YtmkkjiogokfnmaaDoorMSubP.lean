/-
  subscribe: a packet's body, what is read: plain.
  subscribe: a packet is read from its body; what is read is valid, and is written as the same: plain.
-/
import Derived.Test.YtmkkjiogokfnmaaDoorSubA
import Derived.Test.YtmkkjiogokfnmaaDoorMCnr
import Derived.Test.YtmkkjiogokfnmaaDoorMCns

namespace Go.Proofs.YtmkkjiogokfnmaaDoor
open Go.RowKit

/-- The byte of a filter's options. -/
def optN (f : Fi) : Int := f.qos % 4 + f.handling % 4 * 16 + bitN f.noLocal 4 + bitN f.asPub 8
theorem optN_lt (f : Fi) : 0 ≤ optN f ∧ optN f < 64 := by
  have h : ∀ b n, 0 ≤ n → 0 ≤ bitN b n ∧ bitN b n ≤ n := fun b n hn => by unfold bitN; split <;> omega
  have h1 := h f.noLocal 4 (by decide); have h2 := h f.asPub 8 (by decide)
  unfold optN
  omega
def fiL (k : Int) (f : Fi) : List UInt8 := ls (framedS f.topic) ++ (if k = 8 then [UInt8.ofNat (optN f).toNat] else [])
def cdL (l : List Int) : List UInt8 := l.map fun c => UInt8.ofNat c.toNat
def sbHead (v : Int) (p : Pk) : List UInt8 := putL p.id.toNat 2 ++ tailL8 v p.kind p.props
def sbS (v : Int) (p : Pk) : List UInt8 := sbHead v p ++ p.filters.flatMap (fiL p.kind) ++ cdL p.codes
def sbB (v : Int) (p : Pk) : ByteArray × Int := if sbE v p = 0 then (⟨(sbS v p).toArray⟩, 0) else (⟨#[]⟩, sbE v p)

/-- Bits that a filter's options can't have. -/
def optBad (v : Int) (n : Nat) : Bool := decide (63 < n) || (decide (v = 4) && decide (3 < n))
def fiOf (t : ByteArray) (n : Nat) : Fi := ⟨t, ((n % 4 : Nat) : Int), decide (n / 4 % 2 = 1), decide (n / 8 % 2 = 1), ((n / 16 % 4 : Nat) : Int)⟩
/-- A filter's options, read. -/
def opR (v : Int) (t : ByteArray) (a : Nat) (e : Int) : Nat × Nat × Int :=
  (numS t a e 1, (takeS t a e 1).2.1, if optBad v (numS t a e 1) = true then failE (takeS t a e 1).2.2 7 else (takeS t a e 1).2.2)
/-- A filter, read. -/
def fiR (v k : Int) (t : ByteArray) (a : Nat) : Fi × Nat × Int :=
  if k = 8 then (fiOf (rtC t a 0).1 (opR v t (rtC t a 0).2.1 (rtC t a 0).2.2).1, (opR v t (rtC t a 0).2.1 (rtC t a 0).2.2).2.1, (opR v t (rtC t a 0).2.1 (rtC t a 0).2.2).2.2)
  else (⟨(rtC t a 0).1, 0, false, false, 0⟩, (rtC t a 0).2.1, (rtC t a 0).2.2)
/-- Filters, or codes, as long as there are bytes. -/
def lsR (v k : Int) (t : ByteArray) : Nat → Nat → Int → List Fi → List Int → List Fi × List Int × Nat × Int
  | 0, a, e, fi, cd => (fi, cd, a, e)
  | n + 1, a, e, fi, cd =>
    if e ≠ 0 ∨ t.size ≤ a then (fi, cd, a, e)
    else if sbAsk k = true then lsR v k t n (fiR v k t a).2.1 (fiR v k t a).2.2 (fi ++ [(fiR v k t a).1]) cd
    else lsR v k t n (a + 1) 0 fi (cd ++ [((numS t a 0 1 : Nat) : Int)])
def sbPr (v k : Int) (s : ByteArray) : List Pr × Nat × Int := prpC v k s (takeS s 0 0 2).2.1 (takeS s 0 0 2).2.2
def sbLs (v k : Int) (s : ByteArray) : List Fi × List Int × Nat × Int := lsR v k s (s.size + 1) (sbPr v k s).2.1 (sbPr v k s).2.2 [] []
def sbPk (k : Int) (i : Nat) (l : List Pr) (fi : List Fi) (cd : List Int) : Pk := { pk0 with kind := k, id := (i : Int), props := l, filters := fi, codes := cd }
def sbFull (v k : Int) (s : ByteArray) : Pk := sbPk k (numS s 0 0 2) (sbPr v k s).1 (sbLs v k s).1 (sbLs v k s).2.1
def sbR (v k : Int) (s : ByteArray) : Pk × Int :=
  if sbKnown v k = false then (pk0, 2)
  else if (sbLs v k s).2.2.2 ≠ 0 then (pk0, (sbLs v k s).2.2.2)
  else if sbE v (sbFull v k s) ≠ 0 then (pk0, sbE v (sbFull v k s)) else (sbFull v k s, 0)
end Go.Proofs.YtmkkjiogokfnmaaDoor

namespace Go.Proofs.YtmkkjiogokfnmaaDoor
open Go.RowKit

theorem fiE_all {v k : Int} : ∀ {l : List Fi}, fiE v k l = 0 ↔ ∀ f ∈ l, filterB f.topic = true ∧ optB v k f = true
  | [] => by simp [fiE]
  | f :: l => by
    have ih := fiE_all (v := v) (k := k) (l := l)
    unfold fiE
    cases h1 : filterB f.topic
    · simp [h1]
    · cases h2 : optB v k f
      · simp [h1, h2]
      · simp [h1, h2, ih]
theorem cdE_all {v k : Int} : ∀ {l : List Int}, cdE v k l = 0 ↔ ∀ c ∈ l, ansB v k c = true
  | [] => by simp [cdE]
  | c :: l => by
    have ih := cdE_all (v := v) (k := k) (l := l)
    unfold cdE
    cases h1 : ansB v k c
    · simp [h1]
    · simp [h1, ih]
structure SbOk (v : Int) (p : Pk) : Prop where
  known : sbKnown v p.kind = true
  id1 : 1 ≤ p.id
  id2 : p.id ≤ 65535
  old : v = 4 → p.props = []
  have' : sbHave v p = true
  same : p = sbQ v p
  props : (bytesS p.kind p.props).2 = 0
  filters : ∀ f ∈ p.filters, filterB f.topic = true ∧ optB v p.kind f = true
  codes : ∀ c ∈ p.codes, ansB v p.kind c = true
theorem sbE_ok {v : Int} {p : Pk} (h : sbE v p = 0) : SbOk v p := by
  unfold sbE at h
  cases ha : sbArg v p
  · rw [ha, if_pos rfl] at h; exact absurd h (by decide)
  rw [ha, if_neg (by decide)] at h
  by_cases hb : (bytesS p.kind p.props).2 = 0
  rotate_left
  · rw [if_pos hb] at h; exact absurd h hb
  rw [if_neg (fun x => x hb)] at h
  by_cases hf : fiE v p.kind p.filters = 0
  rotate_left
  · rw [if_pos hf] at h; exact absurd h hf
  rw [if_neg (fun x => x hf)] at h
  unfold sbArg sbFields at ha
  simp only [Bool.and_eq_true, Bool.not_eq_true', Bool.or_eq_false_iff, decide_eq_true_iff, decide_eq_false_iff_not, Bool.and_eq_false_iff] at ha
  obtain ⟨h1, ⟨h2, h3, h4⟩, h5, h6⟩ := ha
  refine ⟨h1, by omega, by omega, fun x => ?_, h5, h6, hb, fiE_all.1 hf, cdE_all.1 h⟩
  rcases h4 with h4 | h4
  · exact absurd x h4
  · exact List.eq_nil_of_length_eq_zero (by omega)
theorem sbE_of {v : Int} {p : Pk} (h : SbOk v p) : sbE v p = 0 := by
  have ha : sbArg v p = true := by
    unfold sbArg sbFields
    simp only [Bool.and_eq_true, Bool.not_eq_true', Bool.or_eq_false_iff, decide_eq_true_iff, decide_eq_false_iff_not, Bool.and_eq_false_iff]
    refine ⟨h.known, ⟨by have := h.id1; omega, by have := h.id2; omega, ?_⟩, h.have', h.same⟩
    by_cases h4 : v = 4
    · right; rw [h.old h4]; simp
    · exact .inl h4
  unfold sbE
  rw [ha, if_neg (by decide), if_neg (fun x => x h.props), if_neg (fun x => x (fiE_all.2 h.filters))]
  exact cdE_all.2 h.codes
theorem sbAsk_cases {v k : Int} (h : sbKnown v k = true) : (sbAsk k = true ∧ (k = 8 ∨ k = 10)) ∨ (sbAsk k = false ∧ (k = 9 ∨ k = 11)) := by
  have h' := of_decide_eq_true h
  by_cases hk : k = 8 ∨ k = 10
  · exact .inl ⟨decide_eq_true hk, hk⟩
  · exact .inr ⟨decide_eq_false hk, by omega⟩
theorem sb_codes_none {v : Int} {p : Pk} (h : p = sbQ v p) (ha : sbAsk p.kind = true) : p.codes = [] := by
  rw [h]; unfold sbQ; rw [if_pos ha]; rfl
theorem sb_filters_none {v : Int} {p : Pk} (h : p = sbQ v p) (ha : sbAsk p.kind = false) : p.filters = [] := by
  rw [h]; unfold sbQ; rw [if_neg (by rw [ha]; decide)]; split <;> rfl
/-! ### Options -/
theorem low_three {n : Int} (h : sbLow n = true) : n = 0 ∨ n = 1 ∨ n = 2 := by
  unfold sbLow at h; simp at h; omega
theorem opt_all : ∀ (q h : Fin 3) (nl ap : Bool), fiOf ⟨#[]⟩ (optN ⟨⟨#[]⟩, ((q.1 : Nat) : Int), nl, ap, ((h.1 : Nat) : Int)⟩).toNat = ⟨⟨#[]⟩, ((q.1 : Nat) : Int), nl, ap, ((h.1 : Nat) : Int)⟩ := by decide +kernel
theorem opt_old : ∀ q : Fin 3, (optN ⟨⟨#[]⟩, ((q.1 : Nat) : Int), false, false, 0⟩).toNat < 4 := by decide +kernel
theorem low_fin {n : Int} (h : sbLow n = true) : ∃ q : Fin 3, n = ((q.1 : Nat) : Int) := by
  rcases low_three h with h | h | h
  · exact ⟨0, h⟩
  · exact ⟨1, h⟩
  · exact ⟨2, h⟩
theorem opt_read {t : ByteArray} {q h : Int} (hq : sbLow q = true) (hh : sbLow h = true) (nl ap : Bool) : fiOf t (optN ⟨t, q, nl, ap, h⟩).toNat = ⟨t, q, nl, ap, h⟩ := by
  obtain ⟨q, rfl⟩ := low_fin hq
  obtain ⟨h, rfl⟩ := low_fin hh
  have e := opt_all q h nl ap
  have e1 : optN ⟨t, ((q.1 : Nat) : Int), nl, ap, ((h.1 : Nat) : Int)⟩ = optN ⟨⟨#[]⟩, ((q.1 : Nat) : Int), nl, ap, ((h.1 : Nat) : Int)⟩ := rfl
  rw [e1]
  unfold fiOf at e ⊢
  rw [Fi.mk.injEq] at e ⊢
  exact ⟨rfl, e.2⟩
theorem opt_back {v : Int} {f : Fi} (h : optB v 8 f = true) : optBad v (optN f).toNat = false ∧ fiOf f.topic (optN f).toNat = f := by
  unfold optB at h
  rw [if_neg (by decide)] at h
  have hlt := optN_lt f
  obtain ⟨t, q, nl, ap, hd⟩ := f
  by_cases h4 : v = 4
  · rw [if_pos h4] at h
    simp only [Bool.and_eq_true] at h
    obtain ⟨h1, h2⟩ := h
    have h1 := of_decide_eq_true h1
    rw [Fi.mk.injEq] at h1
    obtain ⟨-, -, rfl, rfl, rfl⟩ := h1
    refine ⟨?_, opt_read h2 rfl _ _⟩
    obtain ⟨q, rfl⟩ := low_fin h2
    have e := opt_old q
    have e1 : optN ⟨t, ((q.1 : Nat) : Int), false, false, 0⟩ = optN ⟨⟨#[]⟩, ((q.1 : Nat) : Int), false, false, 0⟩ := rfl
    unfold optBad
    rw [e1]
    simp only [Bool.or_eq_false_iff, Bool.and_eq_false_iff, decide_eq_false_iff_not]
    exact ⟨by omega, .inr (by omega)⟩
  · rw [if_neg h4] at h
    simp only [Bool.and_eq_true] at h
    obtain ⟨h1, h2, -⟩ := h
    refine ⟨?_, opt_read h1 h2 _ _⟩
    unfold optBad
    rw [decide_eq_false h4, decide_eq_false (by omega)]
    rfl
theorem optN_of (t : ByteArray) (n : Nat) (h : n < 64) : optN (fiOf t n) = n := by
  have : ∀ m : Fin 64, optN (fiOf t m.1) = m.1 := by
    intro m
    have e : optN (fiOf t m.1) = optN (fiOf ⟨#[]⟩ m.1) := rfl
    rw [e]
    clear e
    revert m
    decide +kernel
  exact this ⟨n, h⟩
/-! ### Lists, read -/
theorem one_lt {t : ByteArray} {a : Nat} {b : UInt8} {rest : List UInt8} (h : (ls t).drop a = b :: rest) : a < t.size := by
  have hl := congrArg List.length h
  rw [List.length_drop, List.length_cons, ls_len] at hl
  omega
theorem one_num {t : ByteArray} {a : Nat} {b : UInt8} {rest : List UInt8} (h : (ls t).drop a = b :: rest) : numS t a 0 1 = b.toNat := by
  have hlt := one_lt h
  rw [show ((1 : Int)) = ((1 : Nat) : Int) from rfl, num_front (k := 1) (x := [b]) (rest := rest) h rfl (by omega)]
  simp [getL]
theorem drop_one {l r : List UInt8} {a : Nat} {b : UInt8} (h : l.drop a = b :: r) : l.drop (a + 1) = r := by rw [← List.drop_drop, h]; rfl
theorem byte_back {n : Nat} (h : n < 256) : (UInt8.ofNat n).toNat = n := by rw [UInt8.toNat_ofNat']; omega
theorem fiR_front {v k : Int} {t : ByteArray} {a : Nat} {f : Fi} {rest : List UInt8} (ha : a ≤ t.size) (hk : k = 8 ∨ k = 10) (hv : validB f.topic = true) (ho : optB v k f = true) (h : (ls t).drop a = fiL k f ++ rest) :
    fiR v k t a = (f, a + (fiL k f).length, 0) ∧ a + (fiL k f).length ≤ t.size ∧ (ls t).drop (a + (fiL k f).length) = rest := by
  have hl := congrArg List.length h
  rw [List.length_drop, List.length_append, ls_len] at hl
  have hpos : 2 ≤ (fiL k f).length := by unfold fiL; rw [List.length_append, framed_ls, List.length_append, putL_len]; omega
  refine ⟨?_, by omega, by rw [← List.drop_drop, h, drop_two rfl]⟩
  unfold fiL at h
  rw [framed_ls, List.append_assoc, List.append_assoc] at h
  obtain ⟨h1, h2, h3⟩ := txt_front ha hv h
  obtain ⟨g1, g2⟩ := rt_txt ha 0
  have hr : rtC t a 0 = (f.topic, a + 2 + f.topic.size, 0) := by rw [g2 (by rw [h1]), h1]
  have hlen : (fiL k f).length = 2 + f.topic.size + (if k = 8 then 1 else 0) := by
    unfold fiL
    rw [List.length_append, framed_ls, List.length_append, putL_len, ls_len]
    split <;> rfl
  rw [hlen]
  unfold fiR
  rw [hr]
  rcases hk with rfl | rfl
  · rw [if_pos rfl, if_pos rfl]
    rw [if_pos rfl] at h3
    obtain ⟨o1, o2⟩ := opt_back ho
    have hn := optN_lt f
    have hnum : numS t (a + 2 + f.topic.size) 0 1 = (optN f).toNat := by rw [one_num h3, byte_back (by omega)]
    have htk : takeS t (a + 2 + f.topic.size) 0 1 = (t.extract (a + 2 + f.topic.size) (a + 2 + f.topic.size + 1), a + 2 + f.topic.size + 1, 0) := take_yes (k := 1) (one_lt h3)
    unfold opR
    rw [hnum, htk, o1, if_neg (by decide), o2]
    simp only
    rw [show a + 2 + f.topic.size + 1 = a + (2 + f.topic.size + 1) by omega]
  · rw [if_neg (by decide), if_neg (by decide)]
    simp only
    have hp : f = ⟨f.topic, 0, false, false, 0⟩ := by
      unfold optB at ho
      rw [if_pos rfl] at ho
      simp only [Bool.and_eq_true] at ho
      have h1 := of_decide_eq_true ho.1
      have h2 := of_decide_eq_true ho.2
      rw [h2] at h1
      exact h1
    rw [← hp, show a + 2 + f.topic.size = a + (2 + f.topic.size + 0) by omega]
theorem lsR_fi {v k : Int} {t : ByteArray} (hk : k = 8 ∨ k = 10) : ∀ (l : List Fi) (n a : Nat) (fi : List Fi), l.length < n → a ≤ t.size → (∀ f ∈ l, validB f.topic = true ∧ optB v k f = true) → (ls t).drop a = l.flatMap (fiL k) → lsR v k t n a 0 fi [] = (fi ++ l, [], t.size, 0)
  | [], n + 1, a, fi, _, ha, _, h => by
    have hl := congrArg List.length h
    rw [List.length_drop, ls_len] at hl
    simp at hl
    unfold lsR
    rw [if_pos (.inr (by omega)), show a = t.size by omega]
    simp
  | f :: l, n + 1, a, fi, hn, ha, hf, h => by
    rw [List.flatMap_cons] at h
    have hfi := hf f (.head _)
    obtain ⟨h1, h2, h3⟩ := fiR_front ha hk hfi.1 hfi.2 h
    have hpos : 2 ≤ (fiL k f).length := by unfold fiL; rw [List.length_append, framed_ls, List.length_append, putL_len]; omega
    unfold lsR
    rw [if_neg (by omega), if_pos (show sbAsk k = true from decide_eq_true hk), h1]
    simp only
    rw [lsR_fi hk l n _ (fi ++ [f]) (by simp at hn; omega) h2 (fun g hg => hf g (.tail _ hg)) h3]
    simp
theorem lsR_cd {v k : Int} {t : ByteArray} (hk : sbAsk k = false) : ∀ (l : List Int) (n a : Nat) (cd : List Int), l.length < n → a ≤ t.size → (∀ c ∈ l, 0 ≤ c ∧ c < 256) → (ls t).drop a = cdL l → lsR v k t n a 0 [] cd = ([], cd ++ l, t.size, 0)
  | [], n + 1, a, cd, _, ha, _, h => by
    have hl := congrArg List.length h
    rw [List.length_drop, ls_len] at hl
    simp [cdL] at hl
    unfold lsR
    rw [if_pos (.inr (by omega)), show a = t.size by omega]
    simp
  | c :: l, n + 1, a, cd, hn, ha, hf, h => by
    have hc := hf c (.head _)
    have h' : (ls t).drop a = UInt8.ofNat c.toNat :: cdL l := h
    have hlt := one_lt h'
    unfold lsR
    rw [if_neg (by omega), if_neg (by rw [hk]; decide), one_num h', byte_back (by omega)]
    rw [lsR_cd hk l n _ _ (by simp at hn; omega) (by omega) (fun g hg => hf g (.tail _ hg)) (drop_one h')]
    rw [show ((c.toNat : Nat) : Int) = c by omega]
    simp
theorem filter_valid {s : ByteArray} (h : filterB s = true) : validB s = true := by
  unfold filterB textB at h
  simp only [Bool.and_eq_true] at h
  exact h.1.2
theorem ans_range {v k c : Int} (h : ansB v k c = true) : 0 ≤ c ∧ c < 256 := by
  unfold ansB at h
  split at h
  · unfold grantB at h
    simp at h
    omega
  · exact may_range h
theorem fi_length (k : Int) : ∀ l : List Fi, l.length ≤ (l.flatMap (fiL k)).length
  | [] => by simp
  | f :: l => by
    have ih := fi_length k l
    have hpos : 2 ≤ (fiL k f).length := by unfold fiL; rw [List.length_append, framed_ls, List.length_append, putL_len]; omega
    rw [List.flatMap_cons, List.length_append, List.length_cons]
    omega
theorem sbR_front {v : Int} {p : Pk} (x : sbE v p = 0) (hn : ∀ q ∈ p.props, q.n < 4294967296) {s : ByteArray} (hs : ls s = sbS v p) : sbR v p.kind s = (p, 0) := by
  have o := sbE_ok x
  have h0 : (ls s).drop 0 = putL p.id.toNat 2 ++ (tailL8 v p.kind p.props ++ (p.filters.flatMap (fiL p.kind) ++ cdL p.codes)) := by
    rw [List.drop_zero, hs]; unfold sbS sbHead; simp [List.append_assoc]
  have hl := congrArg List.length h0
  rw [List.length_drop, List.length_append, putL_len, ls_len] at hl
  have i1 := o.id1; have i2 := o.id2
  have hnum : numS s 0 0 2 = p.id.toNat := by rw [show ((2 : Int)) = ((2 : Nat) : Int) from rfl, num_front (k := 2) h0 (putL_len _ _) (by omega), get_put2 _ (by omega)]
  have htk : takeS s 0 0 2 = (s.extract 0 2, 2, 0) := take_yes (k := 2) (by omega)
  have h1 : (ls s).drop 2 = tailL8 v p.kind p.props ++ (p.filters.flatMap (fiL p.kind) ++ cdL p.codes) := by
    have := drop_two (r := tailL8 v p.kind p.props ++ (p.filters.flatMap (fiL p.kind) ++ cdL p.codes)) (putL_len p.id.toNat 2)
    rw [← h0, List.drop_zero] at this
    exact this
  obtain ⟨g1, g2, g3⟩ := pr_front (v := v) (k := p.kind) (l := p.props) (by omega) o.old o.props hn h1
  have hpr : sbPr v p.kind s = (p.props, 2 + (tailL8 v p.kind p.props).length, 0) := by
    unfold sbPr; rw [htk]; exact g1
  have hls : sbLs v p.kind s = (p.filters, p.codes, s.size, 0) := by
    unfold sbLs
    rw [hpr]
    simp only
    have hz := congrArg List.length g3
    rw [List.length_drop, List.length_append, ls_len] at hz
    rcases sbAsk_cases o.known with ⟨ha, hk⟩ | ⟨ha, hk⟩
    · have hc := sb_codes_none o.same ha
      rw [hc] at g3 ⊢
      rw [show cdL [] = [] from rfl, List.append_nil] at g3
      have := fi_length p.kind p.filters
      rw [lsR_fi hk p.filters _ _ [] (by omega) g2 (fun f hf => ⟨filter_valid (o.filters f hf).1, (o.filters f hf).2⟩) g3]
      rfl
    · have hc := sb_filters_none o.same ha
      rw [hc] at g3 ⊢
      rw [List.flatMap_nil, List.nil_append] at g3
      have : (cdL p.codes).length = p.codes.length := List.length_map ..
      rw [lsR_cd ha p.codes _ _ [] (by omega) g2 (fun c hc => ans_range (o.codes c hc)) g3]
      rfl
  have hfull : sbFull v p.kind s = p := by
    unfold sbFull
    rw [hnum, hpr, hls]
    unfold sbPk
    simp only
    rw [show ((p.id.toNat : Nat) : Int) = p.id by omega]
    rcases sbAsk_cases o.known with ⟨ha, hk⟩ | ⟨ha, hk⟩
    · have hc := sb_codes_none o.same ha
      have hq := o.same
      unfold sbQ at hq
      rw [if_pos ha] at hq
      rw [hc]
      exact hq.symm
    · have hc := sb_filters_none o.same ha
      have hq := o.same
      unfold sbQ at hq
      rw [if_neg (by rw [ha]; decide)] at hq
      rw [hc]
      by_cases hs : sbSil v p.kind = true
      · rw [if_pos hs] at hq
        have : p.codes = [] := by rw [hq]; rfl
        rw [this]
        exact hq.symm
      · rw [if_neg hs] at hq
        exact hq.symm
  unfold sbR
  rw [if_neg (by rw [o.known]; decide), hls, hfull, x]
  simp
/-! ### Lists, back -/
theorem fiR_back {v k : Int} {t : ByteArray} {a : Nat} (hk : k = 8 ∨ k = 10) (ha : a ≤ t.size) (h : (fiR v k t a).2.2 = 0) :
    a < (fiR v k t a).2.1 ∧ (fiR v k t a).2.1 ≤ t.size ∧ (ls t).drop a = fiL k (fiR v k t a).1 ++ (ls t).drop (fiR v k t a).2.1 := by
  have hT : ∀ (e0 : (rtC t a 0).2.2 = 0), a + 2 ≤ (rtC t a 0).2.1 ∧ (rtC t a 0).2.1 ≤ t.size ∧ (ls t).drop a = ls (framedS (rtC t a 0).1) ++ (ls t).drop (rtC t a 0).2.1 := by
    intro e0
    obtain ⟨g1, g2⟩ := rt_txt ha 0
    rw [g1] at e0
    rw [g2 e0]
    obtain ⟨-, h2, -, -, h5⟩ := txt_ok e0
    rw [framed_ls, List.append_assoc]
    refine ⟨?_, h2, h5⟩
    have hl := congrArg List.length h5
    rw [List.length_drop, List.length_append, List.length_append, putL_len, List.length_drop, ls_len, ls_len] at hl
    omega
  unfold fiR at h ⊢
  rcases hk with rfl | rfl
  · rw [if_pos rfl] at h ⊢
    simp only at h ⊢
    have hb : optBad v (numS t (rtC t a 0).2.1 (rtC t a 0).2.2 1) = false := by
      cases hb : optBad v (numS t (rtC t a 0).2.1 (rtC t a 0).2.2 1)
      · rfl
      · unfold opR at h
        rw [hb, if_pos rfl] at h
        exact (failE_zero h (by decide)).elim
    unfold opR at h ⊢
    rw [hb, if_neg (by decide)] at h
    simp only at h ⊢
    obtain ⟨h1, h2, h3⟩ := take_ok (k := 1) h
    obtain ⟨t1, t2, t3⟩ := hT h1
    rw [h1] at hb ⊢
    have h3' : takeS t (rtC t a 0).2.1 0 1 = _ := h3
    rw [h3']
    simp only
    refine ⟨by omega, h2, ?_⟩
    obtain ⟨b, hb1⟩ : ∃ b, (ls t).drop (rtC t a 0).2.1 = b :: (ls t).drop ((rtC t a 0).2.1 + 1) := ⟨_, List.drop_eq_getElem_cons (by rw [ls_len]; omega)⟩
    have hn := one_num hb1
    have hlt : b.toNat < 64 := by
      rw [hn] at hb
      unfold optBad at hb
      simp only [Bool.or_eq_false_iff, decide_eq_false_iff_not] at hb
      omega
    rw [t3, hb1, hn]
    unfold fiL
    rw [if_pos rfl, optN_of _ _ hlt, Int.toNat_natCast, UInt8.ofNat_toNat, List.append_assoc]
    rfl
  · rw [if_neg (by decide)] at h ⊢
    simp only at h ⊢
    obtain ⟨t1, t2, t3⟩ := hT h
    refine ⟨by omega, t2, ?_⟩
    unfold fiL
    rw [if_neg (by decide), List.append_nil]
    exact t3
theorem lsR_back {v k : Int} {t : ByteArray} (hk : sbKnown v k = true) : ∀ (n a : Nat) (e : Int) (fi : List Fi) (cd : List Int), t.size - a < n → a ≤ t.size → (lsR v k t n a e fi cd).2.2.2 = 0 →
    e = 0 ∧ ∃ l m, (lsR v k t n a e fi cd).1 = fi ++ l ∧ (lsR v k t n a e fi cd).2.1 = cd ++ m ∧ (ls t).drop a = l.flatMap (fiL k) ++ cdL m ∧ (sbAsk k = true → m = []) ∧ (sbAsk k = false → l = [])
  | n + 1, a, e, fi, cd, hn, ha, h => by
    unfold lsR at h ⊢
    by_cases hc : e ≠ 0 ∨ t.size ≤ a
    · rw [if_pos hc] at h ⊢
      simp only at h ⊢
      refine ⟨h, [], [], by simp, by simp, ?_, fun _ => rfl, fun _ => rfl⟩
      have : t.size ≤ a := hc.resolve_left (fun x => x h)
      rw [List.drop_eq_nil_of_le (by rw [ls_len]; omega)]
      rfl
    · rw [if_neg hc] at h ⊢
      have he : e = 0 := Decidable.not_not.1 fun x => hc (.inl x)
      have hlt : a < t.size := Nat.lt_of_not_le fun x => hc (.inr x)
      refine ⟨he, ?_⟩
      rcases sbAsk_cases hk with ⟨hask, hkk⟩ | ⟨hask, hkk⟩
      · rw [if_pos hask] at h ⊢
        by_cases hz : (fiR v k t a).2.2 = 0
        · obtain ⟨f1, f2, f3⟩ := fiR_back hkk ha hz
          obtain ⟨-, l, m, g1, g2, g3, g4, g5⟩ := lsR_back hk n _ _ _ _ (by omega) f2 h
          refine ⟨(fiR v k t a).1 :: l, m, by rw [g1]; simp, g2, ?_, g4, fun x => by rw [hask] at x; cases x⟩
          rw [f3, g3, List.flatMap_cons, List.append_assoc]
        · exfalso
          cases n with
          | zero => omega
          | succ n =>
            unfold lsR at h
            rw [if_pos (.inl hz)] at h
            exact hz h
      · rw [if_neg (by rw [hask]; decide)] at h ⊢
        obtain ⟨-, l, m, g1, g2, g3, g4, g5⟩ := lsR_back hk n _ _ _ _ (by omega) (by omega) h
        obtain ⟨b, hb1⟩ : ∃ b, (ls t).drop a = b :: (ls t).drop (a + 1) := ⟨_, List.drop_eq_getElem_cons (by rw [ls_len]; omega)⟩
        have hl := g5 hask
        subst hl
        refine ⟨[], ((numS t a 0 1 : Nat) : Int) :: m, g1, by rw [g2]; simp, ?_, fun x => (by rw [hask] at x; cases x), fun _ => rfl⟩
        rw [hb1, g3, one_num hb1]
        simp [cdL]
theorem sbR_back {v k : Int} {s : ByteArray} {q : Pk} (h : sbR v k s = (q, 0)) : sbE v q = 0 ∧ sbS v q = ls s ∧ q.kind = k := by
  unfold sbR at h
  cases hk : sbKnown v k
  · rw [hk, if_pos rfl] at h; injection h with _ h; exact absurd h (by decide)
  rw [hk, if_neg (by decide)] at h
  by_cases hl : (sbLs v k s).2.2.2 = 0
  rotate_left
  · rw [if_pos hl] at h; injection h with _ h; exact absurd h hl
  rw [if_neg (fun x => x hl)] at h
  by_cases hv : sbE v (sbFull v k s) = 0
  rotate_left
  · rw [if_pos hv] at h; injection h with _ h; exact absurd h hv
  rw [if_neg (fun x => x hv)] at h
  injection h with h _
  subst h
  refine ⟨hv, ?_, rfl⟩
  have hle : (sbPr v k s).2.1 ≤ s.size := by
    have h0 := takeS_le (t := s) (a := 0) (Nat.zero_le _) 0 2
    unfold sbPr
    exact prp_le8 _ _ _ h0
  unfold sbLs at hl
  obtain ⟨e1, l, m, g1, g2, g3, g4, g5⟩ := lsR_back hk _ _ _ _ _ (by omega) hle hl
  have e1' := e1
  unfold sbPr at e1'
  obtain ⟨p1, p2, p3, p4, p5⟩ := pr_ok (takeS_le (t := s) (a := 0) (Nat.zero_le _) 0 2) e1'
  obtain ⟨t1, t2, t3⟩ := take_ok (k := 2) p1
  have t3' : takeS s 0 0 2 = (s.extract 0 2, 2, 0) := t3
  have hb := num_back2 (t := s) (a := 0) (by omega)
  rw [List.drop_zero] at hb
  unfold sbS sbHead sbFull sbPk
  simp only
  rw [List.append_assoc, List.append_assoc, Int.toNat_natCast, hb]
  congr 1
  have hpr : prpC v k s (takeS s 0 0 2).2.1 (takeS s 0 0 2).2.2 = sbPr v k s := rfl
  rw [hpr] at p5
  rw [show (takeS s 0 0 2).2.1 = 2 by rw [t3']] at p5
  rw [show (0 + 2 : Nat) = 2 from rfl, p5]
  congr 1
  unfold sbLs
  rw [g1, g2, List.nil_append, List.nil_append, g3]
theorem sbR_none {v k : Int} {s : ByteArray} (h : (sbR v k s).2 ≠ 0) : (sbR v k s).1 = pk0 := by
  unfold sbR at h ⊢
  split
  · rfl
  · split
    · rfl
    · split
      · rfl
      · rename_i h1 h2 h3
        rw [if_neg h1, if_neg h2, if_neg h3] at h
        exact absurd rfl h
end Go.Proofs.YtmkkjiogokfnmaaDoor
