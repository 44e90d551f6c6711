/- A part of what the laws stand on: Rtc, MSubP, SubD, SubE, OwnK. -/
import Derived.Test.YtbdgkkmbnahgiaaGreatDoorMsG0FilC
import Derived.Deep.RegionLaw
namespace Go.Proofs.YtbdgkkmbnahgiaaGreatDoor
open Go.RowKit

theorem readB_le (s : ByteArray) : (readB s).2.1 ≤ s.size ∧ (readB s).1.size ≤ 65535 := by
  unfold readB
  split
  · exact ⟨Nat.zero_le _, Nat.zero_le _⟩
  · split
    · exact ⟨Nat.zero_le _, Nat.zero_le _⟩
    · refine ⟨by show 2 + numS s 0 0 2 ≤ s.size; omega, ?_⟩
      rw [ByteArray.size_extract]
      have := num_two_lt s 0 0 (Nat.zero_le _)
      omega
theorem readU_le (s : ByteArray) : (readU s).2.1 ≤ s.size ∧ (readU s).1.size ≤ 65535 := by
  unfold readU
  split
  · exact ⟨Nat.zero_le _, Nat.zero_le _⟩
  · exact readB_le s
/-- A cursor's next data, text, as the reference reads them. -/
def rbC (t : ByteArray) (a : Nat) (e : Int) : ByteArray × Nat × Int := if e ≠ 0 then (⟨#[]⟩, a, e) else ((readB (t.extract a t.size)).1, a + (readB (t.extract a t.size)).2.1, (readB (t.extract a t.size)).2.2)
def rtC (t : ByteArray) (a : Nat) (e : Int) : ByteArray × Nat × Int := if e ≠ 0 then (⟨#[]⟩, a, e) else ((readU (t.extract a t.size)).1, a + (readU (t.extract a t.size)).2.1, (readU (t.extract a t.size)).2.2)
theorem bin_bad {t : ByteArray} {a : Nat} {e : Int} (he : e ≠ 0) : binC t a e = (⟨#[]⟩, a, e) := by
  unfold binC
  rw [takeS_bad he]
  exact takeS_bad he
theorem txt_bad {t : ByteArray} {a : Nat} {e : Int} (he : e ≠ 0) : (txtC t a e).2.2 = e := by
  unfold txtC
  rw [bin_bad he]
  simp only
  split
  · rfl
  · exact if_neg he
theorem rb_bin {t : ByteArray} {a : Nat} (h : a ≤ t.size) (e : Int) : (rbC t a e).2.2 = (binC t a e).2.2 ∧ ((binC t a e).2.2 = 0 → rbC t a e = binC t a e) := by
  by_cases he : e = 0
  rotate_left
  · have h1 : rbC t a e = binC t a e := by rw [bin_bad he]; exact if_pos he
    exact ⟨by rw [h1], fun _ => h1⟩
  subst he
  have hz : (t.extract a t.size).size = t.size - a := by rw [ByteArray.size_extract]; omega
  by_cases h2 : t.size < a + 2
  · have h1 : rbC t a 0 = binC t a 0 := by
      unfold rbC binC
      rw [if_neg (fun x => x rfl), show (2 : Int) = ((2 : Nat) : Int) from rfl, take_no (by omega)]
      simp only
      rw [takeS_bad (by decide)]
      unfold readB
      rw [if_pos (by omega)]
      rfl
    exact ⟨by rw [h1], fun _ => h1⟩
  have hn : numS (t.extract a t.size) 0 0 2 = numS t a 0 2 := by
    unfold numS
    rw [show (2 : Int) = ((2 : Nat) : Int) from rfl, take_yes (t := t.extract a t.size) (by omega), take_yes (t := t) (by omega)]
    simp only
    rw [extract_ls, extract_ls, rest_ls, List.drop_zero]
  have hB : binC t a 0 = takeS t (a + 2) 0 (numS t a 0 2 : Nat) := by
    unfold binC
    rw [show takeS t a 0 2 = (t.extract a (a + 2), a + 2, 0) from take_yes (k := 2) (by omega)]
  have hR : rbC t a 0 = ((readB (t.extract a t.size)).1, a + (readB (t.extract a t.size)).2.1, (readB (t.extract a t.size)).2.2) := if_neg (fun x => x rfl)
  rw [hB, hR]
  unfold readB
  rw [if_neg (by omega), hn]
  generalize numS t a 0 2 = n
  by_cases h3 : t.size < a + 2 + n
  · rw [take_no (by omega), if_pos (by omega)]
    exact ⟨rfl, fun x => by cases x⟩
  · rw [take_yes (by omega), if_neg (by omega)]
    refine ⟨rfl, fun _ => ?_⟩
    have e1 : (t.extract a t.size).extract 2 (2 + n) = t.extract (a + 2) (a + 2 + n) := ls_ext (by
      rw [extract_ls, extract_ls, rest_ls, List.drop_drop])
    simp only
    rw [e1, Nat.add_assoc]
theorem rt_txt {t : ByteArray} {a : Nat} (h : a ≤ t.size) (e : Int) : (rtC t a e).2.2 = (txtC t a e).2.2 ∧ ((txtC t a e).2.2 = 0 → rtC t a e = txtC t a e) := by
  by_cases he : e = 0
  rotate_left
  · have h1 : (rtC t a e).2.2 = e := by rw [show rtC t a e = (⟨#[]⟩, a, e) from if_pos he]
    exact ⟨by rw [h1, txt_bad he], fun x => absurd ((txt_bad he).symm.trans x) he⟩
  subst he
  have hR : rtC t a 0 = ((readU (t.extract a t.size)).1, a + (readU (t.extract a t.size)).2.1, (readU (t.extract a t.size)).2.2) := if_neg (fun x => x rfl)
  have hb : rbC t a 0 = ((readB (t.extract a t.size)).1, a + (readB (t.extract a t.size)).2.1, (readB (t.extract a t.size)).2.2) := if_neg (fun x => x rfl)
  obtain ⟨g1, g2⟩ := rb_bin h 0
  rw [hR]
  by_cases hz : (binC t a 0).2.2 = 0
  · have g3 := g2 hz
    rw [hb] at g3
    have g4 : (readB (t.extract a t.size)).1 = (binC t a 0).1 := by rw [← g3]
    have g5 : (readB (t.extract a t.size)).2.2 = 0 := by rw [← hz, ← g3]
    by_cases hv : validB (binC t a 0).1 = true
    · have hU : readU (t.extract a t.size) = readB (t.extract a t.size) := by
        unfold readU
        rw [if_neg (fun y => by rw [g4, hv] at y; cases y.2)]
      have hT : txtC t a 0 = binC t a 0 := by unfold txtC; rw [if_pos hv]
      rw [hU, hT, ← g3]
      exact ⟨rfl, fun _ => rfl⟩
    · have hU : readU (t.extract a t.size) = (⟨#[]⟩, 0, 6) := by
        unfold readU
        rw [if_pos ⟨g5, by rw [g4]; simpa using hv⟩]
      have hT : (txtC t a 0).2.2 = 6 := by
        unfold txtC
        rw [if_neg hv]
        simp only
        rw [hz]
        rfl
      rw [hU, hT]
      exact ⟨rfl, fun x => by cases x⟩
  · have g5 : (readB (t.extract a t.size)).2.2 = (binC t a 0).2.2 := by rw [← g1, hb]
    have hU : readU (t.extract a t.size) = readB (t.extract a t.size) := by
      unfold readU
      rw [if_neg (fun y => hz (g5.symm.trans y.1))]
    have hT : (txtC t a 0).2.2 = (binC t a 0).2.2 := by
      unfold txtC
      simp only
      split
      · rfl
      · exact if_neg hz
    rw [hU, hT]
    exact ⟨g5, fun x => absurd x hz⟩
theorem readP_at (kind : Int) (s : ByteArray) : (readP kind s).2.1 ≤ s.size := by
  by_cases h : (readP kind s).2.2 = 0
  · exact (readP_back (kind := kind) (s := s) (l := (readP kind s).1) (n := (readP kind s).2.1) (by rw [← h])).2.2
  · rw [readP_bad h]; exact Nat.zero_le _
theorem prp_le8 (v k : Int) {t : ByteArray} {a : Nat} (e : Int) (h : a ≤ t.size) : (prpC v k t a e).2.1 ≤ t.size := by
  unfold prpC
  split
  · exact h
  · have := readP_at k (t.extract a t.size)
    rw [ByteArray.size_extract] at this
    simp only
    omega
end Go.Proofs.YtbdgkkmbnahgiaaGreatDoor

namespace Go.Proofs.YtbdgkkmbnahgiaaGreatDoor
open Go.RowKit

/-- The byte of a filter's options. -/
def optN (f : Fi) : Int := f.qos % 4 + f.handling % 4 * 16 + bitN f.noLocal 4 + bitN f.asPub 8
theorem optN_lt (f : Fi) : 0 ≤ optN f ∧ optN f < 64 := by
  have h : ∀ b n, 0 ≤ n → 0 ≤ bitN b n ∧ bitN b n ≤ n := fun b n hn => by unfold bitN; split <;> omega
  have h1 := h f.noLocal 4 (by decide); have h2 := h f.asPub 8 (by decide)
  unfold optN
  omega
def fiL (k : Int) (f : Fi) : List UInt8 := ls (framedS f.topic) ++ (if k = 8 then [UInt8.ofNat (optN f).toNat] else [])
def cdL (l : List Int) : List UInt8 := l.map fun c => UInt8.ofNat c.toNat
def sbHead (v : Int) (p : Pk) : List UInt8 := putL p.id.toNat 2 ++ tailL8 v p.kind p.props
def sbS (v : Int) (p : Pk) : List UInt8 := sbHead v p ++ p.filters.flatMap (fiL p.kind) ++ cdL p.codes
def sbB (v : Int) (p : Pk) : ByteArray × Int := if sbE v p = 0 then (⟨(sbS v p).toArray⟩, 0) else (⟨#[]⟩, sbE v p)

/-- Bits that a filter's options can't have. -/
def optBad (v : Int) (n : Nat) : Bool := decide (63 < n) || (decide (v = 4) && decide (3 < n))
def fiOf (t : ByteArray) (n : Nat) : Fi := ⟨t, ((n % 4 : Nat) : Int), decide (n / 4 % 2 = 1), decide (n / 8 % 2 = 1), ((n / 16 % 4 : Nat) : Int)⟩
/-- A filter's options, read. -/
def opR (v : Int) (t : ByteArray) (a : Nat) (e : Int) : Nat × Nat × Int :=
  (numS t a e 1, (takeS t a e 1).2.1, if optBad v (numS t a e 1) = true then failE (takeS t a e 1).2.2 7 else (takeS t a e 1).2.2)
/-- A filter, read. -/
def fiR (v k : Int) (t : ByteArray) (a : Nat) : Fi × Nat × Int :=
  if k = 8 then (fiOf (rtC t a 0).1 (opR v t (rtC t a 0).2.1 (rtC t a 0).2.2).1, (opR v t (rtC t a 0).2.1 (rtC t a 0).2.2).2.1, (opR v t (rtC t a 0).2.1 (rtC t a 0).2.2).2.2)
  else (⟨(rtC t a 0).1, 0, false, false, 0⟩, (rtC t a 0).2.1, (rtC t a 0).2.2)
/-- Filters, or codes, as long as there are bytes. -/
def lsR (v k : Int) (t : ByteArray) : Nat → Nat → Int → List Fi → List Int → List Fi × List Int × Nat × Int
  | 0, a, e, fi, cd => (fi, cd, a, e)
  | n + 1, a, e, fi, cd =>
    if e ≠ 0 ∨ t.size ≤ a then (fi, cd, a, e)
    else if sbAsk k = true then lsR v k t n (fiR v k t a).2.1 (fiR v k t a).2.2 (fi ++ [(fiR v k t a).1]) cd
    else lsR v k t n (a + 1) 0 fi (cd ++ [((numS t a 0 1 : Nat) : Int)])
def sbPr (v k : Int) (s : ByteArray) : List Pr × Nat × Int := prpC v k s (takeS s 0 0 2).2.1 (takeS s 0 0 2).2.2
def sbLs (v k : Int) (s : ByteArray) : List Fi × List Int × Nat × Int := lsR v k s (s.size + 1) (sbPr v k s).2.1 (sbPr v k s).2.2 [] []
def sbPk (k : Int) (i : Nat) (l : List Pr) (fi : List Fi) (cd : List Int) : Pk := { pk0 with kind := k, id := (i : Int), props := l, filters := fi, codes := cd }
def sbFull (v k : Int) (s : ByteArray) : Pk := sbPk k (numS s 0 0 2) (sbPr v k s).1 (sbLs v k s).1 (sbLs v k s).2.1
def sbR (v k : Int) (s : ByteArray) : Pk × Int :=
  if sbKnown v k = false then (pk0, 2)
  else if (sbLs v k s).2.2.2 ≠ 0 then (pk0, (sbLs v k s).2.2.2)
  else if sbE v (sbFull v k s) ≠ 0 then (pk0, sbE v (sbFull v k s)) else (sbFull v k s, 0)
end Go.Proofs.YtbdgkkmbnahgiaaGreatDoor

namespace Go.Proofs.YtbdgkkmbnahgiaaGreatDoor
open Go.RowKit

theorem fiE_all {v k : Int} : ∀ {l : List Fi}, fiE v k l = 0 ↔ ∀ f ∈ l, filterB f.topic = true ∧ optB v k f = true
  | [] => by simp [fiE]
  | f :: l => by
    have ih := fiE_all (v := v) (k := k) (l := l)
    unfold fiE
    cases h1 : filterB f.topic
    · simp [h1]
    · cases h2 : optB v k f
      · simp [h1, h2]
      · simp [h1, h2, ih]
theorem cdE_all {v k : Int} : ∀ {l : List Int}, cdE v k l = 0 ↔ ∀ c ∈ l, ansB v k c = true
  | [] => by simp [cdE]
  | c :: l => by
    have ih := cdE_all (v := v) (k := k) (l := l)
    unfold cdE
    cases h1 : ansB v k c
    · simp [h1]
    · simp [h1, ih]
structure SbOk (v : Int) (p : Pk) : Prop where
  known : sbKnown v p.kind = true
  id1 : 1 ≤ p.id
  id2 : p.id ≤ 65535
  old : v = 4 → p.props = []
  have' : sbHave v p = true
  same : p = sbQ v p
  props : (bytesS p.kind p.props).2 = 0
  filters : ∀ f ∈ p.filters, filterB f.topic = true ∧ optB v p.kind f = true
  codes : ∀ c ∈ p.codes, ansB v p.kind c = true
theorem sbE_ok {v : Int} {p : Pk} (h : sbE v p = 0) : SbOk v p := by
  unfold sbE at h
  cases ha : sbArg v p
  · rw [ha, if_pos rfl] at h; exact absurd h (by decide)
  rw [ha, if_neg (by decide)] at h
  by_cases hb : (bytesS p.kind p.props).2 = 0
  rotate_left
  · rw [if_pos hb] at h; exact absurd h hb
  rw [if_neg (fun x => x hb)] at h
  by_cases hf : fiE v p.kind p.filters = 0
  rotate_left
  · rw [if_pos hf] at h; exact absurd h hf
  rw [if_neg (fun x => x hf)] at h
  unfold sbArg sbFields at ha
  simp only [Bool.and_eq_true, Bool.not_eq_true', Bool.or_eq_false_iff, decide_eq_true_iff, decide_eq_false_iff_not, Bool.and_eq_false_iff] at ha
  obtain ⟨h1, ⟨h2, h3, h4⟩, h5, h6⟩ := ha
  refine ⟨h1, by omega, by omega, fun x => ?_, h5, h6, hb, fiE_all.1 hf, cdE_all.1 h⟩
  rcases h4 with h4 | h4
  · exact absurd x h4
  · exact List.eq_nil_of_length_eq_zero (by omega)
theorem sbAsk_cases {v k : Int} (h : sbKnown v k = true) : (sbAsk k = true ∧ (k = 8 ∨ k = 10)) ∨ (sbAsk k = false ∧ (k = 9 ∨ k = 11)) := by
  have h' := of_decide_eq_true h
  by_cases hk : k = 8 ∨ k = 10
  · exact .inl ⟨decide_eq_true hk, hk⟩
  · exact .inr ⟨decide_eq_false hk, by omega⟩
theorem optN_of (t : ByteArray) (n : Nat) (h : n < 64) : optN (fiOf t n) = n := by
  have : ∀ m : Fin 64, optN (fiOf t m.1) = m.1 := by
    intro m
    have e : optN (fiOf t m.1) = optN (fiOf ⟨#[]⟩ m.1) := rfl
    rw [e]
    clear e
    revert m
    decide +kernel
  exact this ⟨n, h⟩
theorem one_lt {t : ByteArray} {a : Nat} {b : UInt8} {rest : List UInt8} (h : (ls t).drop a = b :: rest) : a < t.size := by
  have hl := congrArg List.length h
  rw [List.length_drop, List.length_cons, ls_len] at hl
  omega
theorem one_num {t : ByteArray} {a : Nat} {b : UInt8} {rest : List UInt8} (h : (ls t).drop a = b :: rest) : numS t a 0 1 = b.toNat := by
  have hlt := one_lt h
  rw [show ((1 : Int)) = ((1 : Nat) : Int) from rfl, num_front (k := 1) (x := [b]) (rest := rest) h rfl (by omega)]
  simp [getL]
theorem filter_valid {s : ByteArray} (h : filterB s = true) : validB s = true := by
  unfold filterB textB at h
  simp only [Bool.and_eq_true] at h
  exact h.1.2
theorem ans_range {v k c : Int} (h : ansB v k c = true) : 0 ≤ c ∧ c < 256 := by
  unfold ansB at h
  split at h
  · unfold grantB at h
    simp at h
    omega
  · exact may_range h
theorem fiR_back {v k : Int} {t : ByteArray} {a : Nat} (hk : k = 8 ∨ k = 10) (ha : a ≤ t.size) (h : (fiR v k t a).2.2 = 0) :
    a < (fiR v k t a).2.1 ∧ (fiR v k t a).2.1 ≤ t.size ∧ (ls t).drop a = fiL k (fiR v k t a).1 ++ (ls t).drop (fiR v k t a).2.1 := by
  have hT : ∀ (e0 : (rtC t a 0).2.2 = 0), a + 2 ≤ (rtC t a 0).2.1 ∧ (rtC t a 0).2.1 ≤ t.size ∧ (ls t).drop a = ls (framedS (rtC t a 0).1) ++ (ls t).drop (rtC t a 0).2.1 := by
    intro e0
    obtain ⟨g1, g2⟩ := rt_txt ha 0
    rw [g1] at e0
    rw [g2 e0]
    obtain ⟨-, h2, -, -, h5⟩ := txt_ok e0
    rw [framed_ls, List.append_assoc]
    refine ⟨?_, h2, h5⟩
    have hl := congrArg List.length h5
    rw [List.length_drop, List.length_append, List.length_append, putL_len, List.length_drop, ls_len, ls_len] at hl
    omega
  unfold fiR at h ⊢
  rcases hk with rfl | rfl
  · rw [if_pos rfl] at h ⊢
    simp only at h ⊢
    have hb : optBad v (numS t (rtC t a 0).2.1 (rtC t a 0).2.2 1) = false := by
      cases hb : optBad v (numS t (rtC t a 0).2.1 (rtC t a 0).2.2 1)
      · rfl
      · unfold opR at h
        rw [hb, if_pos rfl] at h
        exact (failE_zero h (by decide)).elim
    unfold opR at h ⊢
    rw [hb, if_neg (by decide)] at h
    simp only at h ⊢
    obtain ⟨h1, h2, h3⟩ := take_ok (k := 1) h
    obtain ⟨t1, t2, t3⟩ := hT h1
    rw [h1] at hb ⊢
    have h3' : takeS t (rtC t a 0).2.1 0 1 = _ := h3
    rw [h3']
    simp only
    refine ⟨by omega, h2, ?_⟩
    obtain ⟨b, hb1⟩ : ∃ b, (ls t).drop (rtC t a 0).2.1 = b :: (ls t).drop ((rtC t a 0).2.1 + 1) := ⟨_, List.drop_eq_getElem_cons (by rw [ls_len]; omega)⟩
    have hn := one_num hb1
    have hlt : b.toNat < 64 := by
      rw [hn] at hb
      unfold optBad at hb
      simp only [Bool.or_eq_false_iff, decide_eq_false_iff_not] at hb
      omega
    rw [t3, hb1, hn]
    unfold fiL
    rw [if_pos rfl, optN_of _ _ hlt, Int.toNat_natCast, UInt8.ofNat_toNat, List.append_assoc]
    rfl
  · rw [if_neg (by decide)] at h ⊢
    simp only at h ⊢
    obtain ⟨t1, t2, t3⟩ := hT h
    refine ⟨by omega, t2, ?_⟩
    unfold fiL
    rw [if_neg (by decide), List.append_nil]
    exact t3
theorem lsR_back {v k : Int} {t : ByteArray} (hk : sbKnown v k = true) : ∀ (n a : Nat) (e : Int) (fi : List Fi) (cd : List Int), t.size - a < n → a ≤ t.size → (lsR v k t n a e fi cd).2.2.2 = 0 →
    e = 0 ∧ ∃ l m, (lsR v k t n a e fi cd).1 = fi ++ l ∧ (lsR v k t n a e fi cd).2.1 = cd ++ m ∧ (ls t).drop a = l.flatMap (fiL k) ++ cdL m ∧ (sbAsk k = true → m = []) ∧ (sbAsk k = false → l = [])
  | n + 1, a, e, fi, cd, hn, ha, h => by
    unfold lsR at h ⊢
    by_cases hc : e ≠ 0 ∨ t.size ≤ a
    · rw [if_pos hc] at h ⊢
      simp only at h ⊢
      refine ⟨h, [], [], by simp, by simp, ?_, fun _ => rfl, fun _ => rfl⟩
      have : t.size ≤ a := hc.resolve_left (fun x => x h)
      rw [List.drop_eq_nil_of_le (by rw [ls_len]; omega)]
      rfl
    · rw [if_neg hc] at h ⊢
      have he : e = 0 := Decidable.not_not.1 fun x => hc (.inl x)
      have hlt : a < t.size := Nat.lt_of_not_le fun x => hc (.inr x)
      refine ⟨he, ?_⟩
      rcases sbAsk_cases hk with ⟨hask, hkk⟩ | ⟨hask, hkk⟩
      · rw [if_pos hask] at h ⊢
        by_cases hz : (fiR v k t a).2.2 = 0
        · obtain ⟨f1, f2, f3⟩ := fiR_back hkk ha hz
          obtain ⟨-, l, m, g1, g2, g3, g4, g5⟩ := lsR_back hk n _ _ _ _ (by omega) f2 h
          refine ⟨(fiR v k t a).1 :: l, m, by rw [g1]; simp, g2, ?_, g4, fun x => by rw [hask] at x; cases x⟩
          rw [f3, g3, List.flatMap_cons, List.append_assoc]
        · exfalso
          cases n with
          | zero => omega
          | succ n =>
            unfold lsR at h
            rw [if_pos (.inl hz)] at h
            exact hz h
      · rw [if_neg (by rw [hask]; decide)] at h ⊢
        obtain ⟨-, l, m, g1, g2, g3, g4, g5⟩ := lsR_back hk n _ _ _ _ (by omega) (by omega) h
        obtain ⟨b, hb1⟩ : ∃ b, (ls t).drop a = b :: (ls t).drop (a + 1) := ⟨_, List.drop_eq_getElem_cons (by rw [ls_len]; omega)⟩
        have hl := g5 hask
        subst hl
        refine ⟨[], ((numS t a 0 1 : Nat) : Int) :: m, g1, by rw [g2]; simp, ?_, fun x => (by rw [hask] at x; cases x), fun _ => rfl⟩
        rw [hb1, g3, one_num hb1]
        simp [cdL]
theorem sbR_back {v k : Int} {s : ByteArray} {q : Pk} (h : sbR v k s = (q, 0)) : sbE v q = 0 ∧ sbS v q = ls s ∧ q.kind = k := by
  unfold sbR at h
  cases hk : sbKnown v k
  · rw [hk, if_pos rfl] at h; injection h with _ h; exact absurd h (by decide)
  rw [hk, if_neg (by decide)] at h
  by_cases hl : (sbLs v k s).2.2.2 = 0
  rotate_left
  · rw [if_pos hl] at h; injection h with _ h; exact absurd h hl
  rw [if_neg (fun x => x hl)] at h
  by_cases hv : sbE v (sbFull v k s) = 0
  rotate_left
  · rw [if_pos hv] at h; injection h with _ h; exact absurd h hv
  rw [if_neg (fun x => x hv)] at h
  injection h with h _
  subst h
  refine ⟨hv, ?_, rfl⟩
  have hle : (sbPr v k s).2.1 ≤ s.size := by
    have h0 := takeS_le (t := s) (a := 0) (Nat.zero_le _) 0 2
    unfold sbPr
    exact prp_le8 _ _ _ h0
  unfold sbLs at hl
  obtain ⟨e1, l, m, g1, g2, g3, g4, g5⟩ := lsR_back hk _ _ _ _ _ (by omega) hle hl
  have e1' := e1
  unfold sbPr at e1'
  obtain ⟨p1, p2, p3, p4, p5⟩ := pr_ok (takeS_le (t := s) (a := 0) (Nat.zero_le _) 0 2) e1'
  obtain ⟨t1, t2, t3⟩ := take_ok (k := 2) p1
  have t3' : takeS s 0 0 2 = (s.extract 0 2, 2, 0) := t3
  have hb := num_back2 (t := s) (a := 0) (by omega)
  rw [List.drop_zero] at hb
  unfold sbS sbHead sbFull sbPk
  simp only
  rw [List.append_assoc, List.append_assoc, Int.toNat_natCast, hb]
  congr 1
  have hpr : prpC v k s (takeS s 0 0 2).2.1 (takeS s 0 0 2).2.2 = sbPr v k s := rfl
  rw [hpr] at p5
  rw [show (takeS s 0 0 2).2.1 = 2 by rw [t3']] at p5
  rw [show (0 + 2 : Nat) = 2 from rfl, p5]
  congr 1
  unfold sbLs
  rw [g1, g2, List.nil_append, List.nil_append, g3]
end Go.Proofs.YtbdgkkmbnahgiaaGreatDoor

namespace Go.Proofs.YtbdgkkmbnahgiaaGreatDoor
open Go.RowKit
attribute [local go_sem ↓] to_ldPk to_bxPk to_bdPk to_alPk to_stPk
attribute [local go_sem] run_bxPk run_bxPk_agg ld_fresh run_alPk run_bd0 run_bdK run_bdKI run_bdKIC run_bdKC run_bdKICP run_stPk_fresh pkC_0 pkC_1 pkC_2 pkC_3 pkC_4 pkC_5 pkC_6 pkC_7 pkC_8 pkC_9 pkC_10 pkC_11 pkC_12 pkC_13 pkC_14 pkC_15 pkC_16 pkC_17 pkC_18 pkC_19 pkC_20 pkC_21 pkC_22 pkC_23 pkC_24
theorem and3 (q : Int) : bits BinOp.and IntKind.i64 q 3 = q % 4 := by
  show IntKind.i64.wrap ((BitVec.ofInt 64 q &&& BitVec.ofInt 64 3).toNat : Int) = _
  rw [BitVec.toNat_and, show (BitVec.ofInt 64 3).toNat = 2 ^ 2 - 1 from rfl, Nat.and_two_pow_sub_one_eq_mod, BitVec.toNat_ofInt, IntKind.wrap_i64]
  omega
theorem or_none : ∀ a b : Fin 4, bits BinOp.or IntKind.i64 ((a.1 : Nat) : Int) (((b.1 : Nat) : Int) * 16) = ((a.1 : Nat) : Int) + ((b.1 : Nat) : Int) * 16 := by decide +kernel
theorem or_four : ∀ a b : Fin 4, bits BinOp.or IntKind.i64 (((a.1 : Nat) : Int) + ((b.1 : Nat) : Int) * 16) 4 = ((a.1 : Nat) : Int) + ((b.1 : Nat) : Int) * 16 + 4 := by decide +kernel
theorem or_eight : ∀ a b : Fin 4, bits BinOp.or IntKind.i64 (((a.1 : Nat) : Int) + ((b.1 : Nat) : Int) * 16) 8 = ((a.1 : Nat) : Int) + ((b.1 : Nat) : Int) * 16 + 8 := by decide +kernel
theorem or_both : ∀ a b : Fin 4, bits BinOp.or IntKind.i64 (((a.1 : Nat) : Int) + ((b.1 : Nat) : Int) * 16 + 4) 8 = ((a.1 : Nat) : Int) + ((b.1 : Nat) : Int) * 16 + 12 := by decide +kernel
theorem opt_ors (f : Fi) : ∃ A B : Int, f.qos % 4 = A ∧ f.handling % 4 = B ∧ bits BinOp.or IntKind.i64 A (B * 16) = A + B * 16 ∧ bits BinOp.or IntKind.i64 (A + B * 16) 4 = A + B * 16 + 4 ∧ bits BinOp.or IntKind.i64 (A + B * 16) 8 = A + B * 16 + 8 ∧
    bits BinOp.or IntKind.i64 (A + B * 16 + 4) 8 = A + B * 16 + 12 := by
  obtain ⟨a, ha⟩ : ∃ a : Fin 4, f.qos % 4 = ((a.1 : Nat) : Int) := ⟨⟨(f.qos % 4).toNat, by omega⟩, by simp only; omega⟩
  obtain ⟨b, hb⟩ : ∃ b : Fin 4, f.handling % 4 = ((b.1 : Nat) : Int) := ⟨⟨(f.handling % 4).toNat, by omega⟩, by simp only; omega⟩
  exact ⟨_, _, ha, hb, or_none a b, or_four a b, or_eight a b, or_both a b⟩
set_option maxHeartbeats 2000000 in
set_option maxRecDepth 10000 in
theorem optN_any (f : Fi) (w : World) :
    Calls Tryz.prog 15 #[.agg #[.string f.topic, .int .i64 f.qos, .bool f.noLocal, .bool f.asPub, .int .i64 f.handling]] w fun e w' => e = .returned (.int .i64 (optN f)) ∧ Below w.heap.size w w' := by
  obtain ⟨A, B, hA, hB, o1, o2, o3, o4⟩ := opt_ors f
  have HO : Hid (optN f = A + B * 16 + bitN f.noLocal 4 + bitN f.asPub 8) := Lib.hid (by unfold optN; rw [hA, hB])
  have a1 := and3 f.qos
  have a2 := and3 f.handling
  have m2 : 0 ≤ B ∧ B < 4 := by omega
  rw [hA] at a1
  rw [hB] at a2
  have O1 := Lib.hid o1; have O2 := Lib.hid o2; have O3 := Lib.hid o3; have O4 := Lib.hid o4
  clear hA hB o1 o2 o3 o4
  obtain ⟨t, q, nl, ap, hd⟩ := f
  simp only at HO a1 a2 ⊢
  generalize optN ⟨t, q, nl, ap, hd⟩ = R at *
  have HB0 := Lib.hid ((Below.refl w.heap.size w).alloc (Nat.le_refl _) (.cells #[.string t, .int .i64 q, .bool nl, .bool ap, .int .i64 hd] 32))
  cases nl <;> cases ap
  all_goals
    go_enter Tryz.func15, Tryz.ntmps15
    go_wp2
    go_ret
    refine ⟨?_, HB0.out⟩
    have e := HO.out
    simp only [bitN, if_true, if_false, Bool.false_eq_true, Int.add_zero] at e
    rw [e]
    have p1 := O1.out; have p2 := O2.out; have p3 := O3.out; have p4 := O4.out
    show Ending.returned (Value.int .i64 _) = _
    first
    | rw [p1, p2, p4]; congr 2; omega
    | rw [p1, p2]
    | rw [p1, p3]
    | rw [p1]
theorem sbS_part {v : Int} {p : Pk} (k : Nat) : (sbHead v p ++ (p.filters.take k).flatMap (fiL p.kind)).length ≤ (sbS v p).length := by
  unfold sbS
  have : (p.filters.flatMap (fiL p.kind)).length = ((p.filters.take k).flatMap (fiL p.kind)).length + ((p.filters.drop k).flatMap (fiL p.kind)).length := by
    rw [← List.length_append, ← List.flatMap_append, List.take_append_drop]
  rw [List.length_append, List.length_append, List.length_append]
  omega
theorem sbS_part2 {v : Int} {p : Pk} (k : Nat) : (sbHead v p ++ p.filters.flatMap (fiL p.kind) ++ cdL (p.codes.take k)).length ≤ (sbS v p).length := by
  unfold sbS cdL
  simp only [List.length_append, List.length_map, List.length_take]
  omega
theorem fi_next {k : Int} {l : List Fi} {i : Nat} {f : Fi} (hf : l[i]? = some f) : (l.take (i + 1)).flatMap (fiL k) = (l.take i).flatMap (fiL k) ++ fiL k f := by
  rw [List.take_add_one, hf, List.flatMap_append]
  simp
theorem cd_next {l : List Int} {i : Nat} {c : Int} (hc : l[i]? = some c) : cdL (l.take (i + 1)) = cdL (l.take i) ++ [UInt8.ofNat c.toNat] := by
  unfold cdL
  rw [List.take_add_one, hc, List.map_append]
  simp
theorem byte_of {c : Int} (h : 0 ≤ c ∧ c < 256) : ∃ b : UInt8, UInt8.ofNat c.toNat = b ∧ c = (b.toNat : Int) := ⟨_, rfl, by rw [UInt8.toNat_ofNat']; omega⟩
theorem OB_keeps {w w' : World} {r : Option Nat} {g : Nat} {t : TypeId} {cs : Array Value} (hg : w.grownBy w' r) (h : Bk w g t cs) (hne : r ≠ some g) : Bk w' g t cs :=
  (hg.block g h.lt (by first | exact hne | exact hne.symm)).trans h
set_option maxHeartbeats 8000000 in
set_option maxRecDepth 10000 in
theorem sbBody_any (v : Int) (p : Pk) (h : Hs) (w : World) (ip : PkIn w w.heap.size p h) (ok : PkOk p) (hz : (sbS v p).length ≤ 140737488351232) :
    Calls Tryz.prog 12 #[.int .i64 v, pkV p h] w fun e w' => e = .returned (.tuple #[.string (sbB v p).1, .int .i64 (sbB v p).2]) ∧ Below w.heap.size w w' := by
  have OK := Lib.hid ok
  have HZ := Lib.hid hz
  have S0 := Lib.hid ((St.start w).push ip)
  have HE : Hid (sbB v p = if sbE v p = 0 then (⟨(sbS v p).toArray⟩, 0) else (⟨#[]⟩, sbE v p)) := Lib.hid rfl
  have l0 := S0.out.ld 0 rfl
  clear ip ok hz
  go_enter Tryz.func12, Tryz.ntmps12
  go_wp2_with fail
  refine (sbValid_any v p h _ (S0.out.into 0 rfl) OK.out).mono ?_
  rintro e w1 ⟨rfl, hb⟩
  have S1 := Lib.hid (S0.out.below hb); clear hb l0
  by_cases he : sbE v p = 0
  rotate_left
  · have HX : Hid (sbB v p = (⟨#[]⟩, sbE v p)) := Lib.hid (by rw [HE.out, if_neg he])
    have e0 : (sbE v p != 0) = true := bne_iff_ne.2 he
    clear he
    go_wp2
    go_ret2
    exact ⟨by rw [HX.out]; rfl, S1.out.kept⟩
  have HX : Hid (sbB v p = (⟨(sbS v p).toArray⟩, 0)) := Lib.hid (by rw [HE.out, if_pos he])
  have G := Lib.hid (sbE_ok he)
  have e0 : (sbE v p != 0) = false := by rw [he]; rfl
  clear he HE
  have k4 := (S1.out.cell 0 rfl 4).trans (pkC_4 _ _)
  obtain ⟨n, hn, hw1⟩ : ∃ n : Nat, Hid (p.id.toNat = n) ∧ IntKind.u64.wrap p.id = (n : Int) := ⟨_, Lib.hid rfl, by rw [IntKind.wrap_u64]; have := G.out.id1; have := G.out.id2; omega⟩
  go_wp2_with fail
  refine (put_any n 2 _ (by have := hn.out; have := G.out.id2; have := G.out.id1; omega) (by omega) (by omega)).mono ?_
  rintro e w2 ⟨rfl, hb⟩
  have S2 := Lib.hid (S1.out.below hb)
  clear hb k4 hw1 e0
  obtain ⟨v3, w3, hcv, ho3, hb3⟩ := ob_conv (P := Tryz.prog) w2 9 80 5 ⟨(putL n 2).toArray⟩ Tryz.underlying9 Tryz.underlying80 Tryz.underlying5
  rw [ls_mk] at ho3
  have O3 := Lib.hid ho3; have B3 := Lib.hid hb3
  have S3 := Lib.hid (S2.out.below hb3)
  clear ho3 hb3
  have k0 := (S3.out.cell 0 rfl 0).trans (pkC_0 _ _)
  have k24 := (S3.out.cell 0 rfl 24).trans (pkC_24 _ _)
  have HHD : Hid (sbHead v p = putL n 2 ++ tailL8 v p.kind p.props) := Lib.hid (by unfold sbHead; rw [hn.out])
  go_upto_if 28 with fail
  go_cut [7] (fun a wx => OB wx w2.heap.size a (sbHead v p) ∧ Below w2.heap.size w2 wx)
  case first =>
    by_cases h5 : v = 5
    · have e5 : (v == 5) = true := beq_iff_eq.2 h5
      have HT : Hid (sbHead v p = putL n 2 ++ (bytesS p.kind p.props).1) := Lib.hid (by rw [HHD.out]; unfold tailL8; rw [if_neg (by omega)])
      clear h5
      go_wp2_with fail
      refine (bytesP_n p.kind p.props _ rfl OK.out.props h.props.a h.props.c _ (S3.out.into 0 rfl).props OK.out.len.2.2.2).mono ?_
      rintro e w4 ⟨rfl, hb⟩
      have O4 := Lib.hid (O3.out.below hb)
      have B4 := Lib.hid (B3.out.trans (hb.mono B3.out.size))
      have hlen : (bytesS p.kind p.props).1.length ≤ 140737488351232 := by
        have h1 := sbS_part (v := v) (p := p) 0
        have h2 := HZ.out
        rw [List.length_append, HT.out, List.length_append] at h1
        omega
      have HLEN := Lib.hid hlen
      clear hb hlen k0 k24
      go_wp2_with (at_builtin; refine wpList_obS _ rfl (.tmp 37) (.tmp 38) 80 9 rfl w2.heap.size 5 Tryz.underlying80 Tryz.underlying9 info_byte v3 _ rfl O4.out _ rfl (by rw [putL_len, ← ls_len, ls_mk]; have := HLEN.out; omega) B4.out.size ?_; intro v' w5 hob hg)
      have R : OB w5 w2.heap.size v' (sbHead v p) ∧ Below w2.heap.size w2 w5 := by
        refine ⟨?_, below_app B4.out hg B4.out.size (fun g hg' => (O4.out.block g hg').1)⟩
        rw [HT.out]
        rw [ls_mk] at hob
        exact hob
      clear hob hg
      go_wp2
      go_meet
      case rel => exact R
    · have e5 : (v == 5) = false := beq_eq_false_iff_ne.2 h5
      have HT : Hid (sbHead v p = putL n 2) := Lib.hid (by
        have := of_decide_eq_true (show decide ((v = 4 ∨ v = 5) ∧ 8 ≤ p.kind ∧ p.kind ≤ 11) = true from G.out.known)
        rw [HHD.out]; unfold tailL8; rw [if_pos (by omega), List.append_nil])
      clear h5
      go_wp2
      go_meet
      case rel => exact ⟨by rw [HT.out]; exact O3.out, B3.out⟩
  obtain ⟨ho4, hb4⟩ := hcut
  have O4 := Lib.hid ho4; have B4 := Lib.hid hb4
  have S4 := Lib.hid (S2.out.below hb4)
  clear ho4 hb4 k0 k24 hcv
  have HFL := Lib.hid OK.out.len.2.2.1
  have HCL := Lib.hid OK.out.len.2.1
  obtain ⟨N, hN⟩ : ∃ n, p.filters.length = n := ⟨_, rfl⟩
  obtain ⟨M, hM⟩ : ∃ m, p.codes.length = m := ⟨_, rfl⟩
  have k23 := S4.out.cell 0 rfl 23
  rw [pkC_23, hN] at k23
  have HN := Lib.hid hN; have HM := Lib.hid hM
  have hn2 : N ≤ 4611686018427387904 := by have := HFL.out; omega
  have hm2 : M ≤ 4611686018427387904 := by have := HCL.out; omega
  clear hN hM
  go_wp2
  go_loopw [7, 43] (fun o i wr => ∃ k : Nat, k ≤ N ∧ i = .int .i64 k ∧ OB wr w2.heap.size o (sbHead v p ++ (p.filters.take k).flatMap (fiL p.kind)) ∧ Below w2.heap.size w2 wr) (fun _ i _ => N - (intOf i).toNat)
  case atStart => exact ⟨0, by omega, rfl, by rw [List.take_zero, List.flatMap_nil, List.append_nil]; exact O4.out, B4.out⟩
  case round =>
    obtain ⟨k, hk, rfl, hob, hbel⟩ := hrel
    have S5 := Lib.hid (S2.out.below hbel)
    have O5 := Lib.hid hob; have B5 := Lib.hid hbel
    clear hob hbel k23
    have kk := (S5.out.cell 0 rfl 0).trans (pkC_0 _ _)
    have k22 := S5.out.cell 0 rfl 22
    rw [pkC_22, HM.out] at k22
    by_cases hlt : k < N
    · have hp : k < p.filters.length := by rw [HN.out]; exact hlt
      obtain ⟨b, o, hA, hb, c0, c1, c2, c3, c4⟩ := ((S5.out.into 0 rfl).filters).atF hp
      have hts := OK.out.topics p.filters[k] (List.getElem_mem hp)
      have hok := G.out.filters p.filters[k] (List.getElem_mem hp)
      have HNX := Lib.hid (fi_next (k := p.kind) (List.getElem?_eq_getElem hp))
      have HPT := Lib.hid (sbS_part (v := v) (p := p) (k + 1))
      generalize p.filters[k] = f at *
      have HTS := Lib.hid hts
      have HV := Lib.hid (filter_valid hok.1)
      have HTX : Hid (textUS f.topic = (framedS f.topic, 0)) := Lib.hid (by unfold textUS; rw [if_pos HV.out])
      rw [HNX.out, ← List.append_assoc] at HPT
      have HL5 : Hid ((sbHead v p ++ (p.filters.take k).flatMap (fiL p.kind)).length + (fiL p.kind f).length ≤ 140737488351232) := Lib.hid (by
        have := HPT.out; have := HZ.out; rw [List.length_append] at *; rw [List.length_append] at *; omega)
      have b1 : (0 : Int) ≤ (k : Int) := by omega
      have b2 : (k : Int) < (N : Int) := by omega
      clear hp hts hok
      obtain ⟨L, hL⟩ : ∃ L, sbHead v p ++ (p.filters.take k).flatMap (fiL p.kind) = L := ⟨_, rfl⟩
      rw [hL] at HL5 O5
      have HLQ := Lib.hid hL
      clear hL HPT
      have S6 := Lib.hid (S5.out.alloc (.cells #[.string f.topic, .int .i64 f.qos, .bool f.noLocal, .bool f.asPub, .int .i64 f.handling] 32))
      have B6 := Lib.hid (B5.out.alloc B5.out.size (.cells #[.string f.topic, .int .i64 f.qos, .bool f.noLocal, .bool f.asPub, .int .i64 f.handling] 32))
      have O6 := Lib.hid (O5.out.alloc (.cells #[.string f.topic, .int .i64 f.qos, .bool f.noLocal, .bool f.asPub, .int .i64 f.handling] 32))
      have K6 := Lib.hid (Bk.fresh wr 32 #[.string f.topic, .int .i64 f.qos, .bool f.noLocal, .bool f.asPub, .int .i64 f.handling])
      go_wp2_with fail
      refine (textU_any f.topic _ (by have := HTS.out; omega)).mono ?_
      rintro e w6 ⟨rfl, hb6⟩
      have S7 := Lib.hid (S6.out.below hb6)
      have B7 := Lib.hid (B6.out.trans (hb6.mono B6.out.size))
      have O7 := Lib.hid (O6.out.below hb6)
      have K7 := Lib.hid (K6.out.below hb6 K6.out.lt)
      clear hb6 kk k22 c0 c1 c2 c3 c4
      rw [HTX.out]
      simp only
      have HFZ : Hid (L.length + (framedS f.topic).size ≤ 140737488351232) := Lib.hid (by
        have := HL5.out; unfold fiL at this; rw [List.length_append, ls_len] at this; omega)
      have HNE : Hid (u7.ownBlock ≠ some wr.heap.size) := Lib.hid (by
        obtain ⟨g, cap, hv, h1, h2, -⟩ := O5.out
        rw [hv]
        intro e
        have : g = wr.heap.size := Option.some.inj e
        omega)
      by_cases h8 : p.kind = 8
      · have e8 : (p.kind == 8) = true := beq_iff_eq.2 h8
        obtain ⟨y, hy, hyn⟩ := byte_of (c := optN f) (by have := optN_lt f; omega)
        have HFI : Hid (fiL p.kind f = ls (framedS f.topic) ++ [y]) := Lib.hid (by unfold fiL; rw [if_pos h8, hy])
        have hwb : IntKind.u8.wrap (y.toNat : Int) = (y.toNat : Int) := by have := y.toNat_lt; rw [IntKind.wrap_u8]; omega
        have HYN := Lib.hid hyn
        clear h8 hy hyn
        go_wp2_with (at_builtin; refine wpList_obS _ rfl (.tmp 53) (.tmp 54) 80 9 rfl w2.heap.size 5 Tryz.underlying80 Tryz.underlying9 info_byte u7 _ rfl O7.out _ rfl (by have := HFZ.out; omega) B7.out.size ?_; intro v' w8 hob hg; have B8 := Lib.hid (below_app B7.out hg B7.out.size (fun g hg' => (O7.out.block g hg').1)); have O8 := Lib.hid hob; have S8 := Lib.hid (S2.out.below B8.out); have K8 : Hid (Bk w8 wr.heap.size 32 #[.string f.topic, .int .i64 f.qos, .bool f.noLocal, .bool f.asPub, .int .i64 f.handling]) := Lib.hid (OB_keeps hg K7.out HNE.out); clear hob hg; have kk := (S8.out.cell 0 rfl 0).trans (pkC_0 _ _); have c0 := K8.out.cell 0; have c1 := K8.out.cell 1; have c2 := K8.out.cell 2; have c3 := K8.out.cell 3; have c4 := K8.out.cell 4; simp only [List.getElem?_toArray, List.getElem?_cons_succ, List.getElem?_cons_zero] at c0 c1 c2 c3 c4)
        refine (optN_any f _).mono ?_
        rintro e w9 ⟨rfl, hb9⟩
        have S9 := Lib.hid (S8.out.below hb9)
        have B9 := Lib.hid (B8.out.trans (hb9.mono B8.out.size))
        have O9 := Lib.hid (O8.out.below hb9)
        clear hb9 kk c0 c1 c2 c3 c4
        rw [HYN.out]
        go_wp2_with (at_builtin; refine wpList_obR _ rfl (.tmp 59) (.tmp 63) 80 rfl w2.heap.size 5 Tryz.underlying80 info_byte v' _ rfl (O9.out.alloc _) _ _ 1 [y] rfl (Rd.lit _ _ _ rfl (Nat.lt_succ_self _) rfl) (by have := HL5.out; rw [HFI.out, List.length_append] at this; rw [List.length_append]; omega) (B9.out.alloc B9.out.size _).size ?_; intro v'' w10 hob hg)
        have R : OB w10 w2.heap.size v'' (L ++ fiL p.kind f) ∧ Below w2.heap.size w2 w10 := by
          refine ⟨?_, below_app (B9.out.alloc B9.out.size _) hg (B9.out.alloc B9.out.size _).size (fun g hg' => (O9.out.block g hg').1)⟩
          rw [HFI.out, ← List.append_assoc]
          exact hob
        have RR := Lib.hid R
        clear hob hg R
        go_wp2
        go_roundw
        case rel =>
          simp only [hA]
          (repeat apply Exists.intro)
          refine ⟨?_, rfl⟩
          exact ⟨k + 1, by omega, by go_num, by rw [HNX.out, ← List.append_assoc, HLQ.out]; exact RR.out.1, RR.out.2⟩
        case measure => simp [intOf]; omega
      · have e8 : (p.kind == 8) = false := beq_eq_false_iff_ne.2 h8
        have HFI : Hid (fiL p.kind f = ls (framedS f.topic)) := Lib.hid (by unfold fiL; rw [if_neg h8, List.append_nil])
        clear h8
        go_wp2_with (at_builtin; refine wpList_obS _ rfl (.tmp 53) (.tmp 54) 80 9 rfl w2.heap.size 5 Tryz.underlying80 Tryz.underlying9 info_byte u7 _ rfl O7.out _ rfl (by have := HFZ.out; omega) B7.out.size ?_; intro v' w8 hob hg; have B8 := Lib.hid (below_app B7.out hg B7.out.size (fun g hg' => (O7.out.block g hg').1)); have O8 := Lib.hid hob; have S8 := Lib.hid (S2.out.below B8.out); clear hob hg; have kk := (S8.out.cell 0 rfl 0).trans (pkC_0 _ _))
        go_roundw
        case rel =>
          simp only [hA]
          (repeat apply Exists.intro)
          refine ⟨?_, rfl⟩
          exact ⟨k + 1, by omega, by go_num, by rw [HNX.out, ← List.append_assoc, HLQ.out, HFI.out]; exact O8.out, B8.out⟩
        case measure => simp [intOf]; omega
    · obtain rfl : k = N := by omega
      have O6 : Hid (OB wr w2.heap.size u7 (sbHead v p ++ p.filters.flatMap (fiL p.kind))) := Lib.hid (by
        have := O5.out
        rw [← HN.out, List.take_length] at this
        exact this)
      clear O5
      go_wp2
      go_loopw [7, 69] (fun o i wq => ∃ j : Nat, j ≤ M ∧ i = .int .i64 j ∧ OB wq w2.heap.size o (sbHead v p ++ p.filters.flatMap (fiL p.kind) ++ cdL (p.codes.take j)) ∧ Below w2.heap.size w2 wq) (fun _ i _ => M - (intOf i).toNat)
      case atStart => exact ⟨0, by omega, rfl, by rw [List.take_zero]; show OB _ _ _ (_ ++ []); rw [List.append_nil]; exact O6.out, B5.out⟩
      case round =>
        obtain ⟨j, hj, rfl, hob, hbq⟩ := hrel
        have S6 := Lib.hid (S2.out.below hbq)
        have O7 := Lib.hid hob; have B7 := Lib.hid hbq
        clear hob hbq kk k22
        by_cases hlt2 : j < M
        · have hp : j < p.codes.length := by rw [HM.out]; exact hlt2
          obtain ⟨b, o, z, hA, hb, hzz, hc⟩ := ((S6.out.into 0 rfl).codes).atI hp
          have hans := ans_range (G.out.codes z (List.mem_of_getElem? hzz))
          have HNX := Lib.hid (cd_next hzz)
          have HPT := Lib.hid (sbS_part2 (v := v) (p := p) (j + 1))
          obtain ⟨y, hy, hyn⟩ := byte_of hans
          rw [hy] at HNX
          have HYN := Lib.hid hyn
          rw [HNX.out, ← List.append_assoc] at HPT
          have hwb : IntKind.u8.wrap (y.toNat : Int) = (y.toNat : Int) := by have := y.toNat_lt; rw [IntKind.wrap_u8]; omega
          rw [hyn] at hc
          have b1 : (0 : Int) ≤ (j : Int) := by omega
          have b2 : (j : Int) < (M : Int) := by omega
          clear hp hzz hans hy hyn
          obtain ⟨L, hL⟩ : ∃ L, sbHead v p ++ p.filters.flatMap (fiL p.kind) ++ cdL (p.codes.take j) = L := ⟨_, rfl⟩
          rw [hL] at HPT O7
          have HLQ := Lib.hid hL
          clear hL
          go_wp2_with (at_builtin; refine wpList_obR _ rfl (.tmp 73) (.tmp 76) 80 rfl w2.heap.size 5 Tryz.underlying80 info_byte u7 _ rfl (O7.out.alloc _) _ _ 1 [y] rfl (Rd.lit _ _ _ rfl (Nat.lt_succ_self _) rfl) (by have := HPT.out; have := HZ.out; rw [List.length_append] at *; omega) (B7.out.alloc B7.out.size _).size ?_; intro v'' w10 hob hg)
          have R : OB w10 w2.heap.size v'' (L ++ [y]) ∧ Below w2.heap.size w2 w10 :=
            ⟨hob, below_app (B7.out.alloc B7.out.size _) hg (B7.out.alloc B7.out.size _).size (fun g hg' => (O7.out.block g hg').1)⟩
          have RR := Lib.hid R
          clear hob hg R
          go_wp2
          go_roundw
          case rel =>
            simp only [hA]
            (repeat apply Exists.intro)
            refine ⟨?_, rfl⟩
            exact ⟨j + 1, by omega, by go_num, by rw [HNX.out, ← List.append_assoc, HLQ.out]; exact RR.out.1, RR.out.2⟩
          case measure => simp [intOf]; omega
        · obtain rfl : j = M := by omega
          have O8 : Hid (OB wr w2.heap.size u7 (sbS v p)) := Lib.hid (by
            have := O7.out
            rw [← HM.out, List.take_length] at this
            exact this)
          obtain ⟨A, c, rfl, hrd⟩ := O8.out.rd
          have hcv := conv_rd (P := Tryz.prog) 80 9 5 Tryz.underlying80 Tryz.underlying5 Tryz.underlying9 c hrd
          have HRD := Lib.hid hrd
          clear hrd
          go_wp2
          go_ret2
          exact ⟨by rw [HX.out]; rfl, S6.out.kept⟩
end Go.Proofs.YtbdgkkmbnahgiaaGreatDoor

namespace Go.Proofs.YtbdgkkmbnahgiaaGreatDoor
open Go.RowKit
theorem op_ops : ∀ n : Fin 256, (bits BinOp.andNot IntKind.i64 (n.1 : Int) 63 != 0) = decide (63 < n.1) ∧ (bits BinOp.andNot IntKind.i64 (n.1 : Int) 3 != 0) = decide (3 < n.1) ∧
    bits BinOp.and IntKind.i64 (n.1 : Int) 3 = ((n.1 % 4 : Nat) : Int) ∧ bits BinOp.and IntKind.i64 ((n.1 : Int) / 16) 3 = ((n.1 / 16 % 4 : Nat) : Int) ∧
    (bits BinOp.and IntKind.i64 (n.1 : Int) 4 != 0) = decide (n.1 / 4 % 2 = 1) ∧ (bits BinOp.and IntKind.i64 (n.1 : Int) 8 != 0) = decide (n.1 / 8 % 2 = 1) := by decide +kernel
def fiCells (f : Fi) : Array Value := #[.string f.topic, .int .i64 f.qos, .bool f.noLocal, .bool f.asPub, .int .i64 f.handling]
theorem Cur.four {w : World} {g a gf : Nat} {t : ByteArray} {e : Int} (h : Cur w g t a e) (hne : gf ≠ g) (x1 x4 x2 x3 : Value) : Cur ((((w.setCell ⟨gf, 1, none⟩ x1).setCell ⟨gf, 4, none⟩ x4).setCell ⟨gf, 2, none⟩ x2).setCell ⟨gf, 3, none⟩ x3) g t a e :=
  ⟨(((h.1.other (fun e => hne e.symm) _).other (fun e => hne e.symm) _).other (fun e => hne e.symm) _).other (fun e => hne e.symm) _, h.2⟩
theorem mods_four (w : World) (g gf : Nat) (x1 x4 x2 x3 : Value) : Mods (two g gf) w ((((w.setCell ⟨gf, 1, none⟩ x1).setCell ⟨gf, 4, none⟩ x4).setCell ⟨gf, 2, none⟩ x2).setCell ⟨gf, 3, none⟩ x3) :=
  ((((Mods.refl w).set gf 1 (.inl (.inr rfl)) _).set gf 4 (.inl (.inr rfl)) _).set gf 2 (.inl (.inr rfl)) _).set gf 3 (.inl (.inr rfl)) _
theorem fi_stores {w : World} {gf : Nat} {tp : ByteArray} (h : Bk w gf 32 (fiCells ⟨tp, 0, false, false, 0⟩)) (q hd : Int) (nl ap : Bool) :
    Bk ((((w.setCell ⟨gf, 1, none⟩ (.int .i64 q)).setCell ⟨gf, 4, none⟩ (.int .i64 hd)).setCell ⟨gf, 2, none⟩ (.bool nl)).setCell ⟨gf, 3, none⟩ (.bool ap)) gf 32 (fiCells ⟨tp, q, nl, ap, hd⟩) :=
  (((h.upd 1 (.int .i64 q) (cs' := fiCells ⟨tp, q, false, false, 0⟩) rfl).upd 4 (.int .i64 hd) (cs' := fiCells ⟨tp, q, false, false, hd⟩) rfl).upd 2 (.bool nl) (cs' := fiCells ⟨tp, q, nl, false, hd⟩) rfl).upd 3 (.bool ap) (cs' := fiCells ⟨tp, q, nl, ap, hd⟩) rfl
set_option maxHeartbeats 4000000 in
set_option maxRecDepth 10000 in
theorem option_any (v : Int) (hv : v = 4 ∨ v = 5) (g a : Nat) (t : ByteArray) (e : Int) (gf : Nat) (tp : ByteArray) (w : World) (h : Cur w g t a e) (hf : Bk w gf 32 (fiCells ⟨tp, 0, false, false, 0⟩)) (hne : gf ≠ g) :
    Calls Tryz.prog 116 #[.int .i64 v, .pointer (some ⟨g, 0, none⟩), .pointer (some ⟨gf, 0, none⟩)] w fun e' w' =>
      e' = .returned (.tuple #[]) ∧ Cur w' g t (opR v t a e).2.1 (opR v t a e).2.2 ∧ Bk w' gf 32 (fiCells (fiOf tp (opR v t a e).1)) ∧ Mods (two g gf) w w' := by
  have C0 := Lib.hid h; have F0 := Lib.hid hf; have NE := Lib.hid hne
  have HO : Hid (opR v t a e = (numS t a e 1, (takeS t a e 1).2.1, if optBad v (numS t a e 1) = true then failE (takeS t a e 1).2.2 7 else (takeS t a e 1).2.2)) := Lib.hid rfl
  have hlt := num_one_lt t a e
  clear h hf hne
  go_enter Tryz.func116, Tryz.ntmps116
  go_wp2_with fail
  refine (number_any g a t e 1 _ C0.out (by decide)).mono ?_
  rintro e' w1 ⟨rfl, hc, hm⟩
  have C1 := Lib.hid hc
  have F1 := Lib.hid (F0.out.mods (Mods.of_grown (S := fun i => i = g) hm rfl) (fun e => NE.out e))
  have M1 : Hid (Mods (two g gf) w w1) := Lib.hid (Mods.of_grown hm (.inl rfl))
  clear hc hm
  generalize numS t a e 1 = n at *
  obtain ⟨R, hR⟩ : ∃ R, takeS t a e 1 = R := ⟨_, rfl⟩
  rw [hR] at HO C1
  clear hR
  obtain ⟨T, a1, e1⟩ := R
  simp only at HO C1 ⊢
  obtain ⟨o1, o2, o3, o4, o5, o6⟩ := op_ops ⟨n, hlt⟩
  simp only at o1 o2 o3 o4 o5 o6
  rcases hv with rfl | rfl
  · have hN : Hid (decide (3 < n) = optBad 4 n) := Lib.hid (by unfold optBad; rw [decide_eq_true rfl, Bool.true_and, Bool.eq_iff_iff, Bool.or_eq_true]; simp only [decide_eq_true_iff]; omega)
    by_cases hb : 3 < n
    · have HB : Hid (optBad 4 n = true) := Lib.hid (by rw [← hN.out, decide_eq_true hb])
      rw [decide_eq_true hb] at o2
      rw [HB.out, if_pos rfl] at HO
      clear hb
      go_wp2_with fail
      refine (fail_any g a1 t e1 7 _ C1.out).mono ?_
      rintro e' w2 ⟨rfl, hc, hm⟩
      have C2 : Hid (Cur w2 g t a1 (failE e1 7)) := Lib.hid hc
      have F2 := Lib.hid (F1.out.mods (Mods.of_grown (S := fun i => i = g) hm rfl) (fun e => NE.out e))
      have M2 : Hid (Mods (two g gf) w w2) := Lib.hid (M1.out.trans (Mods.of_grown hm (.inl rfl)))
      clear hc hm
      obtain ⟨⟨c0, c1, c2⟩, f0, f1, f2⟩ := C2.out.cells
      have q0 := F2.out.cell 0; have q1 := F2.out.cell 1; have q2 := F2.out.cell 2; have q3 := F2.out.cell 3; have q4 := F2.out.cell 4
      have r0 := F2.out.free 0; have r1 := F2.out.free 1; have r2 := F2.out.free 2; have r3 := F2.out.free 3; have r4 := F2.out.free 4
      simp only [fiCells, List.getElem?_toArray, List.getElem?_cons_succ, List.getElem?_cons_zero] at q0 q1 q2 q3 q4
      go_wp2
      go_end0
      rw [HO.out]
      refine ⟨rfl, ?_, ?_, ?_⟩
      · exact C2.out.four (fun e => NE.out e) _ _ _ _
      · exact fi_stores F2.out _ _ _ _
      · exact M2.out.trans (mods_four _ _ _ _ _ _ _)
    · have HB : Hid (optBad 4 n = false) := Lib.hid (by rw [← hN.out, decide_eq_false hb])
      rw [decide_eq_false hb] at o2
      rw [HB.out, if_neg (by decide)] at HO
      clear hb
      obtain ⟨⟨c0, c1, c2⟩, f0, f1, f2⟩ := C1.out.cells
      have q0 := F1.out.cell 0; have q1 := F1.out.cell 1; have q2 := F1.out.cell 2; have q3 := F1.out.cell 3; have q4 := F1.out.cell 4
      have r0 := F1.out.free 0; have r1 := F1.out.free 1; have r2 := F1.out.free 2; have r3 := F1.out.free 3; have r4 := F1.out.free 4
      simp only [fiCells, List.getElem?_toArray, List.getElem?_cons_succ, List.getElem?_cons_zero] at q0 q1 q2 q3 q4
      go_wp2
      go_end0
      rw [HO.out]
      refine ⟨rfl, ?_, ?_, ?_⟩
      · exact C1.out.four (fun e => NE.out e) _ _ _ _
      · exact fi_stores F1.out _ _ _ _
      · exact M1.out.trans (mods_four _ _ _ _ _ _ _)
  · have hN : Hid (decide (63 < n) = optBad 5 n) := Lib.hid (by unfold optBad; rw [show decide ((5:Int) = 4) = false from rfl, Bool.false_and, Bool.or_false])
    by_cases hb : 63 < n
    · have HB : Hid (optBad 5 n = true) := Lib.hid (by rw [← hN.out, decide_eq_true hb])
      rw [decide_eq_true hb] at o1
      rw [HB.out, if_pos rfl] at HO
      clear hb
      go_wp2_with fail
      refine (fail_any g a1 t e1 7 _ C1.out).mono ?_
      rintro e' w2 ⟨rfl, hc, hm⟩
      have C2 : Hid (Cur w2 g t a1 (failE e1 7)) := Lib.hid hc
      have F2 := Lib.hid (F1.out.mods (Mods.of_grown (S := fun i => i = g) hm rfl) (fun e => NE.out e))
      have M2 : Hid (Mods (two g gf) w w2) := Lib.hid (M1.out.trans (Mods.of_grown hm (.inl rfl)))
      clear hc hm
      obtain ⟨⟨c0, c1, c2⟩, f0, f1, f2⟩ := C2.out.cells
      have q0 := F2.out.cell 0; have q1 := F2.out.cell 1; have q2 := F2.out.cell 2; have q3 := F2.out.cell 3; have q4 := F2.out.cell 4
      have r0 := F2.out.free 0; have r1 := F2.out.free 1; have r2 := F2.out.free 2; have r3 := F2.out.free 3; have r4 := F2.out.free 4
      simp only [fiCells, List.getElem?_toArray, List.getElem?_cons_succ, List.getElem?_cons_zero] at q0 q1 q2 q3 q4
      go_wp2
      go_end0
      rw [HO.out]
      refine ⟨rfl, ?_, ?_, ?_⟩
      · exact C2.out.four (fun e => NE.out e) _ _ _ _
      · exact fi_stores F2.out _ _ _ _
      · exact M2.out.trans (mods_four _ _ _ _ _ _ _)
    · have HB : Hid (optBad 5 n = false) := Lib.hid (by rw [← hN.out, decide_eq_false hb])
      rw [decide_eq_false hb] at o1
      rw [HB.out, if_neg (by decide)] at HO
      clear hb
      obtain ⟨⟨c0, c1, c2⟩, f0, f1, f2⟩ := C1.out.cells
      have q0 := F1.out.cell 0; have q1 := F1.out.cell 1; have q2 := F1.out.cell 2; have q3 := F1.out.cell 3; have q4 := F1.out.cell 4
      have r0 := F1.out.free 0; have r1 := F1.out.free 1; have r2 := F1.out.free 2; have r3 := F1.out.free 3; have r4 := F1.out.free 4
      simp only [fiCells, List.getElem?_toArray, List.getElem?_cons_succ, List.getElem?_cons_zero] at q0 q1 q2 q3 q4
      go_wp2
      go_end0
      rw [HO.out]
      refine ⟨rfl, ?_, ?_, ?_⟩
      · exact C1.out.four (fun e => NE.out e) _ _ _ _
      · exact fi_stores F1.out _ _ _ _
      · exact M1.out.trans (mods_four _ _ _ _ _ _ _)
end Go.Proofs.YtbdgkkmbnahgiaaGreatDoor

namespace Go.Proofs.YtbdgkkmbnahgiaaGreatDoor
open Go.RowKit
attribute [local go_sem ↓] to_ldPk to_bxPk to_bdPk to_alPk to_stPk
attribute [local go_sem] run_bxPk run_bxPk_agg ld_fresh run_alPk run_bd0 run_bdK run_bdKI run_bdKIC run_bdKC run_bdKICP run_stPk_fresh pkC_0 pkC_1 pkC_2 pkC_3 pkC_4 pkC_5 pkC_6 pkC_7 pkC_8 pkC_9 pkC_10 pkC_11 pkC_12 pkC_13 pkC_14 pkC_15 pkC_16 pkC_17 pkC_18 pkC_19 pkC_20 pkC_21 pkC_22 pkC_23 pkC_24

theorem info_filter : (Tryz.prog.info? 32).map (fun i => (i.zero, i.size, i.bytes)) = some (some (.agg #[.string ⟨#[]⟩, .int .i64 0, .bool false, .bool false, .int .i64 0]), 5, 40) := by kernel_rfl
end Go.Proofs.YtbdgkkmbnahgiaaGreatDoor

