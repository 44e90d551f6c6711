/-
  Levels of a filter, a shared filter: plain.
  A shared filter: plain.
-/
import Derived.Test.YtmkkjiogokfnmaaDoorPubD
import Derived.Lib.SplitLaws

namespace Go.Proofs.YtmkkjiogokfnmaaDoor
open Go.RowKit Go.Shelf

/-- What stands between slashes. -/
def lvs (s : ByteArray) : List ByteArray := Lib.splitB ⟨#[47]⟩ 0 (Lib.countB s ⟨#[47]⟩) s
theorem occ_one (l : List UInt8) (c : UInt8) (j : Nat) : Lib.occAt l [c] j = (l[j]? == some c) := by
  unfold Lib.occAt
  rw [← List.head?_drop]
  cases l.drop j with
  | nil => rfl
  | cons b t =>
    rw [Bool.eq_iff_iff]
    simp [List.isPrefixOf]
    exact eq_comm
theorem index_hit {l : List UInt8} {c : UInt8} {i : Nat} (h : l[i]? = some c) (hn : ∀ j, j < i → l[j]? ≠ some c) : Lib.index l [c] = i := by
  refine Lib.index_first ?_ ?_ ?_
  · have := (List.getElem?_eq_some_iff.1 h).1; omega
  · rw [occ_one, h]; simp
  · intro j hj; rw [occ_one]; simpa using hn j hj
theorem index_miss {l : List UInt8} {c : UInt8} (hn : ∀ j : Nat, l[j]? ≠ some c) : Lib.index l [c] = -1 :=
  Lib.index_none fun j _ => by rw [occ_one]; simpa using hn j
theorem lvs_none {s : ByteArray} (h : ∀ j : Nat, (ls s)[j]? ≠ some 47) : lvs s = [s] := Lib.splitB_miss _ _ _ _ (index_miss h)
theorem lvs_hit {s : ByteArray} {i : Nat} (h : (ls s)[i]? = some 47) (hn : ∀ j : Nat, j < i → (ls s)[j]? ≠ some 47) : lvs s = s.extract 0 i :: lvs (s.extract (i + 1) s.size) := by
  have hi : Lib.indexB s ⟨#[47]⟩ = i := index_hit h hn
  have hc := Lib.countB_hit s ⟨#[47]⟩ i (by decide) hi
  unfold lvs
  rw [hc, Nat.add_comm 1, Lib.splitB_hit _ _ _ _ i hi]
  rfl
theorem lvs_count (s : ByteArray) : (lvs s).length = Lib.countB s ⟨#[47]⟩ + 1 := Lib.splitB_all _ (by decide) 0 _ s rfl
theorem lvs_len (s : ByteArray) : (lvs s).length ≤ s.size + 1 := by
  have := Lib.countB_le ⟨#[47]⟩ (by decide) s.size s (Nat.le_refl _)
  rw [lvs_count]; omega
theorem find_slash (s : ByteArray) : (∀ j : Nat, (ls s)[j]? ≠ some 47) ∨ ∃ i, i < s.size ∧ (ls s)[i]? = some 47 ∧ ∀ j : Nat, j < i → (ls s)[j]? ≠ some 47 := by
  rcases Lib.index_spec (ls s) [47] with ⟨-, h⟩ | ⟨i, -, -, h, hn⟩
  · left
    intro j hj
    have hl := (List.getElem?_eq_some_iff.1 hj).1
    have := h j (by omega)
    rw [occ_one, hj] at this
    simp at this
  · right
    rw [occ_one] at h
    have h' : (ls s)[i]? = some 47 := by simpa using h
    have hl := (List.getElem?_eq_some_iff.1 h').1
    refine ⟨i, by rw [ls_len] at hl; exact hl, h', fun j hj he => ?_⟩
    have := hn j hj
    rw [occ_one, he] at this
    simp at this
theorem lvs_ind {C : ByteArray → Prop} (h1 : ∀ s, (∀ j : Nat, (ls s)[j]? ≠ some 47) → C s)
    (h2 : ∀ s i, i < s.size → (ls s)[i]? = some 47 → (∀ j : Nat, j < i → (ls s)[j]? ≠ some 47) → C (s.extract (i + 1) s.size) → C s) (s : ByteArray) : C s := by
  suffices h : ∀ n (t : ByteArray), t.size ≤ n → C t from h s.size s (Nat.le_refl _)
  intro n
  induction n with
  | zero =>
    intro t ht
    refine h1 t fun j hj => ?_
    have := (List.getElem?_eq_some_iff.1 hj).1
    rw [ls_len] at this
    omega
  | succ n ih =>
    intro t ht
    rcases find_slash t with h | ⟨i, hi, h, hn⟩
    · exact h1 t h
    · exact h2 t i hi h hn (ih _ (by rw [ByteArray.size_extract]; omega))
theorem lvs_size (s : ByteArray) : ∀ x ∈ lvs s, x.size ≤ s.size := by
  induction s using lvs_ind with
  | h1 s h => rw [lvs_none h]; intro x hx; simp at hx; rw [hx]; exact Nat.le_refl _
  | h2 s i hi h hn ih =>
    rw [lvs_hit h hn]
    intro x hx
    rcases List.mem_cons.1 hx with rfl | hx
    · rw [ByteArray.size_extract]; omega
    · have := ih x hx
      rw [ByteArray.size_extract] at this
      omega
theorem lvs_ne (s : ByteArray) : lvs s ≠ [] := fun h => by have := lvs_count s; rw [h] at this; simp at this

def wildB (x : ByteArray) : Bool := (x.toList == [43]) || (x.toList == [35])
def levOk (x : ByteArray) (last : Bool) : Bool := !(((x.toList == [35]) && !last) || (!wildB x && anyS x))
def levsOk (l : List ByteArray) : Bool := (List.range l.length).all fun i => levOk (l.getD i ⟨#[]⟩) (decide (i + 1 = l.length))
def filterB (s : ByteArray) : Bool := textB s && levsOk (lvs s)
theorem levs_yes {l : List ByteArray} (h : ∀ i x, l[i]? = some x → levOk x (decide (i + 1 = l.length)) = true) : levsOk l = true := by
  unfold levsOk
  rw [List.all_eq_true]
  intro i hi
  have hi := List.mem_range.1 hi
  rw [List.getD_eq_getElem?_getD, List.getElem?_eq_getElem hi]
  exact h i _ (List.getElem?_eq_getElem hi)
theorem levs_no {l : List ByteArray} {i : Nat} {x : ByteArray} (hx : l[i]? = some x) (h : levOk x (decide (i + 1 = l.length)) = false) : levsOk l = false := by
  unfold levsOk
  rw [List.all_eq_false]
  have hi := (List.getElem?_eq_some_iff.1 hx).1
  refine ⟨i, List.mem_range.2 hi, ?_⟩
  rw [List.getD_eq_getElem?_getD, hx]
  simp [h]

/-- As the reference looks at a level. -/
def refLev (x : ByteArray) (last : Bool) : Bool := !((hasL (ls x) 43 && !(x.toList == [43])) || (hasL (ls x) 35 && (!(x.toList == [35]) || !last)))
theorem tl_ls (x : ByteArray) : x.toList = ls x := Lib.toList_data x
theorem refLev_eq (x : ByteArray) (last : Bool) : refLev x last = levOk x last := by
  unfold refLev levOk wildB
  rw [anyS_has, tl_ls]
  generalize ls x = l
  by_cases h1 : l = [43]
  · subst h1; cases last <;> rfl
  · by_cases h2 : l = [35]
    · subst h2; cases last <;> rfl
    · rw [beq_eq_false_iff_ne.2 h1, beq_eq_false_iff_ne.2 h2]
      cases hasL l 43 <;> cases hasL l 35 <;> rfl

/-! ### Levels joined again -/
def jt : List ByteArray → List UInt8
  | [] => []
  | x :: l => 47 :: (ls x ++ jt l)
def jn : List ByteArray → List UInt8
  | [] => []
  | x :: l => ls x ++ jt l
theorem jt_app : ∀ l m, jt (l ++ m) = jt l ++ jt m
  | [], _ => rfl
  | x :: l, m => by rw [List.cons_append, jt, jt, jt_app l m]; simp
theorem jn_snoc (l : List ByteArray) (x : ByteArray) : jn (l ++ [x]) = if l = [] then ls x else jn l ++ 47 :: ls x := by
  cases l with
  | nil => simp [jn, jt]
  | cons y l => rw [if_neg (by simp), List.cons_append, jn, jn, jt_app]; simp [jt]
theorem ls_split {s : ByteArray} {i : Nat} (h : (ls s)[i]? = some 47) : ls s = ls (s.extract 0 i) ++ 47 :: ls (s.extract (i + 1) s.size) := by
  have e1 : ls (s.extract 0 i) = (ls s).take i := by
    show (s.extract 0 i).data.toList = _
    rw [Lib.extract_from_zero]; rfl
  have e2 : ls (s.extract (i + 1) s.size) = (ls s).drop (i + 1) := by
    show (s.extract (i + 1) s.size).data.toList = _
    rw [Lib.extract_to_end]; rfl
  obtain ⟨hi, he⟩ := List.getElem?_eq_some_iff.1 h
  rw [e1, e2, ← he, ← List.drop_eq_getElem_cons hi, List.take_append_drop]
theorem jn_lvs (s : ByteArray) : jn (lvs s) = ls s := by
  induction s using lvs_ind with
  | h1 s h => rw [lvs_none h]; simp [jn, jt]
  | h2 s i hi h hn ih =>
    rw [lvs_hit h hn, ls_split h]
    generalize hg : lvs (s.extract (i + 1) s.size) = L at *
    cases L with
    | nil => exact absurd hg (lvs_ne _)
    | cons y l => rw [jn, jt]; rw [jn] at ih; rw [ih]

end Go.Proofs.YtmkkjiogokfnmaaDoor

namespace Go.Proofs.YtmkkjiogokfnmaaDoor
open Go.RowKit Go.Shelf

theorem get_D (s : ByteArray) (p : Nat) : s.get! p = ((ls s)[p]?).getD 0 := by
  by_cases h : p < s.size
  · rw [List.getElem?_eq_getElem (by rw [ls_len]; exact h), get_ls s p h]; rfl
  · rw [List.getElem?_eq_none (by rw [ls_len]; omega)]
    have h' : ¬ p < s.data.size := h
    show s.data[p]! = _
    show s.data[p]! = 0
    rw [Array.getElem!_eq_getD, Array.getD_eq_getD_getElem?, Array.getElem?_eq_none (by omega)]
    rfl
theorem ls_front (s : ByteArray) (i : Nat) : ls (s.extract 0 i) = (ls s).take i := by
  show (s.extract 0 i).data.toList = _
  rw [Lib.extract_from_zero]; rfl
theorem ls_back (s : ByteArray) (a : Nat) : ls (s.extract a s.size) = (ls s).drop a := by
  show (s.extract a s.size).data.toList = _
  rw [Lib.extract_to_end]; rfl
theorem get_back (s : ByteArray) (a p : Nat) : (s.extract a s.size).get! p = s.get! (a + p) := by
  rw [get_D, get_D, ls_back, List.getElem?_drop]
theorem get_front (s : ByteArray) {i p : Nat} (h : p < i) : (s.extract 0 i).get! p = s.get! p := by
  rw [get_D, get_D, ls_front, List.getElem?_take, if_pos h]
theorem dec_back (s : ByteArray) (a p : Nat) : Utf8.decode (s.extract a s.size) p = Utf8.decode s (a + p) := by
  rw [Lib.decode_at, Lib.decode_at, get_back, get_back, get_back, get_back, ByteArray.size_extract, show min s.size s.size - a - p = s.size - (a + p) by omega]
  rfl
theorem size_back (s : ByteArray) (a : Nat) : (s.extract a s.size).size = s.size - a := by rw [ByteArray.size_extract]; omega
theorem size_front (s : ByteArray) {i : Nat} (h : i ≤ s.size) : (s.extract 0 i).size = i := by rw [ByteArray.size_extract]; omega
theorem badF_fuel (s : ByteArray) : ∀ f f' pos, s.size ≤ pos + f → s.size ≤ pos + f' → badF f s pos = badF f' s pos
  | 0, 0, _, _, _ => rfl
  | 0, f' + 1, pos, h, _ => by rw [badF, badF, if_neg (by omega)]
  | f + 1, 0, pos, _, h => by rw [badF, badF, if_neg (by omega)]
  | f + 1, f' + 1, pos, h, h' => by
    rw [badF, badF]
    by_cases hp : pos < s.size
    · rw [if_pos hp, if_pos hp]
      have hw := Lib.decode_width_pos s pos hp
      rw [badF_fuel s f f' _ (by omega) (by omega)]
    · rw [if_neg hp, if_neg hp]
theorem badF_back (s : ByteArray) (a : Nat) : ∀ f p, (badF f (s.extract a s.size) p = -1 ↔ badF f s (a + p) = -1)
  | 0, _ => Iff.rfl
  | f + 1, p => by
    rw [badF, badF, size_back, dec_back]
    by_cases hp : a + p < s.size
    · rw [if_pos (by omega), if_pos hp]
      by_cases hb : (Utf8.decode s (a + p)).1 = 0 ∨ ((Utf8.decode s (a + p)).1 = 65533 ∧ (Utf8.decode s (a + p)).2 = 1)
      · rw [if_pos hb, if_pos hb]; omega
      · rw [if_neg hb, if_neg hb, badF_back s a f, Nat.add_assoc]
    · rw [if_neg (by omega), if_neg hp]
/-- A rune does not reach over a byte below 128. -/
theorem rune_stops (s : ByteArray) {pos i : Nat} (hlt : pos < i) (h : (s.get! i).toNat < 128) : pos + (Utf8.decode s pos).2 ≤ i := by
  rcases decode_cases s pos with ⟨e, -⟩ | ⟨-, -, hj⟩
  · rw [e]; exact hlt
  · by_cases hc : pos + (Utf8.decode s pos).2 ≤ i
    · exact hc
    · have := hj (i - pos) (by omega)
      rw [show pos + (i - pos) = i by omega] at this
      omega
theorem badF_pass (s : ByteArray) (i : Nat) (hi : i < s.size) (h : (s.get! i).toNat < 128) : ∀ f pos, s.size ≤ pos + f → pos ≤ i → badF f s pos = -1 → ∃ f', s.size ≤ i + f' ∧ badF f' s i = -1
  | 0, pos, hf, hp, _ => by omega
  | f + 1, pos, hf, hp, hb => by
    by_cases he : pos = i
    · subst he; exact ⟨f + 1, hf, hb⟩
    · have hw := Lib.decode_width_pos s pos (by omega)
      have hs := rune_stops s (pos := pos) (by omega) h
      rw [badF, if_pos (by omega)] at hb
      split at hb
      · omega
      · exact badF_pass s i hi h f _ (by omega) hs hb
theorem dec_less {n n' b0 b1 b2 b3 c1 c2 c3 : Nat} (hb : Lib.decodeN n b0 b1 b2 b3 ≠ (65533, 1)) (hw : (Lib.decodeN n b0 b1 b2 b3).2 ≤ n')
    (h1 : 1 < (Lib.decodeN n b0 b1 b2 b3).2 → c1 = b1) (h2 : 2 < (Lib.decodeN n b0 b1 b2 b3).2 → c2 = b2) (h3 : 3 < (Lib.decodeN n b0 b1 b2 b3).2 → c3 = b3) :
    Lib.decodeN n' b0 c1 c2 c3 = Lib.decodeN n b0 b1 b2 b3 := by
  rcases Lib.decodeN_shape n b0 b1 b2 b3 with ⟨e1, e⟩ | ⟨e1, e2, e3, e4, e⟩ | ⟨e1, e2, e3, e4, e5, e6, e⟩ | ⟨e1, e2, e3, e4, e5, e6, e7, e⟩ | e
  · rw [e]; unfold Lib.decodeN; rw [if_pos e1]
  · rw [e] at hw h1 ⊢
    rw [h1 (by simp)]
    exact dec_2 e1 hw e3 e4
  · rw [e] at hw h1 h2 ⊢
    rw [h1 (by simp), h2 (by simp)]
    exact dec_3 e1 hw e3 e4 e5 e6
  · rw [e] at hw h1 h2 h3 ⊢
    rw [h1 (by simp), h2 (by simp), h3 (by simp)]
    exact dec_4 e1 hw e3 e4 e5 e6 e7
  · exact absurd e hb
theorem dec_front (s : ByteArray) {i p : Nat} (hp : p < i) (hi : i ≤ s.size) (hb : Utf8.decode s p ≠ (65533, 1)) (hw : p + (Utf8.decode s p).2 ≤ i) : Utf8.decode (s.extract 0 i) p = Utf8.decode s p := by
  rw [Lib.decode_at] at hb hw
  rw [Lib.decode_at, Lib.decode_at, size_front s hi, get_front s hp]
  refine dec_less hb (by omega) (fun h => ?_) (fun h => ?_) (fun h => ?_)
  · rw [get_front s (by omega)]
  · rw [get_front s (by omega)]
  · rw [get_front s (by omega)]
theorem badF_front (s : ByteArray) (i : Nat) (hi : i < s.size) (h : (s.get! i).toNat < 128) : ∀ f pos, s.size ≤ pos + f → pos ≤ i → badF f s pos = -1 → badF f (s.extract 0 i) pos = -1
  | 0, pos, hf, hp, _ => by omega
  | f + 1, pos, hf, hp, hb => by
    rw [badF, size_front s (by omega)]
    by_cases he : pos = i
    · rw [if_neg (by omega)]
    · have hw := Lib.decode_width_pos s pos (by omega)
      have hs := rune_stops s (pos := pos) (by omega) h
      rw [badF, if_pos (by omega)] at hb
      rw [if_pos (by omega)]
      split at hb
      · omega
      · rename_i hn
        rw [dec_front s (by omega) (by omega) (fun e => hn (.inr (by rw [e]; exact ⟨rfl, rfl⟩))) hs, if_neg hn]
        exact badF_front s i hi h f _ (by omega) hs hb
/-- What stands ahead of a slash, in a text whose back is valid, is valid. -/
theorem valid_between {s : ByteArray} (hv : validB s = true) {a i : Nat} (ha : a < s.size) (h1 : (s.get! a).toNat < 128) (h0 : (s.get! a).toNat ≠ 0) (hi : a + 1 + i < s.size) (h2 : (s.get! (a + 1 + i)).toNat < 128) :
    validB ((s.extract (a + 1) s.size).extract 0 i) = true := by
  have hsz := valid_size hv
  have hb : badS s = -1 := by unfold validB at hv; simp at hv; exact hv.2
  obtain ⟨f1, hf1, hb1⟩ := badF_pass s a ha h1 s.size 0 (by omega) (by omega) hb
  obtain ⟨f2, hf2, hb2⟩ : ∃ f2, s.size ≤ a + 1 + f2 ∧ badF f2 s (a + 1) = -1 := by
    cases f1 with
    | zero => omega
    | succ f1 =>
      have hd : Utf8.decode s a = ((s.get! a).toNat, 1) := by
        rcases decode_cases s a with ⟨e, -⟩ | ⟨-, -, hj⟩
        · exact e
        · have := Lib.decode_width_pos s a ha
          have := hj 0 (by omega)
          rw [Nat.add_zero] at this
          omega
      rw [badF, if_pos ha, hd, if_neg (by
        rintro (e | ⟨e, -⟩)
        · exact h0 e
        · simp only at e; omega)] at hb1
      exact ⟨f1, by omega, hb1⟩
  have hb3 : badF f2 (s.extract (a + 1) s.size) 0 = -1 := (badF_back s (a + 1) f2 0).2 hb2
  have hz := size_back s (a + 1)
  have hb4 := badF_front (s.extract (a + 1) s.size) i (by omega) (by rw [get_back]; exact h2) f2 0 (by omega) (by omega) hb3
  have hz2 := size_front (s.extract (a + 1) s.size) (i := i) (by omega)
  unfold validB
  rw [hz2, decide_eq_true (by omega), Bool.true_and]
  refine beq_iff_eq.2 ?_
  unfold badS
  rw [badF_fuel _ _ f2 0 (by omega) (by omega), hb4]

/-! ### Shared filters -/
def frontL : List UInt8 := [36, 115, 104, 97, 114, 101, 47]
def frontB (s : ByteArray) : Bool := frontL.isPrefixOf (ls s)
def shrS (s : ByteArray) : ByteArray := if frontB s then s.extract 7 s.size else s
/-- A cut at the first slash: what stands ahead, behind, whether there is one. -/
def cutS (s : ByteArray) : ByteArray × ByteArray × Bool :=
  if Lib.indexB s ⟨#[47]⟩ = -1 then (s, ⟨#[]⟩, false) else (s.extract 0 (Lib.indexB s ⟨#[47]⟩).toNat, s.extract ((Lib.indexB s ⟨#[47]⟩).toNat + 1) s.size, true)
def sharedB (s : ByteArray) : Bool := frontB s && ((cutS (shrS s)).2.2 && (validB s && (nameB (cutS (shrS s)).1 && filterB (cutS (shrS s)).2.1)))
theorem cut_size (s : ByteArray) : (cutS s).1.size ≤ s.size ∧ (cutS s).2.1.size ≤ s.size := by
  unfold cutS
  split
  · exact ⟨Nat.le_refl _, Nat.zero_le _⟩
  · simp only [ByteArray.size_extract]; omega
theorem shr_size (s : ByteArray) : (shrS s).size ≤ s.size := by
  unfold shrS
  split
  · rw [ByteArray.size_extract]; omega
  · exact Nat.le_refl _

/-- As the reference looks at it. -/
def refShared (s : ByteArray) : Bool :=
  validB s && (frontB s && (decide (3 ≤ (lvs s).length) && ((decide (((lvs s).getD 1 ⟨#[]⟩).size ≠ 0) && !(hasL (ls ((lvs s).getD 1 ⟨#[]⟩)) 43 || hasL (ls ((lvs s).getD 1 ⟨#[]⟩)) 35)) && filterB ⟨(jn ((lvs s).drop 2)).toArray⟩)))
theorem front_facts {s : ByteArray} (h : frontB s = true) : 7 ≤ s.size ∧ (ls s)[6]? = some 47 ∧ ∀ j, j < 6 → (ls s)[j]? ≠ some 47 := by
  unfold frontB at h
  obtain ⟨t, ht⟩ := List.isPrefixOf_iff_prefix.1 h
  have hl : (ls s).length = 7 + t.length := by rw [← ht]; simp [frontL]; omega
  rw [ls_len] at hl
  refine ⟨by omega, by rw [← ht]; rfl, fun j hj => ?_⟩
  rw [← ht]
  have : j = 0 ∨ j = 1 ∨ j = 2 ∨ j = 3 ∨ j = 4 ∨ j = 5 := by omega
  rcases this with rfl | rfl | rfl | rfl | rfl | rfl <;> simp [frontL]
theorem shared_eq (s : ByteArray) : refShared s = sharedB s := by
  unfold refShared sharedB
  cases hf : frontB s
  · simp
  cases hv : validB s
  · simp
  simp only [Bool.true_and]
  obtain ⟨h7, h6, hn6⟩ := front_facts hf
  have hr : shrS s = s.extract 7 s.size := if_pos hf
  rw [hr, lvs_hit h6 hn6]
  rcases find_slash (s.extract 7 s.size) with hno | ⟨i, hi, hh, hno⟩
  · have e : Lib.indexB (s.extract 7 s.size) ⟨#[47]⟩ = -1 := index_miss hno
    rw [show (6 + 1 : Nat) = 7 from rfl, lvs_none hno]
    unfold cutS
    rw [if_pos e]
    rfl
  · have e : Lib.indexB (s.extract 7 s.size) ⟨#[47]⟩ = i := index_hit hh hno
    rw [show (6 + 1 : Nat) = 7 from rfl, lvs_hit hh hno]
    have hne : ¬ Lib.indexB (s.extract 7 s.size) ⟨#[47]⟩ = -1 := by omega
    have hc : cutS (s.extract 7 s.size) = ((s.extract 7 s.size).extract 0 i, (s.extract 7 s.size).extract (i + 1) (s.extract 7 s.size).size, true) := by
      unfold cutS
      rw [if_neg hne, e]
      rfl
    rw [hc]
    have hlen : 3 ≤ (s.extract 0 6 :: (s.extract 7 s.size).extract 0 i :: lvs ((s.extract 7 s.size).extract (i + 1) (s.extract 7 s.size).size)).length := by
      have := lvs_count ((s.extract 7 s.size).extract (i + 1) (s.extract 7 s.size).size)
      simp only [List.length_cons]
      omega
    rw [decide_eq_true hlen]
    simp only [Bool.true_and, List.drop_succ_cons, List.drop_zero, List.getD_cons_succ, List.getD_cons_zero]
    rw [jn_lvs, mk_ls]
    congr 1
    have hz := size_back s 7
    have g6 : s.get! 6 = 47 := by rw [get_D, h6]; rfl
    have gi : s.get! (6 + 1 + i) = 47 := by
      rw [← get_back, get_D]
      rw [hh]; rfl
    have hvg : validB ((s.extract 7 s.size).extract 0 i) = true := valid_between hv (a := 6) (by omega) (by rw [g6]; decide) (by rw [g6]; decide) (by omega) (by rw [gi]; decide)
    unfold nameB textB
    rw [hvg, Bool.and_true, anyS_has]

end Go.Proofs.YtmkkjiogokfnmaaDoor
