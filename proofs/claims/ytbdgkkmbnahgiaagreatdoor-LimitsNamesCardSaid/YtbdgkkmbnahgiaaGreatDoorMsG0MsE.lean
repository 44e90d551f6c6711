/- A part of what the laws stand on: MsE, MsQ, LimP, LmA, MsC, OpenK, MqK, PkS, MqL, MsF, MsG. -/
import Derived.Test.YtbdgkkmbnahgiaaGreatDoorMsG0MqD
import Derived.OwnWalk
namespace Go.Proofs.YtbdgkkmbnahgiaaGreatDoor
open Go.RowKit
attribute [local go_sem ↓] to_ldPk to_bxPk to_bdPk to_alPk to_stPk
attribute [local go_sem] run_bxPk run_bxPk_agg ld_fresh run_alPk run_bd0 run_bdK run_bdKI run_bdKIC run_bdKC run_bdKICP run_stPk_fresh pkC_0 pkC_1 pkC_2 pkC_3 pkC_4 pkC_5 pkC_6 pkC_7 pkC_8 pkC_9 pkC_10 pkC_11 pkC_12 pkC_13 pkC_14 pkC_15 pkC_16 pkC_17 pkC_18 pkC_19 pkC_20 pkC_21 pkC_22 pkC_23 pkC_24
/-- May a stream be of this version, with these limits? -/
def smOk (v mp md : Int) : Bool := hdKnown v && decide (16 ≤ mp ∧ mp ≤ 1048576 ∧ 0 ≤ md ∧ md ≤ 32)
def limV (mp md : Int) : Value := .agg #[.int .i64 mp, .int .i64 md]
/-- What New leaves. -/
def NewOut (v mp md : Int) (w : World) (e : Ending) (w' : World) : Prop :=
  Below w.heap.size w w' ∧ if smOk v mp md = true then ∃ g, e = .returned (.tuple #[.pointer (some ⟨g, 0, none⟩), .int .i64 0]) ∧ w.heap.size ≤ g ∧ Bk w' g SmT (smC v mp none 0 0 0 0 0) else e = .returned (.tuple #[.pointer none, .int .i64 2])
theorem newOut_bad {v mp md : Int} {w w' : World} (h : smOk v mp md = false) (hb : Below w.heap.size w w') : NewOut v mp md w (.returned (.tuple #[.pointer none, .int .i64 2])) w' := by
  refine ⟨hb, ?_⟩
  rw [if_neg (by rw [h]; decide)]
theorem newOut_ok {v mp md : Int} {w w' : World} {g : Nat} (h : smOk v mp md = true) (hb : Below w.heap.size w w') (hg : w.heap.size ≤ g) (hk : Bk w' g SmT (smC v mp none 0 0 0 0 0)) : NewOut v mp md w (.returned (.tuple #[.pointer (some ⟨g, 0, none⟩), .int .i64 0])) w' := by
  refine ⟨hb, ?_⟩
  rw [if_pos h]
  exact ⟨g, rfl, hg, hk⟩
set_option maxHeartbeats 1000000 in
set_option maxRecDepth 10000 in
theorem smNew_any (v mp md : Int) (w : World) : Calls Tryz.prog 33 #[.int .i64 v, limV mp md] w (NewOut v mp md w) := by
  have HE : Hid (smOk v mp md = (decide (v = 4 ∨ v = 5) && decide (16 ≤ mp ∧ mp ≤ 1048576 ∧ 0 ≤ md ∧ md ≤ 32))) := Lib.hid rfl
  have HB := Lib.hid ((Below.refl w.heap.size w).alloc (Nat.le_refl _) (.cells #[.int .i64 mp, .int .i64 md] 54))
  have HS : Hid ((w.alloc (.cells #[.int .i64 mp, .int .i64 md] 54)).heap.size = w.heap.size + 1) := Lib.hid (by simp)
  have HK := Lib.hid (Bk.fresh w 54 #[.int .i64 mp, .int .i64 md])
  have c0 : (w.alloc (.cells #[.int .i64 mp, .int .i64 md] 54)).cell? ⟨w.heap.size, 0, none⟩ = some (.int .i64 mp) := HK.out.cell 0
  have c1 : (w.alloc (.cells #[.int .i64 mp, .int .i64 md] 54)).cell? ⟨w.heap.size, 1, none⟩ = some (.int .i64 md) := HK.out.cell 1
  unfold limV
  by_cases hv : v = 4 ∨ v = 5
  rotate_left
  · have HX : Hid (smOk v mp md = false) := Lib.hid (by rw [HE.out, decide_eq_false hv]; rfl)
    have e4 : (v != 4) = true := bne_iff_ne.2 (by omega)
    have e5 : (v != 5) = true := bne_iff_ne.2 (by omega)
    clear hv HE
    go_enter Tryz.func33, Tryz.ntmps33
    go_wp2
    go_ret2
    exact newOut_bad HX.out HB.out
  have hvv : (v != 4) = false ∨ ((v != 4) = true ∧ (v != 5) = false) := by
    by_cases e : v = 4
    · exact .inl (by rw [e]; rfl)
    · exact .inr ⟨bne_iff_ne.2 e, by rw [show v = 5 by omega]; rfl⟩
  by_cases hl : 16 ≤ mp ∧ mp ≤ 1048576 ∧ 0 ≤ md ∧ md ≤ 32
  rotate_left
  · have HX : Hid (smOk v mp md = false) := Lib.hid (by rw [HE.out, decide_eq_false hl, Bool.and_false])
    have h3 : mp < 16 ∨ (16 ≤ mp ∧ 1048576 < mp) ∨ (16 ≤ mp ∧ mp ≤ 1048576 ∧ md < 0) ∨ (16 ≤ mp ∧ mp ≤ 1048576 ∧ 0 ≤ md ∧ 32 < md) := by omega
    clear hv hl HE
    rcases hvv with e4 | ⟨e4, e5⟩ <;> rcases h3 with h3 | ⟨h3, h4⟩ | ⟨h3, h4, h5⟩ | ⟨h3, h4, h5, h6⟩
    all_goals
      go_enter Tryz.func33, Tryz.ntmps33
      go_wp2
      go_ret2
      exact newOut_bad HX.out HB.out
  have HX : Hid (smOk v mp md = true) := Lib.hid (by rw [HE.out, decide_eq_true hv, decide_eq_true hl]; rfl)
  have HG := Lib.hid (Bk.fresh (w.alloc (.cells #[.int .i64 mp, .int .i64 md] 54)) SmT (smC v mp none 0 0 0 0 0))
  obtain ⟨h3, h4, h5, h6⟩ := hl
  clear hv HE
  rcases hvv with e4 | ⟨e4, e5⟩
  all_goals
    go_enter Tryz.func33, Tryz.ntmps33
    go_wp2
    go_ret2
    refine newOut_ok HX.out (HB.out.alloc HB.out.size _) ?_ (by rw [HS.out] at HG; exact HG.out)
    omega
end Go.Proofs.YtbdgkkmbnahgiaaGreatDoor

namespace Go.Proofs.YtbdgkkmbnahgiaaGreatDoor
open Go.RowKit

/-- Texts one after the other. -/
def joinT (l : List ByteArray) : ByteArray := ⟨(l.flatMap ls).toArray⟩
theorem joinT_ls (l : List ByteArray) : ls (joinT l) = l.flatMap ls := ls_mk _
theorem joinT_snoc (l : List ByteArray) (x : ByteArray) : joinT (l ++ [x]) = joinT l ++ x := ls_ext (by
  rw [ls_app, joinT_ls, joinT_ls, List.flatMap_append]
  simp)
theorem joinT_take_le (l : List ByteArray) (k : Nat) : (joinT (l.take k)).size ≤ (joinT l).size := by
  rw [← ls_len, ← ls_len, joinT_ls, joinT_ls]
  conv => rhs; rw [← List.take_append_drop k l, List.flatMap_append, List.length_append]
  exact Nat.le_add_right _ _
/-- What a stream that has told some packets tells of the next chunk: if it is well. -/
theorem fed_well {v most : Int} {T u t : ByteArray} {a k : Nat} {l : List Pk} (h : smG v most T 0 0 [] = (l, t, a, k, 0)) :
    smG v most (T ++ u) 0 0 [] = (l ++ (smG v most (t ++ u) a k []).1, (smG v most (t ++ u) a k []).2.1, (smG v most (t ++ u) a k []).2.2.1, (smG v most (t ++ u) a k []).2.2.2.1, (smG v most (t ++ u) a k []).2.2.2.2) := by
  rw [smG_app v most u _ T 0 0 [] (Nat.le_refl _), h]
  dsimp only
  rw [if_pos rfl, smG_acc v most _ (t ++ u) a k l (Nat.le_refl _), smG_acc v most _ (t ++ u) a k [] (Nat.le_refl _)]
  simp only [List.nil_append]
/-- And if it is not. -/
theorem fed_ill {v most : Int} {T u t : ByteArray} {a k : Nat} {l : List Pk} {e : Int} (h : smG v most T 0 0 [] = (l, t, a, k, e)) (he : e ≠ 0) : smG v most (T ++ u) 0 0 [] = (l, t, a, k, e) := by
  rw [smG_app v most u _ T 0 0 [] (Nat.le_refl _), h]
  exact if_neg he
end Go.Proofs.YtbdgkkmbnahgiaaGreatDoor

namespace Go.Proofs.YtbdgkkmbnahgiaaGreatDoor
open Go.RowKit

/-- Is a place within a text of n bytes? -/
def plIn (n : Nat) (z : Int) : Bool := decide (0 ≤ z) && decide (z ≤ (n : Int))
def plL (n : Nat) (l : List Int) : List Int := (l.filter (plIn n)).mergeSort fun x y => decide (x ≤ y)
theorem le_tr : ∀ a b c : Int, decide (a ≤ b) = true → decide (b ≤ c) = true → decide (a ≤ c) = true := fun a b c h1 h2 => by
  simp only [decide_eq_true_eq] at *
  omega
theorem le_to : ∀ a b : Int, (decide (a ≤ b) || decide (b ≤ a)) = true := fun a b => by
  simp only [Bool.or_eq_true, decide_eq_true_eq]
  omega
theorem plL_asc (n : Nat) (l : List Int) : (plL n l).Pairwise fun a b => decide (a ≤ b) = true := List.pairwise_mergeSort le_tr le_to _
theorem plL_is {n : Nat} {l m : List Int} (h : (l.filter (plIn n)).Perm m) (hm : m.Pairwise fun a b => decide (a ≤ b) = true) : plL n l = m := by
  refine List.Perm.eq_of_pairwise (le := fun a b => decide (a ≤ b) = true) (fun a b _ _ h1 h2 => ?_) (plL_asc n l) hm ((List.mergeSort_perm _ _).trans h)
  simp only [decide_eq_true_eq] at h1 h2
  omega
theorem plL_mem {n : Nat} {l : List Int} {z : Int} (h : z ∈ plL n l) : z ∈ l ∧ 0 ≤ z ∧ z ≤ (n : Int) := by
  have h1 := (List.mergeSort_perm _ _).mem_iff.1 h
  obtain ⟨h2, h3⟩ := List.mem_filter.1 h1
  simp only [plIn, Bool.and_eq_true, decide_eq_true_eq] at h3
  exact ⟨h2, h3⟩
theorem plL_len (n : Nat) (l : List Int) : (plL n l).length = (l.filter (plIn n)).length := (List.mergeSort_perm _ _).length_eq
theorem plL_short (n : Nat) (l : List Int) : (plL n l).length ≤ l.length := by
  rw [plL_len]
  exact List.length_filter_le _ _

/-- Places within a text, in order. -/
structure PlOk (n : Nat) (L : List Int) : Prop where
  rng : ∀ z ∈ L, 0 ≤ z ∧ z ≤ (n : Int)
  asc : L.Pairwise fun a b => decide (a ≤ b) = true
theorem plL_ok (n : Nat) (l : List Int) : PlOk n (plL n l) := ⟨fun _ h => (plL_mem h).2, plL_asc n l⟩

/-- Where piece i begins, ends. -/
def lkA (L : List Int) (i : Nat) : Nat := if i = 0 then 0 else (L.getD (i - 1) 0).toNat
def lkZ (L : List Int) (n i : Nat) : Nat := if i < L.length then (L.getD i 0).toNat else n
theorem lkA_zero (L : List Int) : lkA L 0 = 0 := if_pos rfl
theorem lkA_succ (L : List Int) (i : Nat) : lkA L (i + 1) = (L.getD i 0).toNat := by
  unfold lkA
  rw [if_neg (by omega), Nat.add_sub_cancel]
theorem lkZ_lt {L : List Int} {n i : Nat} (h : i < L.length) : lkZ L n i = lkA L (i + 1) := by
  unfold lkZ
  rw [if_pos h, lkA_succ]
theorem lkZ_end {L : List Int} {n i : Nat} (h : ¬ i < L.length) : lkZ L n i = n := if_neg h
theorem getD_of {L : List Int} {i : Nat} (h : i < L.length) : L.getD i 0 = L[i] := by
  simp [List.getD, List.getElem?_eq_getElem h]
theorem PlOk.at {n : Nat} {L : List Int} (x : PlOk n L) {i : Nat} (h : i < L.length) : ((lkA L (i + 1) : Nat) : Int) = L[i] ∧ lkA L (i + 1) ≤ n := by
  have := x.rng _ (List.getElem_mem h)
  rw [lkA_succ, getD_of h]
  omega
theorem PlOk.le {n : Nat} {L : List Int} (x : PlOk n L) {i : Nat} (h : i ≤ L.length) : lkA L i ≤ lkZ L n i ∧ lkZ L n i ≤ n := by
  rcases Nat.lt_or_ge i L.length with hi | hi
  · rw [lkZ_lt hi]
    refine ⟨?_, (x.at hi).2⟩
    rcases Nat.eq_zero_or_pos i with rfl | hp
    · rw [lkA_zero]; exact Nat.zero_le _
    · obtain ⟨k, rfl⟩ : ∃ k, i = k + 1 := ⟨i - 1, by omega⟩
      have h1 := (x.at (show k < L.length by omega)).1
      have h2 := (x.at hi).1
      have h3 : L[k]'(by omega) ≤ L[k + 1] := by
        have := List.pairwise_iff_getElem.1 x.asc k (k + 1) (by omega) hi (by omega)
        simpa using this
      omega
  · rw [lkZ_end (by omega)]
    refine ⟨?_, Nat.le_refl _⟩
    rcases Nat.eq_zero_or_pos i with rfl | hp
    · rw [lkA_zero]; exact Nat.zero_le _
    · obtain ⟨k, rfl⟩ : ∃ k, i = k + 1 := ⟨i - 1, by omega⟩
      exact (x.at (show k < L.length by omega)).2
/-- A text's pieces. -/
def lkS (s : ByteArray) (L : List Int) (i : Nat) : ByteArray := s.extract (lkA L i) (lkZ L s.size i)
def lkL (s : ByteArray) (L : List Int) : List ByteArray := (List.range (L.length + 1)).map (lkS s L)
theorem lkL_len (s : ByteArray) (L : List Int) : (lkL s L).length = L.length + 1 := by simp [lkL]
theorem lkL_take (s : ByteArray) (L : List Int) (i : Nat) : (List.range (i + 1)).map (lkS s L) = (List.range i).map (lkS s L) ++ [lkS s L i] := by
  rw [List.range_succ, List.map_append]
  rfl
/-- The first i pieces, one after the other. -/
def lkAll (s : ByteArray) (L : List Int) (i : Nat) : ByteArray := s.extract 0 (if i ≤ L.length then lkA L i else s.size)
theorem cut_join {s : ByteArray} {a b : Nat} (h : a ≤ b) : s.extract 0 a ++ s.extract a b = s.extract 0 b := by
  have h1 : s.extract 0 a ++ s.extract a b = s.extract (min 0 a) (max a b) := ByteArray.extract_append_extract
  rw [Nat.zero_min, Nat.max_eq_right h] at h1
  exact h1
theorem lkAll_zero (s : ByteArray) (L : List Int) : lkAll s L 0 = ⟨#[]⟩ := by
  unfold lkAll
  rw [if_pos (Nat.zero_le _), lkA_zero]
  apply ByteArray.ext
  simp
theorem lkAll_step {s : ByteArray} {L : List Int} (x : PlOk s.size L) {i : Nat} (h : i ≤ L.length) : lkAll s L i ++ lkS s L i = lkAll s L (i + 1) := by
  have h1 := x.le h
  unfold lkAll lkS
  rw [if_pos h, cut_join h1.1]
  rcases Nat.lt_or_ge i L.length with hi | hi
  · rw [if_pos (by omega), lkZ_lt hi]
  · rw [if_neg (by omega), lkZ_end (by omega)]
theorem lkAll_end (s : ByteArray) (L : List Int) : lkAll s L (L.length + 1) = s := by
  unfold lkAll
  rw [if_neg (by omega)]
  apply ByteArray.ext
  simp
/-- The chapter's example. -/
theorem example_lim : lkL ⟨#[97, 98, 99]⟩ (plL 3 [2, 0]) = [⟨#[]⟩, ⟨#[97, 98]⟩, ⟨#[99]⟩] := by
  rw [show plL 3 [2, 0] = [0, 2] from plL_is (List.Perm.swap _ _ _) (by decide)]
  decide +kernel
def txv (l : List ByteArray) : List Value := l.map Value.string
theorem txv_snoc (l : List ByteArray) (x : ByteArray) : txv (l ++ [x]) = txv l ++ [.string x] := by simp [txv]
theorem txv_one (l : List ByteArray) : ∀ u ∈ txv l, u.oneCell' = true := by
  intro u hu
  obtain ⟨c, _, rfl⟩ := List.mem_map.1 hu
  rfl
theorem Rd.atT {w : World} {B n : Nat} {A : Option Addr} {l : List ByteArray} (h : Rd w B 1 A n (txv l)) {i : Nat} (hi : i < n) : ∃ b o z, A = some ⟨b, o, none⟩ ∧ b < B ∧ l[i]? = some z ∧ w.cell? ⟨b, o + i, none⟩ = some (.string z) := by
  obtain ⟨b, o, u, e, hb, hu, hc⟩ := h.at1 hi
  have hl : i < l.length := by have := h.len; simp [txv] at this; omega
  refine ⟨b, o, l[i], e, hb, List.getElem?_eq_getElem hl, ?_⟩
  have : u = .string l[i] := by simpa [txv, hl] using hu.symm
  rw [← this]; exact hc
end Go.Proofs.YtbdgkkmbnahgiaaGreatDoor

namespace Go.Proofs.YtbdgkkmbnahgiaaGreatDoor
open Go.RowKit

theorem ext_ext (t : ByteArray) (a n : Nat) : (t.extract 0 (a + n)).extract a (a + n) = t.extract a (a + n) := ls_ext (by
  rw [extract_ls, extract_ls, ls_front, List.drop_take, Nat.add_sub_cancel_left, List.take_take, Nat.min_self])
theorem back_back (s : ByteArray) (a q : Nat) : (s.extract a s.size).extract q (s.extract a s.size).size = s.extract (a + q) s.size := ls_ext (by
  rw [ls_back, ls_back, ls_back, List.drop_drop])
theorem mqR_all {v : Int} {t : ByteArray} (h0 : (hdR v t).2.2 = 0) (hz : hdZ v t ≤ t.size) : mqR v (t.extract 0 (hdZ v t)) = mqR v t := by
  have e := hdR_ext h0 (z := hdZ v t) (Nat.le_add_right _ _)
  have hs : (t.extract 0 (hdZ v t)).size = hdZ v t := by rw [ByteArray.size_extract]; omega
  have h1 : ¬ ((t.extract 0 (hdZ v t)).size < (hdR v t).2.1 + (hdR v t).1.n) := by rw [hs]; exact Nat.lt_irrefl _
  have h2 : ¬ (t.size < (hdR v t).2.1 + (hdR v t).1.n) := Nat.not_lt.2 hz
  have h3 : (t.extract 0 (hdZ v t)).extract (hdR v t).2.1 ((hdR v t).2.1 + (hdR v t).1.n) = t.extract (hdR v t).2.1 ((hdR v t).2.1 + (hdR v t).1.n) := ext_ext t _ _
  have l1 : mqR v (t.extract 0 (hdZ v t)) = if (chR v (hdR v t).1 (t.extract (hdR v t).2.1 ((hdR v t).2.1 + (hdR v t).1.n))).2 = 0 then ((chR v (hdR v t).1 (t.extract (hdR v t).2.1 ((hdR v t).2.1 + (hdR v t).1.n))).1, (hdR v t).2.1 + (hdR v t).1.n, 0)
      else (pk0, 0, if (chR v (hdR v t).1 (t.extract (hdR v t).2.1 ((hdR v t).2.1 + (hdR v t).1.n))).2 = 3 then 5 else (chR v (hdR v t).1 (t.extract (hdR v t).2.1 ((hdR v t).2.1 + (hdR v t).1.n))).2) := by
    unfold mqR
    rw [e, if_neg (fun x => x h0), if_neg h1, h3]
  rw [l1]
  unfold mqR
  rw [if_neg (fun x => x h0 : ¬ (hdR v t).2.2 ≠ 0), if_neg h2]
/-- A packet within a limit, without a look at how much is there first. -/
theorem smN_first (v most : Int) (t : ByteArray) : smN v most t = if (hdR v t).2.2 ≠ 0 then (pk0, 0, (hdR v t).2.2) else if most < (hdZ v t : Nat) then (pk0, 0, 4) else mqR v t := by
  rw [smN_of]
  by_cases h0 : (hdR v t).2.2 ≠ 0
  · rw [if_pos h0, if_pos h0]
  rw [if_neg h0, if_neg h0]
  by_cases h1 : most < (hdZ v t : Nat)
  · rw [if_pos h1, if_pos h1]
  rw [if_neg h1, if_neg h1]
  by_cases h2 : t.size < hdZ v t
  · rw [if_pos h2]
    unfold mqR
    rw [if_neg h0]
    exact (if_pos h2).symm
  · rw [if_neg h2, mqR_all (Classical.not_not.1 h0) (by omega)]
/-- Are limits allowed? -/
def lmOk (mp md : Int) : Bool := decide (16 ≤ mp ∧ mp ≤ 1048576 ∧ 0 ≤ md ∧ md ≤ 32)
theorem smOk_of (v mp md : Int) : smOk v mp md = (hdKnown v && lmOk mp md) := rfl
/-- What Check says. -/
def lmC (mp md : Int) : Int := if lmOk mp md = true then 0 else 2
theorem lmC_ok {mp md : Int} (h : lmOk mp md = true) : lmC mp md = 0 := if_pos h
theorem lmC_bad {mp md : Int} (h : ¬ lmOk mp md = true) : lmC mp md = 2 := if_neg h
/-- What a split is. -/
def lmS (v mp md : Int) (s : ByteArray) : List Pk × Nat × Int := if smOk v mp md = true then ((smG v mp s 0 0 []).1, (smG v mp s 0 0 []).2.2.1, (smG v mp s 0 0 []).2.2.2.2) else ([], 0, 2)
/-- Does a packet fit? -/
def lmFit (v mp md : Int) (p : Pk) : Bool := lmOk mp md && (decide ((mqB v p).2 = 0) && decide (((mqB v p).1.size : Int) ≤ mp))
theorem smG_sum (v most : Int) : ∀ (N : Nat) (t : ByteArray) (a k : Nat) (l : List Pk), t.size ≤ N → (smG v most t a k l).2.2.2.2 = 0 → (smG v most t a k l).2.2.1 + (smG v most t a k l).2.1.size = a + t.size
  | N, t, a, k, l, hN => by
    rw [smG_step]
    split
    · rename_i h0
      have h1 := smN_step h0
      have hx : (t.extract (smN v most t).2.1 t.size).size = t.size - (smN v most t).2.1 := by rw [ByteArray.size_extract]; omega
      intro he
      match N, hN with
      | 0, hN => omega
      | N + 1, hN =>
        have := smG_sum v most N (t.extract (smN v most t).2.1 t.size) (a + (smN v most t).2.1) (k + 1) (l ++ [(smN v most t).1]) (by omega) he
        omega
    · rename_i h0
      split
      · exact fun _ => rfl
      · exact fun he => absurd he h0
theorem joinT_lkS {s : ByteArray} {L : List Int} (x : PlOk s.size L) : ∀ i, i ≤ L.length + 1 → joinT ((List.range i).map (lkS s L)) = lkAll s L i
  | 0, _ => by rw [lkAll_zero]; rfl
  | i + 1, h => by rw [lkL_take, joinT_snoc, joinT_lkS x i (by omega), lkAll_step x (by omega)]
theorem joinT_lk {s : ByteArray} {L : List Int} (x : PlOk s.size L) : joinT (lkL s L) = s := (joinT_lkS x (L.length + 1) (Nat.le_refl _)).trans (lkAll_end s L)
theorem sp_step {v mp : Int} {s : ByteArray} {a n : Nat} {l : List Pk} {RES : List Pk × Nat × Int} (hF : RES = ((smG v mp (s.extract a s.size) a n l).1, (smG v mp (s.extract a s.size) a n l).2.2.1, (smG v mp (s.extract a s.size) a n l).2.2.2.2)) {P : Pk} {q : Nat} {E : Int} (hR : smN v mp (s.extract a s.size) = (P, q, E)) :
    (E = 3 → RES = (l, a, 0)) ∧ (E ≠ 0 → E ≠ 3 → RES = (l, a, E)) ∧ (E = 0 → (2 ≤ q ∧ a + q ≤ s.size ∨ s.size < a) ∧ RES = ((smG v mp (s.extract (a + q) s.size) (a + q) (n + 1) (l ++ [P])).1, (smG v mp (s.extract (a + q) s.size) (a + q) (n + 1) (l ++ [P])).2.2.1, (smG v mp (s.extract (a + q) s.size) (a + q) (n + 1) (l ++ [P])).2.2.2.2)) := by
  have hs := smN_step (v := v) (most := mp) (t := s.extract a s.size)
  rw [smG_step, hR] at hF
  rw [hR] at hs
  dsimp only at hF hs
  rw [back_back] at hF
  refine ⟨fun h => ?_, fun h0 h3 => ?_, fun h => ?_⟩
  · rw [if_neg (by rw [h]; decide), if_pos h] at hF
    exact hF
  · rw [if_neg h0, if_neg h3] at hF
    exact hF
  · have := hs h
    rw [ByteArray.size_extract] at this
    rw [if_pos h] at hF
    exact ⟨by omega, hF⟩
end Go.Proofs.YtbdgkkmbnahgiaaGreatDoor

namespace Go.Proofs.YtbdgkkmbnahgiaaGreatDoor
open Go.RowKit
attribute [local go_sem ↓] to_ldPk to_bxPk to_bdPk to_alPk to_stPk
attribute [local go_sem] run_bxPk run_bxPk_agg ld_fresh run_alPk run_bd0 run_bdK run_bdKI run_bdKIC run_bdKC run_bdKICP run_stPk_fresh pkC_0 pkC_1 pkC_2 pkC_3 pkC_4 pkC_5 pkC_6 pkC_7 pkC_8 pkC_9 pkC_10 pkC_11 pkC_12 pkC_13 pkC_14 pkC_15 pkC_16 pkC_17 pkC_18 pkC_19 pkC_20 pkC_21 pkC_22 pkC_23 pkC_24
theorem Kp.apart {w0 w y : World} {K : Option Addr} {n c : Nat} {t : List UInt8} (h : Kp w0 w K n c t) {gp : Nat} {ty : TypeId} {cs : Array Value} (hp : Bk w gp ty cs) (hne : ty ≠ U8) (hm : w.grownBy y (some gp)) : Kp w0 y K n c t := by
  refine ⟨h.len, h.cap, ?_⟩
  rcases h.lies with h1 | ⟨g, o, M, h1, h2, h3, h4⟩
  · exact .inl h1
  · refine .inr ⟨g, o, M, h1, h2, (hm.block g h3.lt fun e => ?_).trans h3, h4⟩
    cases e
    unfold Bk at hp h3
    rw [hp] at h3
    simp only [Option.some.injEq, Obj.cells.injEq] at h3
    exact hne h3.2.1
set_option maxRecDepth 10000 in
theorem kp_conv {w0 w : World} {K : Option Addr} {n c z : Nat} {t : ByteArray} (h : Kp w0 w K n c (ls t)) (hz : z ≤ n) : (convert 80 9 (.slice K z c)).run Tryz.prog w = .ok (.string (t.extract 0 z)) w := by
  have h1 := h.rd.cut_to hz
  rw [Nat.mul_one, bys_take] at h1
  have h2 := conv_rd (P := Tryz.prog) 80 9 U8 Tryz.underlying80 Tryz.underlying5 Tryz.underlying9 c h1
  rw [h2]
  congr 2
  apply ls_ext
  rw [ls_mk]
  have := extract_ls t 0 z
  rw [Nat.zero_add, List.drop_zero] at this
  exact this.symm
theorem smZ_big {v : Int} {t : ByteArray} : (smZ v t).1 ≤ 268435460 := by
  unfold smZ
  split
  · exact Nat.zero_le _
  rename_i h
  have h0 := Classical.not_not.1 h
  obtain ⟨b1, b2, b3, b4, b5⟩ := hdR_back (v := v) (s := t.extract 0 (min t.size 5)) (h := (hdR v (t.extract 0 (min t.size 5))).1) (a := (hdR v (t.extract 0 (min t.size 5))).2.1) (by rw [← h0])
  rw [ByteArray.size_extract] at b5
  dsimp only
  omega
set_option maxHeartbeats 4000000 in
set_option maxRecDepth 10000 in
theorem smNext_any (v most : Int) (g : Nat) (K : Option Addr) (n c a k : Nat) (e : Int) (t : ByteArray) (w0 w : World) (hb : Bk w g SmT (smC v most K n c a k e)) (hk : Kp w0 w K n c (ls t)) (ht : t.size ≤ 1000000000000) :
    Calls Tryz.prog 95 #[.pointer (some ⟨g, 0, none⟩)] w (PkOut3 (smN v most t) w) := by
  have HE : Hid (smN v most t = if (smZ v t).2 ≠ 0 then (pk0, 0, (smZ v t).2) else if most < ((smZ v t).1 : Nat) then (pk0, 0, 4) else if t.size < (smZ v t).1 then (pk0, 0, 3) else mqR v (t.extract 0 (smZ v t).1)) := Lib.hid rfl
  have HT := Lib.hid ht
  have HL : Hid (t.size = n) := Lib.hid (by rw [← ls_len]; exact hk.len)
  have hb0 := (Below.refl w.heap.size w).alloc (Nat.le_refl _) (.cells (pkC pk0 hs0) PkT)
  have HB0 := Lib.hid hb0
  have HK0 := Lib.hid (Bk.fresh w PkT (pkC pk0 hs0))
  have HG := Lib.hid (show g < w.heap.size from hb.lt)
  have HBK := Lib.hid (hb.alloc (.cells (pkC pk0 hs0) PkT))
  have HKP := Lib.hid (hk.below hb0)
  have HZC := Lib.hid (smSize_any v most g K n c a k e t w0 _ HBK.out HKP.out ht)
  have HZB := Lib.hid (smZ_big (v := v) (t := t))
  clear hb hk ht hb0
  obtain ⟨⟨z, x⟩, hz⟩ : ∃ r, smZ v t = r := ⟨_, rfl⟩
  rw [hz] at HE HZC HZB
  dsimp only at HE HZC HZB
  clear hz
  go_enter Tryz.func95, Tryz.ntmps95
  go_wp2_with fail
  refine HZC.out.mono ?_
  rintro e' w1 ⟨rfl, hb⟩
  have HB1 := Lib.hid (HB0.out.trans (hb.mono HB0.out.size))
  have HK1 := Lib.hid (HK0.out.below hb HK0.out.lt)
  have HBK1 := Lib.hid (HBK.out.below hb HBK.out.lt)
  have HKP1 := Lib.hid (HKP.out.below hb)
  clear hb HZC HB0 HK0 HBK HKP
  have hst := run_stPk HK1.out pk0 hs0
  have HBP : Hid (Below w.heap.size w (putPk w1 w.heap.size pk0 hs0)) := Lib.hid (below_put HB1.out HB1.out.size (Nat.le_refl _) pk0 hs0)
  have HKPP := Lib.hid (put_bk HK1.out pk0 hs0)
  by_cases hx : x = 0
  rotate_left
  · have HX : Hid (smN v most t = (pk0, 0, x)) := Lib.hid (by rw [HE.out, if_pos hx])
    have e0 : (x != 0) = true := bne_iff_ne.2 hx
    clear hx
    go_wp2
    refine bodyPost_ret (results_pk3 rfl _ rfl HKPP.out) rfl ?_
    exact pkOut3_bad HX.out HBP.out
  have HE1 : Hid (smN v most t = if most < (z : Nat) then (pk0, 0, 4) else if t.size < z then (pk0, 0, 3) else mqR v (t.extract 0 z)) := Lib.hid (by rw [HE.out, if_neg (fun y => y hx)])
  subst hx
  have c1 : w1.cell? ⟨g, 1, none⟩ = some (.int .i64 most) := HBK1.out.cell 1
  have c2 : w1.cell? ⟨g, 2, none⟩ = some (.slice K n c) := HBK1.out.cell 2
  by_cases hm : most < (z : Nat)
  · have HX : Hid (smN v most t = (pk0, 0, 4)) := Lib.hid (by rw [HE1.out, if_pos hm])
    go_wp2
    refine bodyPost_ret (results_pk3 rfl _ rfl HKPP.out) rfl ?_
    exact pkOut3_bad HX.out HBP.out
  have m1 : decide (most < (z : Int)) = false := decide_eq_false hm
  have HE2 : Hid (smN v most t = if t.size < z then (pk0, 0, 3) else mqR v (t.extract 0 z)) := Lib.hid (by rw [HE1.out, if_neg hm])
  clear hm HE HE1
  go_upto_region 4 with fail
  go_upto_if 21 with fail
  clear m1
  go_upto_region 6 with fail
  by_cases hl : n < z
  · have HX : Hid (smN v most t = (pk0, 0, 3)) := Lib.hid (by rw [HE2.out, if_pos (by rw [HL.out]; exact hl)])
    have m2 : decide ((n : Int) < (z : Int)) = true := decide_eq_true (by omega)
    have m3 : decide (n < z) = true := decide_eq_true hl
    clear hl
    go_wp2
    refine bodyPost_ret (results_pk3 rfl _ rfl HKPP.out) rfl ?_
    exact pkOut3_bad HX.out HBP.out
  have m2 : decide ((n : Int) < (z : Int)) = false := decide_eq_false (by omega)
  have m3 : decide (n < z) = false := decide_eq_false hl
  have HZN : Hid (z ≤ n) := Lib.hid (by omega)
  have HX : Hid (smN v most t = mqR v (t.extract 0 z)) := Lib.hid (by rw [HE2.out, if_neg (by rw [HL.out]; exact hl)])
  clear hl HE2
  clear HKPP HBP
  go_upto_region 8 with fail
  clear hst m2 m3 c1 c2
  have HCV : Hid (∀ W, Below w1.heap.size w1 W → (convert 80 9 (.slice K z c)).run Tryz.prog W = .ok (.string (t.extract 0 z)) W) := Lib.hid (fun W hW => kp_conv (HKP1.out.below hW) HZN.out)
  have HSB : Hid (∀ W, Below w1.heap.size w1 W → W.cell? ⟨g, 0, none⟩ = some (.int .i64 v) ∧ W.cell? ⟨g, 2, none⟩ = some (.slice K n c) ∧ (convert 80 9 (.slice K z c)).run Tryz.prog W = .ok (.string (t.extract 0 z)) W) := Lib.hid (fun W hW => ⟨(HBK1.out.below hW HBK1.out.lt).cell 0, (HBK1.out.below hW HBK1.out.lt).cell 2, HCV.out W hW⟩)
  have HSP : Hid (∀ W (p : Pk) (q : Hs), Below w1.heap.size w1 W → (putPk W w.heap.size p q).cell? ⟨g, 0, none⟩ = some (.int .i64 v) ∧ (putPk W w.heap.size p q).cell? ⟨g, 2, none⟩ = some (.slice K n c) ∧ (convert 80 9 (.slice K z c)).run Tryz.prog (putPk W w.heap.size p q) = .ok (.string (t.extract 0 z)) (putPk W w.heap.size p q)) := Lib.hid (fun W p q hW => by
    have hk := HK1.out.below hW HK1.out.lt
    have hm := putPk_mods W w.heap.size p q
    have hg : Bk (putPk W w.heap.size p q) g SmT (smC v most K n c a k e) := (hm.block g (HBK1.out.below hW HBK1.out.lt).lt (fun e => by cases e; exact absurd HG.out (Nat.lt_irrefl _))).trans (HBK1.out.below hW HBK1.out.lt)
    exact ⟨hg.cell 0, hg.cell 2, kp_conv ((HKP1.out.below hW).apart hk (by decide) hm) HZN.out⟩)
  have HBD : Hid (Below w1.heap.size w1 w1.drew) := Lib.hid (below_drawn (Below.refl w1.heap.size w1) 1)
  have hsl := fun W => run_to (P := Tryz.prog) (t := 80) (e := U8) (s := 1) Tryz.underlying80 (fun W => by kernel_rfl) K n c z (Nat.le_trans HZN.out HKP1.out.cap) W
  have HRD := Lib.hid (fun W => mqRead_any v (t.extract 0 z) W (by rw [ByteArray.size_extract]; have := HT.out; omega))
  obtain ⟨R, hR⟩ : ∃ R, mqR v (t.extract 0 z) = R := ⟨_, rfl⟩
  rw [hR] at HX HRD
  clear hR HCV
  refine wp_region_D (fun w' => w'.cell? ⟨g, 0, none⟩ = some (.int .i64 v) ∧ w'.cell? ⟨g, 2, none⟩ = some (.slice K n c) ∧ (convert 80 9 (.slice K z c)).run Tryz.prog w' = .ok (.string (t.extract 0 z)) w') [] (by kernel_rfl) ?_
  have HS := HSB.out w1.drew HBD.out
  refine anyD_pick (i := 0) (v := ?va0) [] rfl (Or.inl ⟨by rfl, ?ha0⟩) HS ?ra0
  case ha0 => intro w' hSw; (try dsimp only at hSw); obtain ⟨s0, s2, s3⟩ := hSw; go_simp; try with_reducible rfl
  (try simp only [Act.put]); (try simp only [List.setIfInBounds_toArray]); (try simp only [List.set_cons_succ]); (try simp only [List.set_cons_zero])
  refine anyD_pick (i := 1) (v := ?va1) [] rfl (Or.inl ⟨by rfl, ?ha1⟩) HS ?ra1
  case ha1 => intro w' hSw; (try dsimp only at hSw); obtain ⟨s0, s2, s3⟩ := hSw; go_simp; try with_reducible rfl
  (try simp only [Act.put]); (try simp only [List.setIfInBounds_toArray]); (try simp only [List.set_cons_succ]); (try simp only [List.set_cons_zero])
  refine anyD_pick (i := 2) (v := ?va2) [] rfl (Or.inl ⟨by rfl, ?ha2⟩) HS ?ra2
  case ha2 => intro w' hSw; (try dsimp only at hSw); obtain ⟨s0, s2, s3⟩ := hSw; go_simp; try with_reducible rfl
  (try simp only [Act.put]); (try simp only [List.setIfInBounds_toArray]); (try simp only [List.set_cons_succ]); (try simp only [List.set_cons_zero])
  refine anyD_pick (i := 3) (v := ?va3) [] rfl (Or.inl ⟨by rfl, ?ha3⟩) HS ?ra3
  case ha3 => intro w' hSw; (try dsimp only at hSw); obtain ⟨s0, s2, s3⟩ := hSw; go_simp; try with_reducible rfl
  (try simp only [Act.put]); (try simp only [List.setIfInBounds_toArray]); (try simp only [List.set_cons_succ]); (try simp only [List.set_cons_zero])
  refine anyD_pick (i := 4) (v := ?va4) [] rfl (Or.inl ⟨by rfl, ?ha4⟩) HS ?ra4
  case ha4 => intro w' hSw; (try dsimp only at hSw); obtain ⟨s0, s2, s3⟩ := hSw; go_simp; try with_reducible rfl
  (try simp only [Act.put]); (try simp only [List.setIfInBounds_toArray]); (try simp only [List.set_cons_succ]); (try simp only [List.set_cons_zero])
  refine anyD_pick (i := 5) (v := ?va5) [] rfl (Or.inl ⟨by rfl, ?ha5⟩) HS ?ra5
  case ha5 => intro w' hSw; (try dsimp only at hSw); obtain ⟨s0, s2, s3⟩ := hSw; go_simp; try with_reducible rfl
  (try simp only [Act.put]); (try simp only [List.setIfInBounds_toArray]); (try simp only [List.set_cons_succ]); (try simp only [List.set_cons_zero])
  refine anyD_pick (i := 6) (v := ?va6) [] rfl (Or.inl ⟨by rfl, ?ha6⟩) HS ?ra6
  case ha6 => intro w' hSw; (try dsimp only at hSw); obtain ⟨s0, s2, s3⟩ := hSw; go_simp; try with_reducible rfl
  (try simp only [Act.put]); (try simp only [List.setIfInBounds_toArray]); (try simp only [List.set_cons_succ]); (try simp only [List.set_cons_zero])
  refine anyD_pick (i := 7) (v := ?va7) [] rfl (Or.inl ⟨by rfl, ?ha7⟩) HS ?ra7
  case ha7 => intro w' hSw; (try dsimp only at hSw); obtain ⟨s0, s2, s3⟩ := hSw; go_simp; try with_reducible rfl
  (try simp only [Act.put]); (try simp only [List.setIfInBounds_toArray]); (try simp only [List.set_cons_succ]); (try simp only [List.set_cons_zero])
  refine anyD_pick (i := 8) (v := ?va8) [] rfl (Or.inl ⟨by rfl, ?ha8⟩) HS ?ra8
  case ha8 => intro w' hSw; (try dsimp only at hSw); obtain ⟨s0, s2, s3⟩ := hSw; go_simp; try with_reducible rfl
  (try simp only [Act.put]); (try simp only [List.setIfInBounds_toArray]); (try simp only [List.set_cons_succ]); (try simp only [List.set_cons_zero])
  refine anyD_pick (i := 9) (v := ?va9) [] rfl (Or.inl ⟨by rfl, ?ha9⟩) HS ?ra9
  case ha9 => intro w' hSw; (try dsimp only at hSw); obtain ⟨s0, s2, s3⟩ := hSw; go_simp; try with_reducible rfl
  (try simp only [Act.put]); (try simp only [List.setIfInBounds_toArray]); (try simp only [List.set_cons_succ]); (try simp only [List.set_cons_zero])
  refine anyD_pick (i := 10) (v := ?va10) [] rfl (Or.inl ⟨by rfl, ?ha10⟩) HS ?ra10
  case ha10 => intro w' hSw; (try dsimp only at hSw); obtain ⟨s0, s2, s3⟩ := hSw; go_simp; try with_reducible rfl
  (try simp only [Act.put]); (try simp only [List.setIfInBounds_toArray]); (try simp only [List.set_cons_succ]); (try simp only [List.set_cons_zero])
  refine anyD_one 11 rfl (fun K hK => ?_)
  go_simp
  go_at_call 25
  refine (HRD.out _).mono ?_
  rintro e' w3 ⟨hh, rfl, hi3, hb3, hf3⟩
  have B3 := Lib.hid (HBD.out.trans (hb3.mono HBD.out.size))
  have K3 := Lib.hid (HK1.out.below B3.out HK1.out.lt)
  have I3 := Lib.hid hi3; have F3 := Lib.hid hf3; have Z3 := Lib.hid hb3.size
  clear hi3 hb3 hf3 HS
  have HS := HSB.out w3 B3.out
  go_simp
  refine hK.out _ _ (fun _ => HS) ?_
  clear hK K
  (try simp only [Act.put]); (try simp only [List.setIfInBounds_toArray]); (try simp only [List.set_cons_succ]); (try simp only [List.set_cons_zero])
  refine anyD_pick (i := 12) (v := ?vb12) [] rfl (Or.inl ⟨by rfl, ?hb12⟩) HS ?rb12
  case hb12 => intro w' hSw; (try dsimp only at hSw); obtain ⟨s0, s2, s3⟩ := hSw; go_simp; try with_reducible rfl
  (try simp only [Act.put]); (try simp only [List.setIfInBounds_toArray]); (try simp only [List.set_cons_succ]); (try simp only [List.set_cons_zero])
  refine anyD_pick (i := 13) (v := ?vb13) [] rfl (Or.inl ⟨by rfl, ?hb13⟩) HS ?rb13
  case hb13 => intro w' hSw; (try dsimp only at hSw); obtain ⟨s0, s2, s3⟩ := hSw; go_simp; try with_reducible rfl
  (try simp only [Act.put]); (try simp only [List.setIfInBounds_toArray]); (try simp only [List.set_cons_succ]); (try simp only [List.set_cons_zero])
  refine anyD_pick (i := 14) (v := ?vb14) [] rfl (Or.inl ⟨by rfl, ?hb14⟩) HS ?rb14
  case hb14 => intro w' hSw; (try dsimp only at hSw); obtain ⟨s0, s2, s3⟩ := hSw; go_simp; try with_reducible rfl
  (try simp only [Act.put]); (try simp only [List.setIfInBounds_toArray]); (try simp only [List.set_cons_succ]); (try simp only [List.set_cons_zero])
  refine anyD_one 15 rfl (fun K hK => ?_)
  have hst := run_stPk K3.out R.1 hh
  go_simp
  clear hst HS
  have HS := HSP.out w3 R.1 hh B3.out
  refine hK.out _ _ (fun _ => HS) ?_
  clear hK K
  (try simp only [Act.put]); (try simp only [List.setIfInBounds_toArray]); (try simp only [List.set_cons_succ]); (try simp only [List.set_cons_zero])
  refine anyD_one 16 rfl (fun K hK => ?_)
  go_simp
  refine hK.out _ _ (fun _ => HS) ?_
  clear hK K
  (try simp only [Act.put]); (try simp only [List.setIfInBounds_toArray]); (try simp only [List.set_cons_succ]); (try simp only [List.set_cons_zero])
  refine anyD_one 17 rfl (fun K hK => ?_)
  go_simp
  refine hK.out _ _ (fun _ => HS) ?_
  clear hK K
  (try simp only [Act.put]); (try simp only [List.setIfInBounds_toArray]); (try simp only [List.set_cons_succ]); (try simp only [List.set_cons_zero])
  refine anyD_done (by kernel_rfl) ?_ _
  go_wp2
  refine bodyPost_ret (results_pk3 rfl _ rfl (put_bk K3.out R.1 hh)) rfl ?_
  have BB := HB1.out.trans (B3.out.mono HB1.out.size)
  exact ⟨hh, by rw [HX.out]; rfl, by rw [HX.out]; exact I3.out.put K3.out (putPk_mods _ _ _ _) F3.out (Nat.lt_of_lt_of_le HK1.out.lt HBD.out.size), below_put BB BB.size (Nat.le_refl _) R.1 hh, by rw [HX.out]; exact F3.out.mono (Nat.le_trans HB1.out.size HBD.out.size)⟩
end Go.Proofs.YtbdgkkmbnahgiaaGreatDoor

namespace Go.Proofs.YtbdgkkmbnahgiaaGreatDoor
open Go.ChangeShapes Go.WideShapes Go.ChangeAt Go.RowKit Go.Deep
set_option maxRecDepth 100000

section
variable {H : Type} {enc : TypeId × Value → H} {P : Program} {w : World} {base : Nat} {spare : Nat → Bool} {held : Bool}
theorem field_at {fs : Array Field} {n : Nat} {cs : List Value} {xs : List (DataW H × List MemPlace)}
    (hf : ∀ (i : Nat) (f : Field), fs[i]? = some f → DataW.trod enc P w base spare held n f.type ((cs.drop f.offset).take (P.cellsOf f.type)) = xs[i]?)
    (i : Nat) {t : TypeId} {o k : Nat} (hi : (fs[i]?.map fun f => (f.type, f.offset, P.cellsOf f.type)) = some (t, o, k)) : DataW.trod enc P w base spare held n t ((cs.drop o).take k) = xs[i]? := by
  obtain ⟨f, hfi, he⟩ := Option.map_eq_some_iff.1 hi
  simp only [Prod.mk.injEq] at he
  obtain ⟨rfl, rfl, rfl⟩ := he
  exact hf i f hfi
theorem Sized.field {t : TypeId} {fs : Array Field} {ds : List (DataW H)} (ht : P.underlying t = some (.struct fs)) (h : Sized P t (.agg ds)) {i : Nat} {u : TypeId} {d : DataW H} (hu : (fs.toList.map (·.type))[i]? = some u) (hd : ds[i]? = some d) : Sized P u d := fun z hz => h z (by
  simp only [DataW.weights, ht]
  exact DataW.weights_mem_each hu hd z hz)
theorem Sized.text {t : TypeId} {s : ByteArray} (h : Sized P t (.lit (.string s.data.toList) : DataW H)) : s.size ≤ 140737488351232 := by
  have := h.str
  simpa [reachBytes] using this
end
section
variable {H : Type} {enc : TypeId × Value → H} {w : World} {base : Nat} {spare : Nat → Bool} {held : Bool}
end
end Go.Proofs.YtbdgkkmbnahgiaaGreatDoor

namespace Go.Proofs.YtbdgkkmbnahgiaaGreatDoor
open Go.RowKit
attribute [local go_sem ↓] to_ldPk to_bxPk to_bdPk to_alPk to_stPk
attribute [local go_sem] run_bxPk run_bxPk_agg ld_fresh run_alPk run_bd0 run_bdK run_bdKI run_bdKIC run_bdKC run_bdKICP run_stPk_fresh pkC_0 pkC_1 pkC_2 pkC_3 pkC_4 pkC_5 pkC_6 pkC_7 pkC_8 pkC_9 pkC_10 pkC_11 pkC_12 pkC_13 pkC_14 pkC_15 pkC_16 pkC_17 pkC_18 pkC_19 pkC_20 pkC_21 pkC_22 pkC_23 pkC_24
attribute [local go_sem ↓] to_bsPk
attribute [local go_sem] run_bsPk
/-- What a reading of packets leaves. -/
def AllOut (r : List Pk × Nat × Int) (w : World) (e : Ending) (w' : World) : Prop := ∃ A n c L, e = .returned (.tuple #[.slice A n c, .int .i64 (r.2.1 : Nat), .int .i64 r.2.2]) ∧ RdK w' A n L ∧ L.map Prod.fst = r.1 ∧ Below w.heap.size w w' ∧ n ≤ c ∧ n ≤ 10000000000
theorem allOut_of {w0 w : World} {A : Option Addr} {n c a : Nat} {x : Int} {L : List (Pk × Hs)} {r : List Pk × Nat × Int} (hI : RowI w0 w A n c L) (hB : Below w0.heap.size w0 w) (hr : (L.map Prod.fst, a, x) = r) (hn : n ≤ 10000000000) : AllOut r w0 (.returned (.tuple #[.slice A n c, .int .i64 a, .int .i64 x])) w := by
  subst hr
  exact ⟨A, n, c, L, rfl, hI.read, rfl, hB, hI.row.cap, hn⟩
end Go.Proofs.YtbdgkkmbnahgiaaGreatDoor

namespace Go.Proofs.YtbdgkkmbnahgiaaGreatDoor
open Go.RowKit
attribute [local go_sem ↓] to_ldPk to_bxPk to_bdPk to_alPk to_stPk
attribute [local go_sem] run_bxPk run_bxPk_agg ld_fresh run_alPk run_bd0 run_bdK run_bdKI run_bdKIC run_bdKC run_bdKICP run_stPk_fresh pkC_0 pkC_1 pkC_2 pkC_3 pkC_4 pkC_5 pkC_6 pkC_7 pkC_8 pkC_9 pkC_10 pkC_11 pkC_12 pkC_13 pkC_14 pkC_15 pkC_16 pkC_17 pkC_18 pkC_19 pkC_20 pkC_21 pkC_22 pkC_23 pkC_24
set_option maxHeartbeats 2000000 in
set_option maxRecDepth 10000 in
theorem samePks_any (A A' : Option Addr) (n m c c' : Nat) (L M : List (Pk × Hs)) (w : World) (hl : RdK w A n L) (hm : RdK w A' m M) (ol : ∀ x ∈ L, PkLen x.1) (om : ∀ x ∈ M, PkLen x.1) (hn : n ≤ 4611686018427387904) (hn' : m ≤ 4611686018427387904) :
    Calls Tryz.prog 29 #[.slice A n c, .slice A' m c'] w fun e w' => e = .returned (.bool (decide (L.map Prod.fst = M.map Prod.fst))) ∧ Below w.heap.size w w' := by
  have E1 := Lib.hid hl.len; have E2 := Lib.hid hm.len
  by_cases hlen : n = m
  · subst hlen
    have HL := Lib.hid hl; have HM := Lib.hid hm; have OL := Lib.hid ol; have OM := Lib.hid om
    clear hl hm ol om
    go_enter Tryz.func29, Tryz.ntmps29
    go_wp2
    go_loopw [5] (fun i wr => ∃ k : Nat, k ≤ n ∧ i = .int .i64 k ∧ (∀ j, j < k → (L.map Prod.fst)[j]? = (M.map Prod.fst)[j]?) ∧ Below w.heap.size w wr) (fun i _ => n - (intOf i).toNat)
    case atStart => exact ⟨0, by omega, rfl, fun j hj => by omega, Below.refl _ _⟩
    case round =>
      obtain ⟨k, hk, rfl, hall, hbel⟩ := hrel
      have HA := Lib.hid hall; have HBL := Lib.hid hbel
      clear hall hbel
      by_cases hlt : k < n
      · obtain ⟨bA, oA, p, h, rfl, e1, hb1, l1, i1⟩ := (HL.out.below HBL.out).at hlt
        obtain ⟨bB, oB, q, h', rfl, e2, hb2, l2, i2⟩ := (HM.out.below HBL.out).at hlt
        have LP : Hid (PkLen p) := Lib.hid (OL.out (p, h) (List.mem_of_getElem? e1))
        have LQ : Hid (PkLen q) := Lib.hid (OM.out (q, h') (List.mem_of_getElem? e2))
        have HZ : Hid ((L.map Prod.fst)[k]? = some p) := Lib.hid (by rw [List.getElem?_map, e1]; rfl)
        have HZ' : Hid ((M.map Prod.fst)[k]? = some q) := Lib.hid (by rw [List.getElem?_map, e2]; rfl)
        clear e1 e2 hb1 hb2
        have b1 : (0 : Int) ≤ (k : Int) := by omega
        have b2 : (k : Int) < (n : Int) := by omega
        have q0 := regrown (W := wr) (fun x hx => samePk_any p q h h' x (i1.next hx) (i2.next hx) LP.out LQ.out)
        have g1 := fun d os => l1 _ (below_regrown wr d os)
        have g2 := fun d os => l2 _ (below_regrown wr d os)
        have HBQ := Lib.hid (fun d os => HBL.out.trans ((below_regrown wr d os).mono HBL.out.size))
        have HPQ := Lib.hid (show decide (p = q) = true ↔ p = q from decide_eq_true_iff)
        clear i1 i2 l1 l2
        obtain ⟨B, hB⟩ : ∃ B, decide (p = q) = B := ⟨_, rfl⟩
        rw [hB] at q0 HPQ
        clear hB
        go_wp2_with fail
        refine wp_region_quiet_below (by as_aux_lemma => kernel_rfl) (by as_aux_lemma => kernel_rfl) ?_
        repeat (go_big_quiet_step (first | with_reducible exact q0 _ _))
        refine wpQuiet_nil ?_
        intro _ hw'
        obtain ⟨⟨dq, osq⟩, hw''⟩ := hw'
        subst hw''
        have KF := Lib.hid (HBQ.out dq osq)
        clear q0 g1 g2 HBQ
        generalize Sort.grow (redrawn _ dq) osq = wq at *
        cases B
        · have HNE : Hid (p ≠ q) := Lib.hid (fun e => by have := HPQ.out.2 e; cases this)
          go_wp2
          go_ret
          refine ⟨?_, KF.out⟩
          have : L.map Prod.fst ≠ M.map Prod.fst := by
            intro e
            have := HZ.out.symm.trans ((congrArg (fun l : List Pk => l[k]?) e).trans HZ'.out)
            exact HNE.out (by simpa using this)
          simp [this]
        · have HEQ : Hid (p = q) := Lib.hid (HPQ.out.1 rfl)
          go_wp2
          go_roundw
          case rel =>
            refine ⟨k + 1, by omega, by go_num, fun j hj => ?_, KF.out⟩
            rcases Nat.lt_succ_iff_lt_or_eq.1 hj with h | rfl
            · exact HA.out j h
            · rw [HZ.out, HZ'.out, HEQ.out]
          case measure => simp [intOf]; omega
      · go_wp2
        go_ret
        refine ⟨?_, HBL.out⟩
        have : L.map Prod.fst = M.map Prod.fst := by
          apply List.ext_getElem?
          intro j
          by_cases hj : j < k
          · exact HA.out j hj
          · rw [List.getElem?_eq_none (by rw [List.length_map]; have := E1.out; omega), List.getElem?_eq_none (by rw [List.length_map]; have := E2.out; omega)]
        simp [this]
  · have h1 : ((n : Int) != (m : Int)) = true := by simpa using (by omega : ¬ (n : Int) = (m : Int))
    have HN := Lib.hid hlen
    clear hlen hl hm ol om
    go_enter Tryz.func29, Tryz.ntmps29
    go_wp2
    go_ret
    refine ⟨?_, Below.refl _ _⟩
    have : L.map Prod.fst ≠ M.map Prod.fst := by
      intro e
      have := congrArg List.length e
      rw [List.length_map, List.length_map] at this
      exact HN.out (by rw [← E1.out, ← E2.out]; exact this)
    simp [this]
end Go.Proofs.YtbdgkkmbnahgiaaGreatDoor

namespace Go.Proofs.YtbdgkkmbnahgiaaGreatDoor
open Go.RowKit
attribute [local go_sem ↓] to_ldPk to_bxPk to_bdPk to_alPk to_stPk
attribute [local go_sem] run_bxPk run_bxPk_agg ld_fresh run_alPk run_bd0 run_bdK run_bdKI run_bdKIC run_bdKC run_bdKICP run_stPk_fresh pkC_0 pkC_1 pkC_2 pkC_3 pkC_4 pkC_5 pkC_6 pkC_7 pkC_8 pkC_9 pkC_10 pkC_11 pkC_12 pkC_13 pkC_14 pkC_15 pkC_16 pkC_17 pkC_18 pkC_19 pkC_20 pkC_21 pkC_22 pkC_23 pkC_24
attribute [local go_sem ↓] to_bsPk
attribute [local go_sem] run_bsPk
def natE (l : List Nat) : List Int := l.map fun (k : Nat) => (k : Int)
/-- What stands while packets are gone through: those that are valid so far, where their bytes end. -/
structure LA (v : Int) (w : World) (L : List (Pk × Hs)) (i : Nat) (G : List (Pk × Hs)) (AG : Option Addr) (cG : Nat) (ve : Value) (x : World) : Prop where
  row : RowK w x AG G.length cG G
  ends : x.ownsRow w.heap.size 3 1 ve G.length (iv (natE (endsL v 0 (G.map Prod.fst))))
  good : G.map Prod.fst = goodP v ((L.take i).map Prod.fst)
  mem : ∀ y ∈ G, y ∈ L
  low : Below w.heap.size w x
section
variable {v : Int} {w x y : World} {L G : List (Pk × Hs)} {i : Nat} {AG : Option Addr} {cG : Nat} {ve : Value} {p : Pk} {h : Hs}
theorem LA.start (v : Int) (L : List (Pk × Hs)) (hb : Below w.heap.size w x) : LA v w L 0 [] none 0 (.slice none 0 0) x :=
  ⟨RowK.start _ _, World.ownsRow_nil _ _ _ _, rfl, by simp, hb⟩
theorem LA.below (s : LA v w L i G AG cG ve x) (hb : Below x.heap.size x y) : LA v w L i G AG cG ve y :=
  ⟨s.row.below hb, own_below s.ends hb, s.good, s.mem, s.low.trans (hb.mono s.low.size)⟩
theorem LA.le (s : LA v w L i G AG cG ve x) (hi : i ≤ L.length) : G.length ≤ i := by
  have h1 := congrArg List.length s.good
  rw [List.length_map] at h1
  have h2 : (goodP v ((L.take i).map Prod.fst)).length ≤ ((L.take i).map Prod.fst).length := List.length_filter_le _ _
  rw [List.length_map, List.length_take] at h2
  omega
theorem LA.valid (s : LA v w L i G AG cG ve x) : ∀ p ∈ G.map Prod.fst, mqE v p = 0 := by
  intro p hp
  rw [s.good] at hp
  exact of_decide_eq_true (List.mem_filter.1 hp).2
theorem LA.ok (s : LA v w L i G AG cG ve x) (hL : ∀ y ∈ L, PkOk y.1) : ∀ p ∈ G.map Prod.fst, PkOk p := by
  intro p hp
  obtain ⟨y, hy, rfl⟩ := List.mem_map.1 hp
  exact hL y (s.mem y hy)
end
theorem RdK.take {w : World} {A : Option Addr} {n : Nat} {L : List (Pk × Hs)} (h : RdK w A n L) {k : Nat} (hk : k ≤ n) : RdK w A k (L.take k) :=
  ⟨by rw [← pks_take]; exact h.rd.cut_to hk, fun x hx => h.ins x (List.mem_of_mem_take hx)⟩
theorem RowK.ne {w0 w : World} {A : Option Addr} {n c : Nat} {L : List (Pk × Hs)} (h : RowK w0 w A n c L) {base m : Nat} {v : Value} {xs : List Value} (ho : w.ownsRow base 3 1 v m xs) : v.ownBlock = none ∨ v.ownBlock ≠ (Value.slice A n c).ownBlock := by
  rcases h.lies with ⟨rfl, -⟩ | ⟨g, M, rfl, -, h3, -⟩
  · by_cases e : v.ownBlock = none
    · exact .inl e
    · exact .inr e
  · exact .inr (own_ne ho h3 (by decide))
theorem RowK.other {w0 w y : World} {A : Option Addr} {n c : Nat} {L : List (Pk × Hs)} (h : RowK w0 w A n c L) {row : Option Nat} (hm : w.grownBy y row) (hne : ∀ g, A = some ⟨g, 0, none⟩ → row ≠ some g) : RowK w0 y A n c L := by
  refine ⟨h.len, ?_⟩
  rcases h.lies with h1 | ⟨g, M, h1, h2, h3, h4⟩
  · exact .inl h1
  · exact .inr ⟨g, M, h1, h2, (hm.block g h3.lt (fun e => hne g h1 e.symm)).trans h3, h4⟩
end Go.Proofs.YtbdgkkmbnahgiaaGreatDoor

namespace Go.Proofs.YtbdgkkmbnahgiaaGreatDoor
open Go.RowKit
attribute [local go_sem ↓] to_ldPk to_bxPk to_bdPk to_alPk to_stPk
attribute [local go_sem] run_bxPk run_bxPk_agg ld_fresh run_alPk run_bd0 run_bdK run_bdKI run_bdKIC run_bdKC run_bdKICP run_stPk_fresh pkC_0 pkC_1 pkC_2 pkC_3 pkC_4 pkC_5 pkC_6 pkC_7 pkC_8 pkC_9 pkC_10 pkC_11 pkC_12 pkC_13 pkC_14 pkC_15 pkC_16 pkC_17 pkC_18 pkC_19 pkC_20 pkC_21 pkC_22 pkC_23 pkC_24
attribute [local go_sem ↓] to_bsPk
attribute [local go_sem] run_bsPk
theorem wp_appB {w : World} {o : Oper} {a : Act} {J : Act → World → Prop} {Q : Exit → Act → World → Prop} (x y : Operand)
    (ho : o.op = .call { callee := .builtin .append, args := #[x, y], argTypes := #[80, 9] })
    {w0 : World} {K : Option Addr} {n c : Nat} {t : List UInt8} (s : ByteArray) (hx : a.eval x = .slice K n c) (hy : a.eval y = .string s) (hr : Kp w0 w K n c t) (h0 : w0.heap.size ≤ w.heap.size) (hb : n + s.size ≤ 1000000000000)
    (h : ∀ K' c' w', Kp w0 w' K' (n + s.size) c' (t ++ ls s) → w.grownBy w' (Value.slice K n c).ownBlock → J (a.put o.dst (.slice K' (n + s.size) c')) w') : o.wp Tryz.prog a w J Q := by
  obtain ⟨K', c', w', hrun, h1, h2⟩ := run_appB hr h0 o.type s hb
  unfold Oper.wp execOp
  simp only [ho, resolve, invoke, builtin, Sem.run_bind, Sem.run_pure, Result.andThen_ok, List.map_toArray, List.map_cons, List.map_nil, hx, hy, hrun]
  exact h K' c' w' h1 h2
theorem wpList_appB {w : World} {ops : Array Oper} {rest : List Oper} {o : Oper} {a : Act} {Q : Exit → Act → World → Prop} (hgd : o.guard = none) (x y : Operand)
    (ho : o.op = .call { callee := .builtin .append, args := #[x, y], argTypes := #[80, 9] })
    {w0 : World} {K : Option Addr} {n c : Nat} {t : List UInt8} (s : ByteArray) (hx : a.eval x = .slice K n c) (hy : a.eval y = .string s) (hr : Kp w0 w K n c t) (h0 : w0.heap.size ≤ w.heap.size) (hb : n + s.size ≤ 1000000000000)
    (h : ∀ K' c' w', Kp w0 w' K' (n + s.size) c' (t ++ ls s) → w.grownBy w' (Value.slice K n c).ownBlock → wpList Tryz.prog ops Q rest (a.put o.dst (.slice K' (n + s.size) c')) w') : wpList Tryz.prog ops Q (o :: rest) a w :=
  wpList_plain hgd fun _ hK => wp_appB x y ho s hx hy hr h0 hb fun K' c' w' h1 h2 => hK _ _ (h K' c' w' h1 h2)
theorem smC_no32 (v most : Int) (K : Option Addr) (n c a k : Nat) (e : Int) : ∀ (i : Nat) (m : Int), (smC v most K n c a k e)[i]? ≠ some (Value.int IntKind.u32 m) := by
  intro i m
  rcases i with _ | _ | _ | _ | _ | _ | i <;> simp [smC]
theorem smC_nofi (v most : Int) (K : Option Addr) (n c a k : Nat) (e : Int) (o : Nat) (x : ByteArray) (b : Int) (_c d : Bool) (h0 : (smC v most K n c a k e)[o]? = some (.string x)) (_h1 : (smC v most K n c a k e)[o + 1]? = some (.int .i64 b)) (_h3 : (smC v most K n c a k e)[o + 3]? = some (.bool d)) : False := by
  rcases o with _ | _ | _ | _ | _ | _ | o <;> simp [smC] at h0
/-- A packet whose codes lie apart from the stream's block reads on behind a turn of it. -/
theorem PkIn.stream {x y : World} {g : Nat} {p : Pk} {h : Hs} {v most : Int} {K : Option Addr} {n c a k : Nat} {e : Int} (hi : PkIn x x.heap.size p h) (hbk : Bk x g SmT (smC v most K n c a k e)) (hm : x.grownBy y (some g)) (hf : Apart g (p, h)) : PkIn y y.heap.size p h := by
  refine ⟨(hi.wp.other hbk (smC_no32 _ _ _ _ _ _ _ _) hm (Nat.le_refl _)).wider hm.size, ?_, (hi.filters.otherN hbk (smC_nofi _ _ _ _ _ _ _ _) hm (Nat.le_refl _)).wider hm.size, (hi.props.other hbk (smC_no32 _ _ _ _ _ _ _ _) hm (Nat.le_refl _)).wider hm.size, hi.caps⟩
  refine (hi.codes.grown hm (Nat.le_refl _) ?_).wider hm.size
  intro b o e hx
  rcases hf with h | h
  · dsimp only at h
    rw [h] at hx
    exact absurd rfl hx
  · exact h b o e
/-- What a feed may turn: the stream's block, and the one that was kept. -/
def FS (g : Nat) (o : Option Nat) (i : Nat) : Prop := i = g ∨ o = some i
theorem Mods.app {S : Nat → Prop} {w0 w w' : World} {o : Option Nat} (h : Mods S w0 w) (hg : w.grownBy w' o) (ho : ∀ i, o = some i → S i ∨ w0.heap.size ≤ i) : Mods S w0 w' :=
  ⟨hg.os.trans h.os, hg.tape.trans h.tape, hg.output.trans h.output, Nat.le_trans h.size hg.size, fun i hi hs => (hg.block i (Nat.lt_of_lt_of_le hi h.size) (fun e => by
    rcases ho i e.symm with h1 | h1
    · exact hs h1
    · omega)).trans (h.block i hi hs)⟩
/-- What stands while a stream feeds: its block, what is kept, the row of packets, whose codes are new. -/
structure SF (w0 wf : World) (g : Nat) (o : Option Nat) (v most : Int) (t : ByteArray) (a k : Nat) (A : Option Addr) (m cm : Nat) (L : List (Pk × Hs)) (x : World) : Prop where
  st : ∃ K n c, Bk x g SmT (smC v most K n c a k 0) ∧ Kp w0 x K n c (ls t)
  row : RowI wf x A m cm L
  fresh : ∀ y ∈ L, ∀ i, i < wf.heap.size → Apart i y
  lt : g < wf.heap.size
  base : w0.heap.size ≤ wf.heap.size
  mods : Mods (FS g o) wf x
theorem SF.size {w0 wf : World} {g : Nat} {o : Option Nat} {v most : Int} {t : ByteArray} {a k : Nat} {A : Option Addr} {m cm : Nat} {L : List (Pk × Hs)} {x : World} (s : SF w0 wf g o v most t a k A m cm L x) : wf.heap.size ≤ x.heap.size := s.mods.size
theorem SF.below {w0 wf : World} {g : Nat} {o : Option Nat} {v most : Int} {t : ByteArray} {a k : Nat} {A : Option Addr} {m cm : Nat} {L : List (Pk × Hs)} {x y : World} (s : SF w0 wf g o v most t a k A m cm L x) (hb : Below x.heap.size x y) : SF w0 wf g o v most t a k A m cm L y := by
  obtain ⟨K, n, c, h1, h2⟩ := s.st
  exact ⟨⟨K, n, c, h1.below hb h1.lt, h2.below hb⟩, s.row.below hb, s.fresh, s.lt, s.base, s.mods.trans (Mods.of_below hb)⟩
theorem RowK.bk {w0 w y : World} {A : Option Addr} {n c : Nat} {L : List (Pk × Hs)} (h : RowK w0 w A n c L) (hm : w.grownBy y (Value.slice A n c).ownBlock) {g : Nat} {ty : TypeId} {cs : Array Value} (hb : Bk w g ty cs) (hne : ty ≠ PkT) : Bk y g ty cs := by
  refine (hm.block g hb.lt fun e => ?_).trans hb
  rcases h.lies with ⟨rfl, -⟩ | ⟨g', M, rfl, -, h3, -⟩
  · cases e
  · simp only [Value.ownBlock, Option.some.injEq] at e
    subst e
    unfold Bk at hb h3
    rw [hb] at h3
    simp only [Option.some.injEq, Obj.cells.injEq] at h3
    exact hne h3.2.1
theorem Kp.row {w0 wf w y : World} {K : Option Addr} {m d : Nat} {t : List UInt8} (h : Kp w0 w K m d t) {A : Option Addr} {n c : Nat} {L : List (Pk × Hs)} (hr : RowK wf w A n c L) (hm : w.grownBy y (Value.slice A n c).ownBlock) : Kp w0 y K m d t := by
  refine ⟨h.len, h.cap, ?_⟩
  rcases h.lies with h1 | ⟨g, o, M, h1, h2, h3, h4⟩
  · exact .inl h1
  · exact .inr ⟨g, o, M, h1, h2, hr.bk hm h3 (by decide), h4⟩
/-- A row of packets stands behind a turn of the stream's block. -/
theorem RowI.stream {wf w y : World} {A : Option Addr} {n c : Nat} {L : List (Pk × Hs)} (h : RowI wf w A n c L) {g : Nat} {v most : Int} {K : Option Addr} {m d a k : Nat} {e : Int} (hb : Bk w g SmT (smC v most K m d a k e)) (hm : w.grownBy y (some g)) (ha : ∀ x ∈ L, Apart g x) : RowI wf y A n c L := by
  refine ⟨h.row.other hm fun q hq e => ?_, fun x hx => (h.ins x hx).stream hb hm (ha x hx), h.apart⟩
  cases e
  rcases h.row.lies with ⟨h1, -⟩ | ⟨g', M, h1, -, h3, -⟩
  · rw [h1] at hq; cases hq
  · rw [h1] at hq
    cases hq
    unfold Bk at hb h3
    rw [h3] at hb
    simp only [Option.some.injEq, Obj.cells.injEq] at hb
    exact absurd hb.2.1 (by decide)
/-- What a feed leaves. -/
structure FO (w0 w : World) (g : Nat) (o : Option Nat) (v most : Int) (r : List Pk × ByteArray × Nat × Nat × Int) (w' : World) (A : Option Addr) (m cm : Nat) (L : List (Pk × Hs)) (K : Option Addr) (n c : Nat) : Prop where
  row : RowI w w' A m cm L
  map : L.map Prod.fst = r.1
  bk : Bk w' g SmT (smC v most K n c r.2.2.1 r.2.2.2.1 r.2.2.2.2)
  kp : Kp w0 w' K n c (ls r.2.1)
  mods : Mods (FS g o) w w'
  fresh : ∀ y ∈ L, ∀ i, i < w.heap.size → Apart i y
def FeedOut (w0 w : World) (g : Nat) (o : Option Nat) (v most : Int) (r : List Pk × ByteArray × Nat × Nat × Int) (e : Ending) (w' : World) : Prop := ∃ A m cm L K n c, e = .returned (.tuple #[.slice A m cm, .int .i64 r.2.2.2.2]) ∧ FO w0 w g o v most r w' A m cm L K n c
theorem feed_short {w0 w x : World} {g : Nat} {o : Option Nat} {v most : Int} {t : ByteArray} {a k : Nat} {A : Option Addr} {m cm : Nat} {L : List (Pk × Hs)} {r : List Pk × ByteArray × Nat × Nat × Int} (s : SF w0 w g o v most t a k A m cm L x) (hr : (L.map Prod.fst, t, a, k, 0) = r) : FeedOut w0 w g o v most r (.returned (.tuple #[.slice A m cm, .int .i64 0])) x := by
  subst hr
  obtain ⟨K, n, c, h1, h2⟩ := s.st
  exact ⟨A, m, cm, L, K, n, c, rfl, s.row, rfl, h1, h2, s.mods, s.fresh⟩
theorem feed_bad {w0 w x : World} {g : Nat} {o : Option Nat} {v most : Int} {t : ByteArray} {a k : Nat} {A : Option Addr} {m cm : Nat} {L : List (Pk × Hs)} {E : Int} {r : List Pk × ByteArray × Nat × Nat × Int} (s : SF w0 w g o v most t a k A m cm L x) (hr : (L.map Prod.fst, ⟨#[]⟩, a, k, E) = r) :
    FeedOut w0 w g o v most r (.returned (.tuple #[.slice A m cm, .int .i64 E])) ((x.setCell ⟨g, 2, none⟩ (.slice none 0 0)).setCell ⟨g, 5, none⟩ (.int .i64 E)) := by
  subst hr
  obtain ⟨K, n, c, h1, h2⟩ := s.st
  have hm := (mod_set x g 2 (.slice none 0 0)).trans (mod_set (x.setCell ⟨g, 2, none⟩ (.slice none 0 0)) g 5 (.int .i64 E))
  exact ⟨A, m, cm, L, none, 0, 0, rfl, s.row.stream h1 hm (fun y hy => s.fresh y hy g s.lt), rfl, (h1.put 2 (.slice none 0 0)).put 5 (.int .i64 E), Kp.none _ _, s.mods.app hm (fun i e => by cases e; exact .inl (.inl rfl)), s.fresh⟩
set_option maxHeartbeats 2000000 in
set_option maxRecDepth 10000 in
theorem smFeed_any (v most : Int) (g : Nat) (K : Option Addr) (n c a k : Nat) (t s : ByteArray) (w0 w : World) (hb : Bk w g SmT (smC v most K n c a k 0)) (hk : Kp w0 w K n c (ls t)) (h0 : w0.heap.size ≤ w.heap.size) (hn : n + s.size ≤ 1000000000) (hak : a ≤ 10000000000 ∧ k ≤ 10000000000) :
    Calls Tryz.prog 35 #[.pointer (some ⟨g, 0, none⟩), .string s] w (FeedOut w0 w g (Value.slice K n c).ownBlock v most (smG v most (t ++ s) a k [])) := by
  have HB := Lib.hid hb; have HKP := Lib.hid hk; have H0 := Lib.hid h0; have HN := Lib.hid hn
  have c5 : w.cell? ⟨g, 5, none⟩ = some (.int .i64 0) := HB.out.cell 5
  have c2 : w.cell? ⟨g, 2, none⟩ = some (.slice K n c) := HB.out.cell 2
  have HAK := Lib.hid hak
  have HSZ : Hid ((t ++ s).size ≤ 1000000000) := Lib.hid (by rw [ByteArray.size_append, ← ls_len t, hk.len]; exact hn)
  obtain ⟨RES, hRES⟩ : ∃ R, smF v most ((t ++ s).size + 1) (t ++ s) a k [] = R := ⟨_, rfl⟩
  rw [show smG v most (t ++ s) a k [] = RES from hRES]
  obtain ⟨O, hO⟩ : ∃ O, (Value.slice K n c).ownBlock = O := ⟨_, rfl⟩
  rw [hO]
  have HO := Lib.hid hO
  have HRES := Lib.hid hRES
  clear hb hk h0 hn hak hRES hO
  go_enter Tryz.func35, Tryz.ntmps35
  go_upto_region 5 with fail
  go_upto_region 6 with (at_builtin; refine wpList_appB rfl (.tmp 26) (.tmp 27) rfl (w0 := w0) (K := K) (n := n) (c := c) (t := ls t) s rfl rfl HKP.out H0.out (by have := HN.out; omega) ?_; intro K' c' w1 hkp hgr; have hb1 := HKP.out.bk hgr HB.out (by decide); have f2 := hb1.free 2; have x2 := hb1.cell 2)
  have hb2 := hb1.put 2 (.slice K' (n + s.size) c')
  have BK := Lib.hid (show Bk (w1.setCell ⟨g, 2, none⟩ (.slice K' (n + s.size) c')) g SmT (smC v most K' (n + s.size) c' a k 0) from hb2)
  have KP := Lib.hid (hkp.apart hb1 (by decide) (mod_set w1 g 2 (.slice K' (n + s.size) c')))
  have GL := Lib.hid HB.out.lt
  have LW : Hid (Mods (FS g O) w (w1.setCell ⟨g, 2, none⟩ (.slice K' (n + s.size) c'))) := Lib.hid (((Mods.refl w).app hgr (fun i e => .inl (.inr (HO.out ▸ e)))).app (mod_set w1 g 2 _) (fun i e => by cases e; exact .inl (.inl rfl)))
  clear hb2 hb1 f2 x2 hkp hgr c5 c2 HB HKP
  generalize w1.setCell ⟨g, 2, none⟩ (.slice K' (n + s.size) c') = W1 at *
  have HTS : Hid (ls t ++ ls s = ls (t ++ s)) := Lib.hid (ls_app t s).symm
  rw [HTS.out] at KP
  have SF0 : Hid (SF w0 w g O v most (t ++ s) a k none 0 0 [] W1) := Lib.hid ⟨⟨K', n + s.size, c', BK.out, KP.out⟩, RowI.start w W1, by simp, GL.out, H0.out, LW.out⟩
  go_wp2
  go_loopg [6] ((t ++ s).size + 1) (fun f ov wr => ∃ (A : Option Addr) (m cm : Nat) (L : List (Pk × Hs)) (t' : ByteArray) (a' k' : Nat), ov = .slice A m cm ∧ SF w0 w g O v most t' a' k' A m cm L wr ∧ t'.size < f ∧ smF v most f t' a' k' (L.map Prod.fst) = RES ∧ t'.size ≤ 1000000000 ∧ a' + t'.size ≤ 100000000000 ∧ k' + t'.size ≤ 100000000000 ∧ m + t'.size ≤ 10000000000)
  case atStart => exact ⟨none, 0, 0, [], t ++ s, a, k, rfl, SF0.out, Nat.lt_succ_self _, HRES.out, HSZ.out, by have := HSZ.out; have := HAK.out; omega, by have := HSZ.out; have := HAK.out; omega, by have := HSZ.out; omega⟩
  case round =>
    obtain ⟨A, m, cm, L, t', a', k', rfl, hS, hlt, hF, hz1, hz2, hz3, hz4⟩ := hrel
    obtain ⟨f, rfl⟩ : ∃ f', gk = f' + 1 := ⟨gk - 1, by omega⟩
    rw [smF_step] at hF
    have S0 := Lib.hid hS; have HLT := Lib.hid hlt; have HF := Lib.hid hF
    have HZS := Lib.hid (And.intro hz1 (And.intro hz2 (And.intro hz3 hz4)))
    obtain ⟨K1, n1, c1, hb, hk⟩ := hS.st
    have BK1 := Lib.hid hb; have KP1 := Lib.hid hk
    have HN1 : Hid (t'.size = n1) := Lib.hid (by rw [← ls_len]; exact hk.len)
    have CL := Lib.hid (smNext_any v most g K1 n1 c1 a' k' 0 t' w0 wr hb hk (by omega))
    have HST := Lib.hid (smN_step (v := v) (most := most) (t := t'))
    obtain ⟨⟨P, q, E⟩, hR⟩ : ∃ R, smN v most t' = R := ⟨_, rfl⟩
    rw [hR] at HF HST CL
    dsimp only at HF HST
    clear hS hlt hF hz1 hz2 hz3 hz4 hb hk hR
    go_wp2_with fail
    refine CL.out.mono ?_
    rintro e w2 ⟨hh, rfl, hi, hbw, hf⟩
    have HBW := Lib.hid (hbw.alloc hbw.size (.cells (pkC P hh) PkT))
    have S1 := Lib.hid (S0.out.below HBW.out)
    have BK2 := Lib.hid (BK1.out.below HBW.out BK1.out.lt)
    have KP2 := Lib.hid (KP1.out.below HBW.out)
    have P2 := Lib.hid (hi.next ((Below.refl _ _).alloc (Nat.le_refl _) (.cells (pkC P hh) PkT)))
    have F2 := Lib.hid hf
    clear hi hbw hf CL
    dsimp only at P2 F2 ⊢
    by_cases h3 : E = 3
    · have HX : Hid ((L.map Prod.fst, t', a', k', 0) = RES) := Lib.hid (by
        have := HF.out
        rwa [if_neg (by rw [h3]; decide), if_pos h3] at this)
      subst h3
      go_wp2
      go_ret2
      exact feed_short S1.out HX.out
    by_cases h0 : E = 0
    rotate_left
    · have e3 : (E == 3) = false := beq_eq_false_iff_ne.2 h3
      have e0 : (E == 0) = false := beq_eq_false_iff_ne.2 h0
      have f2 := BK2.out.free 2; have f5 := BK2.out.free 5
      have x2 := BK2.out.cell 2; have x5 := BK2.out.cell 5
      have HX : Hid ((L.map Prod.fst, ⟨#[]⟩, a', k', E) = RES) := Lib.hid (by
        have := HF.out
        rwa [if_neg h0, if_neg h3] at this)
      clear h3 h0
      go_wp2
      go_ret2
      exact feed_bad S1.out HX.out
    subst h0
    have HF2 : Hid (smF v most f (t'.extract q t'.size) (a' + q) (k' + 1) ((L ++ [(P, hh)]).map Prod.fst) = RES) := Lib.hid (by
      have := HF.out
      rw [if_pos rfl] at this
      rw [List.map_append]
      exact this)
    obtain ⟨q1, q2⟩ := HST.out rfl
    have HQ : Hid (2 ≤ q ∧ q ≤ n1) := Lib.hid (by have := HN1.out; omega)
    have hb3 := (Below.refl (w2.alloc (.cells (pkC P hh) PkT)).heap.size (w2.alloc (.cells (pkC P hh) PkT))).alloc (Nat.le_refl _) (.cells (pkC P hh) PkT)
    have S3 := Lib.hid (S1.out.below hb3)
    have BK3 := Lib.hid (BK2.out.below hb3 BK2.out.lt)
    have KP3 := Lib.hid (KP2.out.below hb3)
    have P3 := Lib.hid (P2.out.next hb3)
    have R3 := Lib.hid (rd_pk1 (w2.alloc (.cells (pkC P hh) PkT)) P hh (g := w2.heap.size + 1) (by simp))
    have HNB : Hid (m + 1 ≤ 100000000000) := Lib.hid (by have := HZS.out; have := HQ.out; have := HN1.out; omega)
    clear h3 HF HST q1 q2 hb3 S1 BK2 KP2 P2
    go_upto_region 14 with (at_builtin; refine wpList_appK rfl (.tmp 51) (.tmp 53) rfl (w0 := w) (A := A) (n := m) (c := cm) (L := L) rfl S3.out.row.row S3.out.size _ [(P, hh)] 1 1 _ rfl rfl (by decide) R3.out HNB.out ?_; intro g4 c4 w4 hrow hgr hat hlt4)
    have B4 := Lib.hid (S3.out.row.row.bk hgr BK3.out (by decide))
    have K4 := Lib.hid (KP3.out.row S3.out.row.row hgr)
    have I4 := Lib.hid (S3.out.row.more hrow hgr hat (fun x hx => by rw [List.mem_singleton.1 hx]; exact P3.out) (fun x hx g o e => by rw [List.mem_singleton.1 hx]; exact F2.out.apart (S0.out.row.row.block e).2))
    have A4 : Hid (∀ x ∈ L ++ [(P, hh)], ∀ i, i < w.heap.size → Apart i x) := Lib.hid (fun x hx i hi => (List.mem_append.1 hx).elim (fun h => S0.out.fresh x h i hi) (fun h => by rw [List.mem_singleton.1 h]; exact F2.out.apart (Nat.lt_of_lt_of_le hi S0.out.size)))
    have L4 := Lib.hid (S3.out.mods.app hgr (fun q hq => .inr (S3.out.row.row.own hq).1))
    have DC := Lib.hid (smDrop_any v most g K1 n1 c1 a' k' q 0 w4 B4.out HQ.out.2 KP1.out.cap (by have := HZS.out; omega) (by have := HZS.out; omega) (by have := HZS.out; have := HN1.out; omega))
    clear hrow hgr hat hlt4 S3 BK3 KP3 P3 R3
    go_wp2_with fail
    refine DC.out.mono ?_
    rintro e w5 ⟨rfl, hb5, hm5⟩
    have S5 : Hid (SF w0 w g O v most (t'.extract q t'.size) (a' + q) (k' + 1) (some ⟨g4, 0, none⟩) (m + 1) c4 (L ++ [(P, hh)]) w5) := Lib.hid ⟨⟨cutA K1 n1 q 1, n1 - q, n1 - q, hb5, by
      have := (K4.out.apart B4.out (by decide) hm5).drop HQ.out.2
      rw [drop_ls]
      exact this⟩, I4.out.stream B4.out hm5 (fun y hy => A4.out y hy g S0.out.lt), A4.out, S0.out.lt, S0.out.base, L4.out.app hm5 (fun i e => by cases e; exact .inl (.inl rfl))⟩
    clear hb5 hm5 DC
    go_wp2
    go_roundg f
    case measure => omega
    case rel =>
      have h9 := HQ.out; have h8 := HN1.out; have h7 := HZS.out; have h6 := HLT.out
      have hx : (t'.extract q t'.size).size = t'.size - q := by rw [ByteArray.size_extract, Nat.min_self]
      exact ⟨some ⟨g4, 0, none⟩, m + 1, c4, L ++ [(P, hh)], t'.extract q t'.size, a' + q, k' + 1, rfl, S5.out, by omega, HF2.out, by omega, by omega, by omega, by omega⟩
end Go.Proofs.YtbdgkkmbnahgiaaGreatDoor

namespace Go.Proofs.YtbdgkkmbnahgiaaGreatDoor
open Go.RowKit
attribute [local go_sem ↓] to_ldPk to_bxPk to_bdPk to_alPk to_stPk
attribute [local go_sem] run_bxPk run_bxPk_agg ld_fresh run_alPk run_bd0 run_bdK run_bdKI run_bdKIC run_bdKC run_bdKICP run_stPk_fresh pkC_0 pkC_1 pkC_2 pkC_3 pkC_4 pkC_5 pkC_6 pkC_7 pkC_8 pkC_9 pkC_10 pkC_11 pkC_12 pkC_13 pkC_14 pkC_15 pkC_16 pkC_17 pkC_18 pkC_19 pkC_20 pkC_21 pkC_22 pkC_23 pkC_24
theorem Mods.split {g : Nat} {o : Option Nat} {w w' : World} (h : Mods (FS g o) w w') (hg : g < w.heap.size) : ∃ z, w.grownBy z (some g) ∧ z.grownBy w' o := by
  have hg' : g < w'.heap.size := Nat.lt_of_lt_of_le hg h.size
  refine ⟨{ w with heap := w.heap.set g (w'.heap[g]) hg }, ⟨rfl, rfl, rfl, ?_, fun i hi e => ?_⟩, ⟨h.os, h.tape, h.output, ?_, fun i hi e => ?_⟩⟩
  · show w.heap.size ≤ (w.heap.set g (w'.heap[g]) hg).size
    rw [Array.size_set]
    exact Nat.le_refl _
  · show (w.heap.set g (w'.heap[g]) hg)[i]? = w.heap[i]?
    rw [Array.getElem?_set_ne hg (fun x => e (by rw [x]))]
  · show (w.heap.set g (w'.heap[g]) hg).size ≤ w'.heap.size
    rw [Array.size_set]
    exact h.size
  · show w'.heap[i]? = (w.heap.set g (w'.heap[g]) hg)[i]?
    have hi' : i < w.heap.size := by
      have : i < (w.heap.set g (w'.heap[g]) hg).size := hi
      rwa [Array.size_set] at this
    by_cases x : g = i
    · subst x
      rw [Array.getElem?_set_self hg, Array.getElem?_eq_getElem hg']
    · rw [Array.getElem?_set_ne hg x]
      exact h.block i hi' (fun y => y.elim (fun a => x a.symm) (fun b => e b.symm))
/-- The block that is kept is of bytes. -/
theorem Kp.not {w0 w : World} {K : Option Addr} {n c : Nat} {t : List UInt8} (h : Kp w0 w K n c t) {g : Nat} {ty : TypeId} {cs : Array Value} (hb : Bk w g ty cs) (hne : ty ≠ U8) : (Value.slice K n c).ownBlock ≠ some g := by
  intro e
  rcases h.lies with ⟨rfl, -⟩ | ⟨g', o, M, rfl, -, h3, -⟩
  · cases e
  · simp only [Value.ownBlock, Option.some.injEq] at e
    subst e
    unfold Bk at hb h3
    rw [hb] at h3
    simp only [Option.some.injEq, Obj.cells.injEq] at h3
    exact hne h3.2.1
theorem RowI.kept {wf w0 w y : World} {A : Option Addr} {n c : Nat} {L : List (Pk × Hs)} (h : RowI wf w A n c L) {K : Option Addr} {m d : Nat} {t : List UInt8} (hk : Kp w0 w K m d t) (hm : w.grownBy y (Value.slice K m d).ownBlock) : RowI wf y A n c L := by
  refine ⟨h.row.other hm fun q hq e => ?_, fun x hx => hk.keep hm (h.ins x hx), h.apart⟩
  rcases h.row.lies with ⟨h1, -⟩ | ⟨g2, M2, h1, -, h4, -⟩
  · rw [h1] at hq; cases hq
  · rw [h1] at hq; cases hq
    exact hk.not h4 (by decide) e
/-- A row of packets stands behind a feed. -/
theorem RowI.fed {wf w0 w y : World} {A : Option Addr} {n c : Nat} {L : List (Pk × Hs)} (h : RowI wf w A n c L) {g : Nat} {v most : Int} {K : Option Addr} {m d a k : Nat} {e : Int} {t : List UInt8} (hb : Bk w g SmT (smC v most K m d a k e)) (hk : Kp w0 w K m d t) (hm : Mods (FS g (Value.slice K m d).ownBlock) w y) (ha : ∀ x ∈ L, Apart g x) : RowI wf y A n c L := by
  obtain ⟨z, h1, h2⟩ := hm.split hb.lt
  exact (h.stream hb h1 ha).kept (hk.apart hb (by decide) h1) h2
/-- What lies below a bound that the stream's blocks do not reach is kept. -/
theorem fed_below {B : Nat} {w0 wk w y : World} (h0 : Below B w0 w) {g : Nat} {K : Option Addr} {m d : Nat} {t : List UInt8} (hg : B ≤ g) (hB : B ≤ w.heap.size) (hk : Kp wk w K m d t) (hw : B ≤ wk.heap.size) (hm : Mods (FS g (Value.slice K m d).ownBlock) w y) : Below B w0 y :=
  hm.below h0 hB fun i hi => hi.elim (fun e => by omega) (fun e => Nat.le_trans hw (hk.own e).1)
/-- A row's first packet. -/
theorem RowK.first {w0 w : World} {A : Option Addr} {n c : Nat} {p : Pk} {h : Hs} {L : List (Pk × Hs)} (hr : RowK w0 w A n c ((p, h) :: L)) : ∃ g M, A = some ⟨g, 0, none⟩ ∧ Bk w g PkT (pks ((p, h) :: M)).toArray := by
  rcases hr.lies with ⟨-, h1, -⟩ | ⟨g, M, h1, -, h3, h4, h5, -, h7⟩
  · have := hr.len
    simp at this
    omega
  · match M, n, h3, h7 with
    | [], _, _, h7 => simp at h7
    | _ :: _, 0, _, h7 => simp at h7
    | x :: M, n + 1, h3, h7 =>
      rw [List.take_succ_cons, List.cons.injEq] at h7
      rw [h7.1] at h3
      exact ⟨g, M, h1, h3⟩
theorem Bk.first {w : World} {g : Nat} {p : Pk} {h : Hs} {M : List (Pk × Hs)} (hb : Bk w g PkT (pks ((p, h) :: M)).toArray) {r : Nat} (hr : r < 25) : w.cell? ⟨g, r, none⟩ = (pkC p h)[r]? := by
  rw [hb.cell, List.getElem?_toArray]
  have := pks_at ((p, h) :: M) 0 r (Nat.succ_pos _) hr
  rwa [Nat.zero_mul, Nat.zero_add] at this
/-- Another block stands behind a feed. -/
theorem Bk.fed {w0 w y : World} {q : Nat} {ty : TypeId} {cs : Array Value} (h : Bk w q ty cs) (h1 : ty ≠ U8) {g : Nat} {K : Option Addr} {m d : Nat} {t : List UInt8} (hq : q ≠ g) (hk : Kp w0 w K m d t) (hm : Mods (FS g (Value.slice K m d).ownBlock) w y) : Bk y q ty cs :=
  h.mods hm fun x => x.elim hq (hk.not h h1)
theorem Bk.ne {w : World} {q g : Nat} {ty tz : TypeId} {cs ds : Array Value} (h : Bk w q ty cs) (h' : Bk w g tz ds) (hne : ty ≠ tz) : q ≠ g := by
  rintro rfl
  unfold Bk at h h'
  rw [h] at h'
  simp only [Option.some.injEq, Obj.cells.injEq] at h'
  exact hne h'.2.1
/-- What another stream keeps stands behind a feed. -/
theorem Kp.fed {w0 w1 w y : World} {K K' : Option Addr} {n c m d : Nat} {t u : List UInt8} (h : Kp w0 w K n c t) {g : Nat} {cs : Array Value} (hb : Bk w g SmT cs) (hx : ∀ i, (Value.slice K n c).ownBlock = some i → (Value.slice K' m d).ownBlock ≠ some i) (hm : Mods (FS g (Value.slice K' m d).ownBlock) w y) (_hk : Kp w1 w K' m d u) : Kp w0 y K n c t := by
  refine ⟨h.len, h.cap, ?_⟩
  rcases h.lies with h1 | ⟨q, o, M, rfl, h2, h3, h4⟩
  · exact .inl h1
  · exact .inr ⟨q, o, M, rfl, h2, h3.mods hm (fun x => x.elim (fun e => h3.ne hb (by decide) e) (hx q rfl)), h4⟩
set_option maxHeartbeats 1000000 in
set_option maxRecDepth 10000 in
theorem smFeed_err (v most : Int) (g : Nat) (K : Option Addr) (n c a k : Nat) (e : Int) (he : e ≠ 0) (s : ByteArray) (w : World) (hb : Bk w g SmT (smC v most K n c a k e)) :
    Calls Tryz.prog 35 #[.pointer (some ⟨g, 0, none⟩), .string s] w fun e' w' => e' = .returned (.tuple #[.slice none 0 0, .int .i64 e]) ∧ Below w.heap.size w w' := by
  have HB := Lib.hid (Below.refl w.heap.size w)
  have c5 : w.cell? ⟨g, 5, none⟩ = some (.int .i64 e) := hb.cell 5
  have e0 : (e != 0) = true := bne_iff_ne.2 he
  clear hb he
  go_enter Tryz.func35, Tryz.ntmps35
  go_wp2
  go_quiet (fail)
  go_wp2
  go_ret2
  exact ⟨rfl, below_drawn HB.out _⟩
theorem results_lim {fn : Func} {p : Tmp} (hr : fn.results = #[.cell p 54]) (tmps : Array Value) {w : World} {g : Nat} {a b : Value} (hp : tmps.getD p undef = .pointer (some ⟨g, 0, none⟩)) (hb : Bk w g 54 #[a, b]) : (results fn tmps).run Tryz.prog w = .ok (.agg #[a, b]) w := by
  obtain ⟨⟨c0, c1⟩, -⟩ := hb.two
  rw [Array.getD_eq_getD_getElem?] at hp
  simp only [results, hr]
  simp [hp, go_sem, c0, c1]
theorem FO.len {w0 w w' : World} {g : Nat} {o : Option Nat} {v most : Int} {r : List Pk × ByteArray × Nat × Nat × Int} {A : Option Addr} {m cm : Nat} {L : List (Pk × Hs)} {K : Option Addr} {n c : Nat} (h : FO w0 w g o v most r w' A m cm L K n c) : m = r.1.length := by
  rw [← h.map, List.length_map, h.row.row.len]
end Go.Proofs.YtbdgkkmbnahgiaaGreatDoor

