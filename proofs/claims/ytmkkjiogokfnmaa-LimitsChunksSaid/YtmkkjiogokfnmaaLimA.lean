/- limits: slices.Sort and slices.DeleteFunc at []int, laid; limits.places, limits.Chunks: the walks. -/
import Derived.Test.YtmkkjiogokfnmaaLimP
import Derived.Shelf.Sort.Plain
import Derived.Shelf.SlicesE.DeleteFunc
import Derived.Sort.OwnSortedInts
import Derived.Shelf.Slices.In.SortNone
namespace Go.Proofs.Ytmkkjiogokfnmaa
open Go.RowKit Go.Shelf
open Go.Sort hiding Below
def lays189_ren : Ren := ⟨fun | 125 => 16 | 128 => 26 | 129 => 27 | 189 => 13 | 215 => 33 | 216 => 23 | 257 => 15 | 294 => 17 | 295 => 18 | 296 => 19 | 297 => 20 | 298 => 21 | 299 => 22 | 300 => 24 | 301 => 25 | 328 => 28 | 329 => 29 | 330 => 30 | 331 => 31 | 332 => 32 | 343 => 34 | n => n, fun | 0 => 0 | 3 => 3 | 4 => 4 | 5 => 5 | 9 => 9 | 28 => 22 | 46 => 37 | 51 => 48 | 53 => 50 | 131 => 45 | 182 => 39 | 183 => 40 | 218 => 51 | 222 => 55 | 228 => 57 | 229 => 58 | n => n, fun n => n⟩
theorem lays189 : Lays.n189 Try.prog lays189_ren where
  mixed := by kernel_rfl
  f125 := Try.func16.trans (congrArg some (by kernel_rfl))
  f128 := Try.func26.trans (congrArg some (by kernel_rfl))
  f129 := Try.func27.trans (congrArg some (by kernel_rfl))
  f189 := Try.func13.trans (congrArg some (by kernel_rfl))
  f215 := Try.func33.trans (congrArg some (by kernel_rfl))
  f216 := Try.func23.trans (congrArg some (by kernel_rfl))
  f257 := Try.func15.trans (congrArg some (by kernel_rfl))
  f294 := Try.func17.trans (congrArg some (by kernel_rfl))
  f295 := Try.func18.trans (congrArg some (by kernel_rfl))
  f296 := Try.func19.trans (congrArg some (by kernel_rfl))
  f297 := Try.func20.trans (congrArg some (by kernel_rfl))
  f298 := Try.func21.trans (congrArg some (by kernel_rfl))
  f299 := Try.func22.trans (congrArg some (by kernel_rfl))
  f300 := Try.func24.trans (congrArg some (by kernel_rfl))
  f301 := Try.func25.trans (congrArg some (by kernel_rfl))
  f328 := Try.func28.trans (congrArg some (by kernel_rfl))
  f329 := Try.func29.trans (congrArg some (by kernel_rfl))
  f330 := Try.func30.trans (congrArg some (by kernel_rfl))
  f331 := Try.func31.trans (congrArg some (by kernel_rfl))
  f332 := Try.func32.trans (congrArg some (by kernel_rfl))
  f343 := Try.func34.trans (congrArg some (by kernel_rfl))
  t0 := Try.underlying0
  a0 := Try.isAgg0
  z0 := Try.sizeOf0
  v0 := Try.zeroValue0
  t3 := Try.underlying3
  a3 := Try.isAgg3
  z3 := Try.sizeOf3
  v3 := Try.zeroValue3
  t4 := Try.underlying4
  a4 := Try.isAgg4
  z4 := Try.sizeOf4
  v4 := Try.zeroValue4
  t5 := Try.underlying5
  a5 := Try.isAgg5
  z5 := Try.sizeOf5
  v5 := Try.zeroValue5
  t9 := Try.underlying9
  a9 := Try.isAgg9
  z9 := Try.sizeOf9
  v9 := Try.zeroValue9
  t28 := Try.underlying22
  a28 := Try.isAgg22
  z28 := Try.sizeOf22
  v28 := Try.zeroValue22
  t46 := Try.underlying37
  a46 := Try.isAgg37
  z46 := Try.sizeOf37
  v46 := Try.zeroValue37
  t51 := Try.underlying48
  a51 := Try.isAgg48
  z51 := Try.sizeOf48
  v51 := Try.zeroValue48
  t53 := Try.underlying50
  a53 := Try.isAgg50
  z53 := Try.sizeOf50
  v53 := Try.zeroValue50
  t131 := Try.underlying45
  a131 := Try.isAgg45
  z131 := Try.sizeOf45
  v131 := Try.zeroValue45
  t182 := Try.underlying39
  a182 := Try.isAgg39
  z182 := Try.sizeOf39
  v182 := Try.zeroValue39
  t183 := Try.underlying40
  a183 := Try.isAgg40
  z183 := Try.sizeOf40
  v183 := Try.zeroValue40
  t218 := Try.underlying51
  a218 := Try.isAgg51
  z218 := Try.sizeOf51
  v218 := Try.zeroValue51
  t222 := Try.underlying55
  a222 := Try.isAgg55
  z222 := Try.sizeOf55
  v222 := Try.zeroValue55
  t228 := Try.underlying57
  a228 := Try.isAgg57
  z228 := Try.sizeOf57
  v228 := Try.zeroValue57
  t229 := Try.underlying58
  a229 := Try.isAgg58
  z229 := Try.sizeOf58
  v229 := Try.zeroValue58
def laysH10_ren : Ren := ⟨fun | 6 => 14 | 10 => 10 | n => n, fun | 0 => 0 | 3 => 3 | 4 => 4 | 22 => 22 | 23 => 3 | 25 => 32 | n => n, fun n => n⟩
theorem laysH10 : SlLaysH.n10 Try.prog laysH10_ren where
  mixed := by kernel_rfl
  f6 := ⟨Try.f14.name, by kernel_rfl, Try.func14.trans (congrArg some (by kernel_rfl))⟩
  f10 := ⟨Try.f10.name, by kernel_rfl, Try.func10.trans (congrArg some (by kernel_rfl))⟩
  t0 := Try.underlying0
  a0 := Try.isAgg0
  z0 := Try.sizeOf0
  v0 := Try.zeroValue0
  t3 := Try.underlying3
  a3 := Try.isAgg3
  z3 := Try.sizeOf3
  v3 := Try.zeroValue3
  t4 := Try.underlying4
  a4 := Try.isAgg4
  z4 := Try.sizeOf4
  v4 := Try.zeroValue4
  t22 := Try.underlying22
  a22 := Try.isAgg22
  z22 := Try.sizeOf22
  v22 := Try.zeroValue22
  a23 := Try.isAgg3
  z23 := Try.sizeOf3
  t25 := Try.underlying32
  a25 := Try.isAgg32
  z25 := Try.sizeOf32
  v25 := Try.zeroValue32
theorem lim_info_int : (Try.prog.info? 3).map (fun i => (i.zero, i.size, i.bytes)) = some (some (.int .i64 0), 1, 8) := by kernel_rfl
theorem lim_info_str : (Try.prog.info? 9).map (fun i => (i.zero, i.size, i.bytes)) = some (some (.string ⟨#[]⟩), 1, 16) := by kernel_rfl
theorem lim_one (l : List Int) : ∀ u ∈ iv l, u.oneCell' = true := by
  intro u hu
  obtain ⟨z, -, rfl⟩ := List.mem_map.1 hu
  rfl
/-- slices.Clone at ints: nil stays nil. -/
theorem cloneN_any (n c : Nat) (w : World) : Calls Try.prog 11 #[.slice none n c] w fun e w' => e = .returned (.slice none 0 0) ∧ w = w' := by
  have q22 : ∀ (w : World) (a : Option Addr) (n c n' c' : Nat), (binOp .eql 22 (.slice a n c) (.slice none n' c')).run Try.prog w = .ok (.bool a.isNone) w := fun w a n c n' c' => Lib.run_eql_slice_nil w _ _ a n c n' c' Try.underlying22
  go_enter Try.func11, Try.ntmps11
  go_wp2
  go_ret
  exact ⟨rfl, rfl⟩
set_option maxHeartbeats 400000 in
set_option maxRecDepth 10000 in
theorem cloneS_any (ad : Addr) (l : List Int) (c : Nat) (w : World) (h : Rd w w.heap.size 1 (some ad) l.length (iv l)) (hl : l.length ≤ 1000000) :
    Calls Try.prog 11 #[.slice (some ad) l.length c] w fun e w' => ∃ v, e = .returned v ∧ w'.ownsRow w.heap.size 3 1 v l.length (iv l) ∧ Below w.heap.size w w' ∧ v ≠ .slice none 0 0 := by
  have H := Lib.hid h; clear h
  have q22 : ∀ (w : World) (a : Option Addr) (n c n' c' : Nat), (binOp .eql 22 (.slice a n c) (.slice none n' c')).run Try.prog w = .ok (.bool a.isNone) w := fun w a n c n' c' => Lib.run_eql_slice_nil w _ _ a n c n' c' Try.underlying22
  go_enter Try.func11, Try.ntmps11
  go_wp2_with (at_builtin; refine wpList_app _ rfl (.tmp 5) (.tmp 6) 22 rfl w.heap.size 3 _ 1 8 Try.underlying22 lim_info_int rfl (by decide) (.slice (some ⟨w.heap.size, 0, none⟩) 0 0) 0 [] rfl (own_empty w w.heap.size _ 1 (Nat.le_refl _)) _ _ _ _ (iv l) rfl (H.out.alloc (Nat.le_refl _) _) (lim_one _) (by unfold maxLen; omega) (by omega) (by simp) ?_; intro v' w3 hown3 hg3 hat3)
  go_ret
  refine ⟨v', rfl, by simpa using hown3, below_app ((Below.refl _ _).alloc (Nat.le_refl _) _) hg3 (by simp) (fun g hg => ?_), ?_⟩
  · have : w.heap.size = g := by simpa [Value.ownBlock] using hg
    omega
  · rintro rfl
    simp [Value.ownBlock] at hat3
set_option maxHeartbeats 400000 in
/-- The places that are struck: those without the text. -/
theorem strike_any (n : Nat) (z : Int) (B : Nat) (w : World) (hc : w.cell? ⟨B, 0, none⟩ = some (.int .i64 n)) :
    FnGives Try.prog 12 #[.pointer (some ⟨B, 0, none⟩)] #[.int .i64 z] (.bool (!plIn n z)) w := by
  show Calls Try.prog 12 #[.int .i64 z, .pointer (some ⟨B, 0, none⟩)] w _
  have HX : Hid (plIn n z = (decide (0 ≤ z) && decide (z ≤ (n : Int)))) := Lib.hid rfl
  by_cases h0 : z < 0
  · have HY : Hid (plIn n z = false) := Lib.hid (by rw [HX.out, decide_eq_false (by omega)]; rfl)
    go_enter Try.func12, Try.ntmps12
    go_wp2
    go_ret
    exact ⟨by rw [HY.out]; rfl, 0, rfl⟩
  · have h0' : 0 ≤ z := by omega
    by_cases h1 : (n : Int) < z
    · have HY : Hid (plIn n z = false) := Lib.hid (by rw [HX.out, decide_eq_false (show ¬ z ≤ (n : Int) by omega), Bool.and_false])
      go_enter Try.func12, Try.ntmps12
      go_wp2
      go_ret
      exact ⟨by rw [HY.out]; rfl, 0, rfl⟩
    · have h1' : z ≤ (n : Int) := by omega
      have HY : Hid (plIn n z = true) := Lib.hid (by rw [HX.out, decide_eq_true h0', decide_eq_true h1']; rfl)
      clear h0 h1
      go_enter Try.func12, Try.ntmps12
      go_wp2
      go_ret
      refine ⟨?_, 0, rfl⟩
      rw [HY.out]
      simp; omega
set_option maxHeartbeats 400000 in
theorem idxN_any (f : Value) (c : Nat) (w : World) : Calls Try.prog 14 #[.slice none 0 c, f] w fun e w' => e = .returned (.int .i64 (-1)) ∧ w = w' := by
  go_enter Try.func14, Try.ntmps14
  go_wp2
  go_loopw [8] (fun i wr => i = .int .i64 0 ∧ w = wr) (fun i _ => 0)
  case atStart => exact ⟨rfl, rfl⟩
  case round =>
    obtain ⟨rfl, rfl⟩ := hrel
    go_wp2
    go_ret
    exact ⟨rfl, rfl⟩
set_option maxHeartbeats 400000 in
theorem delN_any (f : Value) (c : Nat) (w : World) : Calls Try.prog 10 #[.slice none 0 c, f] w fun e w' => e = .returned (.slice none 0 c) ∧ w = w' := by
  go_enter Try.func10, Try.ntmps10
  go_wp2_with fail
  refine (idxN_any f c _).mono ?_
  rintro e w1 ⟨rfl, rfl⟩
  go_wp2
  go_ret
  exact ⟨rfl, rfl⟩
/-- Below, behind a row of ints rewritten in a block of the call's own. -/
theorem below_row {B g n : Nat} {a w : World} {os : Array Obj} (d : Array Int) (h : Below B a w) (hB : B ≤ w.heap.size) (hg : B ≤ g) : Below B a (grow (putRow (Value.int .i64) (Sort.ahead w n) g 0 d) os) :=
  h.grown (grownBy_sortedI d) hB (fun k hk => by cases hk; exact hg)
theorem row_plain {w : World} {g n : Nat} (d : Array Int) : putRow (Value.int .i64) (Sort.ahead w n) g 0 d = grow (putRow (Value.int .i64) (Sort.ahead w n) g 0 d) #[] := (grow_empty _).symm
theorem holds_front {w : World} {g : Nat} {l m : List Int} (h : Holds (Value.int .i64) w g 0 (l ++ m).toArray) : Holds (Value.int .i64) w g 0 l.toArray := fun j hj => by
  have hj' : j < l.length := by simpa using hj
  have := h j (by simp; omega)
  have e : (l ++ m).toArray[j]! = l.toArray[j]! := by
    rw [getElem!_pos (l ++ m).toArray j (by simp; omega), getElem!_pos l.toArray j hj]
    simp [List.getElem_append_left hj']
  rwa [e] at this
theorem sort_ints (blk cap : Nat) (zs : List Int) (w : World) (hH : Holds (Value.int .i64) w blk 0 zs.toArray) (hblk : blk < w.heap.size) (hsz : zs.length < 4611686018427387904) :
    Calls Try.prog 13 #[.slice (some ⟨blk, 0, none⟩) zs.length cap] w fun e w' =>
      e = .returned (.tuple #[]) ∧ ∃ n os, w' = grow (putRow (Value.int .i64) (Sort.ahead w n) blk 0 (zs.mergeSort fun x y => decide (x ≤ y)).toArray) os := Any.slices_Sort_int lays189 blk 0 cap zs w hH hblk hsz
theorem sort_none (w : World) : Calls Try.prog 13 #[.slice none 0 0] w fun e w' => e = .returned (.tuple #[]) ∧ w' = w := Any.slices_Sort_int_none lays189 none 0 w
set_option maxHeartbeats 400000 in
/-- slices.DeleteFunc at the places: what is left lies in front. -/
theorem del_ints (n blk cap B : Nat) (l : List Int) (w : World) (hB : w.cell? ⟨B, 0, none⟩ = some (.int .i64 n)) (hBlt : B < w.heap.size) (hne : B ≠ blk) (hH : Holds (Value.int .i64) w blk 0 l.toArray) (hl : l.length ≤ 1000000) (hc : l.length ≤ cap) :
    Calls Try.prog 10 #[.slice (some ⟨blk, 0, none⟩) l.length cap, .func (.func 12) #[] #[.pointer (some ⟨B, 0, none⟩)]] w fun e w' =>
      e = .returned (.slice (some ⟨blk, 0, none⟩) (l.filter (plIn n)).length cap) ∧ ∃ q, w' = putRow (Value.int .i64) (Sort.ahead w q) blk 0 (l.filter (plIn n) ++ List.replicate (l.length - (l.filter (plIn n)).length) 0).toArray := by
  have eg : ∀ args w, (callFunc 12 args).run Try.prog w = .ok (.enter 12 args) w := enters_of Try.func12 (by kernel_rfl) rfl
  have h := AnyE.slices_DeleteFunc laysH10 (Value.int .i64) (fun _ => rfl) (fun z => !plIn n z) 12 #[.pointer (some ⟨B, 0, none⟩)] eg 0 Try.zeroValue3 blk 0 cap l.toArray w
    (fun W x hb => strike_any n x B W ((hb.cell (p := ⟨B, 0, none⟩) hBlt).trans hB))
    (fun m os dk x _ => strike_any n x B _ (by
      unfold sortWorld
      rw [cell?_grow _ _ _ (by show B < (putRow _ _ _ _ _).heap.size; rw [size_putRow]; exact hBlt), cell?_putRow_other _ _ blk 0 _ _ (Or.inl hne)]
      exact hB)) hH (by simp; omega) (by simpa using hc)
  have e1 : (l.toArray.toList.filter fun x => !(fun z => !plIn n z) x) = l.filter (plIn n) := by simp
  rw [e1] at h
  simp only [List.size_toArray] at h
  exact h
set_option maxHeartbeats 1000000 in
set_option maxRecDepth 10000 in
theorem places_any (n : Nat) (A : Option Addr) (l : List Int) (c : Nat) (w : World) (hr : Rd w w.heap.size 1 A l.length (iv l)) (hl : l.length ≤ 1000000) :
    Calls Try.prog 9 #[.int .i64 n, .slice A l.length c] w fun e w' => ∃ A' c', e = .returned (.slice A' (plL n l).length c') ∧ Rd w' w'.heap.size 1 A' (plL n l).length (iv (plL n l)) ∧ Below w.heap.size w w' := by
  have HR := Lib.hid hr
  have HB := Lib.hid ((Below.refl w.heap.size w).alloc (Nat.le_refl _) (.cells #[.int .i64 n] 3))
  have HC := Lib.hid (Bk.fresh w 3 #[.int .i64 n])
  clear hr
  have HS : Hid (plL n l = ((l.filter (plIn n)).mergeSort fun x y => decide (x ≤ y))) := Lib.hid rfl
  have HQ : Hid (plL n [] = []) := Lib.hid (plL_is (List.Perm.refl _) List.Pairwise.nil)
  rcases A with _ | ad
  · have hn : l = [] := by
      rcases HR.out.2 with h0 | ⟨b, o, h, _⟩
      · simpa [iv] using h0
      · cases h
    subst hn
    go_enter Try.func9, Try.ntmps9
    go_wp2_with fail
    refine (cloneN_any _ _ _).mono ?_
    rintro e w1 ⟨rfl, rfl⟩
    go_wp2_with fail
    refine (delN_any _ _ _).mono ?_
    rintro e w1 ⟨rfl, rfl⟩
    go_wp2_with fail
    refine (Any.slices_Sort_int_none lays189 none 0 _).mono ?_
    rintro e w1 ⟨rfl, rfl⟩
    go_wp2
    go_ret
    rw [HQ.out]
    exact ⟨none, 0, rfl, Rd.nil _ _ _ _, HB.out⟩
  · go_enter Try.func9, Try.ntmps9
    go_wp2_with fail
    refine (cloneS_any ad l c _ (HR.out.alloc (Nat.le_refl _) _ |>.wider (by simp)) hl).mono ?_
    rintro e w1 ⟨v, rfl, hown, hb, hne⟩
    rcases hown.2 with ⟨h0, _⟩ | ⟨g, cap, cur, rfl, hg1, hg2, hg3, hg4, hg5, hg6⟩
    · exact absurd h0 hne
    have HB1 := Lib.hid (HB.out.trans (hb.mono HB.out.size))
    have hC1 := HC.out.below hb HC.out.lt
    have HH : Hid (Holds (Value.int .i64) w1 g 0 l.toArray) := Lib.hid (holds_of_blockI hg2 (by simpa [iv] using hg6))
    have HG := Lib.hid hg2
    have hgl : g < w1.heap.size := (Array.getElem?_eq_some_iff.1 hg2).1
    have hgw0 : w.heap.size + 1 ≤ g := by simpa using hg1
    have hgw : w.heap.size < g := hgw0
    have HD := Lib.hid (del_ints n g cap w.heap.size l w1 (hC1.cell 0) hC1.lt (by omega) HH.out hl hg3)
    have HK := Lib.hid (And.intro hg3 (And.intro hg4 hg5))
    clear hown hb hne hg2 hg6 hC1 hg3 hg4 hg5
    go_wp2_with fail
    refine HD.out.mono ?_
    rintro e w2 ⟨rfl, q, hw2⟩
    have hfl : (l.filter (plIn n)).length ≤ l.length := List.length_filter_le _ _
    have H2 : w2.heap[g]? = some (.cells (putCells (Value.int .i64) 0 (l.filter (plIn n) ++ List.replicate (l.length - (l.filter (plIn n)).length) 0).toArray cur) 3 (0, 0)) := by
      have := heap_sortedI (n := q) (os := #[]) (l.filter (plIn n) ++ List.replicate (l.length - (l.filter (plIn n)).length) 0).toArray HG.out
      rw [grow_empty] at this
      rw [hw2]
      exact this
    have HH2 : Hid (Holds (Value.int .i64) w2 g 0 (l.filter (plIn n)).toArray) := Lib.hid (by
      rw [hw2]
      exact holds_front (holds_putRow _ _ g 0 l.toArray _ (holds_ahead _ _ q g 0 _ HH.out) (by simp; omega)))
    have HB2 : Hid (Below w.heap.size w w2) := Lib.hid (by
      rw [hw2, row_plain]
      exact below_row _ HB1.out HB1.out.size (by omega))
    have hg2 : g < w2.heap.size := (Array.getElem?_eq_some_iff.1 H2).1
    have HG2 := Lib.hid H2
    have HFL := Lib.hid hfl
    clear H2 hw2 hfl
    go_wp2_with fail
    refine (sort_ints g cap (l.filter (plIn n)) w2 HH2.out hg2 (by have := HFL.out; omega)).mono ?_
    rintro e w3 ⟨rfl, n3, os, hw3⟩
    have HO := Lib.hid (ownsRow_sortedI (n := n3) (os := os) (base := w.heap.size) (ss := l.filter (plIn n)) (ts := plL n l) (plL_len n l) (by omega) HG2.out (by have := HFL.out; have := HK.out.1; omega) HK.out.2.1 (by simpa [putCells] using HK.out.2.2))
    rw [← HS.out] at hw3
    have HO3 : Hid (w3.ownsRow w.heap.size 3 1 (.slice (some ⟨g, 0, none⟩) (l.filter (plIn n)).length cap) (l.filter (plIn n)).length (iv (plL n l))) := Lib.hid (by rw [hw3]; exact HO.out)
    have HB3 : Hid (Below w.heap.size w w3) := Lib.hid (by
      rw [hw3]
      exact below_row _ HB2.out HB2.out.size (by omega))
    have HPL := Lib.hid (plL_len n l)
    clear hw3
    go_wp2
    go_ret
    obtain ⟨A', c', he, hc, hr⟩ := own_rd HO3.out
    cases he
    rw [← HPL.out] at hr ⊢
    exact ⟨_, _, rfl, hr, HB3.out⟩

set_option maxHeartbeats 2000000 in
set_option maxRecDepth 10000 in
theorem chunks_any (s : ByteArray) (A : Option Addr) (l : List Int) (c : Nat) (w : World) (hr : Rd w w.heap.size 1 A l.length (iv l)) (hl : l.length ≤ 1000000) (hs : s.size ≤ 140737488351232) :
    Calls Try.prog 5 #[.string s, .slice A l.length c] w fun e w' => ∃ v, e = .returned v ∧ w'.ownsRow w.heap.size 9 1 v (ckL s (plL s.size l)).length (txv (ckL s (plL s.size l))) ∧ Below w.heap.size w w' := by
  have HR := Lib.hid hr; have HS := Lib.hid hs
  have HPL := Lib.hid (places_any s.size A l c w hr hl)
  have HOK := Lib.hid (plL_ok s.size l)
  have HLL : Hid ((plL s.size l).length ≤ 1000000) := Lib.hid (Nat.le_trans (plL_short s.size l) hl)
  clear hr hs hl
  generalize plL s.size l = L at *
  go_enter Try.func5, Try.ntmps5
  go_wp2_with fail
  refine HPL.out.mono ?_
  rintro e w1 ⟨A', c', rfl, hr1, hb1⟩
  have HR1 := Lib.hid hr1; have HB1 := Lib.hid hb1
  clear hr1 hb1 HPL
  go_wp2
  go_loopw [5, 6, 14] (fun o f i wr => ∃ k : Nat, k ≤ L.length ∧ i = .int .i64 k ∧ f = .int .i64 (ckA L k) ∧ wr.ownsRow w1.heap.size 9 1 o k (txv ((List.range k).map (ckS s L))) ∧ Below w1.heap.size w1 wr) (fun _ _ i _ => L.length - (intOf i).toNat)
  case atStart => exact ⟨0, by omega, rfl, by rw [ckA_zero]; rfl, World.ownsRow_nil _ _ _ _, Below.refl _ _⟩
  case round =>
    obtain ⟨k, hk, rfl, rfl, hown, hbel⟩ := hrel
    have HO := Lib.hid hown; have HB := Lib.hid hbel
    have hsz := hbel.size
    have HD := HLL.out
    clear hown
    by_cases hlt : k < L.length
    · obtain ⟨bA, oA, z, rfl, hb, hz, hc⟩ := (HR1.out.below hbel).atI hlt
      have hzL : L[k] = z := by rw [List.getElem?_eq_getElem hlt] at hz; exact Option.some.inj hz
      have h1 := HOK.out.at hlt
      rw [hzL] at h1
      have h2 := HOK.out.le hk
      rw [ckZ_lt hlt] at h2
      have HX : Hid (ckS s L k = s.extract (ckA L k) (ckA L (k + 1))) := Lib.hid (by unfold ckS; rw [ckZ_lt hlt])
      have HZ := Lib.hid hz
      obtain ⟨a, ha⟩ : ∃ a, ckA L k = a := ⟨_, rfl⟩
      obtain ⟨q, hq⟩ : ∃ q, ckA L (k + 1) = q := ⟨_, rfl⟩
      have HQ := Lib.hid hq
      rw [hq] at h1 h2 HX
      rw [ha] at h2 HX ⊢
      obtain ⟨h1, h3⟩ := h1
      subst h1
      have c1 : (0 : Int) ≤ (a : Int) := by omega
      have c2 : (a : Int) ≤ (q : Int) := by omega
      have c3 : (q : Int) ≤ (s.size : Int) := by omega
      have b1 : (0 : Int) ≤ (k : Int) := by omega
      have b2 : (k : Int) < (L.length : Int) := by omega
      have HT : Hid (txv ((List.range (k + 1)).map (ckS s L)) = txv ((List.range k).map (ckS s L)) ++ [.string (s.extract a q)]) := Lib.hid (by rw [ckL_take, txv_snoc, HX.out])
      clear hz hzL h2 h3 hq ha
      go_wp2_with (at_builtin; refine wpList_app _ rfl (.tmp 18) (.tmp 23) 24 rfl w1.heap.size 9 (.string ⟨#[]⟩) 1 16 Try.underlying24 lim_info_str rfl (by decide) u5 _ _ rfl (HO.out.alloc _) _ _ 1 1 [.string (s.extract a q)] rfl (Rd.lit _ _ _ rfl (Nat.lt_succ_self _) rfl) (txv_one [s.extract a q]) (by unfold maxLen; omega) (by omega) (by simp; omega) ?_; intro v' w3 hown3 hg3 hat3)
      have R : w3.ownsRow w1.heap.size 9 1 v' (k + 1) (txv ((List.range (k + 1)).map (ckS s L))) ∧ Below w1.heap.size w1 w3 := by
        refine ⟨by rw [HT.out]; exact hown3, ?_⟩
        exact below_app (HB.out.alloc (by omega) _) hg3 (by simp; omega) (fun g hg => (own_block HO.out g hg).1)
      clear hown3 hg3 hat3
      go_wp2
      go_roundw
      case rel => exact ⟨k + 1, by omega, by go_num, by rw [HQ.out], R.1, R.2⟩
      case measure => simp [intOf]; omega
    · obtain rfl : k = L.length := by omega
      have h2 := HOK.out.le (Nat.le_refl _)
      rw [ckZ_end (Nat.lt_irrefl _)] at h2
      have HX : Hid (ckS s L L.length = s.extract (ckA L L.length) s.size) := Lib.hid (by unfold ckS; rw [ckZ_end (Nat.lt_irrefl _)])
      obtain ⟨a, ha⟩ : ∃ a, ckA L L.length = a := ⟨_, rfl⟩
      rw [ha] at h2 HX ⊢
      have c1 : (0 : Int) ≤ (a : Int) := by omega
      have c2 : (a : Int) ≤ (s.size : Int) := by omega
      have HT : Hid (txv (ckL s L) = txv ((List.range L.length).map (ckS s L)) ++ [.string (s.extract a s.size)]) := Lib.hid (by unfold ckL; rw [ckL_take, txv_snoc, HX.out])
      clear h2 ha
      go_wp2_with (at_builtin; refine wpList_app _ rfl (.tmp 27) (.tmp 31) 24 rfl w1.heap.size 9 (.string ⟨#[]⟩) 1 16 Try.underlying24 lim_info_str rfl (by decide) u5 _ _ rfl (HO.out.alloc _) _ _ 1 1 [.string (s.extract a s.size)] rfl (Rd.lit _ _ _ rfl (Nat.lt_succ_self _) rfl) (txv_one [s.extract a s.size]) (by unfold maxLen; omega) (by omega) (by simp; omega) ?_; intro v' w3 hown3 hg3 hat3)
      have R : w3.ownsRow w.heap.size 9 1 v' (ckL s L).length (txv (ckL s L)) ∧ Below w.heap.size w w3 := by
        rw [HT.out, ckL_len]
        refine ⟨own_wider hown3 HB1.out.size, HB1.out.trans ((below_app (HB.out.alloc (by omega) _) hg3 (by simp; omega) (fun g hg => (own_block HO.out g hg).1)).mono HB1.out.size)⟩
      clear hown3 hg3 hat3
      go_wp2
      go_ret
      exact ⟨v', rfl, R.1, R.2⟩
end Go.Proofs.Ytmkkjiogokfnmaa
