/-
  The registry, walked: a client's topics, sorted: Topics.
-/
import Derived.Test.YtjbpafkdbfbdlaaRwF
import Derived.Test.YtjbpafkdbfbdlaaRegR
import Derived.Shelf.SlSortCmp.WholeK
import Derived.Sort.OwnSorted

namespace Go.Proofs.Ytjbpafkdbfbdlaa
open Go.RowKit Go.Maps Go.WideShapes Go.Shelf Go.Sort
def sortT_ren : Ren := ⟨fun | 6 => 21 | 14 => 34 | 15 => 35 | 20 => 42 | 21 => 43 | 22 => 44 | 23 => 45 | 24 => 46 | 25 => 47 | 26 => 48 | 27 => 49 | 28 => 50 | 29 => 51 | 46 => 56 | 47 => 57 | 48 => 58 | 49 => 59 | 50 => 60 | 57 => 67 | n => n, fun | 0 => 0 | 3 => 3 | 4 => 4 | 5 => 5 | 9 => 9 | 22 => 29 | 24 => 39 | 25 => 62 | 39 => 75 | 45 => 83 | 46 => 84 | 50 => 64 | 53 => 90 | 55 => 92 | 66 => 100 | 70 => 104 | 76 => 113 | 77 => 98 | n => n, fun n => n⟩
theorem sortT : SlLaysF0.n6 Try.prog sortT_ren := {
  mixed := by kernel_rfl
  f6 := ⟨Try.f21.name, by decide, Try.func21.trans (congrArg some (by kernel_rfl))⟩
  f14 := ⟨Try.f34.name, by decide, Try.func34.trans (congrArg some (by kernel_rfl))⟩
  f15 := Try.func35.trans (congrArg some (by kernel_rfl))
  f20 := ⟨Try.f42.name, by decide, Try.func42.trans (congrArg some (by kernel_rfl))⟩
  f21 := ⟨Try.f43.name, by decide, Try.func43.trans (congrArg some (by kernel_rfl))⟩
  f22 := ⟨Try.f44.name, by decide, Try.func44.trans (congrArg some (by kernel_rfl))⟩
  f23 := ⟨Try.f45.name, by decide, Try.func45.trans (congrArg some (by kernel_rfl))⟩
  f24 := ⟨Try.f46.name, by decide, Try.func46.trans (congrArg some (by kernel_rfl))⟩
  f25 := ⟨Try.f47.name, by decide, Try.func47.trans (congrArg some (by kernel_rfl))⟩
  f26 := ⟨Try.f48.name, by decide, Try.func48.trans (congrArg some (by kernel_rfl))⟩
  f27 := ⟨Try.f49.name, by decide, Try.func49.trans (congrArg some (by kernel_rfl))⟩
  f28 := Try.func50.trans (congrArg some (by kernel_rfl))
  f29 := Try.func51.trans (congrArg some (by kernel_rfl))
  f46 := ⟨Try.f56.name, by decide, Try.func56.trans (congrArg some (by kernel_rfl))⟩
  f47 := Try.func57.trans (congrArg some (by kernel_rfl))
  f48 := Try.func58.trans (congrArg some (by kernel_rfl))
  f49 := ⟨Try.f59.name, by decide, Try.func59.trans (congrArg some (by kernel_rfl))⟩
  f50 := ⟨Try.f60.name, by decide, Try.func60.trans (congrArg some (by kernel_rfl))⟩
  f57 := ⟨Try.f67.name, by decide, Try.func67.trans (congrArg some (by kernel_rfl))⟩
  t0 := Try.underlying0
  a0 := Try.isAgg0
  z0 := Try.sizeOf0
  v0 := Try.zeroValue0
  t3 := Try.underlying3
  a3 := Try.isAgg3
  z3 := Try.sizeOf3
  v3 := Try.zeroValue3
  t4 := Try.underlying4
  a4 := Try.isAgg4
  z4 := Try.sizeOf4
  v4 := Try.zeroValue4
  t5 := Try.underlying5
  a5 := Try.isAgg5
  z5 := Try.sizeOf5
  v5 := Try.zeroValue5
  t9 := Try.underlying9
  a9 := Try.isAgg9
  z9 := Try.sizeOf9
  v9 := Try.zeroValue9
  t22 := Try.underlying29
  a22 := Try.isAgg29
  z22 := Try.sizeOf29
  v22 := Try.zeroValue29
  t25 := Try.underlying62
  a25 := Try.isAgg62
  z25 := Try.sizeOf62
  v25 := Try.zeroValue62
  t39 := Try.underlying75
  a39 := Try.isAgg75
  z39 := Try.sizeOf75
  v39 := Try.zeroValue75
  t45 := Try.underlying83
  a45 := Try.isAgg83
  z45 := Try.sizeOf83
  v45 := Try.zeroValue83
  t46 := Try.underlying84
  a46 := Try.isAgg84
  z46 := Try.sizeOf84
  v46 := Try.zeroValue84
  t50 := Try.underlying64
  a50 := Try.isAgg64
  z50 := Try.sizeOf64
  v50 := Try.zeroValue64
  t53 := Try.underlying90
  a53 := Try.isAgg90
  z53 := Try.sizeOf90
  v53 := Try.zeroValue90
  t55 := Try.underlying92
  a55 := Try.isAgg92
  z55 := Try.sizeOf92
  v55 := Try.zeroValue92
  t66 := Try.underlying100
  a66 := Try.isAgg100
  z66 := Try.sizeOf100
  v66 := Try.zeroValue100
  t70 := Try.underlying104
  a70 := Try.isAgg104
  z70 := Try.sizeOf104
  v70 := Try.zeroValue104
  t76 := Try.underlying113
  a76 := Try.isAgg113
  z76 := Try.sizeOf113
  v76 := Try.zeroValue113
  t77 := Try.underlying98
  a77 := Try.isAgg98
  z77 := Try.sizeOf98
  v77 := Try.zeroValue98
}
instance : Inhabited Tp := ⟨tp0⟩
/-- Which of two topics comes first. -/
def cmpT (a b : Tp) : Int := if a.id < b.id then -1 else if b.id < a.id then 1 else 0
set_option maxRecDepth 10000 in
theorem isnan_any (a : Int) (W : World) : Calls Try.prog 36 #[.int .i64 a] W fun e w' => e = .returned (.bool false) ∧ W = w' := by
  go_enter Try.func36, Try.ntmps36
  go_wp2
  go_ret
  exact ⟨rfl, rfl⟩
set_option maxRecDepth 10000 in
theorem compare_any (a b : Nat) (W : World) : Calls Try.prog 23 #[.int .i64 (a : Int), .int .i64 (b : Int)] W fun e w' => e = .returned (.int .i64 (if a < b then -1 else if b < a then 1 else 0)) ∧ W = w' := by
  have h1 := isnan_any (a : Int) W
  have h2 := isnan_any (b : Int) W
  by_cases c1 : a < b
  · have d1 : (a : Int) < (b : Int) := by omega
    rw [if_pos c1]
    go_enter Try.func23, Try.ntmps23
    go_wp2_with fail
    refine h1.mono ?_
    rintro e w1 ⟨rfl, rfl⟩
    go_wp2_with fail
    refine h2.mono ?_
    rintro e w1 ⟨rfl, rfl⟩
    go_wp2
    go_ret
    exact ⟨rfl, rfl⟩
  · have d1 : ¬ (a : Int) < (b : Int) := by omega
    rw [if_neg c1]
    by_cases c2 : b < a
    · have d2 : (b : Int) < (a : Int) := by omega
      rw [if_pos c2]
      go_enter Try.func23, Try.ntmps23
      go_wp2_with fail
      refine h1.mono ?_
      rintro e w1 ⟨rfl, rfl⟩
      go_wp2_with fail
      refine h2.mono ?_
      rintro e w1 ⟨rfl, rfl⟩
      go_wp2
      go_ret
      exact ⟨rfl, rfl⟩
    · have d2 : ¬ (b : Int) < (a : Int) := by omega
      rw [if_neg c2]
      go_enter Try.func23, Try.ntmps23
      go_wp2_with fail
      refine h1.mono ?_
      rintro e w1 ⟨rfl, rfl⟩
      go_wp2_with fail
      refine h2.mono ?_
      rintro e w1 ⟨rfl, rfl⟩
      go_wp2
      go_ret
      exact ⟨rfl, rfl⟩
set_option maxHeartbeats 1000000 in
set_option maxRecDepth 10000 in
/-- The closure that Topics sorts by. -/
theorem tcmp_any (x y : Tp) (W : World) : Calls Try.prog 22 #[.agg (tpC x).toArray, .agg (tpC y).toArray] W fun e w' => e = .returned (.int .i64 (cmpT x y)) ∧ ∃ q os', w' = grow (W.drewN q) os' := by
  have hcon := fun W' => compare_any x.id y.id W'
  unfold cmpT
  generalize (if x.id < y.id then (-1 : Int) else if y.id < x.id then 1 else 0) = r at hcon ⊢
  unfold tpC
  go_enter Try.func22, Try.ntmps22
  go_wp2_with (go_at_call 23; refine (hcon _).mono ?_; rintro e w' ⟨rfl, rfl⟩)
  go_ret
  exact ⟨rfl, 0, _, by rw [alloc_eq_grow, alloc_eq_grow, grow_grow]; rfl⟩
theorem lt_cmpT (x y : Tp) : ltOf cmpT x y = decide (x.id < y.id) := by
  unfold ltOf cmpT
  by_cases h1 : x.id < y.id
  · simp [h1]
  · by_cases h2 : y.id < x.id <;> simp [h1, h2]
theorem swoT : SWO (ltOf cmpT) where
  irrefl x := by rw [lt_cmpT]; simp
  trans x y z h1 h2 := by rw [lt_cmpT] at *; simp at *; omega
  ntrans x y z h1 h2 := by rw [lt_cmpT] at *; simp at *; omega
theorem flat_tp (l : List Tp) : (flatK tpC 3 l.toArray).toList = tpCs l := by
  apply List.ext_getElem?
  intro t
  by_cases h : t < l.length * 3
  · have h0 : t / 3 < l.length := by omega
    have h2 := tpCs_at l (t / 3) (t % 3) h0 (Nat.mod_lt _ (by decide))
    rw [show t / 3 * 3 + t % 3 = t by omega] at h2
    have h1 := get_flatK tpC 3 l.toArray t (by simpa using h)
    have h3 : t < (flatK tpC 3 l.toArray).size := by rw [size_flatK]; simpa using h
    rw [getElem!_pos _ t h3] at h1
    have h4 : t % 3 < (tpC l[t / 3]).length := Nat.mod_lt _ (by decide)
    rw [Array.getElem?_toList, Array.getElem?_eq_getElem h3, h1, h2, List.getElem?_eq_getElem h4]
    simp [h0, h4]
  · rw [List.getElem?_eq_none (by rw [Array.length_toList, size_flatK]; simpa using h), List.getElem?_eq_none (by rw [tpCs_len]; omega)]
theorem holds_flat {w : World} {g : Nat} {cur : Array Value} {e : TypeId} {l : List Tp} (hb : Bk w g e cur) (ht : cur.toList.take (l.length * 3) = tpCs l) : HoldsK tpC 3 w g 0 l.toArray := by
  intro j hj
  rw [size_flatK, List.size_toArray] at hj
  refine ⟨?_, hb.free _⟩
  have h1 : (cur.toList.take (l.length * 3))[j]? = (tpCs l)[j]? := by rw [ht]
  rw [List.getElem?_take_of_lt hj] at h1
  have h3 : j < (flatK tpC 3 l.toArray).size := by rw [size_flatK]; simpa using hj
  rw [Nat.zero_add, hb.cell j, ← Array.getElem?_toList, h1, ← flat_tp, Array.getElem?_toList, Array.getElem?_eq_getElem h3, getElem!_pos _ j h3]
  rfl
theorem heap_put {w : World} {g n : Nat} {os : Array Obj} {cur : Array Value} {e : TypeId} {fr : Nat × Nat} (d : Array Value) (hb : w.heap[g]? = some (.cells cur e fr)) :
    (grow (putRow id (Sort.ahead w n) g 0 d) os).heap[g]? = some (.cells (putCells id 0 d cur) e fr) := by
  have hg : g < w.heap.size := (Array.getElem?_eq_some_iff.1 hb).1
  rw [heap_grow_old _ _ (by simpa using hg)]
  simp [putRow, mapBlock, Sort.ahead, Array.getElem?_modify, hb, onCells]
theorem grown_put {w : World} {g n : Nat} {os : Array Obj} (d : Array Value) : w.grownBy (grow (putRow id (Sort.ahead w n) g 0 d) os) (some g) := by
  refine ⟨rfl, rfl, rfl, by simp, fun k hk hne => ?_⟩
  rw [heap_grow_old _ _ (by simpa using hk)]
  have : g ≠ k := fun e => hne (by rw [e])
  simp [putRow, mapBlock, Sort.ahead, Array.getElem?_modify, this]
theorem take_put (cur d : Array Value) (h : d.size ≤ cur.size) : (putCells id 0 d cur).toList.take d.size = d.toList := by
  apply List.ext_getElem?
  intro j
  by_cases hj : j < d.size
  · rw [List.getElem?_take_of_lt hj, Array.getElem?_toList]
    simp [putCells, hj, show j < cur.size by omega]
  · rw [List.getElem?_take_eq_none (by omega), List.getElem?_eq_none (by rw [Array.length_toList]; omega)]
/-- slices.SortFunc of topics that have been collected. -/
theorem tsort_any (base g cap : Nat) (xs T : List Tp) (hu : TpUp T) (hp : xs.Perm T) (hT : T.length < 1000000000) (W : World) (hr : W.ownsRow base 39 3 (.slice (some ⟨g, 0, none⟩) xs.length cap) xs.length (tpCs xs)) :
    Calls Try.prog 21 #[.slice (some ⟨g, 0, none⟩) xs.length cap, .func (.func 22) #[] #[]] W fun e w' => e = .returned (.tuple #[]) ∧ w'.ownsRow base 39 3 (.slice (some ⟨g, 0, none⟩) xs.length cap) T.length (tpCs T) ∧ RowKit.Below base W w' := by
  have hlen := hp.length_eq
  rcases hr.2 with ⟨h1, _⟩ | ⟨g', cap', cur, h1, hbase, hb, h2, h3, h4, h5⟩
  · cases h1
  · cases h1
    have hH := holds_flat (l := xs) hb h5
    have eg : ∀ args w, (callFunc 22 args).run Try.prog w = .ok (.enter 22 args) w := enters_of Try.func22 (by kernel_rfl) rfl
    have hgl : g < W.heap.size := (Array.getElem?_eq_some_iff.1 hb).1
    have hcon := AnyQ.slices_SortFunc sortT 3 Try.isAgg39 Try.sizeOf39 tpC (fun _ => rfl) (fun x v hv => tpC_one x v hv) cmpT swoT 22 #[] g 0 cap xs.toArray W eg (fun _ _ _ _ x y => tcmp_any x y _) hH hgl (by simp; omega)
    refine hcon.mono ?_
    rintro e w' ⟨rfl, d', n, os, ⟨hs1, -, hs3⟩, hs4, rfl⟩
    have hd : d'.toList = T := by
      refine tps_sorted hu (List.Perm.trans ?_ hp) ?_
      · have e1 : (d'.extract 0 xs.toArray.size).toList = d'.toList := by
          rw [← hs1]
          simp
        have e2 : (xs.toArray.extract 0 xs.toArray.size).toList = xs := by simp
        rw [e1, e2] at hs3
        exact hs3
      · rw [List.pairwise_iff_getElem]
        intro i j hi hj hij
        have hi' : i < d'.size := by simpa using hi
        have hj' : j < d'.size := by simpa using hj
        have := hs4 i j (Nat.zero_le _) hij (by rw [← hs1]; exact hj')
        rw [lt_cmpT, getElem!_pos _ i hi', getElem!_pos _ j hj'] at this
        simp at this
        simpa using this
    have hd' : d' = T.toArray := by rw [← hd]
    subst hd'
    unfold sortWorldK putRowK
    have hfs : (flatK tpC 3 T.toArray).size = T.length * 3 := by rw [size_flatK]; simp
    refine ⟨rfl, ⟨tpCs_len T, .inr ⟨g, cap, _, by rw [hlen], hbase, heap_put _ hb, by omega, h3, by simp [putCells, h4], ?_⟩⟩, ?_⟩
    · have := take_put cur (flatK tpC 3 T.toArray) (by rw [hfs, h4]; omega)
      rw [hfs, flat_tp] at this
      exact this
    · exact (RowKit.Below.refl base W).grown (grown_put _) (by have := hgl; omega) fun k e => by cases e; exact hbase
set_option maxRecDepth 10000 in
set_option maxHeartbeats 1000000 in
theorem topics_any {w : World} {F : Nat → Prop} {gp K : Nat} {L : Rg} (h : RgSt w F gp L K) (c : ByteArray) (hc : c.size ≤ maxLen) (hK : K < 100000000) :
    Calls Try.prog 7 #[.pointer (some ⟨gp, 0, none⟩), .string c] w fun e w' => ∃ v, e = .returned v ∧ w'.ownsRow w.heap.size 39 3 v (rgT L c).length (tpCs (rgT L c)) ∧ RowKit.Below w.heap.size w w' := by
  have ho := of_st h c hc
  have hok := h.ok
  clear h
  go_enter Try.func7, Try.ntmps7
  go_wp2_with fail
  refine ho.mono ?_
  rintro e w1 ⟨o, rfl, rfl, hx⟩
  rcases hx with ⟨rfl, hL⟩ | ⟨g, Fc, cl, bi, ba, v, D, rfl, hC, ok, hall, hne, hlen, hF⟩
  · have HL := Lib.hid hL
    clear hL
    go_wp2
    go_ret
    rw [HL.out]
    exact ⟨_, rfl, World.ownsRow_nil _ _ _ _, RowKit.Below.refl _ _⟩
  · have HALL := Lib.hid hall
    have HNE := Lib.hid hne
    have hc4 := hC.blk.client
    have cv := vals_any (some ba) w
    have cc := vcollect_any ba cl.all.length cl.all ok.up (by omega) w hC.all
    have HUP := Lib.hid ok.up
    have HLEN : Hid (cl.all.length < 1000000000) := Lib.hid (by omega)
    clear hall hne hC ok hF hlen
    go_wp2_with fail
    refine cv.mono ?_
    rintro e w1 ⟨rfl, rfl⟩
    go_wp2_with fail
    refine cc.mono ?_
    rintro e w1 ⟨v1, xs, rfl, hp, hrow, hnil, hb⟩
    obtain ⟨gs, cap, rfl⟩ : ∃ gs cap, v1 = .slice (some ⟨gs, 0, none⟩) xs.length cap := by
      rcases hrow.2 with ⟨rfl, h0⟩ | ⟨g', cap', cur, h1, _⟩
      · have := hnil.1 rfl
        rw [this] at hp
        exact absurd (List.Perm.eq_nil hp.symm) HNE.out
      · exact ⟨g', cap', h1⟩
    have cs := tsort_any w.heap.size gs cap xs cl.all HUP.out hp HLEN.out w1 hrow
    have HB := Lib.hid hb
    clear hp hrow hnil hb
    go_wp2_with fail
    refine cs.mono ?_
    rintro e w2 ⟨rfl, hr2, hb2⟩
    have HR2 := Lib.hid hr2
    have HB2 := Lib.hid hb2
    clear hr2 hb2
    go_wp2
    go_ret
    refine ⟨_, rfl, ?_, HB.out.trans HB2.out⟩
    rw [← HALL.out]
    exact HR2.out
theorem topics_nil (w : World) (c : ByteArray) : Calls Try.prog 7 #[.pointer none, .string c] w fun e w' => e = .returned (.slice none 0 0) ∧ w = w' := by
  have ho := of_nil w c
  go_enter Try.func7, Try.ntmps7
  go_wp2_with fail
  refine ho.mono ?_
  rintro e w1 ⟨rfl, rfl⟩
  go_wp2
  go_ret
  exact ⟨rfl, rfl⟩
end Go.Proofs.Ytjbpafkdbfbdlaa
