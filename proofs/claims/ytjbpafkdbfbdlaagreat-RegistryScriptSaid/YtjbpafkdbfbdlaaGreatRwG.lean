/-
  The registry, walked: a client's topics, sorted: Topics.
-/
import Derived.Test.YtjbpafkdbfbdlaaGreatRwF
import Derived.Test.YtjbpafkdbfbdlaaGreatRegR
import Derived.Shelf.SlSortCmp.WholeK
import Derived.Sort.OwnSorted

namespace Go.Proofs.YtjbpafkdbfbdlaaGreat
open Go.RowKit Go.Maps Go.WideShapes Go.Shelf Go.Sort
def sortT_ren : Ren := ⟨fun | 6 => 41 | 14 => 54 | 15 => 55 | 20 => 64 | 21 => 65 | 22 => 66 | 23 => 67 | 24 => 68 | 25 => 69 | 26 => 70 | 27 => 71 | 28 => 72 | 29 => 73 | 46 => 82 | 47 => 83 | 48 => 84 | 49 => 85 | 50 => 86 | 57 => 102 | n => n, fun | 0 => 0 | 3 => 3 | 4 => 4 | 5 => 5 | 9 => 9 | 22 => 45 | 24 => 44 | 25 => 79 | 39 => 97 | 45 => 105 | 46 => 106 | 50 => 66 | 53 => 112 | 55 => 114 | 66 => 125 | 70 => 129 | 76 => 141 | 77 => 123 | n => n, fun n => n⟩
theorem sortT : SlLaysF0.n6 Tryz.prog sortT_ren := {
  mixed := by kernel_rfl
  f6 := ⟨Tryz.f41.name, by decide, Tryz.func41.trans (congrArg some (by kernel_rfl))⟩
  f14 := ⟨Tryz.f54.name, by decide, Tryz.func54.trans (congrArg some (by kernel_rfl))⟩
  f15 := Tryz.func55.trans (congrArg some (by kernel_rfl))
  f20 := ⟨Tryz.f64.name, by decide, Tryz.func64.trans (congrArg some (by kernel_rfl))⟩
  f21 := ⟨Tryz.f65.name, by decide, Tryz.func65.trans (congrArg some (by kernel_rfl))⟩
  f22 := ⟨Tryz.f66.name, by decide, Tryz.func66.trans (congrArg some (by kernel_rfl))⟩
  f23 := ⟨Tryz.f67.name, by decide, Tryz.func67.trans (congrArg some (by kernel_rfl))⟩
  f24 := ⟨Tryz.f68.name, by decide, Tryz.func68.trans (congrArg some (by kernel_rfl))⟩
  f25 := ⟨Tryz.f69.name, by decide, Tryz.func69.trans (congrArg some (by kernel_rfl))⟩
  f26 := ⟨Tryz.f70.name, by decide, Tryz.func70.trans (congrArg some (by kernel_rfl))⟩
  f27 := ⟨Tryz.f71.name, by decide, Tryz.func71.trans (congrArg some (by kernel_rfl))⟩
  f28 := Tryz.func72.trans (congrArg some (by kernel_rfl))
  f29 := Tryz.func73.trans (congrArg some (by kernel_rfl))
  f46 := ⟨Tryz.f82.name, by decide, Tryz.func82.trans (congrArg some (by kernel_rfl))⟩
  f47 := Tryz.func83.trans (congrArg some (by kernel_rfl))
  f48 := Tryz.func84.trans (congrArg some (by kernel_rfl))
  f49 := ⟨Tryz.f85.name, by decide, Tryz.func85.trans (congrArg some (by kernel_rfl))⟩
  f50 := ⟨Tryz.f86.name, by decide, Tryz.func86.trans (congrArg some (by kernel_rfl))⟩
  f57 := ⟨Tryz.f102.name, by decide, Tryz.func102.trans (congrArg some (by kernel_rfl))⟩
  t0 := Tryz.underlying0
  a0 := Tryz.isAgg0
  z0 := Tryz.sizeOf0
  v0 := Tryz.zeroValue0
  t3 := Tryz.underlying3
  a3 := Tryz.isAgg3
  z3 := Tryz.sizeOf3
  v3 := Tryz.zeroValue3
  t4 := Tryz.underlying4
  a4 := Tryz.isAgg4
  z4 := Tryz.sizeOf4
  v4 := Tryz.zeroValue4
  t5 := Tryz.underlying5
  a5 := Tryz.isAgg5
  z5 := Tryz.sizeOf5
  v5 := Tryz.zeroValue5
  t9 := Tryz.underlying9
  a9 := Tryz.isAgg9
  z9 := Tryz.sizeOf9
  v9 := Tryz.zeroValue9
  t22 := Tryz.underlying45
  a22 := Tryz.isAgg45
  z22 := Tryz.sizeOf45
  v22 := Tryz.zeroValue45
  t25 := Tryz.underlying79
  a25 := Tryz.isAgg79
  z25 := Tryz.sizeOf79
  v25 := Tryz.zeroValue79
  t39 := Tryz.underlying97
  a39 := Tryz.isAgg97
  z39 := Tryz.sizeOf97
  v39 := Tryz.zeroValue97
  t45 := Tryz.underlying105
  a45 := Tryz.isAgg105
  z45 := Tryz.sizeOf105
  v45 := Tryz.zeroValue105
  t46 := Tryz.underlying106
  a46 := Tryz.isAgg106
  z46 := Tryz.sizeOf106
  v46 := Tryz.zeroValue106
  t50 := Tryz.underlying66
  a50 := Tryz.isAgg66
  z50 := Tryz.sizeOf66
  v50 := Tryz.zeroValue66
  t53 := Tryz.underlying112
  a53 := Tryz.isAgg112
  z53 := Tryz.sizeOf112
  v53 := Tryz.zeroValue112
  t55 := Tryz.underlying114
  a55 := Tryz.isAgg114
  z55 := Tryz.sizeOf114
  v55 := Tryz.zeroValue114
  t66 := Tryz.underlying125
  a66 := Tryz.isAgg125
  z66 := Tryz.sizeOf125
  v66 := Tryz.zeroValue125
  t70 := Tryz.underlying129
  a70 := Tryz.isAgg129
  z70 := Tryz.sizeOf129
  v70 := Tryz.zeroValue129
  t76 := Tryz.underlying141
  a76 := Tryz.isAgg141
  z76 := Tryz.sizeOf141
  v76 := Tryz.zeroValue141
  t77 := Tryz.underlying123
  a77 := Tryz.isAgg123
  z77 := Tryz.sizeOf123
  v77 := Tryz.zeroValue123
}
instance : Inhabited Tp := ⟨tp0⟩
/-- Which of two topics comes first. -/
def cmpT (a b : Tp) : Int := if a.id < b.id then -1 else if b.id < a.id then 1 else 0
set_option maxRecDepth 10000 in
theorem isnan_any (a : Int) (W : World) : Calls Tryz.prog 56 #[.int .i64 a] W fun e w' => e = .returned (.bool false) ∧ W = w' := by
  go_enter Tryz.func56, Tryz.ntmps56
  go_wp2
  go_ret
  exact ⟨rfl, rfl⟩
set_option maxRecDepth 10000 in
theorem compare_any (a b : Nat) (W : World) : Calls Tryz.prog 43 #[.int .i64 (a : Int), .int .i64 (b : Int)] W fun e w' => e = .returned (.int .i64 (if a < b then -1 else if b < a then 1 else 0)) ∧ W = w' := by
  have h1 := isnan_any (a : Int) W
  have h2 := isnan_any (b : Int) W
  by_cases c1 : a < b
  · have d1 : (a : Int) < (b : Int) := by omega
    rw [if_pos c1]
    go_enter Tryz.func43, Tryz.ntmps43
    go_wp2_with fail
    refine h1.mono ?_
    rintro e w1 ⟨rfl, rfl⟩
    go_wp2_with fail
    refine h2.mono ?_
    rintro e w1 ⟨rfl, rfl⟩
    go_wp2
    go_ret
    exact ⟨rfl, rfl⟩
  · have d1 : ¬ (a : Int) < (b : Int) := by omega
    rw [if_neg c1]
    by_cases c2 : b < a
    · have d2 : (b : Int) < (a : Int) := by omega
      rw [if_pos c2]
      go_enter Tryz.func43, Tryz.ntmps43
      go_wp2_with fail
      refine h1.mono ?_
      rintro e w1 ⟨rfl, rfl⟩
      go_wp2_with fail
      refine h2.mono ?_
      rintro e w1 ⟨rfl, rfl⟩
      go_wp2
      go_ret
      exact ⟨rfl, rfl⟩
    · have d2 : ¬ (b : Int) < (a : Int) := by omega
      rw [if_neg c2]
      go_enter Tryz.func43, Tryz.ntmps43
      go_wp2_with fail
      refine h1.mono ?_
      rintro e w1 ⟨rfl, rfl⟩
      go_wp2_with fail
      refine h2.mono ?_
      rintro e w1 ⟨rfl, rfl⟩
      go_wp2
      go_ret
      exact ⟨rfl, rfl⟩
set_option maxHeartbeats 1000000 in
set_option maxRecDepth 10000 in
/-- The closure that Topics sorts by. -/
theorem tcmp_any (x y : Tp) (W : World) : Calls Tryz.prog 42 #[.agg (tpC x).toArray, .agg (tpC y).toArray] W fun e w' => e = .returned (.int .i64 (cmpT x y)) ∧ ∃ q os', w' = grow (W.drewN q) os' := by
  have hcon := fun W' => compare_any x.id y.id W'
  unfold cmpT
  generalize (if x.id < y.id then (-1 : Int) else if y.id < x.id then 1 else 0) = r at hcon ⊢
  unfold tpC
  go_enter Tryz.func42, Tryz.ntmps42
  go_wp2_with (go_at_call 43; refine (hcon _).mono ?_; rintro e w' ⟨rfl, rfl⟩)
  go_ret
  exact ⟨rfl, 0, _, by rw [alloc_eq_grow, alloc_eq_grow, grow_grow]; rfl⟩
theorem lt_cmpT (x y : Tp) : ltOf cmpT x y = decide (x.id < y.id) := by
  unfold ltOf cmpT
  by_cases h1 : x.id < y.id
  · simp [h1]
  · by_cases h2 : y.id < x.id <;> simp [h1, h2]
theorem swoT : SWO (ltOf cmpT) where
  irrefl x := by rw [lt_cmpT]; simp
  trans x y z h1 h2 := by rw [lt_cmpT] at *; simp at *; omega
  ntrans x y z h1 h2 := by rw [lt_cmpT] at *; simp at *; omega
theorem flat_tp (l : List Tp) : (flatK tpC 3 l.toArray).toList = tpCs l := by
  apply List.ext_getElem?
  intro t
  by_cases h : t < l.length * 3
  · have h0 : t / 3 < l.length := by omega
    have h2 := tpCs_at l (t / 3) (t % 3) h0 (Nat.mod_lt _ (by decide))
    rw [show t / 3 * 3 + t % 3 = t by omega] at h2
    have h1 := get_flatK tpC 3 l.toArray t (by simpa using h)
    have h3 : t < (flatK tpC 3 l.toArray).size := by rw [size_flatK]; simpa using h
    rw [getElem!_pos _ t h3] at h1
    have h4 : t % 3 < (tpC l[t / 3]).length := Nat.mod_lt _ (by decide)
    rw [Array.getElem?_toList, Array.getElem?_eq_getElem h3, h1, h2, List.getElem?_eq_getElem h4]
    simp [h0, h4]
  · rw [List.getElem?_eq_none (by rw [Array.length_toList, size_flatK]; simpa using h), List.getElem?_eq_none (by rw [tpCs_len]; omega)]
theorem holds_flat {w : World} {g : Nat} {cur : Array Value} {e : TypeId} {l : List Tp} (hb : Bk w g e cur) (ht : cur.toList.take (l.length * 3) = tpCs l) : HoldsK tpC 3 w g 0 l.toArray := by
  intro j hj
  rw [size_flatK, List.size_toArray] at hj
  refine ⟨?_, hb.free _⟩
  have h1 : (cur.toList.take (l.length * 3))[j]? = (tpCs l)[j]? := by rw [ht]
  rw [List.getElem?_take_of_lt hj] at h1
  have h3 : j < (flatK tpC 3 l.toArray).size := by rw [size_flatK]; simpa using hj
  rw [Nat.zero_add, hb.cell j, ← Array.getElem?_toList, h1, ← flat_tp, Array.getElem?_toList, Array.getElem?_eq_getElem h3, getElem!_pos _ j h3]
  rfl
theorem heap_put {w : World} {g n : Nat} {os : Array Obj} {cur : Array Value} {e : TypeId} {fr : Nat × Nat} (d : Array Value) (hb : w.heap[g]? = some (.cells cur e fr)) :
    (grow (putRow id (Sort.ahead w n) g 0 d) os).heap[g]? = some (.cells (putCells id 0 d cur) e fr) := by
  have hg : g < w.heap.size := (Array.getElem?_eq_some_iff.1 hb).1
  rw [heap_grow_old _ _ (by simpa using hg)]
  simp [putRow, mapBlock, Sort.ahead, Array.getElem?_modify, hb, onCells]
theorem grown_put {w : World} {g n : Nat} {os : Array Obj} (d : Array Value) : w.grownBy (grow (putRow id (Sort.ahead w n) g 0 d) os) (some g) := by
  refine ⟨rfl, rfl, rfl, by simp, fun k hk hne => ?_⟩
  rw [heap_grow_old _ _ (by simpa using hk)]
  have : g ≠ k := fun e => hne (by rw [e])
  simp [putRow, mapBlock, Sort.ahead, Array.getElem?_modify, this]
theorem take_put (cur d : Array Value) (h : d.size ≤ cur.size) : (putCells id 0 d cur).toList.take d.size = d.toList := by
  apply List.ext_getElem?
  intro j
  by_cases hj : j < d.size
  · rw [List.getElem?_take_of_lt hj, Array.getElem?_toList]
    simp [putCells, hj, show j < cur.size by omega]
  · rw [List.getElem?_take_eq_none (by omega), List.getElem?_eq_none (by rw [Array.length_toList]; omega)]
/-- slices.SortFunc of topics that have been collected. -/
theorem tsort_any (base g cap : Nat) (xs T : List Tp) (hu : TpUp T) (hp : xs.Perm T) (hT : T.length < 1000000000) (W : World) (hr : W.ownsRow base 44 3 (.slice (some ⟨g, 0, none⟩) xs.length cap) xs.length (tpCs xs)) :
    Calls Tryz.prog 41 #[.slice (some ⟨g, 0, none⟩) xs.length cap, .func (.func 42) #[] #[]] W fun e w' => e = .returned (.tuple #[]) ∧ w'.ownsRow base 44 3 (.slice (some ⟨g, 0, none⟩) xs.length cap) T.length (tpCs T) ∧ RowKit.Below base W w' := by
  have hlen := hp.length_eq
  rcases hr.2 with ⟨h1, _⟩ | ⟨g', cap', cur, h1, hbase, hb, h2, h3, h4, h5⟩
  · cases h1
  · cases h1
    have hH := holds_flat (l := xs) hb h5
    have eg : ∀ args w, (callFunc 42 args).run Tryz.prog w = .ok (.enter 42 args) w := enters_of Tryz.func42 (by kernel_rfl) rfl
    have hgl : g < W.heap.size := (Array.getElem?_eq_some_iff.1 hb).1
    have hcon := AnyQ.slices_SortFunc sortT 3 Tryz.isAgg44 Tryz.sizeOf44 tpC (fun _ => rfl) (fun x v hv => tpC_one x v hv) cmpT swoT 42 #[] g 0 cap xs.toArray W eg (fun _ _ _ _ x y => tcmp_any x y _) hH hgl (by simp; omega)
    refine hcon.mono ?_
    rintro e w' ⟨rfl, d', n, os, ⟨hs1, -, hs3⟩, hs4, rfl⟩
    have hd : d'.toList = T := by
      refine tps_sorted hu (List.Perm.trans ?_ hp) ?_
      · have e1 : (d'.extract 0 xs.toArray.size).toList = d'.toList := by
          rw [← hs1]
          simp
        have e2 : (xs.toArray.extract 0 xs.toArray.size).toList = xs := by simp
        rw [e1, e2] at hs3
        exact hs3
      · rw [List.pairwise_iff_getElem]
        intro i j hi hj hij
        have hi' : i < d'.size := by simpa using hi
        have hj' : j < d'.size := by simpa using hj
        have := hs4 i j (Nat.zero_le _) hij (by rw [← hs1]; exact hj')
        rw [lt_cmpT, getElem!_pos _ i hi', getElem!_pos _ j hj'] at this
        simp at this
        simpa using this
    have hd' : d' = T.toArray := by rw [← hd]
    subst hd'
    unfold sortWorldK putRowK
    have hfs : (flatK tpC 3 T.toArray).size = T.length * 3 := by rw [size_flatK]; simp
    refine ⟨rfl, ⟨tpCs_len T, .inr ⟨g, cap, _, by rw [hlen], hbase, heap_put _ hb, by omega, h3, by simp [putCells, h4], ?_⟩⟩, ?_⟩
    · have := take_put cur (flatK tpC 3 T.toArray) (by rw [hfs, h4]; omega)
      rw [hfs, flat_tp] at this
      exact this
    · exact (RowKit.Below.refl base W).grown (grown_put _) (by have := hgl; omega) fun k e => by cases e; exact hbase
set_option maxRecDepth 10000 in
set_option maxHeartbeats 1000000 in
theorem topics_any {w : World} {F : Nat → Prop} {gp K : Nat} {L : Rg} (h : RgSt w F gp L K) (c : ByteArray) (hc : c.size ≤ maxLen) (hK : K < 100000000) :
    Calls Tryz.prog 22 #[.pointer (some ⟨gp, 0, none⟩), .string c] w fun e w' => ∃ v, e = .returned v ∧ w'.ownsRow w.heap.size 44 3 v (rgT L c).length (tpCs (rgT L c)) ∧ RowKit.Below w.heap.size w w' := by
  have ho := of_st h c hc
  have hok := h.ok
  clear h
  go_enter Tryz.func22, Tryz.ntmps22
  go_wp2_with fail
  refine ho.mono ?_
  rintro e w1 ⟨o, rfl, rfl, hx⟩
  rcases hx with ⟨rfl, hL⟩ | ⟨g, Fc, cl, bi, ba, v, D, rfl, hC, ok, hall, hne, hlen, hF⟩
  · have HL := Lib.hid hL
    clear hL
    go_wp2
    go_ret
    rw [HL.out]
    exact ⟨_, rfl, World.ownsRow_nil _ _ _ _, RowKit.Below.refl _ _⟩
  · have HALL := Lib.hid hall
    have HNE := Lib.hid hne
    have hc4 := hC.blk.client
    have cv := vals_any (some ba) w
    have cc := vcollect_any ba cl.all.length cl.all ok.up (by omega) w hC.all
    have HUP := Lib.hid ok.up
    have HLEN : Hid (cl.all.length < 1000000000) := Lib.hid (by omega)
    clear hall hne hC ok hF hlen
    go_wp2_with fail
    refine cv.mono ?_
    rintro e w1 ⟨rfl, rfl⟩
    go_wp2_with fail
    refine cc.mono ?_
    rintro e w1 ⟨v1, xs, rfl, hp, hrow, hnil, hb⟩
    obtain ⟨gs, cap, rfl⟩ : ∃ gs cap, v1 = .slice (some ⟨gs, 0, none⟩) xs.length cap := by
      rcases hrow.2 with ⟨rfl, h0⟩ | ⟨g', cap', cur, h1, _⟩
      · have := hnil.1 rfl
        rw [this] at hp
        exact absurd (List.Perm.eq_nil hp.symm) HNE.out
      · exact ⟨g', cap', h1⟩
    have cs := tsort_any w.heap.size gs cap xs cl.all HUP.out hp HLEN.out w1 hrow
    have HB := Lib.hid hb
    clear hp hrow hnil hb
    go_wp2_with fail
    refine cs.mono ?_
    rintro e w2 ⟨rfl, hr2, hb2⟩
    have HR2 := Lib.hid hr2
    have HB2 := Lib.hid hb2
    clear hr2 hb2
    go_wp2
    go_ret
    refine ⟨_, rfl, ?_, HB.out.trans HB2.out⟩
    rw [← HALL.out]
    exact HR2.out
theorem topics_nil (w : World) (c : ByteArray) : Calls Tryz.prog 22 #[.pointer none, .string c] w fun e w' => e = .returned (.slice none 0 0) ∧ w = w' := by
  have ho := of_nil w c
  go_enter Tryz.func22, Tryz.ntmps22
  go_wp2_with fail
  refine ho.mono ?_
  rintro e w1 ⟨rfl, rfl⟩
  go_wp2
  go_ret
  exact ⟨rfl, rfl⟩
end Go.Proofs.YtjbpafkdbfbdlaaGreat
