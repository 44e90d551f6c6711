/-
  The registry, walked: Clients: the names of those that have topics, sorted.
-/
import Derived.Test.YtdpndphecdhlaaaRwC
import Derived.Test.YtdpndphecdhlaaaRegQ
import Derived.Shelf.SlIter.Sorted
import Derived.Shelf.Sort.Plain
import Derived.Shelf.Slices.In.SortNone

namespace Go.Proofs.Ytdpndphecdhlaaa
open Go.RowKit Go.Maps Go.WideShapes Go.Shelf Go.Sort
def keysA_ren : Ren := ⟨fun | 7 => 39 | 10 => 52 | n => n, fun | 0 => 0 | 3 => 55 | 4 => 4 | 23 => 52 | 26 => 9 | 27 => 78 | 28 => 79 | 33 => 39 | n => n, fun n => n⟩
theorem keysA : SlLaysZ.n7 Try.prog keysA_ren := {
  mixed := by kernel_rfl
  f7 := ⟨Try.f39.name, by decide, Try.func39.trans (congrArg some (by kernel_rfl))⟩
  f10 := ⟨Try.f52.name, by decide, Try.func52.trans (congrArg some (by kernel_rfl))⟩
  t0 := Try.underlying0
  a0 := Try.isAgg0
  z0 := Try.sizeOf0
  v0 := Try.zeroValue0
  t4 := Try.underlying4
  a4 := Try.isAgg4
  z4 := Try.sizeOf4
  v4 := Try.zeroValue4
  t23 := Try.underlying52
  a23 := Try.isAgg52
  z23 := Try.sizeOf52
  v23 := Try.zeroValue52
  t26 := Try.underlying9
  a26 := Try.isAgg9
  z26 := Try.sizeOf9
  v26 := Try.zeroValue9
  t27 := Try.underlying78
  a27 := Try.isAgg78
  z27 := Try.sizeOf78
  v27 := Try.zeroValue78
  t28 := Try.underlying79
  a28 := Try.isAgg79
  z28 := Try.sizeOf79
  v28 := Try.zeroValue79
  t33 := Try.underlying39
  a33 := Try.isAgg39
  z33 := Try.sizeOf39
  v33 := Try.zeroValue39
}
def sortedA_ren : Ren := ⟨fun | 6 => 38 | 8 => 50 | 9 => 51 | 11 => 67 | n => n, fun | 0 => 0 | 24 => 48 | 26 => 9 | 28 => 79 | 33 => 39 | n => n, fun n => n⟩
theorem sortedA : SlLaysZ.n6 Try.prog sortedA_ren := {
  mixed := by kernel_rfl
  f6 := ⟨Try.f38.name, by decide, Try.func38.trans (congrArg some (by kernel_rfl))⟩
  f8 := ⟨Try.f50.name, by decide, Try.func50.trans (congrArg some (by kernel_rfl))⟩
  f11 := ⟨Try.f67.name, by decide, Try.func67.trans (congrArg some (by kernel_rfl))⟩
  t0 := Try.underlying0
  a0 := Try.isAgg0
  z0 := Try.sizeOf0
  v0 := Try.zeroValue0
  t24 := Try.underlying48
  a24 := Try.isAgg48
  z24 := Try.sizeOf48
  v24 := Try.zeroValue48
  t26 := Try.underlying9
  a26 := Try.isAgg9
  z26 := Try.sizeOf9
  v26 := Try.zeroValue9
  t28 := Try.underlying79
  a28 := Try.isAgg79
  z28 := Try.sizeOf79
  v28 := Try.zeroValue79
  i26 := by kernel_rfl
}
def sortS_ren : Ren := ⟨fun | 125 => 47 | 128 => 64 | 129 => 65 | 190 => 51 | 258 => 68 | 302 => 80 | 303 => 81 | 304 => 82 | 305 => 83 | 306 => 84 | 307 => 85 | 308 => 86 | 309 => 87 | 310 => 88 | 329 => 75 | 330 => 76 | 333 => 95 | 334 => 96 | 335 => 97 | 336 => 98 | 344 => 100 | n => n, fun | 0 => 0 | 3 => 3 | 4 => 4 | 5 => 5 | 9 => 9 | 31 => 48 | 46 => 91 | 51 => 106 | 53 => 108 | 131 => 64 | 182 => 99 | 183 => 100 | 218 => 119 | 222 => 123 | 228 => 135 | 229 => 109 | n => n, fun n => n⟩
theorem sortS : Lays.n190 Try.prog sortS_ren := {
  mixed := by kernel_rfl
  f125 := Try.func47.trans (congrArg some (by kernel_rfl))
  f128 := Try.func64.trans (congrArg some (by kernel_rfl))
  f129 := Try.func65.trans (congrArg some (by kernel_rfl))
  f190 := Try.func51.trans (congrArg some (by kernel_rfl))
  f258 := Try.func68.trans (congrArg some (by kernel_rfl))
  f302 := Try.func80.trans (congrArg some (by kernel_rfl))
  f303 := Try.func81.trans (congrArg some (by kernel_rfl))
  f304 := Try.func82.trans (congrArg some (by kernel_rfl))
  f305 := Try.func83.trans (congrArg some (by kernel_rfl))
  f306 := Try.func84.trans (congrArg some (by kernel_rfl))
  f307 := Try.func85.trans (congrArg some (by kernel_rfl))
  f308 := Try.func86.trans (congrArg some (by kernel_rfl))
  f309 := Try.func87.trans (congrArg some (by kernel_rfl))
  f310 := Try.func88.trans (congrArg some (by kernel_rfl))
  f329 := Try.func75.trans (congrArg some (by kernel_rfl))
  f330 := Try.func76.trans (congrArg some (by kernel_rfl))
  f333 := Try.func95.trans (congrArg some (by kernel_rfl))
  f334 := Try.func96.trans (congrArg some (by kernel_rfl))
  f335 := Try.func97.trans (congrArg some (by kernel_rfl))
  f336 := Try.func98.trans (congrArg some (by kernel_rfl))
  f344 := Try.func100.trans (congrArg some (by kernel_rfl))
  t0 := Try.underlying0
  a0 := Try.isAgg0
  z0 := Try.sizeOf0
  v0 := Try.zeroValue0
  t3 := Try.underlying3
  a3 := Try.isAgg3
  z3 := Try.sizeOf3
  v3 := Try.zeroValue3
  t4 := Try.underlying4
  a4 := Try.isAgg4
  z4 := Try.sizeOf4
  v4 := Try.zeroValue4
  t5 := Try.underlying5
  a5 := Try.isAgg5
  z5 := Try.sizeOf5
  v5 := Try.zeroValue5
  t9 := Try.underlying9
  a9 := Try.isAgg9
  z9 := Try.sizeOf9
  v9 := Try.zeroValue9
  t31 := Try.underlying48
  a31 := Try.isAgg48
  z31 := Try.sizeOf48
  v31 := Try.zeroValue48
  t46 := Try.underlying91
  a46 := Try.isAgg91
  z46 := Try.sizeOf91
  v46 := Try.zeroValue91
  t51 := Try.underlying106
  a51 := Try.isAgg106
  z51 := Try.sizeOf106
  v51 := Try.zeroValue106
  t53 := Try.underlying108
  a53 := Try.isAgg108
  z53 := Try.sizeOf108
  v53 := Try.zeroValue108
  t131 := Try.underlying64
  a131 := Try.isAgg64
  z131 := Try.sizeOf64
  v131 := Try.zeroValue64
  t182 := Try.underlying99
  a182 := Try.isAgg99
  z182 := Try.sizeOf99
  v182 := Try.zeroValue99
  t183 := Try.underlying100
  a183 := Try.isAgg100
  z183 := Try.sizeOf100
  v183 := Try.zeroValue100
  t218 := Try.underlying119
  a218 := Try.isAgg119
  z218 := Try.sizeOf119
  v218 := Try.zeroValue119
  t222 := Try.underlying123
  a222 := Try.isAgg123
  z222 := Try.sizeOf123
  v222 := Try.zeroValue123
  t228 := Try.underlying135
  a228 := Try.isAgg135
  z228 := Try.sizeOf135
  v228 := Try.zeroValue135
  t229 := Try.underlying109
  a229 := Try.isAgg109
  z229 := Try.sizeOf109
  v229 := Try.zeroValue109
}
/-- slices.Sort of texts, inside the fence that asks nothing. -/
theorem sortsA (m : Nat) : AnyZ.SortsIn Try.prog sortedA_ren Fence.wide m :=
  ⟨fun blk off cap ss W hH hblk hsz => callsIn_wide.2 (Any.slices_Sort_string sortS blk off cap ss W hH hblk hsz),
   fun p cap W => callsIn_wide.2 (Any.slices_Sort_string_none sortS p cap W)⟩
/-- Names as they lie in a row. -/
def nmV (l : List ByteArray) : List Value := l.map fun s => Value.string s
theorem nmV_enc (l : List ByteArray) : (l.map fun s => s.data.toList).map encStr = nmV l := by
  unfold nmV
  rw [List.map_map]
  rfl
theorem kseq_any (b nn : Nat) (M : List (ByteArray × En)) (w : World) (hown : w.ownsMap Try.prog 9 enR b nn (kvD enE M)) :
    SeqGives Fence.wide 5 Try.prog 52 #[.pointer (some ⟨w.heap.size, 0, none⟩)] encStr (fun ss => ss.Perm (strKeys (kvD enE M))) (Maps.size (kvD enE M)) (w.alloc (.cells #[.map (some b)] 52)) :=
  AnyZ.keys_gives (ρ := keysA_ren) { keysA with } Fence.wide _ trivial rfl (by omega) w.heap.size b nn (kvD enE M) _ (by simp) ((Bk.fresh w _ _).cell 0) (hown.alloc _)
theorem keys_any (b : Option Nat) (w : World) : Calls Try.prog 39 #[.map b] w fun e w' => e = .returned (.func (.func 52) #[] #[.pointer (some ⟨w.heap.size, 0, none⟩)]) ∧ w' = w.alloc (.cells #[.map b] 52) :=
  (callsIn_wide (n := 8)).1 (AnyZ.keys_in keysA Fence.wide 8 trivial rfl b w)
theorem sorted_any (b nn : Nat) (M : List (ByteArray × En)) (hM : KvUp M) (hl : M.length < 1000000000) (w : World) (hown : w.ownsMap Try.prog 9 enR b nn (kvD enE M)) :
    Calls Try.prog 38 #[.func (.func 52) #[] #[.pointer (some ⟨w.heap.size, 0, none⟩)]] (w.alloc (.cells #[.map (some b)] 52)) fun e W' => ∃ v, e = .returned v ∧ W'.ownsRow w.heap.size 9 1 v M.length (nmV (kvNames M)) ∧ RowKit.Below w.heap.size w W' := by
  have cS := AnyZ.sorted_in sortedA Fence.wide 8 trivial trivial trivial trivial rfl (by omega) (sortsA _) (enters_of Try.func51 (by kernel_rfl) rfl) 52 #[.pointer (some ⟨w.heap.size, 0, none⟩)] trivial (enters_of Try.func52 (by kernel_rfl) rfl) _ _ (by rw [kvD_size]; unfold maxLen; omega) (by rw [kvD_size]; omega) _ (kseq_any b nn M w hown)
  refine (callsIn_wide (n := 8)).1 (cS.mono ?_)
  rintro e W ⟨v, ss, rfl, hS, hrow, hnil, hb⟩
  have hlen : ss.length = M.length := by
    rw [hS.length_eq, strKeys_kvD, List.length_map]
    simp [kvNames]
  have hsort : ss.mergeSort (fun x y => decide (x ≤ y)) = (kvNames M).map fun n => n.data.toList := by
    have h1 := mergeSort_of_perm hS
    rw [strKeys_kvD, names_sorted hM] at h1
    exact h1
  rw [hsort, nmV_enc, hlen] at hrow
  exact ⟨v, rfl, own_wider hrow (by simp), ((RowKit.Below.refl _ w).alloc (Nat.le_refl _) _).trans (hb.mono (by simp))⟩
set_option maxRecDepth 10000 in
theorem clients_any {w : World} {F : Nat → Prop} {gp K : Nat} {L : Rg} (h : RgSt w F gp L K) (hK : K < 100000000) :
    Calls Try.prog 22 #[.pointer (some ⟨gp, 0, none⟩)] w fun e w' => ∃ v, e = .returned v ∧ w'.ownsRow w.heap.size 9 1 v L.length (nmV (kvNames L)) ∧ RowKit.Below w.heap.size w w' := by
  obtain ⟨bm, M, hR, rfl, hM, -⟩ := h
  have hc : w.cell? ⟨gp, 0, none⟩ = some (.map (some bm)) := hR.blk.cell 0
  have ck := keys_any (some bm) w
  have cs := sorted_any bm M.length M hR.up (by omega) w hR.own
  have hn : kvNames (rgOf M) = kvNames M := kvNames_map
  have hl : (rgOf M).length = M.length := by simp [rgOf, kvMap]
  rw [hn, hl]
  clear hR hM hn hl
  go_enter Try.func22, Try.ntmps22
  go_wp2_with fail
  refine ck.mono ?_
  rintro e w1 ⟨rfl, rfl⟩
  go_wp2_with fail
  refine cs.mono ?_
  rintro e w1 ⟨v, rfl, hr, hb⟩
  have HR := Lib.hid hr
  have HB := Lib.hid hb
  clear hr hb
  go_wp2
  go_ret
  exact ⟨v, rfl, HR.out, HB.out⟩
theorem clients_nil (w : World) : Calls Try.prog 22 #[.pointer none] w fun e w' => e = .returned (.slice none 0 0) ∧ w = w' := by
  go_enter Try.func22, Try.ntmps22
  go_wp2
  go_ret
  exact ⟨rfl, rfl⟩
end Go.Proofs.Ytdpndphecdhlaaa
