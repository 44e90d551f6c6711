/-
  The registry, walked: Clients: the names of those that have topics, sorted.
-/
import Derived.Test.YtjbpafkdbfbdlaaGreatRwC
import Derived.Test.YtjbpafkdbfbdlaaGreatRegQ
import Derived.Shelf.SlIter.Sorted
import Derived.Shelf.Sort.Plain
import Derived.Shelf.Slices.In.SortNone

namespace Go.Proofs.YtjbpafkdbfbdlaaGreat
open Go.RowKit Go.Maps Go.WideShapes Go.Shelf Go.Sort
def keysA_ren : Ren := ⟨fun | 7 => 45 | 10 => 59 | n => n, fun | 0 => 0 | 3 => 57 | 4 => 4 | 23 => 50 | 26 => 9 | 27 => 83 | 28 => 84 | 33 => 56 | n => n, fun n => n⟩
theorem keysA : SlLaysZ.n7 Tryz.prog keysA_ren := {
  mixed := by kernel_rfl
  f7 := ⟨Tryz.f45.name, by decide, Tryz.func45.trans (congrArg some (by kernel_rfl))⟩
  f10 := ⟨Tryz.f59.name, by decide, Tryz.func59.trans (congrArg some (by kernel_rfl))⟩
  t0 := Tryz.underlying0
  a0 := Tryz.isAgg0
  z0 := Tryz.sizeOf0
  v0 := Tryz.zeroValue0
  t4 := Tryz.underlying4
  a4 := Tryz.isAgg4
  z4 := Tryz.sizeOf4
  v4 := Tryz.zeroValue4
  t23 := Tryz.underlying50
  a23 := Tryz.isAgg50
  z23 := Tryz.sizeOf50
  v23 := Tryz.zeroValue50
  t26 := Tryz.underlying9
  a26 := Tryz.isAgg9
  z26 := Tryz.sizeOf9
  v26 := Tryz.zeroValue9
  t27 := Tryz.underlying83
  a27 := Tryz.isAgg83
  z27 := Tryz.sizeOf83
  v27 := Tryz.zeroValue83
  t28 := Tryz.underlying84
  a28 := Tryz.isAgg84
  z28 := Tryz.sizeOf84
  v28 := Tryz.zeroValue84
  t33 := Tryz.underlying56
  a33 := Tryz.isAgg56
  z33 := Tryz.sizeOf56
  v33 := Tryz.zeroValue56
}
def sortedA_ren : Ren := ⟨fun | 6 => 44 | 8 => 57 | 9 => 58 | 11 => 74 | n => n, fun | 0 => 0 | 24 => 48 | 26 => 9 | 28 => 84 | 33 => 56 | n => n, fun n => n⟩
theorem sortedA : SlLaysZ.n6 Tryz.prog sortedA_ren := {
  mixed := by kernel_rfl
  f6 := ⟨Tryz.f44.name, by decide, Tryz.func44.trans (congrArg some (by kernel_rfl))⟩
  f8 := ⟨Tryz.f57.name, by decide, Tryz.func57.trans (congrArg some (by kernel_rfl))⟩
  f11 := ⟨Tryz.f74.name, by decide, Tryz.func74.trans (congrArg some (by kernel_rfl))⟩
  t0 := Tryz.underlying0
  a0 := Tryz.isAgg0
  z0 := Tryz.sizeOf0
  v0 := Tryz.zeroValue0
  t24 := Tryz.underlying48
  a24 := Tryz.isAgg48
  z24 := Tryz.sizeOf48
  v24 := Tryz.zeroValue48
  t26 := Tryz.underlying9
  a26 := Tryz.isAgg9
  z26 := Tryz.sizeOf9
  v26 := Tryz.zeroValue9
  t28 := Tryz.underlying84
  a28 := Tryz.isAgg84
  z28 := Tryz.sizeOf84
  v28 := Tryz.zeroValue84
  i26 := by kernel_rfl
}
def sortS_ren : Ren := ⟨fun | 125 => 55 | 128 => 72 | 129 => 73 | 190 => 58 | 258 => 75 | 302 => 87 | 303 => 88 | 304 => 89 | 305 => 90 | 306 => 91 | 307 => 92 | 308 => 93 | 309 => 94 | 310 => 95 | 329 => 83 | 330 => 84 | 333 => 103 | 334 => 104 | 335 => 105 | 336 => 106 | 344 => 108 | n => n, fun | 0 => 0 | 3 => 3 | 4 => 4 | 5 => 5 | 9 => 9 | 31 => 48 | 46 => 97 | 51 => 112 | 53 => 114 | 131 => 66 | 182 => 105 | 183 => 106 | 218 => 125 | 222 => 129 | 228 => 141 | 229 => 123 | n => n, fun n => n⟩
theorem sortS : Lays.n190 Tryz.prog sortS_ren := {
  mixed := by kernel_rfl
  f125 := Tryz.func55.trans (congrArg some (by kernel_rfl))
  f128 := Tryz.func72.trans (congrArg some (by kernel_rfl))
  f129 := Tryz.func73.trans (congrArg some (by kernel_rfl))
  f190 := Tryz.func58.trans (congrArg some (by kernel_rfl))
  f258 := Tryz.func75.trans (congrArg some (by kernel_rfl))
  f302 := Tryz.func87.trans (congrArg some (by kernel_rfl))
  f303 := Tryz.func88.trans (congrArg some (by kernel_rfl))
  f304 := Tryz.func89.trans (congrArg some (by kernel_rfl))
  f305 := Tryz.func90.trans (congrArg some (by kernel_rfl))
  f306 := Tryz.func91.trans (congrArg some (by kernel_rfl))
  f307 := Tryz.func92.trans (congrArg some (by kernel_rfl))
  f308 := Tryz.func93.trans (congrArg some (by kernel_rfl))
  f309 := Tryz.func94.trans (congrArg some (by kernel_rfl))
  f310 := Tryz.func95.trans (congrArg some (by kernel_rfl))
  f329 := Tryz.func83.trans (congrArg some (by kernel_rfl))
  f330 := Tryz.func84.trans (congrArg some (by kernel_rfl))
  f333 := Tryz.func103.trans (congrArg some (by kernel_rfl))
  f334 := Tryz.func104.trans (congrArg some (by kernel_rfl))
  f335 := Tryz.func105.trans (congrArg some (by kernel_rfl))
  f336 := Tryz.func106.trans (congrArg some (by kernel_rfl))
  f344 := Tryz.func108.trans (congrArg some (by kernel_rfl))
  t0 := Tryz.underlying0
  a0 := Tryz.isAgg0
  z0 := Tryz.sizeOf0
  v0 := Tryz.zeroValue0
  t3 := Tryz.underlying3
  a3 := Tryz.isAgg3
  z3 := Tryz.sizeOf3
  v3 := Tryz.zeroValue3
  t4 := Tryz.underlying4
  a4 := Tryz.isAgg4
  z4 := Tryz.sizeOf4
  v4 := Tryz.zeroValue4
  t5 := Tryz.underlying5
  a5 := Tryz.isAgg5
  z5 := Tryz.sizeOf5
  v5 := Tryz.zeroValue5
  t9 := Tryz.underlying9
  a9 := Tryz.isAgg9
  z9 := Tryz.sizeOf9
  v9 := Tryz.zeroValue9
  t31 := Tryz.underlying48
  a31 := Tryz.isAgg48
  z31 := Tryz.sizeOf48
  v31 := Tryz.zeroValue48
  t46 := Tryz.underlying97
  a46 := Tryz.isAgg97
  z46 := Tryz.sizeOf97
  v46 := Tryz.zeroValue97
  t51 := Tryz.underlying112
  a51 := Tryz.isAgg112
  z51 := Tryz.sizeOf112
  v51 := Tryz.zeroValue112
  t53 := Tryz.underlying114
  a53 := Tryz.isAgg114
  z53 := Tryz.sizeOf114
  v53 := Tryz.zeroValue114
  t131 := Tryz.underlying66
  a131 := Tryz.isAgg66
  z131 := Tryz.sizeOf66
  v131 := Tryz.zeroValue66
  t182 := Tryz.underlying105
  a182 := Tryz.isAgg105
  z182 := Tryz.sizeOf105
  v182 := Tryz.zeroValue105
  t183 := Tryz.underlying106
  a183 := Tryz.isAgg106
  z183 := Tryz.sizeOf106
  v183 := Tryz.zeroValue106
  t218 := Tryz.underlying125
  a218 := Tryz.isAgg125
  z218 := Tryz.sizeOf125
  v218 := Tryz.zeroValue125
  t222 := Tryz.underlying129
  a222 := Tryz.isAgg129
  z222 := Tryz.sizeOf129
  v222 := Tryz.zeroValue129
  t228 := Tryz.underlying141
  a228 := Tryz.isAgg141
  z228 := Tryz.sizeOf141
  v228 := Tryz.zeroValue141
  t229 := Tryz.underlying123
  a229 := Tryz.isAgg123
  z229 := Tryz.sizeOf123
  v229 := Tryz.zeroValue123
}
/-- slices.Sort of texts, inside the fence that asks nothing. -/
theorem sortsA (m : Nat) : AnyZ.SortsIn Tryz.prog sortedA_ren Fence.wide m :=
  ⟨fun blk off cap ss W hH hblk hsz => callsIn_wide.2 (Any.slices_Sort_string sortS blk off cap ss W hH hblk hsz),
   fun p cap W => callsIn_wide.2 (Any.slices_Sort_string_none sortS p cap W)⟩
/-- Names as they lie in a row. -/
def nmV (l : List ByteArray) : List Value := l.map fun s => Value.string s
theorem nmV_enc (l : List ByteArray) : (l.map fun s => s.data.toList).map encStr = nmV l := by
  unfold nmV
  rw [List.map_map]
  rfl
theorem kseq_any (b nn : Nat) (M : List (ByteArray × En)) (w : World) (hown : w.ownsMap Tryz.prog 9 enR b nn (kvD enE M)) :
    SeqGives Fence.wide 5 Tryz.prog 59 #[.pointer (some ⟨w.heap.size, 0, none⟩)] encStr (fun ss => ss.Perm (strKeys (kvD enE M))) (Maps.size (kvD enE M)) (w.alloc (.cells #[.map (some b)] 50)) :=
  AnyZ.keys_gives (ρ := keysA_ren) { keysA with } Fence.wide _ trivial rfl (by omega) w.heap.size b nn (kvD enE M) _ (by simp) ((Bk.fresh w _ _).cell 0) (hown.alloc _)
theorem keys_any (b : Option Nat) (w : World) : Calls Tryz.prog 45 #[.map b] w fun e w' => e = .returned (.func (.func 59) #[] #[.pointer (some ⟨w.heap.size, 0, none⟩)]) ∧ w' = w.alloc (.cells #[.map b] 50) :=
  (callsIn_wide (n := 8)).1 (AnyZ.keys_in keysA Fence.wide 8 trivial rfl b w)
theorem sorted_any (b nn : Nat) (M : List (ByteArray × En)) (hM : KvUp M) (hl : M.length < 1000000000) (w : World) (hown : w.ownsMap Tryz.prog 9 enR b nn (kvD enE M)) :
    Calls Tryz.prog 44 #[.func (.func 59) #[] #[.pointer (some ⟨w.heap.size, 0, none⟩)]] (w.alloc (.cells #[.map (some b)] 50)) fun e W' => ∃ v, e = .returned v ∧ W'.ownsRow w.heap.size 9 1 v M.length (nmV (kvNames M)) ∧ RowKit.Below w.heap.size w W' := by
  have cS := AnyZ.sorted_in sortedA Fence.wide 8 trivial trivial trivial trivial rfl (by omega) (sortsA _) (enters_of Tryz.func58 (by kernel_rfl) rfl) 59 #[.pointer (some ⟨w.heap.size, 0, none⟩)] trivial (enters_of Tryz.func59 (by kernel_rfl) rfl) _ _ (by rw [kvD_size]; unfold maxLen; omega) (by rw [kvD_size]; omega) _ (kseq_any b nn M w hown)
  refine (callsIn_wide (n := 8)).1 (cS.mono ?_)
  rintro e W ⟨v, ss, rfl, hS, hrow, hnil, hb⟩
  have hlen : ss.length = M.length := by
    rw [hS.length_eq, strKeys_kvD, List.length_map]
    simp [kvNames]
  have hsort : ss.mergeSort (fun x y => decide (x ≤ y)) = (kvNames M).map fun n => n.data.toList := by
    have h1 := mergeSort_of_perm hS
    rw [strKeys_kvD, names_sorted hM] at h1
    exact h1
  rw [hsort, nmV_enc, hlen] at hrow
  exact ⟨v, rfl, own_wider hrow (by simp), ((RowKit.Below.refl _ w).alloc (Nat.le_refl _) _).trans (hb.mono (by simp))⟩
set_option maxRecDepth 10000 in
theorem clients_any {w : World} {F : Nat → Prop} {gp K : Nat} {L : Rg} (h : RgSt w F gp L K) (hK : K < 100000000) :
    Calls Tryz.prog 25 #[.pointer (some ⟨gp, 0, none⟩)] w fun e w' => ∃ v, e = .returned v ∧ w'.ownsRow w.heap.size 9 1 v L.length (nmV (kvNames L)) ∧ RowKit.Below w.heap.size w w' := by
  obtain ⟨bm, M, hR, rfl, hM, -⟩ := h
  have hc : w.cell? ⟨gp, 0, none⟩ = some (.map (some bm)) := hR.blk.cell 0
  have ck := keys_any (some bm) w
  have cs := sorted_any bm M.length M hR.up (by omega) w hR.own
  have hn : kvNames (rgOf M) = kvNames M := kvNames_map
  have hl : (rgOf M).length = M.length := by simp [rgOf, kvMap]
  rw [hn, hl]
  clear hR hM hn hl
  go_enter Tryz.func25, Tryz.ntmps25
  go_wp2_with fail
  refine ck.mono ?_
  rintro e w1 ⟨rfl, rfl⟩
  go_wp2_with fail
  refine cs.mono ?_
  rintro e w1 ⟨v, rfl, hr, hb⟩
  have HR := Lib.hid hr
  have HB := Lib.hid hb
  clear hr hb
  go_wp2
  go_ret
  exact ⟨v, rfl, HR.out, HB.out⟩
theorem clients_nil (w : World) : Calls Tryz.prog 25 #[.pointer none] w fun e w' => e = .returned (.slice none 0 0) ∧ w = w' := by
  go_enter Tryz.func25, Tryz.ntmps25
  go_wp2
  go_ret
  exact ⟨rfl, rfl⟩
end Go.Proofs.YtjbpafkdbfbdlaaGreat
