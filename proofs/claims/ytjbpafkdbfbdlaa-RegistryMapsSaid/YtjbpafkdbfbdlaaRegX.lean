/-
  The registry's clients, walked: look-ups; has, put.
-/
import Derived.Test.YtjbpafkdbfbdlaaRegW
import Derived.Test.YtjbpafkdbfbdlaaRegP
import Derived.Maps.OwnSet

namespace Go.Proofs.Ytjbpafkdbfbdlaa
open Go.RowKit Go.Maps Go.WideShapes
abbrev ClI (w : World) (F : Nat → Prop) (g : Nat) (c : Cl) (bi ba : Nat) (v : Value) (D : DataW Nat) : Prop := ClIn Try.prog 9 3 60 w F g c bi ba v D
abbrev RgI (w : World) (F : Nat → Prop) (gp bm : Nat) (M : List (ByteArray × En)) : Prop := RgIn Try.prog 9 3 60 48 w F gp bm M
theorem lawS : Keyed Try.prog 9 := string_keyed Try.underlying9
theorem lawI : Keyed Try.prog 3 := int_keyed Try.underlying3
/-- What is nothing, as a topic. -/
def tp0 : Tp := ⟨0, .empty, false⟩
theorem zero_tp (w : World) : (zeroValue 39).run Try.prog w = .ok (tpV tp0) w := by kernel_rfl
theorem zero_int (w : World) : (zeroValue 3).run Try.prog w = .ok (.int .i64 0) w := by kernel_rfl
theorem zero_ptr (w : World) : (zeroValue 49).run Try.prog w = .ok (.pointer none) w := by kernel_rfl
theorem look_all {w : World} {ba n : Nat} {l : List Tp} (h : w.ownsMap Try.prog 3 tpR ba n (tpD (H := Nat) tpE l)) {i : Int} (hi : (Lit.int .i64 i).wf = true) :
    (Instr.lookup 55 (.map (some ba)) (.int .i64 i) true).run Try.prog w = .ok (.tuple #[tpV ((tpAt l i).getD tp0), .bool (tpAt l i).isSome]) w ∧
    (Instr.lookup 55 (.map (some ba)) (.int .i64 i) false).run Try.prog w = .ok (tpV ((tpAt l i).getD tp0)) w := by
  have hk : keyOf Try.prog 3 (.int .i64 i) = some (.int .i64 i) := keyOf_int_mk Try.underlying3 hi
  obtain ⟨v, ps, h1, h2⟩ := h.look_ok lawI Try.underlying55 (zero_tp w) (tpR_mk tp0) hk
  obtain ⟨v', ps', h3, h4⟩ := h.lookup lawI Try.underlying55 (zero_tp w) (tpR_mk tp0) hk
  rw [tpD_at] at h2 h4
  rw [tpD_has] at h1
  have e : ((tpAt l i).map tpE).getD (tpE tp0) = tpE ((tpAt l i).getD tp0) := by cases tpAt l i <;> rfl
  rw [e] at h2 h4
  rw [tpR_inv h2] at h1
  rw [tpR_inv h4] at h3
  exact ⟨h1, h3⟩
theorem look_ids {w : World} {bi n : Nat} {l : List Tp} {D : DataW Nat} (h : w.ownsMap Try.prog 9 (plainElem Try.prog 3) bi n D) (hD : IdsD D l) {s : ByteArray} (hs : s.size ≤ maxLen) :
    (Instr.lookup 56 (.map (some bi)) (.string s) true).run Try.prog w = .ok (.tuple #[.int .i64 (((tpOf l s).getD tp0).id : Int), .bool (tpOf l s).isSome]) w := by
  obtain ⟨v, ps, h1, h2⟩ := h.look_ok lawS Try.underlying56 (zero_int w) (plainElem_int Try.underlying3 (by decide)) (WideMaps.keyOf_string_mk Try.underlying9 hs)
  rw [(hD.2.2 s).1] at h1
  rw [(hD.2.2 s).2] at h2
  obtain ⟨a, rfl, h3, -⟩ := plainElem_int_inv Try.underlying3 h2
  rw [h1]
  have : a = (((tpOf l s).getD tp0).id : Int) := by
    cases hc : tpOf l s with
    | none => rw [hc] at h3; simp at h3; rw [← h3.1]; rfl
    | some t => rw [hc] at h3; simp at h3; rw [← h3.1]; rfl
  rw [this]
/-- The block of a client that is there. -/
def enP (o : Option En) : Option Addr := o.map fun x => ⟨x.g, 0, none⟩
theorem look_en {w : World} {bm n : Nat} {M : List (ByteArray × En)} (h : w.ownsMap Try.prog 9 enR bm n (kvD enE M)) {s : ByteArray} (hs : s.size ≤ maxLen) :
    (Instr.lookup 46 (.map (some bm)) (.string s) false).run Try.prog w = .ok (.pointer (enP (kvAt s M))) w := by
  obtain ⟨v, ps, h1, h2⟩ := h.lookup lawS Try.underlying46 (zero_ptr w) enR_nil (WideMaps.keyOf_string_mk Try.underlying9 hs)
  rw [kvD_at] at h2
  rw [h1]
  cases hc : kvAt s M with
  | none => rw [hc] at h2; rw [enR_none h2]; rfl
  | some x => rw [hc] at h2; rw [enR_inv h2]; rfl
theorem Bk.client {w : World} {g : Nat} {a b v d : Value} (h : Bk w g 60 #[a, b, v, d]) : (w.cell? ⟨g, 0, none⟩ = some a ∧ w.cell? ⟨g, 1, none⟩ = some b ∧ w.cell? ⟨g, 2, none⟩ = some v ∧ w.cell? ⟨g, 3, none⟩ = some d) := h.four.1
set_option maxRecDepth 10000 in
set_option maxHeartbeats 1000000 in
theorem chas_any {w : World} {F : Nat → Prop} {g bi ba : Nat} {c : Cl} {v : Value} {D : DataW Nat} (h : ClI w F g c bi ba v D) (i : Int) (hi : (Lit.int .i64 i).wf = true) :
    Calls Try.prog 25 #[.pointer (some ⟨g, 0, none⟩), .int .i64 i] w fun e w' => e = .returned (.bool (tpAt c.all i).isSome) ∧ Below w.heap.size w w' := by
  have hc := (h.blk.client).2.1
  have hl := (look_all h.all hi).1
  unfold tpV at hl
  clear h hi
  go_enter Try.func25, Try.ntmps25
  go_wp2
  go_ret
  exact ⟨rfl, (Below.refl _ _).alloc (Nat.le_refl _) _⟩
set_option maxRecDepth 10000 in
theorem of_any {w : World} {F : Nat → Prop} {gp bm : Nat} {M : List (ByteArray × En)} (h : RgI w F gp bm M) (s : ByteArray) (hs : s.size ≤ maxLen) :
    Calls Try.prog 18 #[.pointer (some ⟨gp, 0, none⟩), .string s] w fun e w' => e = .returned (.pointer (enP (kvAt s M))) ∧ w = w' := by
  have hc := h.blk.cell 0
  have hl := look_en h.own hs
  generalize enP (kvAt s M) = o at hl ⊢
  clear h hs
  go_enter Try.func18, Try.ntmps18
  go_wp2
  go_ret
  exact ⟨rfl, rfl⟩
set_option maxRecDepth 10000 in
theorem of_nil (w : World) (s : ByteArray) : Calls Try.prog 18 #[.pointer none, .string s] w fun e w' => e = .returned (.pointer none) ∧ w = w' := by
  go_enter Try.func18, Try.ntmps18
  go_wp2
  go_ret
  exact ⟨rfl, rfl⟩
/-- A client that has just been made. -/
def cl0 : Cl := ⟨[], [], 1⟩
set_option maxRecDepth 10000 in
theorem need_had {w : World} {F : Nat → Prop} {gp bm : Nat} {M : List (ByteArray × En)} (h : RgI w F gp bm M) (s : ByteArray) (hs : s.size ≤ maxLen) {en : En} (he : kvAt s M = some en) :
    Calls Try.prog 26 #[.pointer (some ⟨gp, 0, none⟩), .string s] w fun e w' => e = .returned (.pointer (some ⟨en.g, 0, none⟩)) ∧ w = w' := by
  have hc := h.blk.cell 0
  have hl := look_en h.own hs
  rw [he] at hl
  simp only [enP, Option.map_some] at hl
  clear h hs he
  go_enter Try.func26, Try.ntmps26
  go_wp2
  go_ret
  exact ⟨rfl, rfl⟩
set_option maxRecDepth 10000 in
set_option maxHeartbeats 1000000 in
theorem need_new {w : World} {F : Nat → Prop} {gp bm : Nat} {M : List (ByteArray × En)} (h : RgI w F gp bm M) (s : ByteArray) (hs : s.size ≤ maxLen) (he : kvAt s M = none) (hM : M.length < maxLen) :
    Calls Try.prog 26 #[.pointer (some ⟨gp, 0, none⟩), .string s] w fun e w' => e = .returned (.pointer (some ⟨w.heap.size + 2, 0, none⟩)) ∧
      ClI w' (fun i => w.heap.size ≤ i ∧ i < w.heap.size + 3) (w.heap.size + 2) cl0 w.heap.size (w.heap.size + 1) (.slice none 0 0) (.map []) ∧ w'.ownsMap Try.prog 9 enR bm (M.length + 1) ((kvD enE M).put (.string s.data.toList) (.held (w.heap.size + 2))) ∧ Mods (fun i => i = bm) w w' ∧ w.heap.size + 3 ≤ w'.heap.size := by
  have hc : w.cell? ⟨gp, 0, none⟩ = some (.map (some bm)) := h.blk.cell 0
  have hl := look_en h.own hs
  rw [he] at hl
  simp only [enP, Option.map_none] at hl
  have HR := Lib.hid h
  have hmm := @run_makeMap Try.prog
  have hB3 := ((h.blk.alloc (.map #[] 0)).alloc (.map #[] 0)).alloc (.cells #[.map (some w.heap.size), .map (some (w.heap.size + 1)), .slice none 0 0, .int .i64 1] 60)
  have hc3 : (((w.alloc (.map #[] 0)).alloc (.map #[] 0)).alloc (.cells #[.map (some w.heap.size), .map (some (w.heap.size + 1)), .slice none 0 0, .int .i64 1] 60)).cell? ⟨gp, 0, none⟩ = some (.map (some bm)) := hB3.cell 0
  clear h he
  go_enter Try.func26, Try.ntmps26
  go_wp2_with (at_mapUpdate; refine wpList_mapUpdate_own _ rfl _ _ _ 46 rfl 9 49 lawS Try.underlying46 enR bm M.length (kvD enE M) rfl (((HR.out.own.alloc _).alloc _).alloc _) hM _ _ (.string s.data.toList) rfl rfl (WideMaps.keyOf_string_mk Try.underlying9 hs) (.held (w.heap.size + 2)) [] rfl ?_; intro w1 hown1 hgrow1)
  go_ret
  have hbm := HR.out.lt bm HR.out.fm
  have hs1 := hgrow1.size
  simp only [World.size_alloc] at hs1
  have hkp : ∀ i, i < w.heap.size + 3 → i ≠ bm → w1.heap[i]? = (((w.alloc (.map #[] 0)).alloc (.map #[] 0)).alloc (.cells #[.map (some w.heap.size), .map (some (w.heap.size + 1)), .slice none 0 0, .int .i64 1] 60)).heap[i]? := fun i hi hne => hgrow1.block i (by simp only [World.size_alloc]; omega) fun e => hne (by injection e)
  have o1 : (((w.alloc (.map #[] 0)).alloc (.map #[] 0)).alloc (.cells #[.map (some w.heap.size), .map (some (w.heap.size + 1)), .slice none 0 0, .int .i64 1] 60)).ownsMap Try.prog 9 (plainElem (H := Nat) Try.prog 3) w.heap.size 0 (.map []) := ((World.ownsMap_made w _ _ _).alloc _).alloc _
  have o2 : (((w.alloc (.map #[] 0)).alloc (.map #[] 0)).alloc (.cells #[.map (some w.heap.size), .map (some (w.heap.size + 1)), .slice none 0 0, .int .i64 1] 60)).ownsMap Try.prog 3 tpR (w.heap.size + 1) 0 (.map []) := by
    have := (World.ownsMap_made (w.alloc (.map #[] 0)) Try.prog 3 tpR).alloc (.cells #[.map (some w.heap.size), .map (some (w.heap.size + 1)), .slice none 0 0, .int .i64 1] 60)
    rw [World.size_alloc] at this
    exact this
  have o3 : Bk (((w.alloc (.map #[] 0)).alloc (.map #[] 0)).alloc (.cells #[.map (some w.heap.size), .map (some (w.heap.size + 1)), .slice none 0 0, .int .i64 1] 60)) (w.heap.size + 2) 60 #[.map (some w.heap.size), .map (some (w.heap.size + 1)), .slice none 0 0, .int .i64 1] := by
    have := Bk.fresh ((w.alloc (.map #[] 0)).alloc (.map #[] 0)) 60 #[.map (some w.heap.size), .map (some (w.heap.size + 1)), .slice none 0 0, .int .i64 1]
    rw [World.size_alloc, World.size_alloc] at this
    exact this
  refine ⟨rfl, ⟨(hkp _ (by omega) (by omega)).trans o3, ownsMap_keep _ o1 (hkp _ (by omega) (by omega)), IdsD.new, ownsMap_keep _ o2 (hkp _ (by omega) (by omega)), World.ownsRow_nil _ _ _ _, ⟨by omega, by omega⟩, ⟨by omega, by omega⟩, ⟨by omega, by omega⟩, fun k e => by (cases e), ⟨by omega, by omega, by omega, fun k e => by (cases e)⟩, fun i hi => by omega⟩, hown1, ?_, hs1⟩
  exact (((Mods.refl w).alloc _).alloc _).alloc _ |>.trans ⟨hgrow1.os, hgrow1.tape, hgrow1.output, hgrow1.size, fun i hi hs => hgrow1.block i hi fun e => hs (by injection e)⟩
end Go.Proofs.Ytjbpafkdbfbdlaa
