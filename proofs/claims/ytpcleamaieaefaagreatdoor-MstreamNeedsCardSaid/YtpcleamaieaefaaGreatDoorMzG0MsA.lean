/- A part of what the laws stand on: MsA, MqC, MqD, MqF, MsB, MsE. -/
import Derived.Test.YtpcleamaieaefaaGreatDoorMzG0ConD
namespace Go.Proofs.YtpcleamaieaefaaGreatDoor
open Go.RowKit

/-- How many bytes the next packet has. -/
def smZ (v : Int) (t : ByteArray) : Nat × Int :=
  if (hdR v (t.extract 0 (min t.size 5))).2.2 ≠ 0 then (0, (hdR v (t.extract 0 (min t.size 5))).2.2)
  else ((hdR v (t.extract 0 (min t.size 5))).2.1 + (hdR v (t.extract 0 (min t.size 5))).1.n, 0)
def smN (v most : Int) (t : ByteArray) : Pk × Nat × Int :=
  if (smZ v t).2 ≠ 0 then (pk0, 0, (smZ v t).2)
  else if most < ((smZ v t).1 : Nat) then (pk0, 0, 4)
  else if t.size < (smZ v t).1 then (pk0, 0, 3)
  else mqR v (t.extract 0 (smZ v t).1)
/-- What a feed leaves: packets, kept bytes, how many bytes the packets had, how many packets there were, an error. -/
def smF (v most : Int) : Nat → ByteArray → Nat → Nat → List Pk → List Pk × ByteArray × Nat × Nat × Int
  | 0, t, a, k, l => (l, t, a, k, 0)
  | f + 1, t, a, k, l =>
    if (smN v most t).2.2 = 0 then smF v most f (t.extract (smN v most t).2.1 t.size) (a + (smN v most t).2.1) (k + 1) (l ++ [(smN v most t).1])
    else if (smN v most t).2.2 = 3 then (l, t, a, k, 0)
    else (l, ⟨#[]⟩, a, k, (smN v most t).2.2)
theorem smF_step (v most : Int) (f : Nat) (t : ByteArray) (a k : Nat) (l : List Pk) : smF v most (f + 1) t a k l =
    if (smN v most t).2.2 = 0 then smF v most f (t.extract (smN v most t).2.1 t.size) (a + (smN v most t).2.1) (k + 1) (l ++ [(smN v most t).1])
    else if (smN v most t).2.2 = 3 then (l, t, a, k, 0)
    else (l, ⟨#[]⟩, a, k, (smN v most t).2.2) := rfl
theorem smN_step {v most : Int} {t : ByteArray} (h : (smN v most t).2.2 = 0) : 2 ≤ (smN v most t).2.1 ∧ (smN v most t).2.1 ≤ t.size := by
  unfold smN at h ⊢
  split
  · rename_i h1; rw [if_pos h1] at h; exact absurd h h1
  rename_i h1; rw [if_neg h1] at h
  split
  · rename_i h2; rw [if_pos h2] at h; cases h
  rename_i h2; rw [if_neg h2] at h
  split
  · rename_i h3; rw [if_pos h3] at h; cases h
  rename_i h3; rw [if_neg h3] at h
  obtain ⟨a, b⟩ := mqR_step h
  rw [ByteArray.size_extract] at b
  omega
theorem smN_ok {v most : Int} {t : ByteArray} (ht : t.size ≤ 1000000000000) : PkOk (smN v most t).1 := by
  have hz : PkOk pk0 := PkOk.zero 0 0 0
  unfold smN
  split
  · exact hz
  split
  · exact hz
  split
  · exact hz
  · exact mqR_okP (by rw [ByteArray.size_extract]; omega)
end Go.Proofs.YtpcleamaieaefaaGreatDoor

namespace Go.Proofs.YtpcleamaieaefaaGreatDoor
open Go.RowKit
/-- A kind's functions. -/
def wF (k : Int) : FuncId := if k ≤ 2 then 124 else if k = 3 then 132 else if k ≤ 7 then 126 else if k ≤ 11 then 128 else 130
def rF (k : Int) : FuncId := if k ≤ 2 then 125 else if k = 3 then 133 else if k ≤ 7 then 127 else if k ≤ 11 then 129 else 131
def chTab : List (Int × Value) := [(1, .agg #[.func (.func 124) #[] #[], .func (.func 125) #[] #[]]), (2, .agg #[.func (.func 124) #[] #[], .func (.func 125) #[] #[]]), (3, .agg #[.func (.func 132) #[] #[], .func (.func 133) #[] #[]]), (4, .agg #[.func (.func 126) #[] #[], .func (.func 127) #[] #[]]), (5, .agg #[.func (.func 126) #[] #[], .func (.func 127) #[] #[]]), (6, .agg #[.func (.func 126) #[] #[], .func (.func 127) #[] #[]]), (7, .agg #[.func (.func 126) #[] #[], .func (.func 127) #[] #[]]), (8, .agg #[.func (.func 128) #[] #[], .func (.func 129) #[] #[]]), (9, .agg #[.func (.func 128) #[] #[], .func (.func 129) #[] #[]]), (10, .agg #[.func (.func 128) #[] #[], .func (.func 129) #[] #[]]), (11, .agg #[.func (.func 128) #[] #[], .func (.func 129) #[] #[]]), (12, .agg #[.func (.func 130) #[] #[], .func (.func 131) #[] #[]]), (13, .agg #[.func (.func 130) #[] #[], .func (.func 131) #[] #[]]), (14, .agg #[.func (.func 130) #[] #[], .func (.func 131) #[] #[]]), (15, .agg #[.func (.func 130) #[] #[], .func (.func 131) #[] #[]])]
def chIn (k : Int) : Bool := decide (1 ≤ k ∧ k ≤ 15)
theorem fifteen {k : Int} (h : 1 ≤ k ∧ k ≤ 15) : k = 1 ∨ k = 2 ∨ k = 3 ∨ k = 4 ∨ k = 5 ∨ k = 6 ∨ k = 7 ∨ k = 8 ∨ k = 9 ∨ k = 10 ∨ k = 11 ∨ k = 12 ∨ k = 13 ∨ k = 14 ∨ k = 15 := by omega
theorem look_ch (k : Int) : ∃ a b, (lookI chTab k).getD (.agg #[.nilFunc, .nilFunc]) = .agg #[a, b] ∧ (lookI chTab k).isSome = chIn k ∧ (chIn k = true → a = mqFn (wF k) ∧ b = mqFn (rF k)) ∧ a.oneCell' = true ∧ b.oneCell' = true := by
  by_cases h : 1 ≤ k ∧ k ≤ 15
  · have hi : chIn k = true := decide_eq_true h
    rcases fifteen h with rfl | rfl | rfl | rfl | rfl | rfl | rfl | rfl | rfl | rfl | rfl | rfl | rfl | rfl | rfl
    all_goals exact ⟨_, _, rfl, hi.symm ▸ rfl, fun _ => ⟨rfl, rfl⟩, rfl, rfl⟩
  · have hi : chIn k = false := decide_eq_false h
    have hn : lookI chTab k = none := by
      unfold lookI
      rw [List.find?_eq_none.2]
      · rfl
      · intro q hq
        simp only [chTab, List.mem_cons, List.not_mem_nil, or_false] at hq
        intro e
        have e1 := eq_of_beq e
        rcases hq with rfl | rfl | rfl | rfl | rfl | rfl | rfl | rfl | rfl | rfl | rfl | rfl | rfl | rfl | rfl
        all_goals (simp only at e1; omega)
    rw [hn]
    exact ⟨_, _, rfl, hi.symm ▸ rfl, fun x => by (rw [hi] at x; cases x), rfl, rfl⟩
theorem enter_rF {k : Int} (args : Array Value) (w : World) : (callFunc (rF k) args).run Tryz.prog w = .ok (.enter (rF k) args) w := by
  unfold rF
  repeat' split
  · exact run_enter Tryz.func125 (by kernel_rfl) rfl args w
  · exact run_enter Tryz.func133 (by kernel_rfl) rfl args w
  · exact run_enter Tryz.func127 (by kernel_rfl) rfl args w
  · exact run_enter Tryz.func129 (by kernel_rfl) rfl args w
  · exact run_enter Tryz.func131 (by kernel_rfl) rfl args w
def stCh (a v : Value) : Sem Unit := Instr.storeAt ChT a v
theorem to_stCh (a v : Value) : Instr.storeAt ChT a v = stCh a v := rfl
theorem info_ch : (Tryz.prog.info? ChT).map (·.size) = some 2 := by kernel_rfl
theorem run_stCh {w : World} {g : Nat} {x y : Value} (hb : Bk w g ChT #[x, y]) {a b : Value} (ha : a.oneCell' = true) (hb' : b.oneCell' = true) : (stCh (.pointer (some ⟨g, 0, none⟩)) (.agg #[a, b])).run Tryz.prog w = .ok () (w.setCells g 0 [a, b]) := by
  unfold stCh
  refine run_storeAt_mid w g 0 ChT #[a, b] ?_ info_ch (by simp [ha, hb'])
  intro j hj
  rw [Nat.zero_add, hb.cell, hb.free]
  refine ⟨?_, rfl⟩
  rw [Array.getElem?_eq_getElem (show j < #[x, y].size from hj)]
  rfl
theorem run_stCh_at (w : World) {n : Nat} (hn : w.heap.size = n) (x y : Value) {a b : Value} (ha : a.oneCell' = true) (hb : b.oneCell' = true) : (stCh (.pointer (some ⟨n, 0, none⟩)) (.agg #[a, b])).run Tryz.prog (w.alloc (.cells #[x, y] ChT)) = .ok () (w.alloc (.cells #[a, b] ChT)) := by
  subst hn
  rw [run_stCh (Bk.fresh w ChT #[x, y]) ha hb, setCells_fresh]
  rfl
attribute [local go_sem ↓] to_stCh
/-- The four chapters that have variables, in their blocks. -/
structure ChK (W : World) (g : Nat) : Prop where
  b0 : Bk W (g + 0) ChT #[.func (.func 124) #[] #[], .func (.func 125) #[] #[]]
  b1 : Bk W (g + 1) ChT #[.func (.func 126) #[] #[], .func (.func 127) #[] #[]]
  b2 : Bk W (g + 2) ChT #[.func (.func 128) #[] #[], .func (.func 129) #[] #[]]
  b3 : Bk W (g + 3) ChT #[.func (.func 130) #[] #[], .func (.func 131) #[] #[]]
theorem ChK.next {W w1 : World} {g : Nat} (h : ChK W g) (hg : W.grownBy w1 (some (g + 4))) : ChK w1 g :=
  ⟨h.b0.mods (S := fun z => z = g + 4) (Mods.of_grown hg rfl) (by omega), h.b1.mods (S := fun z => z = g + 4) (Mods.of_grown hg rfl) (by omega), h.b2.mods (S := fun z => z = g + 4) (Mods.of_grown hg rfl) (by omega), h.b3.mods (S := fun z => z = g + 4) (Mods.of_grown hg rfl) (by omega)⟩
theorem ChK.cells {W : World} {g : Nat} (h : ChK W g) : W.cell? ⟨g, 0, none⟩ = some (.func (.func 124) #[] #[]) ∧ W.cell? ⟨g, 1, none⟩ = some (.func (.func 125) #[] #[]) ∧ W.cell? ⟨g + 1, 0, none⟩ = some (.func (.func 126) #[] #[]) ∧ W.cell? ⟨g + 1, 1, none⟩ = some (.func (.func 127) #[] #[]) ∧ W.cell? ⟨g + 2, 0, none⟩ = some (.func (.func 128) #[] #[]) ∧ W.cell? ⟨g + 2, 1, none⟩ = some (.func (.func 129) #[] #[]) ∧ W.cell? ⟨g + 3, 0, none⟩ = some (.func (.func 130) #[] #[]) ∧ W.cell? ⟨g + 3, 1, none⟩ = some (.func (.func 131) #[] #[]) :=
  ⟨h.b0.cell 0, h.b0.cell 1, h.b1.cell 0, h.b1.cell 1, h.b2.cell 0, h.b2.cell 1, h.b3.cell 0, h.b3.cell 1⟩
set_option maxHeartbeats 2000000 in
set_option maxRecDepth 10000 in
theorem chapters_any (w : World) : Calls Tryz.prog 80 #[] w fun e w' => ∃ r, e = .returned (.map (some r)) ∧ IMap .i64 w' r chTab ∧ Below w.heap.size w w' := by
  have hmm := @run_makeMap Tryz.prog
  obtain ⟨W4, hW4⟩ : ∃ W4, ((((w.alloc (.cells #[.func (.func 124) #[] #[], .func (.func 125) #[] #[]] ChT)).alloc (.cells #[.func (.func 126) #[] #[], .func (.func 127) #[] #[]] ChT)).alloc (.cells #[.func (.func 128) #[] #[], .func (.func 129) #[] #[]] ChT)).alloc (.cells #[.func (.func 130) #[] #[], .func (.func 131) #[] #[]] ChT)) = W4 := ⟨_, rfl⟩
  have hs4 : W4.heap.size = w.heap.size + 4 := by rw [← hW4]; simp
  have HB : Hid (Below w.heap.size w (W4.alloc (.map #[] 0))) := Lib.hid (by
    rw [← hW4]
    exact (((((Below.refl w.heap.size w).alloc (Nat.le_refl _) _).alloc (by simp) _).alloc (by simp; omega) _).alloc (by simp; omega) _).alloc (by simp; omega) _)
  have HT : Hid (IMap .i64 (W4.alloc (.map #[] 0)) (w.heap.size + 4) []) := Lib.hid (by rw [← hs4]; exact IMap.made W4 .i64)
  have HKK : Hid (ChK (W4.alloc (.map #[] 0)) w.heap.size) := Lib.hid (by
    rw [← hW4]
    have e1 : (w.alloc (.cells #[.func (.func 124) #[] #[], .func (.func 125) #[] #[]] ChT)).heap.size = w.heap.size + 1 := by simp
    have e2 : ((w.alloc (.cells #[.func (.func 124) #[] #[], .func (.func 125) #[] #[]] ChT)).alloc (.cells #[.func (.func 126) #[] #[], .func (.func 127) #[] #[]] ChT)).heap.size = w.heap.size + 2 := by simp
    have e3 : (((w.alloc (.cells #[.func (.func 124) #[] #[], .func (.func 125) #[] #[]] ChT)).alloc (.cells #[.func (.func 126) #[] #[], .func (.func 127) #[] #[]] ChT)).alloc (.cells #[.func (.func 128) #[] #[], .func (.func 129) #[] #[]] ChT)).heap.size = w.heap.size + 3 := by simp
    refine ⟨((((Bk.fresh w ChT _).alloc _).alloc _).alloc _).alloc _, ?_, ?_, ?_⟩
    · rw [← e1]; exact (((Bk.fresh _ ChT _).alloc _).alloc _).alloc _
    · rw [← e2]; exact ((Bk.fresh _ ChT _).alloc _).alloc _
    · rw [← e3]; exact (Bk.fresh _ ChT _).alloc _)
  obtain ⟨c0, c1, c2, c3, c4, c5, c6, c7⟩ := HKK.out.cells
  rw [← hW4] at c0 c1 c2 c3 c4 c5 c6 c7 HB HT HKK
  clear hW4 hs4
  clear W4
  have st0 := run_stCh_at w (n := w.heap.size) (by simp) .nilFunc .nilFunc (a := .func (.func 124) #[] #[]) (b := .func (.func 125) #[] #[]) rfl rfl
  have st1 := run_stCh_at (w.alloc (.cells #[.func (.func 124) #[] #[], .func (.func 125) #[] #[]] ChT)) (n := w.heap.size + 1) (by simp) .nilFunc .nilFunc (a := .func (.func 126) #[] #[]) (b := .func (.func 127) #[] #[]) rfl rfl
  have st2 := run_stCh_at ((w.alloc (.cells #[.func (.func 124) #[] #[], .func (.func 125) #[] #[]] ChT)).alloc (.cells #[.func (.func 126) #[] #[], .func (.func 127) #[] #[]] ChT)) (n := w.heap.size + 2) (by simp) .nilFunc .nilFunc (a := .func (.func 128) #[] #[]) (b := .func (.func 129) #[] #[]) rfl rfl
  have st3 := run_stCh_at (((w.alloc (.cells #[.func (.func 124) #[] #[], .func (.func 125) #[] #[]] ChT)).alloc (.cells #[.func (.func 126) #[] #[], .func (.func 127) #[] #[]] ChT)).alloc (.cells #[.func (.func 128) #[] #[], .func (.func 129) #[] #[]] ChT)) (n := w.heap.size + 3) (by simp) .nilFunc .nilFunc (a := .func (.func 130) #[] #[]) (b := .func (.func 131) #[] #[]) rfl rfl
  go_enter Tryz.func80, Tryz.ntmps80
  go_wp2_with (refine wpList_mput _ rfl _ _ _ 117 rfl 3 ChT (by kernel_rfl) (by kernel_rfl) (w.heap.size + 4) _ rfl HT.out _ _ rfl rfl rfl ?_; intro w1 hT hg; have hb := HB.out.grown hg (HB.out.size) (fun k hk => by cases hk; exact Nat.le_add_right _ _); have hk := HKK.out.next hg; clear HT HB hg HKK c0 c1 c2 c3 c4 c5 c6 c7; have HT := Lib.hid hT; have HB := Lib.hid hb; have HKK := Lib.hid hk; obtain ⟨c0, c1, c2, c3, c4, c5, c6, c7⟩ := hk.cells; clear hT hb hk)
  go_ret
  exact ⟨_, rfl, HT.out, HB.out⟩
end Go.Proofs.YtpcleamaieaefaaGreatDoor

namespace Go.Proofs.YtpcleamaieaefaaGreatDoor
open Go.RowKit
attribute [local go_sem ↓] to_ldPk to_bxPk to_bdPk to_alPk to_stPk
attribute [local go_sem] run_bxPk run_bxPk_agg ld_fresh run_alPk run_bd0 run_bdK run_bdKI run_bdKIC run_bdKC run_bdKICP run_stPk_fresh pkC_0 pkC_1 pkC_2 pkC_3 pkC_4 pkC_5 pkC_6 pkC_7 pkC_8 pkC_9 pkC_10 pkC_11 pkC_12 pkC_13 pkC_14 pkC_15 pkC_16 pkC_17 pkC_18 pkC_19 pkC_20 pkC_21 pkC_22 pkC_23 pkC_24
attribute [local go_sem ↓] to_bdDf to_bxDf to_stCh
attribute [local go_sem] run_bdDf run_bxDf
theorem wr_any (v : Int) (x : Hdr) (s : ByteArray) (w : World) (hs : s.size ≤ 1000000000000) : Calls Tryz.prog (rF x.k) #[wrV v x s] w (PkOutD (chR v x s) w) := by
  unfold rF chR
  split
  · exact wrConnect_any v x s w hs
  split
  · exact wrPublish_any v x s w hs
  split
  · exact wrAck_any v x s w hs
  split
  · exact wrSubscribe_any v x s w hs
  · exact wrControl_any v x s w hs
theorem mq_look {w : World} {r : Nat} (h : IMap .i64 w r chTab) (k : Int) {a b : Value} {is : Bool} (h1 : (lookI chTab k).getD (.agg #[.nilFunc, .nilFunc]) = .agg #[a, b]) (h2 : (lookI chTab k).isSome = is) :
    (Instr.lookup 117 (.map (some r)) (.int .i64 k) true).run Tryz.prog w = .ok (.tuple #[.agg #[a, b], .bool is]) w ∧ (Instr.lookup 117 (.map (some r)) (.int .i64 k) false).run Tryz.prog w = .ok (.agg #[a, b]) w := by
  have hl := mlook_run (P := Tryz.prog) (t := 117) (k := 3) (e := ChT) (z := .agg #[.nilFunc, .nilFunc]) (by kernel_rfl) (by kernel_rfl) (by kernel_rfl) h k
  rw [h1, h2] at hl
  exact ⟨hl.2, hl.1⟩
end Go.Proofs.YtpcleamaieaefaaGreatDoor

namespace Go.Proofs.YtpcleamaieaefaaGreatDoor
open Go.RowKit
attribute [local go_sem ↓] to_ldPk to_bxPk to_bdPk to_alPk to_stPk
attribute [local go_sem] run_bxPk run_bxPk_agg ld_fresh run_alPk run_bd0 run_bdK run_bdKI run_bdKIC run_bdKC run_bdKICP run_stPk_fresh pkC_0 pkC_1 pkC_2 pkC_3 pkC_4 pkC_5 pkC_6 pkC_7 pkC_8 pkC_9 pkC_10 pkC_11 pkC_12 pkC_13 pkC_14 pkC_15 pkC_16 pkC_17 pkC_18 pkC_19 pkC_20 pkC_21 pkC_22 pkC_23 pkC_24
def bdWr (v : Array (Nat × Value)) : Sem Value := Instr.build WrT v
theorem to_bdWr (v : Array (Nat × Value)) : Instr.build WrT v = bdWr v := rfl
theorem run_bdWr (v k f : Int) (n : Nat) (t : ByteArray) (w : World) : (bdWr #[(0, .int .i64 v), (1, .agg #[.int .i64 k, .int .i64 f, .int .i64 n]), (2, .string t)]).run Tryz.prog w = .ok (wrV v ⟨k, f, n⟩ t) w := by kernel_rfl
theorem run_chF (a b : FuncId) (w : World) : (Instr.field ChT (.agg #[.func (.func a) #[] #[], .func (.func b) #[] #[]]) 1).run Tryz.prog w = .ok (.func (.func b) #[] #[]) w := by kernel_rfl
attribute [local go_sem ↓] to_bdWr run_chF
attribute [local go_sem] run_bdWr
theorem results_pk3 {fn : Func} {p u u' : Tmp} (hr : fn.results = #[.cell p PkT, .tmp u, .tmp u']) (tmps : Array Value) {w : World} {g : Nat} {q : Pk} {h : Hs} (hp : tmps.getD p undef = .pointer (some ⟨g, 0, none⟩)) (hb : Bk w g PkT (pkC q h)) :
    (results fn tmps).run Tryz.prog w = .ok (.tuple #[pkV q h, tmps.getD u undef, tmps.getD u' undef]) w := by
  rw [results_cell2 hr, hp]
  have hl := lv_bk hb
  generalize pkV q h = V at hl ⊢
  exact then_ok _ (⟨g, 0, none⟩ : Addr) w _ rfl |>.trans (then_ok _ V w _ hl)
/-- What a reading of a packet, with its size, leaves. -/
def PkOut3 (r : Pk × Nat × Int) (w : World) (e : Ending) (w' : World) : Prop := ∃ h, e = .returned (.tuple #[pkV r.1 h, .int .i64 (r.2.1 : Nat), .int .i64 r.2.2]) ∧ PkIn w' w'.heap.size r.1 h ∧ Below w.heap.size w w' ∧ PkFresh w r.1 h
theorem pkOut3_bad {r : Pk × Nat × Int} {x : Int} {w w' : World} (h : r = (pk0, 0, x)) (hb : Below w.heap.size w w') : PkOut3 r w (.returned (.tuple #[pkV pk0 hs0, .int .i64 0, .int .i64 x])) w' := by
  subst h
  exact ⟨hs0, rfl, pk0_in _ _, hb, .inl rfl⟩
theorem pkOut3_ok {r : Pk × Nat × Int} {p : Pk} {n : Nat} {h : Hs} {w w' : World} (hr : r = (p, n, 0)) (hi : PkIn w' w'.heap.size p h) (hb : Below w.heap.size w w') (hf : PkFresh w p h) : PkOut3 r w (.returned (.tuple #[pkV p h, .int .i64 n, .int .i64 0])) w' := by
  subst hr
  exact ⟨h, rfl, hi, hb, hf⟩
set_option maxHeartbeats 2000000 in
set_option maxRecDepth 10000 in
theorem mqRead_any (v : Int) (s : ByteArray) (w : World) (hs : s.size ≤ 1000000000000) : Calls Tryz.prog 25 #[.int .i64 v, .string s] w (PkOut3 (mqR v s) w) := by
  have HE : Hid (mqR v s = if (hdR v s).2.2 ≠ 0 then (pk0, 0, (hdR v s).2.2)
    else if s.size < (hdR v s).2.1 + (hdR v s).1.n then (pk0, 0, 3)
    else if (chR v (hdR v s).1 (s.extract (hdR v s).2.1 ((hdR v s).2.1 + (hdR v s).1.n))).2 = 0 then ((chR v (hdR v s).1 (s.extract (hdR v s).2.1 ((hdR v s).2.1 + (hdR v s).1.n))).1, (hdR v s).2.1 + (hdR v s).1.n, 0)
    else (pk0, 0, if (chR v (hdR v s).1 (s.extract (hdR v s).2.1 ((hdR v s).2.1 + (hdR v s).1.n))).2 = 3 then 5 else (chR v (hdR v s).1 (s.extract (hdR v s).2.1 ((hdR v s).2.1 + (hdR v s).1.n))).2)) := Lib.hid rfl
  have HS := Lib.hid hs
  have HB := Lib.hid ((Below.refl w.heap.size w).alloc (Nat.le_refl _) (.cells (pkC pk0 hs0) PkT))
  have HK := Lib.hid (Bk.fresh w PkT (pkC pk0 hs0))
  have HHD := Lib.hid (fun W => hdRead_any v s W (by omega))
  have HBK : Hid ((hdR v s).2.2 = 0 → hdKinds v (hdR v s).1.k = true ∧ (hdR v s).1.n ≤ 268435455 ∧ (hdR v s).2.1 ≤ s.size) := Lib.hid (fun h0 => by
    obtain ⟨b1, b2, b3, b4, b5⟩ := hdR_back (v := v) (s := s) (h := (hdR v s).1) (a := (hdR v s).2.1) (by rw [← h0])
    exact ⟨(hdChk_ok.1 b1).2.1, b2, b5⟩)
  clear hs
  obtain ⟨⟨⟨k, f, n⟩, a, x⟩, hr⟩ : ∃ r, hdR v s = r := ⟨_, rfl⟩
  rw [hr] at HE HHD HBK
  simp only [hdrV] at HE HHD HBK
  clear hr
  go_enter Tryz.func25, Tryz.ntmps25
  go_wp2_with fail
  refine (HHD.out _).mono ?_
  rintro e w1 ⟨rfl, hb⟩
  have HB1 := Lib.hid (HB.out.trans (hb.mono HB.out.size))
  have HK1 := Lib.hid (HK.out.below hb HK.out.lt)
  clear hb HHD HB HK
  obtain ⟨y, hy⟩ : ∃ y, w1.alloc (.cells #[.int .i64 k, .int .i64 f, .int .i64 n] 107) = y := ⟨_, rfl⟩
  have HB2 : Hid (Below w.heap.size w y) := Lib.hid (by rw [← hy]; exact HB1.out.alloc HB1.out.size _)
  have HK2 : Hid (Bk y w.heap.size PkT (pkC pk0 hs0)) := Lib.hid (by rw [← hy]; exact HK1.out.alloc _)
  obtain ⟨gh, hgh⟩ : ∃ gh, w1.heap.size = gh := ⟨_, rfl⟩
  have HH : Hid (Bk y gh 107 #[.int .i64 k, .int .i64 f, .int .i64 n]) := Lib.hid (by rw [← hy, ← hgh]; exact Bk.fresh w1 _ _)
  go_upto_region 2 with fail

  have HGH : Hid (w.heap.size < gh) := Lib.hid (by rw [← hgh]; exact HK1.out.lt)
  clear hy hgh HB1 HK1
  clear w1
  have hst := run_stPk HK2.out pk0 hs0
  have HBD : Hid (Below w.heap.size w (putPk y w.heap.size pk0 hs0)) := Lib.hid (below_put HB2.out HB2.out.size (Nat.le_refl _) pk0 hs0)
  have HKP := Lib.hid (put_bk HK2.out pk0 hs0)
  by_cases hx : x = 0
  rotate_left
  · have HX : Hid (mqR v s = (pk0, 0, x)) := Lib.hid (by rw [HE.out, if_pos hx])
    have e0 : (x != 0) = true := bne_iff_ne.2 hx
    clear hx
    go_wp2
    refine bodyPost_ret (results_pk3 rfl _ rfl HKP.out) rfl ?_
    exact pkOut3_bad HX.out HBD.out
  obtain ⟨b1, b2, b3⟩ := HBK.out hx
  have HKD := Lib.hid b1
  have HE1 : Hid (mqR v s = if s.size < a + n then (pk0, 0, 3) else if (chR v ⟨k, f, n⟩ (s.extract a (a + n))).2 = 0 then ((chR v ⟨k, f, n⟩ (s.extract a (a + n))).1, a + n, 0)
    else (pk0, 0, if (chR v ⟨k, f, n⟩ (s.extract a (a + n))).2 = 3 then 5 else (chR v ⟨k, f, n⟩ (s.extract a (a + n))).2)) := Lib.hid (by rw [HE.out, if_neg (fun z => z hx)])
  subst hx
  have HN := Lib.hid b2; have HA := Lib.hid b3
  have hsz := HS.out
  have c0 := HH.out.cell 0; have c1 := HH.out.cell 1; have c2 := HH.out.cell 2
  simp only [List.getElem?_toArray, List.getElem?_cons_succ, List.getElem?_cons_zero] at c0 c1 c2
  clear HE HBK b1
  by_cases hlt : s.size < a + n
  · have HX : Hid (mqR v s = (pk0, 0, 3)) := Lib.hid (by rw [HE1.out, if_pos hlt])
    have d1 : (s.size : Int) - (a : Int) < (n : Int) := by omega
    have d2 : -9223372036854775808 ≤ (s.size : Int) - (a : Int) := by omega
    have d3 : (s.size : Int) - (a : Int) ≤ 9223372036854775807 := by omega
    clear hlt
    go_wp2
    refine bodyPost_ret (results_pk3 rfl _ rfl HKP.out) rfl ?_
    exact pkOut3_bad HX.out HBD.out
  have HE2 : Hid (mqR v s = if (chR v ⟨k, f, n⟩ (s.extract a (a + n))).2 = 0 then ((chR v ⟨k, f, n⟩ (s.extract a (a + n))).1, a + n, 0)
    else (pk0, 0, if (chR v ⟨k, f, n⟩ (s.extract a (a + n))).2 = 3 then 5 else (chR v ⟨k, f, n⟩ (s.extract a (a + n))).2)) := Lib.hid (by rw [HE1.out, if_neg hlt])
  have d1 : (n : Int) ≤ (s.size : Int) - (a : Int) := by omega
  have HEND : Hid (a + n ≤ s.size) := Lib.hid (by omega)
  have d2 : -9223372036854775808 ≤ (s.size : Int) - (a : Int) := by omega
  have d3 : (s.size : Int) - (a : Int) ≤ 9223372036854775807 := by omega
  have hsu : wrap64 ((s.size : Int) - (a : Int)) = (s.size : Int) - (a : Int) := by unfold wrap64; omega
  have had : wrap64 ((a : Int) + (n : Int)) = ((a + n : Nat) : Int) := by unfold wrap64; omega
  have dle : decide ((s.size : Int) - (a : Int) < (n : Int)) = false := decide_eq_false (by omega)
  have v1 : (0 : Int) ≤ (a : Int) := by omega
  have v2 : (a : Int) ≤ ((a + n : Nat) : Int) := by omega
  have v3 : ((a + n : Nat) : Int) ≤ (s.size : Int) := by omega
  clear hlt HE1
  go_upto_region 7 with fail
  obtain ⟨q, hq⟩ : ∃ q, a + n = q := ⟨_, rfl⟩
  rw [show (a : Int) + (n : Int) = (q : Int) by omega]
  rw [hq] at HE2 HEND v2 v3
  clear d1 d2 d3 hsu had dle hsz hst hq
  obtain ⟨T, hT⟩ : ∃ T, s.extract a q = T := ⟨_, rfl⟩
  rw [hT] at HE2
  have HTS : Hid (T.size ≤ 1000000000000) := Lib.hid (by rw [← hT, ByteArray.size_extract]; have := HS.out; omega)
  have HWR := Lib.hid (fun W => wr_any v ⟨k, f, n⟩ T W HTS.out)
  obtain ⟨R, hR⟩ : ∃ R, chR v ⟨k, f, n⟩ T = R := ⟨_, rfl⟩
  rw [hR] at HE2 HWR
  obtain ⟨ca, cb, hl1, hl2, hl3, hl4, hl5⟩ := look_ch k
  have hin : chIn k = true := by
    have := of_decide_eq_true (show decide (1 ≤ k ∧ (k ≤ 14 ∨ (k = 15 ∧ v = 5))) = true from HKD.out)
    exact decide_eq_true (by omega)
  obtain ⟨rfl, rfl⟩ := hl3 hin
  have HLK := Lib.hid (fun (W : World) (r : Nat) (hT : IMap .i64 W r chTab) => (mq_look hT k hl1 hl2).2)
  have en := fun args W => enter_rF (k := k) args W
  simp only [mqFn] at HLK
  clear hl1 hl2 hl3 hl4 hl5 hin hR
  generalize rF k = RF at *
  go_cut [6] (fun z wx => ∃ hh, z = .int .i64 R.2 ∧ Bk wx w.heap.size PkT (pkC R.1 hh) ∧ PkIn wx wx.heap.size R.1 hh ∧ Below w.heap.size w wx ∧ PkFresh y R.1 hh)
  case first =>
    go_region_law ((first | (go_simp; go_at_call 80; refine (chapters_any y.drew).mono ?_; rintro e w2 ⟨r, rfl, hMT, hb⟩; have hlk := HLK.out w2 r hMT; have hB : Below y.heap.size y w2 := (below_drawn (Below.refl y.heap.size y) 1).trans hb; have hH2 := HH.out.below hB HH.out.lt; have hK2 := HK2.out.below hB HK2.out.lt; have k0 := hH2.cell 0; have k1 := hH2.cell 1; have k2 := hH2.cell 2; (simp only [List.getElem?_toArray, List.getElem?_cons_succ, List.getElem?_cons_zero] at k0 k1 k2)) | (go_simp; refine (HWR.out _).mono ?_; rintro e w3 ⟨hh, rfl, hi3, hb3, hf3⟩; have hK3 := hK2.below hb3 hK2.lt; have hst3 := run_stPk hK3 R.1 hh)))
    all_goals
      go_wp2
      go_meet
      case rel =>
        have hB3 : Below w.heap.size w w3 := HB2.out.trans ((hB.trans (hb3.mono hB.size)).mono HB2.out.size)
        exact ⟨hh, rfl, put_bk hK3 R.1 hh, hi3.put hK3 (putPk_mods _ _ _ _) hf3 (Nat.lt_of_lt_of_le HK2.out.lt hB.size), below_put hB3 hB3.size (Nat.le_refl _) R.1 hh, hf3.mono hB.size⟩
  obtain ⟨hh, rfl, hkx, hix, hbx, hfx⟩ := hcut
  obtain ⟨wx, hwx⟩ : ∃ x, x = wc := ⟨_, rfl⟩
  subst hwx
  have KX := Lib.hid hkx; have IX := Lib.hid hix; have BX := Lib.hid hbx; have FX := Lib.hid hfx
  have lX := ld_bk hkx
  have HYL := Lib.hid HK2.out.lt
  have hsX := run_stPk hkx R.1 hh
  have hsZ := run_stPk hkx pk0 hs0
  clear hkx hix hbx hfx c0 c1 c2 en HLK HWR HH HK2 HB2 HBD HKP v1 v2 v3 b2 b3
  obtain ⟨P, E⟩ := R
  dsimp only at HE2 KX IX BX FX lX hsX hsZ ⊢
  by_cases hE : E = 0
  · have HX : Hid (mqR v s = (P, q, 0)) := Lib.hid (by rw [HE2.out, if_pos hE])
    subst hE
    go_wp2
    refine bodyPost_ret (results_pk3 rfl _ rfl (put_bk KX.out P hh)) rfl ?_
    exact pkOut3_ok HX.out (IX.out.put KX.out (putPk_mods _ _ _ _) FX.out HYL.out) (below_put BX.out BX.out.size (Nat.le_refl _) _ _) (FX.out.mono (Nat.le_of_lt HYL.out))
  · have HX0 : Hid (mqR v s = (pk0, 0, if E = 3 then 5 else E)) := Lib.hid (by rw [HE2.out, if_neg hE])
    have e0 : (E == 0) = false := beq_eq_false_iff_ne.2 hE
    have hb : Below w.heap.size w (putPk wx w.heap.size pk0 hs0) := below_put BX.out BX.out.size (Nat.le_refl _) _ _
    have hk := put_bk KX.out pk0 hs0
    have HBX := Lib.hid hb; have HKX := Lib.hid hk
    clear hb hk
    by_cases h3 : E = 3
    · have HX : Hid (mqR v s = (pk0, 0, 5)) := Lib.hid (by rw [HX0.out, if_pos h3])
      have e3 : (E == 3) = true := beq_iff_eq.2 h3
      clear h3 hE
      go_wp2
      refine bodyPost_ret (results_pk3 rfl _ rfl HKX.out) rfl ?_
      exact pkOut3_bad HX.out HBX.out
    · have HX : Hid (mqR v s = (pk0, 0, E)) := Lib.hid (by rw [HX0.out, if_neg h3])
      have e3 : (E == 3) = false := beq_eq_false_iff_ne.2 h3
      clear h3 hE
      go_wp2
      refine bodyPost_ret (results_pk3 rfl _ rfl HKX.out) rfl ?_
      exact pkOut3_bad HX.out HBX.out
end Go.Proofs.YtpcleamaieaefaaGreatDoor

namespace Go.Proofs.YtpcleamaieaefaaGreatDoor
open Go.RowKit
attribute [local go_sem ↓] to_ldPk to_bxPk to_bdPk to_alPk to_stPk
attribute [local go_sem] run_bxPk run_bxPk_agg ld_fresh run_alPk run_bd0 run_bdK run_bdKI run_bdKIC run_bdKC run_bdKICP run_stPk_fresh pkC_0 pkC_1 pkC_2 pkC_3 pkC_4 pkC_5 pkC_6 pkC_7 pkC_8 pkC_9 pkC_10 pkC_11 pkC_12 pkC_13 pkC_14 pkC_15 pkC_16 pkC_17 pkC_18 pkC_19 pkC_20 pkC_21 pkC_22 pkC_23 pkC_24
abbrev SmT : TypeId := 123
/-- A stream's cells. -/
def smC (v most : Int) (K : Option Addr) (n c a k : Nat) (e : Int) : Array Value := #[.int .i64 v, .int .i64 most, .slice K n c, .int .i64 a, .int .i64 k, .int .i64 e]
def hdC (k f n : Int) : Array Value := #[.int .i64 k, .int .i64 f, .int .i64 n]
def alHd (b : Bool) (v : Value) : Sem Value := Instr.alloc 107 b v
def stHd (a v : Value) : Sem Unit := Instr.storeAt 107 a v
theorem to_alHd (b : Bool) (v : Value) : Instr.alloc 107 b v = alHd b v := rfl
theorem to_stHd (a v : Value) : Instr.storeAt 107 a v = stHd a v := rfl
theorem run_alHd (w : World) : (alHd true (.tuple #[])).run Tryz.prog w = .ok (.pointer (some ⟨w.heap.size, 0, none⟩)) (w.alloc (.cells (hdC 0 0 0) 107)) := by kernel_rfl
theorem info_hd : (Tryz.prog.info? 107).map (·.size) = some 3 := by kernel_rfl
theorem there_hd {w : World} {g : Nat} {k f n : Int} (hb : Bk w g 107 (hdC k f n)) : w.there g 0 3 := fun j hj => by
  rw [Nat.zero_add, hb.cell, hb.free]
  refine ⟨?_, rfl⟩
  rw [Array.getElem?_eq_getElem (by exact hj)]
  rfl
def putHd (w : World) (g : Nat) (k f n : Int) : World := w.setCells g 0 (hdC k f n).toList
theorem run_stHd {w : World} {g : Nat} {k0 f0 n0 : Int} (hb : Bk w g 107 (hdC k0 f0 n0)) (k f n : Int) : (stHd (.pointer (some ⟨g, 0, none⟩)) (.agg #[.int .i64 k, .int .i64 f, .int .i64 n])).run Tryz.prog w = .ok () (putHd w g k f n) := by
  unfold stHd
  exact run_storeAt_mid w g 0 107 (hdC k f n) (there_hd hb) info_hd (by simp [hdC, Value.oneCell'])
theorem putHd_bk {w : World} {g : Nat} {k0 f0 n0 : Int} (hb : Bk w g 107 (hdC k0 f0 n0)) (k f n : Int) : Bk (putHd w g k f n) g 107 (hdC k f n) := ((hb.put 0 (.int .i64 k)).put 1 (.int .i64 f)).put 2 (.int .i64 n)
theorem putHd_fresh (w : World) (k0 f0 n0 k f n : Int) : putHd (w.alloc (.cells (hdC k0 f0 n0) 107)) w.heap.size k f n = w.alloc (.cells (hdC k f n) 107) := by
  unfold putHd
  rw [setCells_fresh, putA_all (cs := hdC k0 f0 n0) (ds := hdC k f n) rfl]
theorem run_stHd_fresh (w : World) (k f n : Int) : (stHd (.pointer (some ⟨w.heap.size, 0, none⟩)) (.agg #[.int .i64 k, .int .i64 f, .int .i64 n])).run Tryz.prog (w.alloc (.cells (hdC 0 0 0) 107)) = .ok () (w.alloc (.cells (hdC k f n) 107)) := by
  rw [run_stHd (Bk.fresh w 107 (hdC 0 0 0)), putHd_fresh]
attribute [local go_sem ↓] to_alHd to_stHd
attribute [local go_sem] run_alHd run_stHd_fresh
def ZRel (w : World) (h : Hdr) (a : Nat) (x : Int) (pz az ez : Value) (wx : World) : Prop := ∃ g, pz = .pointer (some ⟨g, 0, none⟩) ∧ az = .int .i64 a ∧ ez = .int .i64 x ∧ Bk wx g 107 (hdC h.k h.f h.n) ∧ Below w.heap.size w wx
theorem zRel_early {w w3 : World} (h : Hdr) (a : Nat) (x : Int) (hb : Below (w.alloc (.cells (hdC 0 0 0) 107)).drew.heap.size (w.alloc (.cells (hdC 0 0 0) 107)).drew w3) :
    (stHd (.pointer (some ⟨w.heap.size, 0, none⟩)) (.agg #[.int .i64 h.k, .int .i64 h.f, .int .i64 h.n])).run Tryz.prog w3 = .ok () (putHd w3 w.heap.size h.k h.f h.n) ∧ ZRel w h a x (.pointer (some ⟨w.heap.size, 0, none⟩)) (.int .i64 a) (.int .i64 x) (putHd w3 w.heap.size h.k h.f h.n) := by
  have hb0 : Below w.heap.size w (w.alloc (.cells (hdC 0 0 0) 107)).drew := below_drawn ((Below.refl w.heap.size w).alloc (Nat.le_refl _) _) 1
  have h1 := hb0.trans (hb.mono hb0.size)
  have h0 : Bk (w.alloc (.cells (hdC 0 0 0) 107)).drew w.heap.size 107 (hdC 0 0 0) := (Bk.fresh w _ _).drewN 1
  have hk := h0.below hb h0.lt
  exact ⟨run_stHd hk _ _ _, w.heap.size, rfl, rfl, rfl, putHd_bk hk _ _ _, ((h1.setCell (Nat.le_refl _) _).setCell (Nat.le_refl _) _).setCell (Nat.le_refl _) _⟩
theorem zRel_late {w w3 : World} (h : Hdr) (a : Nat) (x : Int) (hb : Below w.drew.heap.size w.drew w3) :
    ZRel w h a x (.pointer (some ⟨w3.heap.size, 0, none⟩)) (.int .i64 a) (.int .i64 x) (w3.alloc (.cells (hdC h.k h.f h.n) 107)) :=
  ⟨w3.heap.size, rfl, rfl, rfl, Bk.fresh _ _ _, ((below_drawn (Below.refl w.heap.size w) 1).trans hb).alloc hb.size _⟩
set_option maxHeartbeats 2000000 in
set_option maxRecDepth 10000 in
theorem smSize_any (v most : Int) (g : Nat) (K : Option Addr) (n c a k : Nat) (e : Int) (t : ByteArray) (w0 w : World) (hb : Bk w g SmT (smC v most K n c a k e)) (hk : Kp w0 w K n c (ls t)) (ht : t.size ≤ 1000000000000) :
    Calls Tryz.prog 85 #[.pointer (some ⟨g, 0, none⟩)] w fun e' w' => e' = .returned (.tuple #[.int .i64 ((smZ v t).1 : Nat), .int .i64 (smZ v t).2]) ∧ Below w.heap.size w w' := by
  have HT := Lib.hid ht; have HB := Lib.hid hb; have HKP := Lib.hid hk
  have HL : Hid (t.size = n) := Lib.hid (by rw [← ls_len]; exact hk.len)
  have HE : Hid (smZ v t = if (hdR v (t.extract 0 (min t.size 5))).2.2 ≠ 0 then (0, (hdR v (t.extract 0 (min t.size 5))).2.2)
    else ((hdR v (t.extract 0 (min t.size 5))).2.1 + (hdR v (t.extract 0 (min t.size 5))).1.n, 0)) := Lib.hid rfl
  obtain ⟨m, hm⟩ : ∃ m, min t.size 5 = m := ⟨_, rfl⟩
  rw [hm] at HE
  have HMN : Hid (m ≤ n ∧ m ≤ 5 ∧ (m = n ∨ m = 5)) := Lib.hid (by have := HL.out; omega)
  have HX : Hid (∀ W, Below w.heap.size w W → (convert 75 9 (.slice K m c)).run Tryz.prog W = .ok (.string (t.extract 0 m)) W) := Lib.hid (fun W hW => by
    have h1 := ((HKP.out.below hW).rd).cut_to HMN.out.1
    rw [Nat.mul_one, bys_take] at h1
    have h2 := conv_rd (P := Tryz.prog) 75 9 U8 Tryz.underlying75 Tryz.underlying5 Tryz.underlying9 c h1
    rw [h2]
    congr 2
    apply ls_ext
    rw [ls_mk]
    have := extract_ls t 0 m
    rw [Nat.zero_add, List.drop_zero] at this
    exact this.symm)
  have HHD := Lib.hid (fun W => hdRead_any v (t.extract 0 m) W (by rw [ByteArray.size_extract]; have := HMN.out; omega))
  clear hb hk ht hm
  have HLE : Hid ((hdR v (t.extract 0 m)).2.2 = 0 → (hdR v (t.extract 0 m)).1.n ≤ 268435455 ∧ (hdR v (t.extract 0 m)).2.1 ≤ 5) := Lib.hid (fun h0 => by
    obtain ⟨b1, b2, b3, b4, b5⟩ := hdR_back (v := v) (s := t.extract 0 m) (h := (hdR v (t.extract 0 m)).1) (a := (hdR v (t.extract 0 m)).2.1) (by rw [← h0])
    rw [ByteArray.size_extract] at b5
    have := HMN.out
    exact ⟨b2, by omega⟩)
  obtain ⟨⟨⟨hk, hf, hn⟩, ha, hx⟩, hr⟩ : ∃ r, hdR v (t.extract 0 m) = r := ⟨_, rfl⟩
  rw [hr] at HE HHD HLE
  dsimp only at HLE
  simp only [hdrV] at HE HHD
  clear hr
  have HBD : Hid (Below w.heap.size w w.drew) := Lib.hid (below_drawn (Below.refl w.heap.size w) 1)
  have HBA : Hid (Below w.heap.size w (w.alloc (.cells (hdC 0 0 0) 107)).drew) := Lib.hid (below_drawn ((Below.refl w.heap.size w).alloc (Nat.le_refl _) _) 1)
  have HSB : Hid (∀ W, Below w.heap.size w W → W.cell? ⟨g, 0, none⟩ = some (.int .i64 v) ∧ W.cell? ⟨g, 2, none⟩ = some (.slice K n c) ∧ (convert 75 9 (.slice K m c)).run Tryz.prog W = .ok (.string (t.extract 0 m)) W) := Lib.hid (fun W hW => ⟨(HB.out.below hW HB.out.lt).cell 0, (HB.out.below hW HB.out.lt).cell 2, HX.out W hW⟩)
  have hsl := fun W => run_to (P := Tryz.prog) (t := 75) (e := U8) (s := 1) Tryz.underlying75 (fun W => by kernel_rfl) K n c m (Nat.le_trans HMN.out.1 HKP.out.cap) W
  have hmin : min (n : Int) 5 = (m : Int) := by have := HMN.out; omega
  go_enter Tryz.func85, Tryz.ntmps85
  go_wp2_with fail
  go_cut [4, 5, 6] (fun pz az ez wx => ZRel w ⟨hk, hf, hn⟩ ha hx pz az ez wx)
  case first =>
    --REGION
    refine wp_region_D (fun w' => w'.cell? ⟨g, 0, none⟩ = some (.int .i64 v) ∧ w'.cell? ⟨g, 2, none⟩ = some (.slice K n c) ∧ (convert 75 9 (.slice K m c)).run Tryz.prog w' = .ok (.string (t.extract 0 m)) w') [] (by kernel_rfl) ?_
    have HS := HSB.out w.drew HBD.out
    refine anyD_take (i := 0) (v := ?va0) [] rfl (by kernel_rfl) (by kernel_rfl) (by kernel_rfl) (by kernel_rfl) (by kernel_rfl) (by kernel_rfl) (fun _ _ _ h => h) (Or.inl ⟨by rfl, ?ha0⟩) HS ?ra0
    case ha0 => intro w' hSw; (try dsimp only at hSw); obtain ⟨s0, s2, s3⟩ := hSw; go_simp; try with_reducible rfl
    (try simp only [Act.put]); (try simp only [List.setIfInBounds_toArray]); (try simp only [List.set_cons_succ]); (try simp only [List.set_cons_zero])
    refine anyD_take (i := 1) (v := ?va1) [] rfl (by kernel_rfl) (by kernel_rfl) (by kernel_rfl) (by kernel_rfl) (by kernel_rfl) (by kernel_rfl) (fun _ _ _ h => h) (Or.inl ⟨by rfl, ?ha1⟩) HS ?ra1
    case ha1 => intro w' hSw; (try dsimp only at hSw); obtain ⟨s0, s2, s3⟩ := hSw; go_simp; try with_reducible rfl
    (try simp only [Act.put]); (try simp only [List.setIfInBounds_toArray]); (try simp only [List.set_cons_succ]); (try simp only [List.set_cons_zero])
    refine anyD_take (i := 2) (v := ?va2) [] rfl (by kernel_rfl) (by kernel_rfl) (by kernel_rfl) (by kernel_rfl) (by kernel_rfl) (by kernel_rfl) (fun _ _ _ h => h) (Or.inl ⟨by rfl, ?ha2⟩) HS ?ra2
    case ha2 => intro w' hSw; (try dsimp only at hSw); obtain ⟨s0, s2, s3⟩ := hSw; go_simp; try with_reducible rfl
    (try simp only [Act.put]); (try simp only [List.setIfInBounds_toArray]); (try simp only [List.set_cons_succ]); (try simp only [List.set_cons_zero])
    refine anyD_take (i := 3) (v := ?va3) [] rfl (by kernel_rfl) (by kernel_rfl) (by kernel_rfl) (by kernel_rfl) (by kernel_rfl) (by kernel_rfl) (fun _ _ _ h => h) (Or.inl ⟨by rfl, ?ha3⟩) HS ?ra3
    case ha3 => intro w' hSw; (try dsimp only at hSw); obtain ⟨s0, s2, s3⟩ := hSw; go_simp; try with_reducible rfl
    (try simp only [Act.put]); (try simp only [List.setIfInBounds_toArray]); (try simp only [List.set_cons_succ]); (try simp only [List.set_cons_zero])
    refine anyD_take (i := 4) (v := ?va4) [] rfl (by kernel_rfl) (by kernel_rfl) (by kernel_rfl) (by kernel_rfl) (by kernel_rfl) (by kernel_rfl) (fun _ _ _ h => h) (Or.inl ⟨by rfl, ?ha4⟩) HS ?ra4
    case ha4 => intro w' hSw; (try dsimp only at hSw); obtain ⟨s0, s2, s3⟩ := hSw; go_simp; try with_reducible rfl
    (try simp only [Act.put]); (try simp only [List.setIfInBounds_toArray]); (try simp only [List.set_cons_succ]); (try simp only [List.set_cons_zero])
    refine anyD_take (i := 5) (v := ?va5) [] rfl (by kernel_rfl) (by kernel_rfl) (by kernel_rfl) (by kernel_rfl) (by kernel_rfl) (by kernel_rfl) (fun _ _ _ h => h) (Or.inl ⟨by rfl, ?ha5⟩) HS ?ra5
    case ha5 => intro w' hSw; (try dsimp only at hSw); obtain ⟨s0, s2, s3⟩ := hSw; go_simp; try with_reducible rfl
    (try simp only [Act.put]); (try simp only [List.setIfInBounds_toArray]); (try simp only [List.set_cons_succ]); (try simp only [List.set_cons_zero])
    refine anyD_take (i := 6) (v := ?va6) [] rfl (by kernel_rfl) (by kernel_rfl) (by kernel_rfl) (by kernel_rfl) (by kernel_rfl) (by kernel_rfl) (fun _ _ _ h => h) (Or.inl ⟨by rfl, ?ha6⟩) HS ?ra6
    case ha6 => intro w' hSw; (try dsimp only at hSw); obtain ⟨s0, s2, s3⟩ := hSw; go_simp; try with_reducible rfl
    (try simp only [Act.put]); (try simp only [List.setIfInBounds_toArray]); (try simp only [List.set_cons_succ]); (try simp only [List.set_cons_zero])
    refine anyD_take (i := 7) (v := ?va7) [] rfl (by kernel_rfl) (by kernel_rfl) (by kernel_rfl) (by kernel_rfl) (by kernel_rfl) (by kernel_rfl) (fun _ _ _ h => h) (Or.inl ⟨by rfl, ?ha7⟩) HS ?ra7
    case ha7 => intro w' hSw; (try dsimp only at hSw); obtain ⟨s0, s2, s3⟩ := hSw; go_simp; try with_reducible rfl
    (try simp only [Act.put]); (try simp only [List.setIfInBounds_toArray]); (try simp only [List.set_cons_succ]); (try simp only [List.set_cons_zero])
    refine anyD_take (i := 8) (v := ?va8) [] rfl (by kernel_rfl) (by kernel_rfl) (by kernel_rfl) (by kernel_rfl) (by kernel_rfl) (by kernel_rfl) (fun _ _ _ h => h) (Or.inl ⟨by rfl, ?ha8⟩) HS ?ra8
    case ha8 => intro w' hSw; (try dsimp only at hSw); obtain ⟨s0, s2, s3⟩ := hSw; go_simp; try with_reducible rfl
    (try simp only [Act.put]); (try simp only [List.setIfInBounds_toArray]); (try simp only [List.set_cons_succ]); (try simp only [List.set_cons_zero])
    refine anyD_take (i := 9) (v := ?va9) [] rfl (by kernel_rfl) (by kernel_rfl) (by kernel_rfl) (by kernel_rfl) (by kernel_rfl) (by kernel_rfl) (fun _ _ _ h => h) (Or.inl ⟨by rfl, ?ha9⟩) HS ?ra9
    case ha9 => intro w' hSw; (try dsimp only at hSw); obtain ⟨s0, s2, s3⟩ := hSw; go_simp; try with_reducible rfl
    (try simp only [Act.put]); (try simp only [List.setIfInBounds_toArray]); (try simp only [List.set_cons_succ]); (try simp only [List.set_cons_zero])
    refine anyD_take (i := 10) (v := ?va10) [] rfl (by kernel_rfl) (by kernel_rfl) (by kernel_rfl) (by kernel_rfl) (by kernel_rfl) (by kernel_rfl) (fun _ _ _ h => h) (Or.inl ⟨by rfl, ?ha10⟩) HS ?ra10
    case ha10 => intro w' hSw; (try dsimp only at hSw); obtain ⟨s0, s2, s3⟩ := hSw; go_simp; try with_reducible rfl
    (try simp only [Act.put]); (try simp only [List.setIfInBounds_toArray]); (try simp only [List.set_cons_succ]); (try simp only [List.set_cons_zero])
    refine anyD_take (i := 11) (v := ?va11) [] rfl (by kernel_rfl) (by kernel_rfl) (by kernel_rfl) (by kernel_rfl) (by kernel_rfl) (by kernel_rfl) (fun _ _ _ h => h) (Or.inl ⟨by rfl, ?ha11⟩) HS ?ra11
    case ha11 => intro w' hSw; (try dsimp only at hSw); obtain ⟨s0, s2, s3⟩ := hSw; go_simp; try with_reducible rfl
    (try simp only [Act.put]); (try simp only [List.setIfInBounds_toArray]); (try simp only [List.set_cons_succ]); (try simp only [List.set_cons_zero])
    refine anyD_take (i := 12) (v := ?va12) [] rfl (by kernel_rfl) (by kernel_rfl) (by kernel_rfl) (by kernel_rfl) (by kernel_rfl) (by kernel_rfl) (fun _ _ _ h => h) (Or.inl ⟨by rfl, ?ha12⟩) HS ?ra12
    case ha12 => intro w' hSw; (try dsimp only at hSw); obtain ⟨s0, s2, s3⟩ := hSw; go_simp; try with_reducible rfl
    (try simp only [Act.put]); (try simp only [List.setIfInBounds_toArray]); (try simp only [List.set_cons_succ]); (try simp only [List.set_cons_zero])
    refine anyD_take (i := 13) (v := ?va13) [] rfl (by kernel_rfl) (by kernel_rfl) (by kernel_rfl) (by kernel_rfl) (by kernel_rfl) (by kernel_rfl) (fun _ _ _ h => h) (Or.inl ⟨by rfl, ?ha13⟩) HS ?ra13
    case ha13 => intro w' hSw; (try dsimp only at hSw); obtain ⟨s0, s2, s3⟩ := hSw; go_simp; try with_reducible rfl
    (try simp only [Act.put]); (try simp only [List.setIfInBounds_toArray]); (try simp only [List.set_cons_succ]); (try simp only [List.set_cons_zero])
    refine anyD_take (i := 14) (v := ?va14) [] rfl (by kernel_rfl) (by kernel_rfl) (by kernel_rfl) (by kernel_rfl) (by kernel_rfl) (by kernel_rfl) (fun _ _ _ h => h) (Or.inl ⟨by rfl, ?ha14⟩) HS ?ra14
    case ha14 => intro w' hSw; (try dsimp only at hSw); obtain ⟨s0, s2, s3⟩ := hSw; go_simp; try with_reducible rfl
    (try simp only [Act.put]); (try simp only [List.setIfInBounds_toArray]); (try simp only [List.set_cons_succ]); (try simp only [List.set_cons_zero])
    refine anyD_take (i := 15) (v := ?va15) [] rfl (by kernel_rfl) (by kernel_rfl) (by kernel_rfl) (by kernel_rfl) (by kernel_rfl) (by kernel_rfl) (fun _ _ _ h => h) (Or.inl ⟨by rfl, ?ha15⟩) HS ?ra15
    case ha15 => intro w' hSw; (try dsimp only at hSw); obtain ⟨s0, s2, s3⟩ := hSw; go_simp; try with_reducible rfl
    (try simp only [Act.put]); (try simp only [List.setIfInBounds_toArray]); (try simp only [List.set_cons_succ]); (try simp only [List.set_cons_zero])
    refine anyD_ready (rs := [16, 21]) (by kernel_rfl) (by simp) (AllD.cons rfl (fun K hK => ?mx) (AllD.cons rfl (fun K hK => ?my) AllD.nil))
    case mx =>
      go_simp
      go_at_call 79
      refine (HHD.out _).mono ?_
      rintro e' w3 ⟨rfl, hb3⟩
      have B3 := Lib.hid (HBD.out.trans (hb3.mono HBD.out.size))
      have R3 := Lib.hid (zRel_late ⟨hk, hf, hn⟩ ha hx hb3)
      clear hb3 HS
      have HS := HSB.out w3 B3.out
      go_simp
      refine hK.out _ _ (fun _ => HS) ?_
      clear hK K
      (try simp only [Act.put]); (try simp only [List.setIfInBounds_toArray]); (try simp only [List.set_cons_succ]); (try simp only [List.set_cons_zero])
      refine anyD_take (i := 17) (v := ?vb17) [] rfl (by kernel_rfl) (by kernel_rfl) (by kernel_rfl) (by kernel_rfl) (by kernel_rfl) (by kernel_rfl) (fun _ _ _ h => h) (Or.inl ⟨by rfl, ?hb17⟩) HS ?rb17
      case hb17 => intro w' hSw; (try dsimp only at hSw); obtain ⟨s0, s2, s3⟩ := hSw; go_simp; try with_reducible rfl
      (try simp only [Act.put]); (try simp only [List.setIfInBounds_toArray]); (try simp only [List.set_cons_succ]); (try simp only [List.set_cons_zero])
      refine anyD_take (i := 18) (v := ?vb18) [] rfl (by kernel_rfl) (by kernel_rfl) (by kernel_rfl) (by kernel_rfl) (by kernel_rfl) (by kernel_rfl) (fun _ _ _ h => h) (Or.inl ⟨by rfl, ?hb18⟩) HS ?rb18
      case hb18 => intro w' hSw; (try dsimp only at hSw); obtain ⟨s0, s2, s3⟩ := hSw; go_simp; try with_reducible rfl
      (try simp only [Act.put]); (try simp only [List.setIfInBounds_toArray]); (try simp only [List.set_cons_succ]); (try simp only [List.set_cons_zero])
      refine anyD_take (i := 19) (v := ?vb19) [] rfl (by kernel_rfl) (by kernel_rfl) (by kernel_rfl) (by kernel_rfl) (by kernel_rfl) (by kernel_rfl) (fun _ _ _ h => h) (Or.inl ⟨by rfl, ?hb19⟩) HS ?rb19
      case hb19 => intro w' hSw; (try dsimp only at hSw); obtain ⟨s0, s2, s3⟩ := hSw; go_simp; try with_reducible rfl
      (try simp only [Act.put]); (try simp only [List.setIfInBounds_toArray]); (try simp only [List.set_cons_succ]); (try simp only [List.set_cons_zero])
      refine anyD_take (i := 20) (v := ?vb20) [] rfl (by kernel_rfl) (by kernel_rfl) (by kernel_rfl) (by kernel_rfl) (by kernel_rfl) (by kernel_rfl) (fun _ _ _ h => h) (Or.inl ⟨by rfl, ?hb20⟩) HS ?rb20
      case hb20 => intro w' hSw; (try dsimp only at hSw); obtain ⟨s0, s2, s3⟩ := hSw; go_simp; try with_reducible rfl
      (try simp only [Act.put]); (try simp only [List.setIfInBounds_toArray]); (try simp only [List.set_cons_succ]); (try simp only [List.set_cons_zero])
      refine anyD_ready (rs := [21]) (by kernel_rfl) (by simp) (AllD.cons rfl (fun K hK => ?_) AllD.nil)
      go_simp
      clear HS
      have HS := HSB.out _ (B3.out.alloc B3.out.size (.cells (hdC 0 0 0) 107))
      refine hK.out _ _ (fun _ => HS) ?_
      clear hK K
      (try simp only [Act.put]); (try simp only [List.setIfInBounds_toArray]); (try simp only [List.set_cons_succ]); (try simp only [List.set_cons_zero])
      refine anyD_ready (rs := [22]) (by kernel_rfl) (by simp) (AllD.cons rfl (fun K hK => ?_) AllD.nil)
      go_simp
      clear HS
      have HS := HSB.out _ (B3.out.alloc B3.out.size (.cells (hdC hk hf hn) 107))
      refine hK.out _ _ (fun _ => HS) ?_
      clear hK K
      (try simp only [Act.put]); (try simp only [List.setIfInBounds_toArray]); (try simp only [List.set_cons_succ]); (try simp only [List.set_cons_zero])
      refine anyD_ready (rs := [23]) (by kernel_rfl) (by simp) (AllD.cons rfl (fun K hK => ?_) AllD.nil)
      go_simp
      refine hK.out _ _ (fun _ => HS) ?_
      clear hK K
      (try simp only [Act.put]); (try simp only [List.setIfInBounds_toArray]); (try simp only [List.set_cons_succ]); (try simp only [List.set_cons_zero])
      refine anyD_ready (rs := [24]) (by kernel_rfl) (by simp) (AllD.cons rfl (fun K hK => ?_) AllD.nil)
      go_simp
      refine hK.out _ _ (fun _ => HS) ?_
      clear hK K
      (try simp only [Act.put]); (try simp only [List.setIfInBounds_toArray]); (try simp only [List.set_cons_succ]); (try simp only [List.set_cons_zero])
      refine anyD_done (by kernel_rfl) ?_ _
      go_wp2
      go_meet
      case rel => exact R3.out
    case my =>
      go_simp
      clear HS
      have HS := HSB.out _ HBA.out
      refine hK.out _ _ (fun _ => HS) ?_
      clear hK K
      (try simp only [Act.put]); (try simp only [List.setIfInBounds_toArray]); (try simp only [List.set_cons_succ]); (try simp only [List.set_cons_zero])
      refine anyD_ready (rs := [16]) (by kernel_rfl) (by simp) (AllD.cons rfl (fun K hK => ?_) AllD.nil)
      go_simp
      go_at_call 79
      refine (HHD.out _).mono ?_
      rintro e' w3 ⟨rfl, hb3⟩
      have B3 := Lib.hid (HBA.out.trans (hb3.mono HBA.out.size))
      have R3 := Lib.hid (zRel_early ⟨hk, hf, hn⟩ ha hx hb3)
      clear hb3 HS
      have HS := HSB.out w3 B3.out
      go_simp
      refine hK.out _ _ (fun _ => HS) ?_
      clear hK K
      (try simp only [Act.put]); (try simp only [List.setIfInBounds_toArray]); (try simp only [List.set_cons_succ]); (try simp only [List.set_cons_zero])
      refine anyD_take (i := 17) (v := ?vd17) [] rfl (by kernel_rfl) (by kernel_rfl) (by kernel_rfl) (by kernel_rfl) (by kernel_rfl) (by kernel_rfl) (fun _ _ _ h => h) (Or.inl ⟨by rfl, ?hd17⟩) HS ?rd17
      case hd17 => intro w' hSw; (try dsimp only at hSw); obtain ⟨s0, s2, s3⟩ := hSw; go_simp; try with_reducible rfl
      (try simp only [Act.put]); (try simp only [List.setIfInBounds_toArray]); (try simp only [List.set_cons_succ]); (try simp only [List.set_cons_zero])
      refine anyD_take (i := 18) (v := ?vd18) [] rfl (by kernel_rfl) (by kernel_rfl) (by kernel_rfl) (by kernel_rfl) (by kernel_rfl) (by kernel_rfl) (fun _ _ _ h => h) (Or.inl ⟨by rfl, ?hd18⟩) HS ?rd18
      case hd18 => intro w' hSw; (try dsimp only at hSw); obtain ⟨s0, s2, s3⟩ := hSw; go_simp; try with_reducible rfl
      (try simp only [Act.put]); (try simp only [List.setIfInBounds_toArray]); (try simp only [List.set_cons_succ]); (try simp only [List.set_cons_zero])
      refine anyD_take (i := 19) (v := ?vd19) [] rfl (by kernel_rfl) (by kernel_rfl) (by kernel_rfl) (by kernel_rfl) (by kernel_rfl) (by kernel_rfl) (fun _ _ _ h => h) (Or.inl ⟨by rfl, ?hd19⟩) HS ?rd19
      case hd19 => intro w' hSw; (try dsimp only at hSw); obtain ⟨s0, s2, s3⟩ := hSw; go_simp; try with_reducible rfl
      (try simp only [Act.put]); (try simp only [List.setIfInBounds_toArray]); (try simp only [List.set_cons_succ]); (try simp only [List.set_cons_zero])
      refine anyD_take (i := 20) (v := ?vd20) [] rfl (by kernel_rfl) (by kernel_rfl) (by kernel_rfl) (by kernel_rfl) (by kernel_rfl) (by kernel_rfl) (fun _ _ _ h => h) (Or.inl ⟨by rfl, ?hd20⟩) HS ?rd20
      case hd20 => intro w' hSw; (try dsimp only at hSw); obtain ⟨s0, s2, s3⟩ := hSw; go_simp; try with_reducible rfl
      (try simp only [Act.put]); (try simp only [List.setIfInBounds_toArray]); (try simp only [List.set_cons_succ]); (try simp only [List.set_cons_zero])
      refine anyD_ready (rs := [22]) (by kernel_rfl) (by simp) (AllD.cons rfl (fun K hK => ?_) AllD.nil)
      have hst := R3.out.1
      go_simp
      clear HS hst
      have HS := HSB.out _ (((B3.out.setCell (p := ⟨w.heap.size, 0, none⟩) (Nat.le_refl _) (.int .i64 hk)).setCell (p := ⟨w.heap.size, 1, none⟩) (Nat.le_refl _) (.int .i64 hf)).setCell (p := ⟨w.heap.size, 2, none⟩) (Nat.le_refl _) (.int .i64 hn))
      refine hK.out _ _ (fun _ => HS) ?_
      clear hK K
      (try simp only [Act.put]); (try simp only [List.setIfInBounds_toArray]); (try simp only [List.set_cons_succ]); (try simp only [List.set_cons_zero])
      refine anyD_ready (rs := [23]) (by kernel_rfl) (by simp) (AllD.cons rfl (fun K hK => ?_) AllD.nil)
      go_simp
      refine hK.out _ _ (fun _ => HS) ?_
      clear hK K
      (try simp only [Act.put]); (try simp only [List.setIfInBounds_toArray]); (try simp only [List.set_cons_succ]); (try simp only [List.set_cons_zero])
      refine anyD_ready (rs := [24]) (by kernel_rfl) (by simp) (AllD.cons rfl (fun K hK => ?_) AllD.nil)
      go_simp
      refine hK.out _ _ (fun _ => HS) ?_
      clear hK K
      (try simp only [Act.put]); (try simp only [List.setIfInBounds_toArray]); (try simp only [List.set_cons_succ]); (try simp only [List.set_cons_zero])
      refine anyD_done (by kernel_rfl) ?_ _
      go_wp2
      go_meet
      case rel => exact R3.out.2
    --END
  obtain ⟨gh, rfl, rfl, rfl, hkx, hbx⟩ := hcut
  have KX := Lib.hid hkx; have BX := Lib.hid hbx
  have x2 : wc.cell? ⟨gh, 2, none⟩ = some (.int .i64 hn) := hkx.cell 2
  clear hkx hbx hsl hmin HHD HX HSB HBD HBA
  by_cases h0 : hx = 0
  rotate_left
  · have HZ : Hid (smZ v t = (0, hx)) := Lib.hid (by rw [HE.out, if_pos h0])
    have e0 : (hx != 0) = true := bne_iff_ne.2 h0
    clear h0
    go_wp2
    go_ret2
    exact ⟨by rw [HZ.out]; rfl, BX.out⟩
  · have HZ : Hid (smZ v t = (ha + hn, 0)) := Lib.hid (by rw [HE.out, if_neg (fun x => x h0)])
    subst h0
    have d1 : (ha : Int) + (hn : Int) ≤ 9223372036854775807 := by have := HLE.out (by first | rfl | trivial); omega
    have d2 : -9223372036854775808 ≤ (ha : Int) + (hn : Int) := by omega
    go_wp2
    go_ret2
    refine ⟨?_, BX.out⟩
    rw [HZ.out]
    simp
end Go.Proofs.YtpcleamaieaefaaGreatDoor

namespace Go.Proofs.YtpcleamaieaefaaGreatDoor
open Go.RowKit
attribute [local go_sem ↓] to_ldPk to_bxPk to_bdPk to_alPk to_stPk
attribute [local go_sem] run_bxPk run_bxPk_agg ld_fresh run_alPk run_bd0 run_bdK run_bdKI run_bdKIC run_bdKC run_bdKICP run_stPk_fresh pkC_0 pkC_1 pkC_2 pkC_3 pkC_4 pkC_5 pkC_6 pkC_7 pkC_8 pkC_9 pkC_10 pkC_11 pkC_12 pkC_13 pkC_14 pkC_15 pkC_16 pkC_17 pkC_18 pkC_19 pkC_20 pkC_21 pkC_22 pkC_23 pkC_24
/-- May a stream be of this version, with these limits? -/
def smOk (v mp md : Int) : Bool := hdKnown v && decide (16 ≤ mp ∧ mp ≤ 1048576 ∧ 0 ≤ md ∧ md ≤ 32)
def limV (mp md : Int) : Value := .agg #[.int .i64 mp, .int .i64 md]
/-- What New leaves. -/
def NewOut (v mp md : Int) (w : World) (e : Ending) (w' : World) : Prop :=
  Below w.heap.size w w' ∧ if smOk v mp md = true then ∃ g, e = .returned (.tuple #[.pointer (some ⟨g, 0, none⟩), .int .i64 0]) ∧ w.heap.size ≤ g ∧ Bk w' g SmT (smC v mp none 0 0 0 0 0) else e = .returned (.tuple #[.pointer none, .int .i64 2])
theorem newOut_bad {v mp md : Int} {w w' : World} (h : smOk v mp md = false) (hb : Below w.heap.size w w') : NewOut v mp md w (.returned (.tuple #[.pointer none, .int .i64 2])) w' := by
  refine ⟨hb, ?_⟩
  rw [if_neg (by rw [h]; decide)]
theorem newOut_ok {v mp md : Int} {w w' : World} {g : Nat} (h : smOk v mp md = true) (hb : Below w.heap.size w w') (hg : w.heap.size ≤ g) (hk : Bk w' g SmT (smC v mp none 0 0 0 0 0)) : NewOut v mp md w (.returned (.tuple #[.pointer (some ⟨g, 0, none⟩), .int .i64 0])) w' := by
  refine ⟨hb, ?_⟩
  rw [if_pos h]
  exact ⟨g, rfl, hg, hk⟩
set_option maxHeartbeats 1000000 in
set_option maxRecDepth 10000 in
theorem smNew_any (v mp md : Int) (w : World) : Calls Tryz.prog 33 #[.int .i64 v, limV mp md] w (NewOut v mp md w) := by
  have HE : Hid (smOk v mp md = (decide (v = 4 ∨ v = 5) && decide (16 ≤ mp ∧ mp ≤ 1048576 ∧ 0 ≤ md ∧ md ≤ 32))) := Lib.hid rfl
  have HB := Lib.hid ((Below.refl w.heap.size w).alloc (Nat.le_refl _) (.cells #[.int .i64 mp, .int .i64 md] 57))
  have HS : Hid ((w.alloc (.cells #[.int .i64 mp, .int .i64 md] 57)).heap.size = w.heap.size + 1) := Lib.hid (by simp)
  have HK := Lib.hid (Bk.fresh w 57 #[.int .i64 mp, .int .i64 md])
  have c0 : (w.alloc (.cells #[.int .i64 mp, .int .i64 md] 57)).cell? ⟨w.heap.size, 0, none⟩ = some (.int .i64 mp) := HK.out.cell 0
  have c1 : (w.alloc (.cells #[.int .i64 mp, .int .i64 md] 57)).cell? ⟨w.heap.size, 1, none⟩ = some (.int .i64 md) := HK.out.cell 1
  unfold limV
  by_cases hv : v = 4 ∨ v = 5
  rotate_left
  · have HX : Hid (smOk v mp md = false) := Lib.hid (by rw [HE.out, decide_eq_false hv]; rfl)
    have e4 : (v != 4) = true := bne_iff_ne.2 (by omega)
    have e5 : (v != 5) = true := bne_iff_ne.2 (by omega)
    clear hv HE
    go_enter Tryz.func33, Tryz.ntmps33
    go_wp2
    go_ret2
    exact newOut_bad HX.out HB.out
  have hvv : (v != 4) = false ∨ ((v != 4) = true ∧ (v != 5) = false) := by
    by_cases e : v = 4
    · exact .inl (by rw [e]; rfl)
    · exact .inr ⟨bne_iff_ne.2 e, by rw [show v = 5 by omega]; rfl⟩
  by_cases hl : 16 ≤ mp ∧ mp ≤ 1048576 ∧ 0 ≤ md ∧ md ≤ 32
  rotate_left
  · have HX : Hid (smOk v mp md = false) := Lib.hid (by rw [HE.out, decide_eq_false hl, Bool.and_false])
    have h3 : mp < 16 ∨ (16 ≤ mp ∧ 1048576 < mp) ∨ (16 ≤ mp ∧ mp ≤ 1048576 ∧ md < 0) ∨ (16 ≤ mp ∧ mp ≤ 1048576 ∧ 0 ≤ md ∧ 32 < md) := by omega
    clear hv hl HE
    rcases hvv with e4 | ⟨e4, e5⟩ <;> rcases h3 with h3 | ⟨h3, h4⟩ | ⟨h3, h4, h5⟩ | ⟨h3, h4, h5, h6⟩
    all_goals
      go_enter Tryz.func33, Tryz.ntmps33
      go_wp2
      go_ret2
      exact newOut_bad HX.out HB.out
  have HX : Hid (smOk v mp md = true) := Lib.hid (by rw [HE.out, decide_eq_true hv, decide_eq_true hl]; rfl)
  have HG := Lib.hid (Bk.fresh (w.alloc (.cells #[.int .i64 mp, .int .i64 md] 57)) SmT (smC v mp none 0 0 0 0 0))
  obtain ⟨h3, h4, h5, h6⟩ := hl
  clear hv HE
  rcases hvv with e4 | ⟨e4, e5⟩
  all_goals
    go_enter Tryz.func33, Tryz.ntmps33
    go_wp2
    go_ret2
    refine newOut_ok HX.out (HB.out.alloc HB.out.size _) ?_ (by rw [HS.out] at HG; exact HG.out)
    omega
end Go.Proofs.YtpcleamaieaefaaGreatDoor

