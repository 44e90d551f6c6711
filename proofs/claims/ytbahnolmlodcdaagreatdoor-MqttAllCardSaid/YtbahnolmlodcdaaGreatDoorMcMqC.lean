/- A part of what the laws stand on: MqC, MqD, MqE, MqF. -/
import Derived.Test.YtbahnolmlodcdaaGreatDoorMcConD
import Derived.Test.YtbahnolmlodcdaaGreatDoorMcOrdD
import Derived.Deep.RegionLaw
namespace Go.Proofs.YtbahnolmlodcdaaGreatDoor
open Go.RowKit
/-- A kind's functions. -/
def wF (k : Int) : FuncId := if k ≤ 2 then 126 else if k = 3 then 134 else if k ≤ 7 then 128 else if k ≤ 11 then 130 else 132
def rF (k : Int) : FuncId := if k ≤ 2 then 127 else if k = 3 then 135 else if k ≤ 7 then 129 else if k ≤ 11 then 131 else 133
def chTab : List (Int × Value) := [(1, .agg #[.func (.func 126) #[] #[], .func (.func 127) #[] #[]]), (2, .agg #[.func (.func 126) #[] #[], .func (.func 127) #[] #[]]), (3, .agg #[.func (.func 134) #[] #[], .func (.func 135) #[] #[]]), (4, .agg #[.func (.func 128) #[] #[], .func (.func 129) #[] #[]]), (5, .agg #[.func (.func 128) #[] #[], .func (.func 129) #[] #[]]), (6, .agg #[.func (.func 128) #[] #[], .func (.func 129) #[] #[]]), (7, .agg #[.func (.func 128) #[] #[], .func (.func 129) #[] #[]]), (8, .agg #[.func (.func 130) #[] #[], .func (.func 131) #[] #[]]), (9, .agg #[.func (.func 130) #[] #[], .func (.func 131) #[] #[]]), (10, .agg #[.func (.func 130) #[] #[], .func (.func 131) #[] #[]]), (11, .agg #[.func (.func 130) #[] #[], .func (.func 131) #[] #[]]), (12, .agg #[.func (.func 132) #[] #[], .func (.func 133) #[] #[]]), (13, .agg #[.func (.func 132) #[] #[], .func (.func 133) #[] #[]]), (14, .agg #[.func (.func 132) #[] #[], .func (.func 133) #[] #[]]), (15, .agg #[.func (.func 132) #[] #[], .func (.func 133) #[] #[]])]
def chIn (k : Int) : Bool := decide (1 ≤ k ∧ k ≤ 15)
theorem fifteen {k : Int} (h : 1 ≤ k ∧ k ≤ 15) : k = 1 ∨ k = 2 ∨ k = 3 ∨ k = 4 ∨ k = 5 ∨ k = 6 ∨ k = 7 ∨ k = 8 ∨ k = 9 ∨ k = 10 ∨ k = 11 ∨ k = 12 ∨ k = 13 ∨ k = 14 ∨ k = 15 := by omega
theorem look_ch (k : Int) : ∃ a b, (lookI chTab k).getD (.agg #[.nilFunc, .nilFunc]) = .agg #[a, b] ∧ (lookI chTab k).isSome = chIn k ∧ (chIn k = true → a = mqFn (wF k) ∧ b = mqFn (rF k)) ∧ a.oneCell' = true ∧ b.oneCell' = true := by
  by_cases h : 1 ≤ k ∧ k ≤ 15
  · have hi : chIn k = true := decide_eq_true h
    rcases fifteen h with rfl | rfl | rfl | rfl | rfl | rfl | rfl | rfl | rfl | rfl | rfl | rfl | rfl | rfl | rfl
    all_goals exact ⟨_, _, rfl, hi.symm ▸ rfl, fun _ => ⟨rfl, rfl⟩, rfl, rfl⟩
  · have hi : chIn k = false := decide_eq_false h
    have hn : lookI chTab k = none := by
      unfold lookI
      rw [List.find?_eq_none.2]
      · rfl
      · intro q hq
        simp only [chTab, List.mem_cons, List.not_mem_nil, or_false] at hq
        intro e
        have e1 := eq_of_beq e
        rcases hq with rfl | rfl | rfl | rfl | rfl | rfl | rfl | rfl | rfl | rfl | rfl | rfl | rfl | rfl | rfl
        all_goals (simp only at e1; omega)
    rw [hn]
    exact ⟨_, _, rfl, hi.symm ▸ rfl, fun x => by (rw [hi] at x; cases x), rfl, rfl⟩
theorem enter_wF {k : Int} (args : Array Value) (w : World) : (callFunc (wF k) args).run Tryz.prog w = .ok (.enter (wF k) args) w := by
  unfold wF
  repeat' split
  · exact run_enter Tryz.func126 (by kernel_rfl) rfl args w
  · exact run_enter Tryz.func134 (by kernel_rfl) rfl args w
  · exact run_enter Tryz.func128 (by kernel_rfl) rfl args w
  · exact run_enter Tryz.func130 (by kernel_rfl) rfl args w
  · exact run_enter Tryz.func132 (by kernel_rfl) rfl args w
theorem enter_rF {k : Int} (args : Array Value) (w : World) : (callFunc (rF k) args).run Tryz.prog w = .ok (.enter (rF k) args) w := by
  unfold rF
  repeat' split
  · exact run_enter Tryz.func127 (by kernel_rfl) rfl args w
  · exact run_enter Tryz.func135 (by kernel_rfl) rfl args w
  · exact run_enter Tryz.func129 (by kernel_rfl) rfl args w
  · exact run_enter Tryz.func131 (by kernel_rfl) rfl args w
  · exact run_enter Tryz.func133 (by kernel_rfl) rfl args w
def stCh (a v : Value) : Sem Unit := Instr.storeAt ChT a v
theorem to_stCh (a v : Value) : Instr.storeAt ChT a v = stCh a v := rfl
theorem info_ch : (Tryz.prog.info? ChT).map (·.size) = some 2 := by kernel_rfl
theorem run_stCh {w : World} {g : Nat} {x y : Value} (hb : Bk w g ChT #[x, y]) {a b : Value} (ha : a.oneCell' = true) (hb' : b.oneCell' = true) : (stCh (.pointer (some ⟨g, 0, none⟩)) (.agg #[a, b])).run Tryz.prog w = .ok () (w.setCells g 0 [a, b]) := by
  unfold stCh
  refine run_storeAt_mid w g 0 ChT #[a, b] ?_ info_ch (by simp [ha, hb'])
  intro j hj
  rw [Nat.zero_add, hb.cell, hb.free]
  refine ⟨?_, rfl⟩
  rw [Array.getElem?_eq_getElem (show j < #[x, y].size from hj)]
  rfl
theorem run_stCh_at (w : World) {n : Nat} (hn : w.heap.size = n) (x y : Value) {a b : Value} (ha : a.oneCell' = true) (hb : b.oneCell' = true) : (stCh (.pointer (some ⟨n, 0, none⟩)) (.agg #[a, b])).run Tryz.prog (w.alloc (.cells #[x, y] ChT)) = .ok () (w.alloc (.cells #[a, b] ChT)) := by
  subst hn
  rw [run_stCh (Bk.fresh w ChT #[x, y]) ha hb, setCells_fresh]
  rfl
attribute [local go_sem ↓] to_stCh
/-- The four chapters that have variables, in their blocks. -/
structure ChK (W : World) (g : Nat) : Prop where
  b0 : Bk W (g + 0) ChT #[.func (.func 126) #[] #[], .func (.func 127) #[] #[]]
  b1 : Bk W (g + 1) ChT #[.func (.func 128) #[] #[], .func (.func 129) #[] #[]]
  b2 : Bk W (g + 2) ChT #[.func (.func 130) #[] #[], .func (.func 131) #[] #[]]
  b3 : Bk W (g + 3) ChT #[.func (.func 132) #[] #[], .func (.func 133) #[] #[]]
theorem ChK.next {W w1 : World} {g : Nat} (h : ChK W g) (hg : W.grownBy w1 (some (g + 4))) : ChK w1 g :=
  ⟨h.b0.mods (S := fun z => z = g + 4) (Mods.of_grown hg rfl) (by omega), h.b1.mods (S := fun z => z = g + 4) (Mods.of_grown hg rfl) (by omega), h.b2.mods (S := fun z => z = g + 4) (Mods.of_grown hg rfl) (by omega), h.b3.mods (S := fun z => z = g + 4) (Mods.of_grown hg rfl) (by omega)⟩
theorem ChK.cells {W : World} {g : Nat} (h : ChK W g) : W.cell? ⟨g, 0, none⟩ = some (.func (.func 126) #[] #[]) ∧ W.cell? ⟨g, 1, none⟩ = some (.func (.func 127) #[] #[]) ∧ W.cell? ⟨g + 1, 0, none⟩ = some (.func (.func 128) #[] #[]) ∧ W.cell? ⟨g + 1, 1, none⟩ = some (.func (.func 129) #[] #[]) ∧ W.cell? ⟨g + 2, 0, none⟩ = some (.func (.func 130) #[] #[]) ∧ W.cell? ⟨g + 2, 1, none⟩ = some (.func (.func 131) #[] #[]) ∧ W.cell? ⟨g + 3, 0, none⟩ = some (.func (.func 132) #[] #[]) ∧ W.cell? ⟨g + 3, 1, none⟩ = some (.func (.func 133) #[] #[]) :=
  ⟨h.b0.cell 0, h.b0.cell 1, h.b1.cell 0, h.b1.cell 1, h.b2.cell 0, h.b2.cell 1, h.b3.cell 0, h.b3.cell 1⟩
set_option maxHeartbeats 2000000 in
set_option maxRecDepth 10000 in
theorem chapters_any (w : World) : Calls Tryz.prog 82 #[] w fun e w' => ∃ r, e = .returned (.map (some r)) ∧ IMap .i64 w' r chTab ∧ Below w.heap.size w w' := by
  have hmm := @run_makeMap Tryz.prog
  obtain ⟨W4, hW4⟩ : ∃ W4, ((((w.alloc (.cells #[.func (.func 126) #[] #[], .func (.func 127) #[] #[]] ChT)).alloc (.cells #[.func (.func 128) #[] #[], .func (.func 129) #[] #[]] ChT)).alloc (.cells #[.func (.func 130) #[] #[], .func (.func 131) #[] #[]] ChT)).alloc (.cells #[.func (.func 132) #[] #[], .func (.func 133) #[] #[]] ChT)) = W4 := ⟨_, rfl⟩
  have hs4 : W4.heap.size = w.heap.size + 4 := by rw [← hW4]; simp
  have HB : Hid (Below w.heap.size w (W4.alloc (.map #[] 0))) := Lib.hid (by
    rw [← hW4]
    exact (((((Below.refl w.heap.size w).alloc (Nat.le_refl _) _).alloc (by simp) _).alloc (by simp; omega) _).alloc (by simp; omega) _).alloc (by simp; omega) _)
  have HT : Hid (IMap .i64 (W4.alloc (.map #[] 0)) (w.heap.size + 4) []) := Lib.hid (by rw [← hs4]; exact IMap.made W4 .i64)
  have HKK : Hid (ChK (W4.alloc (.map #[] 0)) w.heap.size) := Lib.hid (by
    rw [← hW4]
    have e1 : (w.alloc (.cells #[.func (.func 126) #[] #[], .func (.func 127) #[] #[]] ChT)).heap.size = w.heap.size + 1 := by simp
    have e2 : ((w.alloc (.cells #[.func (.func 126) #[] #[], .func (.func 127) #[] #[]] ChT)).alloc (.cells #[.func (.func 128) #[] #[], .func (.func 129) #[] #[]] ChT)).heap.size = w.heap.size + 2 := by simp
    have e3 : (((w.alloc (.cells #[.func (.func 126) #[] #[], .func (.func 127) #[] #[]] ChT)).alloc (.cells #[.func (.func 128) #[] #[], .func (.func 129) #[] #[]] ChT)).alloc (.cells #[.func (.func 130) #[] #[], .func (.func 131) #[] #[]] ChT)).heap.size = w.heap.size + 3 := by simp
    refine ⟨((((Bk.fresh w ChT _).alloc _).alloc _).alloc _).alloc _, ?_, ?_, ?_⟩
    · rw [← e1]; exact (((Bk.fresh _ ChT _).alloc _).alloc _).alloc _
    · rw [← e2]; exact ((Bk.fresh _ ChT _).alloc _).alloc _
    · rw [← e3]; exact (Bk.fresh _ ChT _).alloc _)
  obtain ⟨c0, c1, c2, c3, c4, c5, c6, c7⟩ := HKK.out.cells
  rw [← hW4] at c0 c1 c2 c3 c4 c5 c6 c7 HB HT HKK
  clear hW4 hs4
  clear W4
  have st0 := run_stCh_at w (n := w.heap.size) (by simp) .nilFunc .nilFunc (a := .func (.func 126) #[] #[]) (b := .func (.func 127) #[] #[]) rfl rfl
  have st1 := run_stCh_at (w.alloc (.cells #[.func (.func 126) #[] #[], .func (.func 127) #[] #[]] ChT)) (n := w.heap.size + 1) (by simp) .nilFunc .nilFunc (a := .func (.func 128) #[] #[]) (b := .func (.func 129) #[] #[]) rfl rfl
  have st2 := run_stCh_at ((w.alloc (.cells #[.func (.func 126) #[] #[], .func (.func 127) #[] #[]] ChT)).alloc (.cells #[.func (.func 128) #[] #[], .func (.func 129) #[] #[]] ChT)) (n := w.heap.size + 2) (by simp) .nilFunc .nilFunc (a := .func (.func 130) #[] #[]) (b := .func (.func 131) #[] #[]) rfl rfl
  have st3 := run_stCh_at (((w.alloc (.cells #[.func (.func 126) #[] #[], .func (.func 127) #[] #[]] ChT)).alloc (.cells #[.func (.func 128) #[] #[], .func (.func 129) #[] #[]] ChT)).alloc (.cells #[.func (.func 130) #[] #[], .func (.func 131) #[] #[]] ChT)) (n := w.heap.size + 3) (by simp) .nilFunc .nilFunc (a := .func (.func 132) #[] #[]) (b := .func (.func 133) #[] #[]) rfl rfl
  go_enter Tryz.func82, Tryz.ntmps82
  go_wp2_with (refine wpList_mput _ rfl _ _ _ 120 rfl 3 ChT (by kernel_rfl) (by kernel_rfl) (w.heap.size + 4) _ rfl HT.out _ _ rfl rfl rfl ?_; intro w1 hT hg; have hb := HB.out.grown hg (HB.out.size) (fun k hk => by cases hk; exact Nat.le_add_right _ _); have hk := HKK.out.next hg; clear HT HB hg HKK c0 c1 c2 c3 c4 c5 c6 c7; have HT := Lib.hid hT; have HB := Lib.hid hb; have HKK := Lib.hid hk; obtain ⟨c0, c1, c2, c3, c4, c5, c6, c7⟩ := hk.cells; clear hT hb hk)
  go_ret
  exact ⟨_, rfl, HT.out, HB.out⟩
end Go.Proofs.YtbahnolmlodcdaaGreatDoor

namespace Go.Proofs.YtbahnolmlodcdaaGreatDoor
open Go.RowKit
attribute [local go_sem ↓] to_ldPk to_bxPk to_bdPk to_alPk to_stPk
attribute [local go_sem] run_bxPk run_bxPk_agg ld_fresh run_alPk run_bd0 run_bdK run_bdKI run_bdKIC run_bdKC run_bdKICP run_stPk_fresh pkC_0 pkC_1 pkC_2 pkC_3 pkC_4 pkC_5 pkC_6 pkC_7 pkC_8 pkC_9 pkC_10 pkC_11 pkC_12 pkC_13 pkC_14 pkC_15 pkC_16 pkC_17 pkC_18 pkC_19 pkC_20 pkC_21 pkC_22 pkC_23 pkC_24
attribute [local go_sem ↓] to_bdDf to_bxDf to_stCh
attribute [local go_sem] run_bdDf run_bxDf
theorem df_any (v : Int) (p : Pk) (h : Hs) (w : World) (ip : PkIn w w.heap.size p h) (ok : PkOk p) (hz : SbFit v p) :
    Calls Tryz.prog (wF p.kind) #[dfV v p h] w fun e w' => e = .returned (.tuple #[.string (chB v p).1, .int .i64 (chB v p).2]) ∧ Below w.heap.size w w' := by
  unfold wF chB
  split
  · exact dfConnect_any v p h w ip ok
  split
  · exact dfPublish_any v p h w ip ok
  split
  · exact dfAck_any v p h w ip ok
  split
  · exact dfSubscribe_any v p h w ip ok (hz ⟨by omega, by omega⟩)
  · exact dfControl_any v p h w ip ok
theorem wr_any (v : Int) (x : Hdr) (s : ByteArray) (w : World) (hs : s.size ≤ 1000000000000) : Calls Tryz.prog (rF x.k) #[wrV v x s] w (PkOutD (chR v x s) w) := by
  unfold rF chR
  split
  · exact wrConnect_any v x s w hs
  split
  · exact wrPublish_any v x s w hs
  split
  · exact wrAck_any v x s w hs
  split
  · exact wrSubscribe_any v x s w hs
  · exact wrControl_any v x s w hs
theorem mq_look {w : World} {r : Nat} (h : IMap .i64 w r chTab) (k : Int) {a b : Value} {is : Bool} (h1 : (lookI chTab k).getD (.agg #[.nilFunc, .nilFunc]) = .agg #[a, b]) (h2 : (lookI chTab k).isSome = is) :
    (Instr.lookup 120 (.map (some r)) (.int .i64 k) true).run Tryz.prog w = .ok (.tuple #[.agg #[a, b], .bool is]) w ∧ (Instr.lookup 120 (.map (some r)) (.int .i64 k) false).run Tryz.prog w = .ok (.agg #[a, b]) w := by
  have hl := mlook_run (P := Tryz.prog) (t := 120) (k := 3) (e := ChT) (z := .agg #[.nilFunc, .nilFunc]) (by kernel_rfl) (by kernel_rfl) (by kernel_rfl) h k
  rw [h1, h2] at hl
  exact ⟨hl.2, hl.1⟩
/-- A body that may be, else nothing. -/
def mqBd (v : Int) (p : Pk) : ByteArray := if mqE v p = 0 then (chB v p).1 else ⟨#[]⟩
set_option maxHeartbeats 2000000 in
set_option maxRecDepth 10000 in
theorem mqBody_any (v : Int) (p : Pk) (h : Hs) (w : World) (ip : PkIn w w.heap.size p h) (ok : PkOk p) (hz : SbFit v p) :
    Calls Tryz.prog 76 #[.int .i64 v, pkV p h] w fun e w' => e = .returned (.tuple #[.string (mqBd v p), .int .i64 (mqE v p)]) ∧ Below w.heap.size w w' := by
  have HE : Hid (mqE v p = if hdKnown v = false then 2 else if hdKinds v p.kind = false then 8 else if chE v p ≠ 0 then chE v p else if 268435455 < (chB v p).1.size then 4 else 0) := Lib.hid rfl
  have HBD : Hid (mqBd v p = if mqE v p = 0 then (chB v p).1 else ⟨#[]⟩) := Lib.hid rfl
  have HOK := Lib.hid ok
  have HZ := Lib.hid hz
  have hb0 := (Below.refl w.heap.size w).alloc (Nat.le_refl _) (.cells (pkC p h) PkT)
  have HB := Lib.hid hb0
  have HIP := Lib.hid (ip.next hb0)
  have HK := Lib.hid (Bk.fresh w PkT (pkC p h))
  clear ip ok hz hb0
  obtain ⟨w0, hw0⟩ : ∃ w0, w.alloc (.cells (pkC p h) PkT) = w0 := ⟨_, rfl⟩
  have HG : Hid (w.heap.size < w0.heap.size) := Lib.hid (by rw [← hw0]; simp)
  rw [hw0] at HB HIP HK
  have hbx : (bxPk (pkV p h)).run Tryz.prog w = .ok (.pointer (some ⟨w.heap.size, 0, none⟩)) w0 := by rw [← hw0]; exact run_bxPk p h w
  clear hw0
  go_enter Tryz.func76, Tryz.ntmps76
  go_upto_region 1 with fail
  go_cut [15] (fun a wx => w0 = wx ∧ a = .bool (!hdKnown v))
  case first =>
    by_cases h4 : v = 4
    · have HX : Hid (hdKnown v = true) := Lib.hid (decide_eq_true (.inl h4))
      have e4 : (v != 4) = false := by simp [h4]
      clear h4
      go_wp2
      go_meet
      case rel => exact ⟨rfl, by rw [HX.out]; rfl⟩
    · have e4 : (v != 4) = true := bne_iff_ne.2 h4
      by_cases h5 : v = 5
      · have HX : Hid (hdKnown v = true) := Lib.hid (decide_eq_true (.inr h5))
        have e5 : (v != 5) = false := by simp [h5]
        clear h4 h5
        go_wp2
        go_meet
        case rel => exact ⟨rfl, by rw [HX.out]; rfl⟩
      · have HX : Hid (hdKnown v = false) := Lib.hid (decide_eq_false (by omega))
        have e5 : (v != 5) = true := bne_iff_ne.2 h5
        clear h4 h5
        go_wp2
        go_meet
        case rel => exact ⟨rfl, by rw [HX.out]; rfl⟩
  obtain ⟨rfl, rfl⟩ := hcut
  cases hk : hdKnown v
  · have HX : Hid (mqE v p = 2) := Lib.hid (by rw [HE.out, if_pos hk])
    have HY : Hid (mqBd v p = ⟨#[]⟩) := Lib.hid (by rw [HBD.out, HX.out]; rfl)
    clear hk
    go_wp2
    go_ret2
    exact ⟨by rw [HX.out, HY.out]; rfl, HB.out⟩
  have HE1 : Hid (mqE v p = if hdKinds v p.kind = false then 8 else if chE v p ≠ 0 then chE v p else if 268435455 < (chB v p).1.size then 4 else 0) := Lib.hid (by rw [HE.out, if_neg (fun x => by rw [hk] at x; cases x)])
  have HKN := Lib.hid hk
  obtain ⟨ca, cb, hl1, hl2, hl3, hl4, hl5⟩ := look_ch p.kind
  have HL3 := Lib.hid hl3
  have HLK := Lib.hid (fun (W : World) (r : Nat) (hT : IMap .i64 W r chTab) => mq_look hT p.kind hl1 hl2)
  have HST := Lib.hid (fun (W : World) => run_stCh_at W (n := W.heap.size) rfl .nilFunc .nilFunc hl4 hl5)
  have HSB := Lib.hid (fun (W : World) (g : Nat) (hb : Bk W g ChT #[.nilFunc, .nilFunc]) => run_stCh hb hl4 hl5)
  have c0 := (HK.out.cell 0).trans (pkC_0 p h)
  clear hk HE hl1 hl2 hl3 hl4 hl5
  go_upto_region 3 with fail
  go_cut [6, 7] (fun a b wx => ∃ g, a = .pointer (some ⟨g, 0, none⟩) ∧ b = .bool (chIn p.kind) ∧ Bk wx g ChT #[ca, cb] ∧ Below w0.heap.size w0 wx)
  case first =>
    have cA : (w0.alloc (.cells #[.nilFunc, .nilFunc] ChT)).cell? ⟨w.heap.size, 0, none⟩ = some (.int .i64 p.kind) := ((HK.out.alloc _).cell 0).trans (pkC_0 p h)
    go_region_law ((first | (go_simp; go_at_call 82; refine (chapters_any w0.drew).mono ?_; rintro e w2 ⟨r, rfl, hT, hb⟩; have hlk := (HLK.out w2 r hT).1; have hlkA := (HLK.out _ r (hT.alloc (.cells #[.nilFunc, .nilFunc] ChT))).1; have hstA := HST.out w2; have hB : Below w0.heap.size w0 w2 := (below_drawn (Below.refl w0.heap.size w0) 1).trans hb; have c2 : w2.cell? ⟨w.heap.size, 0, none⟩ = some (.int .i64 p.kind) := ((HK.out.below hB HG.out).cell 0).trans (pkC_0 p h); have c2A : (w2.alloc (.cells #[.nilFunc, .nilFunc] ChT)).cell? ⟨w.heap.size, 0, none⟩ = some (.int .i64 p.kind) := (((HK.out.below hB HG.out).alloc _).cell 0).trans (pkC_0 p h)) | (go_simp; go_at_call 82; refine (chapters_any (w0.alloc (.cells #[.nilFunc, .nilFunc] ChT)).drew).mono ?_; rintro e w2 ⟨r, rfl, hT, hb⟩; have hlk := (HLK.out w2 r hT).1; have hA : Below w0.heap.size w0 (w0.alloc (.cells #[.nilFunc, .nilFunc] ChT)).drew := below_drawn ((Below.refl w0.heap.size w0).alloc (Nat.le_refl _) (.cells #[.nilFunc, .nilFunc] ChT)) 1; have hB : Below w0.heap.size w0 w2 := hA.trans (hb.mono hA.size); have hK2 : Bk w2 w0.heap.size ChT #[.nilFunc, .nilFunc] := ((Bk.fresh w0 ChT #[.nilFunc, .nilFunc]).drewN 1).below hb (by show w0.heap.size < (w0.alloc _).heap.size; simp); have hP : Bk (w2.setCells w0.heap.size 0 [ca, cb]) w0.heap.size ChT #[ca, cb] := setCells_bk [ca, cb] 0 hK2; have hQ : Below w0.heap.size w0 (w2.setCells w0.heap.size 0 [ca, cb]) := (hB.setCell (Nat.le_refl _) _).setCell (Nat.le_refl _) _; have hstA := HSB.out w2 w0.heap.size hK2; have c2 : w2.cell? ⟨w.heap.size, 0, none⟩ = some (.int .i64 p.kind) := ((HK.out.below hB HG.out).cell 0).trans (pkC_0 p h))))
    all_goals
      go_wp2
      go_meet
      case rel =>
        first
          | with_reducible exact ⟨_, rfl, rfl, Bk.fresh w2 ChT #[ca, cb], hB.alloc hB.size _⟩
          | with_reducible exact ⟨_, rfl, rfl, hP, hQ⟩
  obtain ⟨g, rfl, rfl, hkc, hbx2⟩ := hcut
  obtain ⟨wx, hwx⟩ : ∃ x, x = wc := ⟨_, rfl⟩
  subst hwx
  have HB1 := Lib.hid (HB.out.trans (hbx2.mono HB.out.size))
  have HK1 := Lib.hid (HK.out.below hbx2 HG.out)
  have HIP1 := Lib.hid (HIP.out.next hbx2)
  have HKC := Lib.hid hkc
  clear hbx2 hkc c0 HB HK HIP HLK HST HSB hbx
  have c0 := (HK1.out.cell 0).trans (pkC_0 p h)
  have HKI : Hid (hdKinds v p.kind = (chIn p.kind && !(decide (p.kind = 15) && decide (v = 4)))) := Lib.hid (by
    have := of_decide_eq_true (show decide (v = 4 ∨ v = 5) = true from HKN.out)
    unfold hdKinds chIn
    rw [Bool.eq_iff_iff]
    simp only [Bool.and_eq_true, Bool.not_eq_true', Bool.and_eq_false_iff, decide_eq_true_eq, decide_eq_false_iff_not]
    omega)
  obtain ⟨is, his⟩ : ∃ is, chIn p.kind = is := ⟨_, rfl⟩
  rw [his] at HKI HL3 ⊢
  have HIS := Lib.hid his
  clear his
  go_upto_region 4 with fail
  go_cut [33] (fun a wy => wx = wy ∧ a = .bool (!hdKinds v p.kind))
  case first =>
    cases is
    · have HX : Hid (hdKinds v p.kind = false) := Lib.hid (by rw [HKI.out]; rfl)
      go_wp2
      go_meet
      case rel => exact ⟨rfl, by rw [HX.out]; rfl⟩
    by_cases k15 : p.kind = 15
    rotate_left
    · have HX : Hid (hdKinds v p.kind = true) := Lib.hid (by rw [HKI.out, decide_eq_false k15]; rfl)
      have e15 : (p.kind == 15) = false := beq_eq_false_iff_ne.2 k15
      clear k15
      go_wp2
      go_meet
      case rel => exact ⟨rfl, by rw [HX.out]; rfl⟩
    have e15 : (p.kind == 15) = true := beq_iff_eq.2 k15
    by_cases v4 : v = 4
    · have HX : Hid (hdKinds v p.kind = false) := Lib.hid (by rw [HKI.out, decide_eq_true k15, decide_eq_true v4]; rfl)
      have e4 : (v == 4) = true := beq_iff_eq.2 v4
      clear k15 v4
      go_wp2
      go_meet
      case rel => exact ⟨rfl, by rw [HX.out]; rfl⟩
    · have HX : Hid (hdKinds v p.kind = true) := Lib.hid (by rw [HKI.out, decide_eq_true k15, decide_eq_false v4]; rfl)
      have e4 : (v == 4) = false := beq_eq_false_iff_ne.2 v4
      clear k15 v4
      go_wp2
      go_meet
      case rel => exact ⟨rfl, by rw [HX.out]; rfl⟩
  obtain ⟨rfl, rfl⟩ := hcut
  cases hkd : hdKinds v p.kind
  · have HX : Hid (mqE v p = 8) := Lib.hid (by rw [HE1.out, if_pos hkd])
    have HY : Hid (mqBd v p = ⟨#[]⟩) := Lib.hid (by rw [HBD.out, HX.out]; rfl)
    clear hkd
    go_wp2
    go_ret2
    exact ⟨by rw [HX.out, HY.out]; rfl, HB1.out⟩
  have hin : is = true := by
    have := HKI.out
    rw [hkd] at this
    cases is
    · cases this
    · rfl
  obtain ⟨rfl, rfl⟩ := HL3.out hin
  have HE2 : Hid (mqE v p = if chE v p ≠ 0 then chE v p else if 268435455 < (chB v p).1.size then 4 else 0) := Lib.hid (by rw [HE1.out, if_neg (fun x => by rw [hkd] at x; cases x)])
  have HDF := Lib.hid (fun W ip => df_any v p h W ip HOK.out HZ.out)
  have d0 := HKC.out.cell 0
  have l0 := ld_bk HK1.out
  have en := fun args W => enter_wF (k := p.kind) args W
  simp only [List.getElem?_toArray, List.getElem?_cons_zero, mqFn] at d0
  generalize wF p.kind = WF at *
  clear hkd HKI HE1 HL3 HKC HIS
  subst hin
  go_wp2_with fail
  refine (HDF.out _ HIP1.out).mono ?_
  rintro e w3 ⟨rfl, hb⟩
  have HB3 := Lib.hid (HB1.out.trans (hb.mono HB1.out.size))
  clear hb HDF c0 d0 l0 en
  by_cases hc : chE v p = 0
  rotate_left
  · have HX : Hid (mqE v p = chE v p) := Lib.hid (by rw [HE2.out, if_pos hc])
    have HY : Hid (mqBd v p = ⟨#[]⟩) := Lib.hid (by rw [HBD.out, HX.out, if_neg hc])
    rw [chB_bad hc]
    generalize chE v p = x at *
    have e0 : (x != 0) = true := bne_iff_ne.2 hc
    clear hc
    go_wp2
    go_ret2
    exact ⟨by rw [HX.out, HY.out]; rfl, HB3.out⟩
  have h2 := chB_ok hc
  have HE3 : Hid (mqE v p = if 268435455 < (chB v p).1.size then 4 else 0) := Lib.hid (by rw [HE2.out, if_neg (fun x => x hc)])
  rw [h2]
  obtain ⟨X, hX⟩ : ∃ X, (chB v p).1 = X := ⟨_, rfl⟩
  rw [hX] at HE3 HBD ⊢
  clear h2 hc hX HE2
  by_cases hs : 268435455 < X.size
  · have HX : Hid (mqE v p = 4) := Lib.hid (by rw [HE3.out, if_pos hs])
    have HY : Hid (mqBd v p = ⟨#[]⟩) := Lib.hid (by rw [HBD.out, HX.out]; rfl)
    have d1 : (268435455 : Int) < (X.size : Int) := by omega
    clear hs
    go_wp2
    go_ret2
    exact ⟨by rw [HX.out, HY.out]; rfl, HB3.out⟩
  · have HX : Hid (mqE v p = 0) := Lib.hid (by rw [HE3.out, if_neg hs])
    have HY : Hid (mqBd v p = X) := Lib.hid (by rw [HBD.out, HX.out]; rfl)
    have d1 : (X.size : Int) ≤ 268435455 := by omega
    clear hs
    go_wp2
    go_ret2
    exact ⟨by rw [HX.out, HY.out]; rfl, HB3.out⟩
end Go.Proofs.YtbahnolmlodcdaaGreatDoor

namespace Go.Proofs.YtbahnolmlodcdaaGreatDoor
open Go.RowKit
attribute [local go_sem ↓] to_ldPk to_bxPk to_bdPk to_alPk to_stPk
attribute [local go_sem] run_bxPk run_bxPk_agg ld_fresh run_alPk run_bd0 run_bdK run_bdKI run_bdKIC run_bdKC run_bdKICP run_stPk_fresh pkC_0 pkC_1 pkC_2 pkC_3 pkC_4 pkC_5 pkC_6 pkC_7 pkC_8 pkC_9 pkC_10 pkC_11 pkC_12 pkC_13 pkC_14 pkC_15 pkC_16 pkC_17 pkC_18 pkC_19 pkC_20 pkC_21 pkC_22 pkC_23 pkC_24
set_option maxHeartbeats 400000 in
set_option maxRecDepth 10000 in
theorem mqValid_any (v : Int) (p : Pk) (h : Hs) (w : World) (ip : PkIn w w.heap.size p h) (ok : PkOk p) (hz : SbFit v p) :
    Calls Tryz.prog 24 #[.int .i64 v, pkV p h] w fun e w' => e = .returned (.int .i64 (mqE v p)) ∧ Below w.heap.size w w' := by
  have hb0 := (Below.refl w.heap.size w).alloc (Nat.le_refl _) (.cells (pkC p h) PkT)
  have HB := Lib.hid hb0
  have HBD := Lib.hid (mqBody_any v p h _ (ip.next hb0) ok hz)
  clear ip ok hz hb0
  go_enter Tryz.func24, Tryz.ntmps24
  go_wp2_with fail
  refine HBD.out.mono ?_
  rintro e w1 ⟨rfl, hb⟩
  have HB1 := Lib.hid (HB.out.trans (hb.mono HB.out.size))
  clear hb
  go_wp2
  go_ret
  exact ⟨rfl, HB1.out⟩
set_option maxHeartbeats 1000000 in
set_option maxRecDepth 10000 in
theorem mqBytes_any (v : Int) (p : Pk) (h : Hs) (w : World) (ip : PkIn w w.heap.size p h) (ok : PkOk p) (hz : SbFit v p) :
    Calls Tryz.prog 23 #[.int .i64 v, pkV p h] w fun e w' => e = .returned (.tuple #[.string (mqB v p).1, .int .i64 (mqB v p).2]) ∧ Below w.heap.size w w' := by
  have hb0 := (Below.refl w.heap.size w).alloc (Nat.le_refl _) (.cells (pkC p h) PkT)
  have HB := Lib.hid hb0
  have HK := Lib.hid (Bk.fresh w PkT (pkC p h))
  have HBD := Lib.hid (mqBody_any v p h _ (ip.next hb0) ok hz)
  clear ip ok hz hb0
  go_enter Tryz.func23, Tryz.ntmps23
  go_wp2_with fail
  refine HBD.out.mono ?_
  rintro e w1 ⟨rfl, hb⟩
  have HB1 := Lib.hid (HB.out.trans (hb.mono HB.out.size))
  have HK1 := Lib.hid (HK.out.below hb HK.out.lt)
  clear hb HBD HB HK
  by_cases hE : mqE v p = 0
  rotate_left
  · have HX : Hid (mqB v p = (⟨#[]⟩, mqE v p)) := Lib.hid (if_neg hE)
    generalize mqE v p = x at *
    have e0 : (x != 0) = true := bne_iff_ne.2 hE
    clear hE
    go_wp2
    go_ret2
    exact ⟨by rw [HX.out]; rfl, HB1.out⟩
  obtain ⟨h1, h2, h3, h4⟩ := mqE_ok hE
  obtain ⟨h5, h6⟩ := ch_flags h1 h2 h3
  have HX : Hid (mqB v p = (mqS v p, 0)) := Lib.hid (if_pos hE)
  have HBD : mqBd v p = (chB v p).1 := if_pos hE
  have HHB : Hid (hdB v p.kind (mqF p) (chB v p).1.size = (hdS p.kind (mqF p) (chB v p).1.size, 0)) := Lib.hid (if_pos h6)
  have HS : Hid (mqS v p = ⟨(hdS p.kind (mqF p) (chB v p).1.size).toArray⟩ ++ (chB v p).1) := Lib.hid rfl
  have HT := Lib.hid (hdS_two p.kind (mqF p) (chB v p).1.size)
  have HHD := Lib.hid (fun W => hdBytes_any v p.kind (mqF p) (chB v p).1.size W h4)
  simp only [hdrV, HHB.out] at HHD
  have l1 := ld_bk HK1.out
  rw [hE, HBD]
  have HFL := Lib.hid (fun W => hdFlags_any v p h W)
  rw [h5] at HFL
  obtain ⟨X, hX⟩ : ∃ X, (chB v p).1 = X := ⟨_, rfl⟩
  rw [hX] at HHD HS HT h4 ⊢
  obtain ⟨F, hF⟩ : ∃ F, mqF p = F := ⟨_, rfl⟩
  rw [hF] at HHD HS HT HFL
  obtain ⟨Y, hY⟩ : ∃ Y, hdS p.kind F X.size = Y := ⟨_, rfl⟩
  rw [hY] at HHD HS HT
  have HX4 := Lib.hid h4
  clear HHB h1 h2 h3 h5 h6 HBD hX hF hY hE h4
  go_wp2_with fail
  refine (HFL.out _).mono ?_
  rintro e w2 ⟨rfl, hb⟩
  have HB2 := Lib.hid (HB1.out.trans (hb.mono HB1.out.size))
  have HK2 := Lib.hid (HK1.out.below hb HK1.out.lt)
  clear hb l1 HFL
  have c0 := (HK2.out.cell 0).trans (pkC_0 p h)
  go_wp2_with fail
  refine (HHD.out _).mono ?_
  rintro e w3 ⟨rfl, hb⟩
  have HB3 := Lib.hid (HB2.out.trans (hb.mono HB2.out.size))
  have hsm : ¬ (9223372036854775807 < Y.length + X.size) := by have := HT.out; have := HX4.out; omega
  clear hb HHD c0
  go_wp2
  go_ret2
  exact ⟨by rw [HX.out, HS.out]; rfl, HB3.out⟩
set_option maxHeartbeats 400000 in
set_option maxRecDepth 10000 in
theorem mqSize_any (v : Int) (p : Pk) (h : Hs) (w : World) (ip : PkIn w w.heap.size p h) (ok : PkOk p) (hz : SbFit v p) :
    Calls Tryz.prog 31 #[.int .i64 v, pkV p h] w fun e w' => e = .returned (.tuple #[.int .i64 ((mqB v p).1.size : Nat), .int .i64 (mqB v p).2]) ∧ Below w.heap.size w w' := by
  have hb0 := (Below.refl w.heap.size w).alloc (Nat.le_refl _) (.cells (pkC p h) PkT)
  have HB := Lib.hid hb0
  have HBD := Lib.hid (mqBytes_any v p h _ (ip.next hb0) ok hz)
  clear ip ok hz hb0
  go_enter Tryz.func31, Tryz.ntmps31
  go_wp2_with fail
  refine HBD.out.mono ?_
  rintro e w1 ⟨rfl, hb⟩
  have HB1 := Lib.hid (HB.out.trans (hb.mono HB.out.size))
  clear hb
  go_wp2
  go_ret2
  exact ⟨rfl, HB1.out⟩
end Go.Proofs.YtbahnolmlodcdaaGreatDoor

namespace Go.Proofs.YtbahnolmlodcdaaGreatDoor
open Go.RowKit
attribute [local go_sem ↓] to_ldPk to_bxPk to_bdPk to_alPk to_stPk
attribute [local go_sem] run_bxPk run_bxPk_agg ld_fresh run_alPk run_bd0 run_bdK run_bdKI run_bdKIC run_bdKC run_bdKICP run_stPk_fresh pkC_0 pkC_1 pkC_2 pkC_3 pkC_4 pkC_5 pkC_6 pkC_7 pkC_8 pkC_9 pkC_10 pkC_11 pkC_12 pkC_13 pkC_14 pkC_15 pkC_16 pkC_17 pkC_18 pkC_19 pkC_20 pkC_21 pkC_22 pkC_23 pkC_24
def bdWr (v : Array (Nat × Value)) : Sem Value := Instr.build WrT v
theorem to_bdWr (v : Array (Nat × Value)) : Instr.build WrT v = bdWr v := rfl
theorem run_bdWr (v k f : Int) (n : Nat) (t : ByteArray) (w : World) : (bdWr #[(0, .int .i64 v), (1, .agg #[.int .i64 k, .int .i64 f, .int .i64 n]), (2, .string t)]).run Tryz.prog w = .ok (wrV v ⟨k, f, n⟩ t) w := by kernel_rfl
theorem run_chF (a b : FuncId) (w : World) : (Instr.field ChT (.agg #[.func (.func a) #[] #[], .func (.func b) #[] #[]]) 1).run Tryz.prog w = .ok (.func (.func b) #[] #[]) w := by kernel_rfl
attribute [local go_sem ↓] to_bdWr run_chF
attribute [local go_sem] run_bdWr
theorem results_pk3 {fn : Func} {p u u' : Tmp} (hr : fn.results = #[.cell p PkT, .tmp u, .tmp u']) (tmps : Array Value) {w : World} {g : Nat} {q : Pk} {h : Hs} (hp : tmps.getD p undef = .pointer (some ⟨g, 0, none⟩)) (hb : Bk w g PkT (pkC q h)) :
    (results fn tmps).run Tryz.prog w = .ok (.tuple #[pkV q h, tmps.getD u undef, tmps.getD u' undef]) w := by
  rw [results_cell2 hr, hp]
  have hl := lv_bk hb
  generalize pkV q h = V at hl ⊢
  exact then_ok _ (⟨g, 0, none⟩ : Addr) w _ rfl |>.trans (then_ok _ V w _ hl)
/-- What a reading of a packet, with its size, leaves. -/
def PkOut3 (r : Pk × Nat × Int) (w : World) (e : Ending) (w' : World) : Prop := ∃ h, e = .returned (.tuple #[pkV r.1 h, .int .i64 (r.2.1 : Nat), .int .i64 r.2.2]) ∧ PkIn w' w'.heap.size r.1 h ∧ Below w.heap.size w w' ∧ PkFresh w r.1 h
theorem pkOut3_bad {r : Pk × Nat × Int} {x : Int} {w w' : World} (h : r = (pk0, 0, x)) (hb : Below w.heap.size w w') : PkOut3 r w (.returned (.tuple #[pkV pk0 hs0, .int .i64 0, .int .i64 x])) w' := by
  subst h
  exact ⟨hs0, rfl, pk0_in _ _, hb, .inl rfl⟩
theorem pkOut3_ok {r : Pk × Nat × Int} {p : Pk} {n : Nat} {h : Hs} {w w' : World} (hr : r = (p, n, 0)) (hi : PkIn w' w'.heap.size p h) (hb : Below w.heap.size w w') (hf : PkFresh w p h) : PkOut3 r w (.returned (.tuple #[pkV p h, .int .i64 n, .int .i64 0])) w' := by
  subst hr
  exact ⟨h, rfl, hi, hb, hf⟩
set_option maxHeartbeats 2000000 in
set_option maxRecDepth 10000 in
theorem mqRead_any (v : Int) (s : ByteArray) (w : World) (hs : s.size ≤ 1000000000000) : Calls Tryz.prog 32 #[.int .i64 v, .string s] w (PkOut3 (mqR v s) w) := by
  have HE : Hid (mqR v s = if (hdR v s).2.2 ≠ 0 then (pk0, 0, (hdR v s).2.2)
    else if s.size < (hdR v s).2.1 + (hdR v s).1.n then (pk0, 0, 3)
    else if (chR v (hdR v s).1 (s.extract (hdR v s).2.1 ((hdR v s).2.1 + (hdR v s).1.n))).2 = 0 then ((chR v (hdR v s).1 (s.extract (hdR v s).2.1 ((hdR v s).2.1 + (hdR v s).1.n))).1, (hdR v s).2.1 + (hdR v s).1.n, 0)
    else (pk0, 0, if (chR v (hdR v s).1 (s.extract (hdR v s).2.1 ((hdR v s).2.1 + (hdR v s).1.n))).2 = 3 then 5 else (chR v (hdR v s).1 (s.extract (hdR v s).2.1 ((hdR v s).2.1 + (hdR v s).1.n))).2)) := Lib.hid rfl
  have HS := Lib.hid hs
  have HB := Lib.hid ((Below.refl w.heap.size w).alloc (Nat.le_refl _) (.cells (pkC pk0 hs0) PkT))
  have HK := Lib.hid (Bk.fresh w PkT (pkC pk0 hs0))
  have HHD := Lib.hid (fun W => hdRead_any v s W (by omega))
  have HBK : Hid ((hdR v s).2.2 = 0 → hdKinds v (hdR v s).1.k = true ∧ (hdR v s).1.n ≤ 268435455 ∧ (hdR v s).2.1 ≤ s.size) := Lib.hid (fun h0 => by
    obtain ⟨b1, b2, b3, b4, b5⟩ := hdR_back (v := v) (s := s) (h := (hdR v s).1) (a := (hdR v s).2.1) (by rw [← h0])
    exact ⟨(hdChk_ok.1 b1).2.1, b2, b5⟩)
  clear hs
  obtain ⟨⟨⟨k, f, n⟩, a, x⟩, hr⟩ : ∃ r, hdR v s = r := ⟨_, rfl⟩
  rw [hr] at HE HHD HBK
  simp only [hdrV] at HE HHD HBK
  clear hr
  go_enter Tryz.func32, Tryz.ntmps32
  go_wp2_with fail
  refine (HHD.out _).mono ?_
  rintro e w1 ⟨rfl, hb⟩
  have HB1 := Lib.hid (HB.out.trans (hb.mono HB.out.size))
  have HK1 := Lib.hid (HK.out.below hb HK.out.lt)
  clear hb HHD HB HK
  obtain ⟨y, hy⟩ : ∃ y, w1.alloc (.cells #[.int .i64 k, .int .i64 f, .int .i64 n] 44) = y := ⟨_, rfl⟩
  have HB2 : Hid (Below w.heap.size w y) := Lib.hid (by rw [← hy]; exact HB1.out.alloc HB1.out.size _)
  have HK2 : Hid (Bk y w.heap.size PkT (pkC pk0 hs0)) := Lib.hid (by rw [← hy]; exact HK1.out.alloc _)
  obtain ⟨gh, hgh⟩ : ∃ gh, w1.heap.size = gh := ⟨_, rfl⟩
  have HH : Hid (Bk y gh 44 #[.int .i64 k, .int .i64 f, .int .i64 n]) := Lib.hid (by rw [← hy, ← hgh]; exact Bk.fresh w1 _ _)
  go_upto_region 2 with fail

  have HGH : Hid (w.heap.size < gh) := Lib.hid (by rw [← hgh]; exact HK1.out.lt)
  clear hy hgh HB1 HK1
  clear w1
  have hst := run_stPk HK2.out pk0 hs0
  have HBD : Hid (Below w.heap.size w (putPk y w.heap.size pk0 hs0)) := Lib.hid (below_put HB2.out HB2.out.size (Nat.le_refl _) pk0 hs0)
  have HKP := Lib.hid (put_bk HK2.out pk0 hs0)
  by_cases hx : x = 0
  rotate_left
  · have HX : Hid (mqR v s = (pk0, 0, x)) := Lib.hid (by rw [HE.out, if_pos hx])
    have e0 : (x != 0) = true := bne_iff_ne.2 hx
    clear hx
    go_wp2
    refine bodyPost_ret (results_pk3 rfl _ rfl HKP.out) rfl ?_
    exact pkOut3_bad HX.out HBD.out
  obtain ⟨b1, b2, b3⟩ := HBK.out hx
  have HKD := Lib.hid b1
  have HE1 : Hid (mqR v s = if s.size < a + n then (pk0, 0, 3) else if (chR v ⟨k, f, n⟩ (s.extract a (a + n))).2 = 0 then ((chR v ⟨k, f, n⟩ (s.extract a (a + n))).1, a + n, 0)
    else (pk0, 0, if (chR v ⟨k, f, n⟩ (s.extract a (a + n))).2 = 3 then 5 else (chR v ⟨k, f, n⟩ (s.extract a (a + n))).2)) := Lib.hid (by rw [HE.out, if_neg (fun z => z hx)])
  subst hx
  have HN := Lib.hid b2; have HA := Lib.hid b3
  have hsz := HS.out
  have c0 := HH.out.cell 0; have c1 := HH.out.cell 1; have c2 := HH.out.cell 2
  simp only [List.getElem?_toArray, List.getElem?_cons_succ, List.getElem?_cons_zero] at c0 c1 c2
  clear HE HBK b1
  by_cases hlt : s.size < a + n
  · have HX : Hid (mqR v s = (pk0, 0, 3)) := Lib.hid (by rw [HE1.out, if_pos hlt])
    have d1 : (s.size : Int) - (a : Int) < (n : Int) := by omega
    have d2 : -9223372036854775808 ≤ (s.size : Int) - (a : Int) := by omega
    have d3 : (s.size : Int) - (a : Int) ≤ 9223372036854775807 := by omega
    clear hlt
    go_wp2
    refine bodyPost_ret (results_pk3 rfl _ rfl HKP.out) rfl ?_
    exact pkOut3_bad HX.out HBD.out
  have HE2 : Hid (mqR v s = if (chR v ⟨k, f, n⟩ (s.extract a (a + n))).2 = 0 then ((chR v ⟨k, f, n⟩ (s.extract a (a + n))).1, a + n, 0)
    else (pk0, 0, if (chR v ⟨k, f, n⟩ (s.extract a (a + n))).2 = 3 then 5 else (chR v ⟨k, f, n⟩ (s.extract a (a + n))).2)) := Lib.hid (by rw [HE1.out, if_neg hlt])
  have d1 : (n : Int) ≤ (s.size : Int) - (a : Int) := by omega
  have HEND : Hid (a + n ≤ s.size) := Lib.hid (by omega)
  have d2 : -9223372036854775808 ≤ (s.size : Int) - (a : Int) := by omega
  have d3 : (s.size : Int) - (a : Int) ≤ 9223372036854775807 := by omega
  have hsu : wrap64 ((s.size : Int) - (a : Int)) = (s.size : Int) - (a : Int) := by unfold wrap64; omega
  have had : wrap64 ((a : Int) + (n : Int)) = ((a + n : Nat) : Int) := by unfold wrap64; omega
  have dle : decide ((s.size : Int) - (a : Int) < (n : Int)) = false := decide_eq_false (by omega)
  have v1 : (0 : Int) ≤ (a : Int) := by omega
  have v2 : (a : Int) ≤ ((a + n : Nat) : Int) := by omega
  have v3 : ((a + n : Nat) : Int) ≤ (s.size : Int) := by omega
  clear hlt HE1
  go_upto_region 7 with fail
  obtain ⟨q, hq⟩ : ∃ q, a + n = q := ⟨_, rfl⟩
  rw [show (a : Int) + (n : Int) = (q : Int) by omega]
  rw [hq] at HE2 HEND v2 v3
  clear d1 d2 d3 hsu had dle hsz hst hq
  obtain ⟨T, hT⟩ : ∃ T, s.extract a q = T := ⟨_, rfl⟩
  rw [hT] at HE2
  have HTS : Hid (T.size ≤ 1000000000000) := Lib.hid (by rw [← hT, ByteArray.size_extract]; have := HS.out; omega)
  have HWR := Lib.hid (fun W => wr_any v ⟨k, f, n⟩ T W HTS.out)
  obtain ⟨R, hR⟩ : ∃ R, chR v ⟨k, f, n⟩ T = R := ⟨_, rfl⟩
  rw [hR] at HE2 HWR
  obtain ⟨ca, cb, hl1, hl2, hl3, hl4, hl5⟩ := look_ch k
  have hin : chIn k = true := by
    have := of_decide_eq_true (show decide (1 ≤ k ∧ (k ≤ 14 ∨ (k = 15 ∧ v = 5))) = true from HKD.out)
    exact decide_eq_true (by omega)
  obtain ⟨rfl, rfl⟩ := hl3 hin
  have HLK := Lib.hid (fun (W : World) (r : Nat) (hT : IMap .i64 W r chTab) => (mq_look hT k hl1 hl2).2)
  have en := fun args W => enter_rF (k := k) args W
  simp only [mqFn] at HLK
  clear hl1 hl2 hl3 hl4 hl5 hin hR
  generalize rF k = RF at *
  go_cut [6] (fun z wx => ∃ hh, z = .int .i64 R.2 ∧ Bk wx w.heap.size PkT (pkC R.1 hh) ∧ PkIn wx wx.heap.size R.1 hh ∧ Below w.heap.size w wx ∧ PkFresh y R.1 hh)
  case first =>
    go_region_law ((first | (go_simp; go_at_call 82; refine (chapters_any y.drew).mono ?_; rintro e w2 ⟨r, rfl, hMT, hb⟩; have hlk := HLK.out w2 r hMT; have hB : Below y.heap.size y w2 := (below_drawn (Below.refl y.heap.size y) 1).trans hb; have hH2 := HH.out.below hB HH.out.lt; have hK2 := HK2.out.below hB HK2.out.lt; have k0 := hH2.cell 0; have k1 := hH2.cell 1; have k2 := hH2.cell 2; (simp only [List.getElem?_toArray, List.getElem?_cons_succ, List.getElem?_cons_zero] at k0 k1 k2)) | (go_simp; refine (HWR.out _).mono ?_; rintro e w3 ⟨hh, rfl, hi3, hb3, hf3⟩; have hK3 := hK2.below hb3 hK2.lt; have hst3 := run_stPk hK3 R.1 hh)))
    all_goals
      go_wp2
      go_meet
      case rel =>
        have hB3 : Below w.heap.size w w3 := HB2.out.trans ((hB.trans (hb3.mono hB.size)).mono HB2.out.size)
        exact ⟨hh, rfl, put_bk hK3 R.1 hh, hi3.put hK3 (putPk_mods _ _ _ _) hf3 (Nat.lt_of_lt_of_le HK2.out.lt hB.size), below_put hB3 hB3.size (Nat.le_refl _) R.1 hh, hf3.mono hB.size⟩
  obtain ⟨hh, rfl, hkx, hix, hbx, hfx⟩ := hcut
  obtain ⟨wx, hwx⟩ : ∃ x, x = wc := ⟨_, rfl⟩
  subst hwx
  have KX := Lib.hid hkx; have IX := Lib.hid hix; have BX := Lib.hid hbx; have FX := Lib.hid hfx
  have lX := ld_bk hkx
  have HYL := Lib.hid HK2.out.lt
  have hsX := run_stPk hkx R.1 hh
  have hsZ := run_stPk hkx pk0 hs0
  clear hkx hix hbx hfx c0 c1 c2 en HLK HWR HH HK2 HB2 HBD HKP v1 v2 v3 b2 b3
  obtain ⟨P, E⟩ := R
  dsimp only at HE2 KX IX BX FX lX hsX hsZ ⊢
  by_cases hE : E = 0
  · have HX : Hid (mqR v s = (P, q, 0)) := Lib.hid (by rw [HE2.out, if_pos hE])
    subst hE
    go_wp2
    refine bodyPost_ret (results_pk3 rfl _ rfl (put_bk KX.out P hh)) rfl ?_
    exact pkOut3_ok HX.out (IX.out.put KX.out (putPk_mods _ _ _ _) FX.out HYL.out) (below_put BX.out BX.out.size (Nat.le_refl _) _ _) (FX.out.mono (Nat.le_of_lt HYL.out))
  · have HX0 : Hid (mqR v s = (pk0, 0, if E = 3 then 5 else E)) := Lib.hid (by rw [HE2.out, if_neg hE])
    have e0 : (E == 0) = false := beq_eq_false_iff_ne.2 hE
    have hb : Below w.heap.size w (putPk wx w.heap.size pk0 hs0) := below_put BX.out BX.out.size (Nat.le_refl _) _ _
    have hk := put_bk KX.out pk0 hs0
    have HBX := Lib.hid hb; have HKX := Lib.hid hk
    clear hb hk
    by_cases h3 : E = 3
    · have HX : Hid (mqR v s = (pk0, 0, 5)) := Lib.hid (by rw [HX0.out, if_pos h3])
      have e3 : (E == 3) = true := beq_iff_eq.2 h3
      clear h3 hE
      go_wp2
      refine bodyPost_ret (results_pk3 rfl _ rfl HKX.out) rfl ?_
      exact pkOut3_bad HX.out HBX.out
    · have HX : Hid (mqR v s = (pk0, 0, E)) := Lib.hid (by rw [HX0.out, if_neg h3])
      have e3 : (E == 3) = false := beq_eq_false_iff_ne.2 h3
      clear h3 hE
      go_wp2
      refine bodyPost_ret (results_pk3 rfl _ rfl HKX.out) rfl ?_
      exact pkOut3_bad HX.out HBX.out
end Go.Proofs.YtbahnolmlodcdaaGreatDoor

