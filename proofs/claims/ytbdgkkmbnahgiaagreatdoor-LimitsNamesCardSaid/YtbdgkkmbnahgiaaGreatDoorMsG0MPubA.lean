/- A part of what the laws stand on: MPubA. -/
import Derived.Test.YtbdgkkmbnahgiaaGreatDoorMsG0MReaA
import Derived.Test.YtbdgkkmbnahgiaaGreatDoorMsG0MLis
namespace Go.Proofs.YtbdgkkmbnahgiaaGreatDoor
open Go.RowKit
attribute [local go_sem ↓] to_ldPk to_bxPk to_bdPk to_alPk to_stPk
attribute [local go_sem] run_bxPk run_bxPk_agg ld_fresh run_alPk run_bd0 run_bdK run_bdKI run_bdKIC run_bdKC run_bdKICP run_stPk_fresh pkC_0 pkC_1 pkC_2 pkC_3 pkC_4 pkC_5 pkC_6 pkC_7 pkC_8 pkC_9 pkC_10 pkC_11 pkC_12 pkC_13 pkC_14 pkC_15 pkC_16 pkC_17 pkC_18 pkC_19 pkC_20 pkC_21 pkC_22 pkC_23 pkC_24
theorem emptyB_iff (s : ByteArray) : s.toList.isEmpty = decide (s.size = 0) := by
  cases hz : s.toList.isEmpty
  · exact (decide_eq_false (fun x => by
      have : s = ⟨#[]⟩ := ls_ext (by rw [show ls (⟨#[]⟩ : ByteArray) = [] from rfl]; exact List.eq_nil_of_length_eq_zero (by rw [ls_len]; exact x))
      rw [this] at hz
      exact absurd hz (by decide +kernel))).symm
  · exact (decide_eq_true (empty_size hz)).symm
def hdKnown (v : Int) : Bool := decide (v = 4 ∨ v = 5)
def hdKinds (v k : Int) : Bool := decide (1 ≤ k ∧ (k ≤ 14 ∨ (k = 15 ∧ v = 5)))
def hdFixed (k : Int) : Int := if k = 6 ∨ k = 8 ∨ k = 10 then 2 else 0
def flagsP (p : Pk) : Int := 2 * p.qos + (if p.retain = true then 1 else 0) + (if p.dup = true then 8 else 0)
def badQ (p : Pk) : Bool := decide (p.qos < 0 ∨ 2 < p.qos ∨ (p.qos = 0 ∧ p.dup = true))
def hdFlags (v : Int) (p : Pk) : Int × Int :=
  if hdKnown v = false then (0, 2) else if hdKinds v p.kind = false then (0, 8) else if p.kind ≠ 3 then (hdFixed p.kind, 0) else if badQ p = true then (0, 7) else (flagsP p, 0)
set_option maxHeartbeats 400000 in
set_option maxRecDepth 10000 in
theorem hdKnown_any (v : Int) (w : World) : Calls Tryz.prog 126 #[.int .i64 v] w fun e w' => e = .returned (.bool (hdKnown v)) ∧ w = w' := by
  go_enter Tryz.func126, Tryz.ntmps126
  go_wp2
  all_goals
    go_ret
    refine ⟨ret_bool ?_, rfl⟩
    unfold hdKnown
    by_cases h4 : v = 4 <;> by_cases h5 : v = 5 <;> simp_all
set_option maxHeartbeats 400000 in
set_option maxRecDepth 10000 in
theorem pubKnown_any (v : Int) (w : World) : Calls Tryz.prog 278 #[.int .i64 v] w fun e w' => e = .returned (.bool (hdKnown v)) ∧ w = w' := by
  go_enter Tryz.func278, Tryz.ntmps278
  go_wp2
  all_goals
    go_ret
    refine ⟨ret_bool ?_, rfl⟩
    unfold hdKnown
    by_cases h4 : v = 4 <;> by_cases h5 : v = 5 <;> simp_all
set_option maxHeartbeats 400000 in
set_option maxRecDepth 10000 in
theorem when_any (b : Bool) (x : Int) (w : World) : Calls Tryz.prog 336 #[.bool b, .int .i64 x] w fun e w' => e = .returned (.int .i64 (if b = true then x else 0)) ∧ w = w' := by
  cases b
  all_goals
    go_enter Tryz.func336, Tryz.ntmps336
    go_wp2
    go_ret
    exact ⟨rfl, rfl⟩
set_option maxHeartbeats 400000 in
set_option maxRecDepth 10000 in
theorem hdKinds_any (v k : Int) (w : World) : Calls Tryz.prog 127 #[.int .i64 v, .int .i64 k] w fun e w' => e = .returned (.bool (hdKinds v k)) ∧ w = w' := by
  by_cases h5 : v = 5
  · have e5 : (v == 5) = true := beq_iff_eq.2 h5
    have HE : Hid (hdKinds v k = (decide (1 ≤ k) && decide (k ≤ 15))) := Lib.hid (by unfold hdKinds; rw [← Bool.decide_and]; exact decide_eq_decide.2 (by omega))
    clear h5
    go_enter Tryz.func127, Tryz.ntmps127
    go_wp2
    all_goals
      go_ret
      refine ⟨ret_bool ?_, rfl⟩
      rw [HE.out]
      by_cases a : 1 ≤ k <;> by_cases b : k ≤ 15 <;> by_cases c : k ≤ 14 <;> simp_all <;> omega
  · have e5 : (v == 5) = false := beq_eq_false_iff_ne.2 h5
    have HE : Hid (hdKinds v k = (decide (1 ≤ k) && decide (k ≤ 14))) := Lib.hid (by unfold hdKinds; rw [← Bool.decide_and]; exact decide_eq_decide.2 (by omega))
    clear h5
    go_enter Tryz.func127, Tryz.ntmps127
    go_wp2
    all_goals
      go_ret
      refine ⟨ret_bool ?_, rfl⟩
      rw [HE.out]
      by_cases a : 1 ≤ k <;> by_cases b : k ≤ 15 <;> by_cases c : k ≤ 14 <;> simp_all <;> omega
set_option maxHeartbeats 400000 in
set_option maxRecDepth 10000 in
theorem hdFixed_any (k : Int) (w : World) : Calls Tryz.prog 128 #[.int .i64 k] w fun e w' => e = .returned (.int .i64 (hdFixed k)) ∧ w = w' := by
  have HE : Hid (hdFixed k = if k = 6 ∨ k = 8 ∨ k = 10 then 2 else 0) := Lib.hid rfl
  go_enter Tryz.func128, Tryz.ntmps128
  go_wp2
  all_goals
    go_ret
    refine ⟨?_, rfl⟩
    rw [HE.out]
    simp_all

theorem or_flags : bits BinOp.or IntKind.i64 0 1 = 1 ∧ bits BinOp.or IntKind.i64 2 1 = 3 ∧ bits BinOp.or IntKind.i64 4 1 = 5 ∧ bits BinOp.or IntKind.i64 0 8 = 8 ∧ bits BinOp.or IntKind.i64 1 8 = 9 ∧ bits BinOp.or IntKind.i64 2 8 = 10 ∧ bits BinOp.or IntKind.i64 3 8 = 11 ∧ bits BinOp.or IntKind.i64 4 8 = 12 ∧ bits BinOp.or IntKind.i64 5 8 = 13 := by decide +kernel
set_option maxHeartbeats 4000000 in
set_option maxRecDepth 10000 in
theorem hdFlags_any (v : Int) (p : Pk) (h : Hs) (w : World) :
    Calls Tryz.prog 81 #[.int .i64 v, pkV p h] w fun e w' => e = .returned (.tuple #[.int .i64 (hdFlags v p).1, .int .i64 (hdFlags v p).2]) ∧ Below w.heap.size w w' := by
  have HB := Lib.hid ((Below.refl w.heap.size w).alloc (Nat.le_refl _) (.cells (pkC p h) PkT))
  have k1 := fun j => (Bk.fresh w PkT (pkC p h)).cell j
  have HE : Hid (hdFlags v p = if hdKnown v = false then (0, 2) else if hdKinds v p.kind = false then (0, 8) else if p.kind ≠ 3 then (hdFixed p.kind, 0) else if badQ p = true then (0, 7) else (flagsP p, 0)) := Lib.hid rfl
  go_enter Tryz.func81, Tryz.ntmps81
  go_wp2_with fail
  refine (hdKnown_any v _).mono ?_
  rintro e w1 ⟨rfl, rfl⟩
  cases hk : hdKnown v
  · have HX : Hid (hdFlags v p = (0, 2)) := Lib.hid (by rw [HE.out, if_pos hk])
    clear hk
    go_wp2
    go_ret2
    exact ⟨by rw [HX.out]; rfl, HB.out⟩
  have HE1 : Hid (hdFlags v p = if hdKinds v p.kind = false then (0, 8) else if p.kind ≠ 3 then (hdFixed p.kind, 0) else if badQ p = true then (0, 7) else (flagsP p, 0)) := Lib.hid (by rw [HE.out, if_neg (fun x => by rw [hk] at x; cases x)])
  clear hk HE
  go_wp2_with fail
  refine (hdKinds_any v p.kind _).mono ?_
  rintro e w1 ⟨rfl, rfl⟩
  cases hk : hdKinds v p.kind
  · have HX : Hid (hdFlags v p = (0, 8)) := Lib.hid (by rw [HE1.out, if_pos hk])
    clear hk
    go_wp2
    go_ret2
    exact ⟨by rw [HX.out]; rfl, HB.out⟩
  have HE2 : Hid (hdFlags v p = if p.kind ≠ 3 then (hdFixed p.kind, 0) else if badQ p = true then (0, 7) else (flagsP p, 0)) := Lib.hid (by rw [HE1.out, if_neg (fun x => by rw [hk] at x; cases x)])
  clear hk HE1
  by_cases h3 : p.kind = 3
  rotate_left
  · have HX : Hid (hdFlags v p = (hdFixed p.kind, 0)) := Lib.hid (by rw [HE2.out, if_pos h3])
    have e3 : (p.kind != 3) = true := bne_iff_ne.2 h3
    clear h3
    go_wp2_with fail
    refine (hdFixed_any p.kind _).mono ?_
    rintro e w1 ⟨rfl, rfl⟩
    go_wp2
    go_ret2
    exact ⟨by rw [HX.out]; rfl, HB.out⟩
  have HE3 : Hid (hdFlags v p = if badQ p = true then (0, 7) else (flagsP p, 0)) := Lib.hid (by rw [HE2.out, if_neg (fun x => x h3)])
  have e3 : (p.kind != 3) = false := by simpa using h3
  clear h3 HE2
  have k1a : (w.alloc (.cells (pkC p h) PkT)).cell? ⟨w.heap.size, 3, none⟩ = some (.int .i64 p.qos) := (Bk.fresh w PkT (pkC p h)).cell 3
  have k1b : (w.alloc (.cells (pkC p h) PkT)).cell? ⟨w.heap.size, 1, none⟩ = some (.bool p.dup) := (Bk.fresh w PkT (pkC p h)).cell 1
  have k1c : (w.alloc (.cells (pkC p h) PkT)).cell? ⟨w.heap.size, 2, none⟩ = some (.bool p.retain) := (Bk.fresh w PkT (pkC p h)).cell 2
  have k1d : (w.alloc (.cells (pkC p h) PkT)).cell? ⟨w.heap.size, 0, none⟩ = some (.int .i64 p.kind) := (Bk.fresh w PkT (pkC p h)).cell 0
  have HBQ : Hid (badQ p = decide (p.qos < 0 ∨ 2 < p.qos ∨ (p.qos = 0 ∧ p.dup = true))) := Lib.hid rfl
  have HFP : Hid (flagsP p = 2 * p.qos + (if p.retain = true then 1 else 0) + (if p.dup = true then 8 else 0)) := Lib.hid rfl
  clear k1
  generalize p.qos = q at *
  generalize p.dup = d at *
  generalize p.retain = r at *
  by_cases h0 : q < 0
  · have HX : Hid (hdFlags v p = (0, 7)) := Lib.hid (by rw [HE3.out, if_pos (by rw [HBQ.out]; exact decide_eq_true (.inl h0))])
    go_wp2
    go_ret2
    exact ⟨by rw [HX.out]; rfl, HB.out⟩
  have d0 : decide (q < 0) = false := decide_eq_false h0
  by_cases h2 : 2 < q
  · have HX : Hid (hdFlags v p = (0, 7)) := Lib.hid (by rw [HE3.out, if_pos (by rw [HBQ.out]; exact decide_eq_true (.inr (.inl h2)))])
    have d0' : 0 ≤ q := by omega
    clear h0
    go_wp2
    go_ret2
    exact ⟨by rw [HX.out]; rfl, HB.out⟩
  obtain ⟨b1, b2, b3, b4, b5, b6, b7, b8, b9⟩ := or_flags
  clear d0
  obtain rfl | rfl | rfl : q = 0 ∨ q = 1 ∨ q = 2 := by omega
  all_goals cases d <;> cases r
  all_goals
    first
    | (have HX : Hid (hdFlags v p = (0, 7)) := Lib.hid (by rw [HE3.out, if_pos (by rw [HBQ.out]; decide)])
       clear h0 h2
       go_wp2
       go_ret2
       exact ⟨by rw [HX.out]; rfl, HB.out⟩)
    | (have HX : Hid (hdFlags v p = (flagsP p, 0)) := Lib.hid (by rw [HE3.out, if_neg (by rw [HBQ.out]; decide)])
       clear h0 h2
       go_wp2
       go_ret2
       exact ⟨by rw [HX.out, HFP.out]; rfl, HB.out⟩)
end Go.Proofs.YtbdgkkmbnahgiaaGreatDoor

namespace Go.Proofs.YtbdgkkmbnahgiaaGreatDoor
open Go.RowKit

def stF (t : TypeId) (a v : Value) : Sem Unit := Instr.storeAt t a v
theorem to_stF (t : TypeId) (a v : Value) : Instr.storeAt t a v = stF t a v := rfl
theorem run_stF {P : Program} {w : World} {g i : Nat} {t : TypeId} {v : Value} (hi : (P.info? t).map (·.size) = some 1) (hv : v.cells = #[v]) (h1 : v.oneCell' = true) (ht : w.there g i 1) : (stF t (.pointer (some ⟨g, i, none⟩)) v).run P w = .ok () (w.setCell ⟨g, i, none⟩ v) := by
  have e : Instr.storeAt t (.pointer (some ⟨g, i, none⟩)) v = Instr.storeAt t (.pointer (some ⟨g, i, none⟩)) (.agg #[v]) := by
    unfold Instr.storeAt storeVar
    rw [hv]
    rfl
  unfold stF
  rw [e, run_storeAt_mid w g i t #[v] ht hi (by simpa using h1)]
  rfl
/-- Block g is a packet's block of these cells. -/
def pw (W : World) (g : Nat) (cs : Array Value) : World := { W with heap := W.heap.setIfInBounds g (.cells cs PkT (0, 0)) }
section
variable (W : World) (g : Nat) (cs : Array Value)
theorem pw_size : (pw W g cs).heap.size = W.heap.size := by simp [pw]
theorem pw_bk (hg : g < W.heap.size) : Bk (pw W g cs) g PkT cs := by
  unfold Bk pw
  simp [hg]
theorem pw_self (hb : Bk W g PkT cs) : pw W g cs = W := by
  have hh : W.heap.setIfInBounds g (.cells cs PkT (0, 0)) = W.heap := by
    apply Array.ext_getElem?
    intro k
    by_cases hk : k = g
    · subst hk
      have := hb
      unfold Bk at this
      rw [this]
      simp [hb.lt]
    · rw [Array.getElem?_setIfInBounds_ne (fun e => hk e.symm)]
  unfold pw
  rw [hh]
theorem pw_other {k : Nat} (hk : k ≠ g) : (pw W g cs).heap[k]? = W.heap[k]? := by
  unfold pw
  exact Array.getElem?_setIfInBounds_ne (fun e => hk e.symm)
theorem pw_grown : W.grownBy (pw W g cs) (some g) := ⟨rfl, rfl, rfl, by rw [pw_size]; exact Nat.le_refl _, fun k _ hk => pw_other W g cs (fun e => hk (by rw [e]))⟩
theorem pw_below {w : World} (h : Below w.heap.size w W) (hg : w.heap.size ≤ g) : Below w.heap.size w (pw W g cs) := below_mod h (pw_grown W g cs) h.size hg
theorem pw_put (i : Nat) (u : Value) (hg : g < W.heap.size) : (pw W g cs).setCell ⟨g, i, none⟩ u = pw W g (cs.setIfInBounds i u) := by
  have hh : (W.heap.setIfInBounds g (.cells cs PkT (0, 0))).modify g (fun
      | .cells c elem frozen => .cells (if (none : Option Unit).isSome then c else c.setIfInBounds i u) elem frozen
      | o => o) = W.heap.setIfInBounds g (.cells (cs.setIfInBounds i u) PkT (0, 0)) := by
    apply Array.ext_getElem?
    intro k
    rw [Array.getElem?_modify]
    by_cases hk : g = k
    · subst hk
      simp [hg]
    · rw [if_neg hk, Array.getElem?_setIfInBounds_ne hk, Array.getElem?_setIfInBounds_ne hk]
  unfold World.setCell pw
  exact congrArg (fun x => { W with heap := x }) hh
theorem pw_there (i k : Nat) (hg : g < W.heap.size) (hi : i + k ≤ cs.size) : (pw W g cs).there g i k := fun j hj => by
  rw [(pw_bk W g cs hg).cell, (pw_bk W g cs hg).free]
  refine ⟨?_, rfl⟩
  rw [Array.getElem?_eq_getElem (by omega)]
  rfl
theorem pw_store {P : Program} {t : TypeId} {v : Value} {i : Nat} {ds : Array Value} (hi : (P.info? t).map (·.size) = some 1) (hv : v.cells = #[v]) (h1 : v.oneCell' = true) (hlt : i < cs.size) (he : cs.setIfInBounds i v = ds) (hg : g < W.heap.size) :
    (stF t (.pointer (some ⟨g, i, none⟩)) v).run P (pw W g cs) = .ok () (pw W g ds) := by
  subst he
  rw [run_stF hi hv h1 (pw_there W g cs i 1 hg (by omega)), pw_put W g cs i v hg]
theorem ld_pw (p : Pk) (h : Hs) (hg : g < W.heap.size) : (ldPk (.pointer (some ⟨g, 0, none⟩))).run Tryz.prog (pw W g (pkC p h)) = .ok (pkV p h) (pw W g (pkC p h)) := ld_bk (pw_bk W g (pkC p h) hg)
theorem pw_at (p : Pk) (h : Hs) (hg : g < W.heap.size) (i : Nat) : (pw W g (pkC p h)).cell? ⟨g, i, none⟩ = (pkC p h)[i]? := (pw_bk W g (pkC p h) hg).cell i
end
theorem info_i : (Tryz.prog.info? 3).map (·.size) = some 1 := by kernel_rfl
theorem info_b : (Tryz.prog.info? 4).map (·.size) = some 1 := by kernel_rfl
theorem info_s : (Tryz.prog.info? 9).map (·.size) = some 1 := by kernel_rfl
theorem info_lc : (Tryz.prog.info? 26).map (·.size) = some 1 := by kernel_rfl
theorem info_lf : (Tryz.prog.info? 27).map (·.size) = some 1 := by kernel_rfl
theorem info_lp : (Tryz.prog.info? 23).map (·.size) = some 1 := by kernel_rfl
section
variable (W : World) (g : Nat) (p : Pk) (h : Hs)
theorem pw_st0 (x : Int) (hg : g < W.heap.size) : (stF 3 (.pointer (some ⟨g, 0, none⟩)) (.int .i64 x)).run Tryz.prog (pw W g (pkC p h)) = .ok () (pw W g (pkC { p with kind := x } h)) := pw_store W g _ info_i rfl rfl (by rw [pkC_size]; decide) rfl hg
theorem pw_dst0 (x : Int) (hg : g < W.heap.size) : (stF 3 (.pointer (some ⟨g, 0, none⟩)) (.int .i64 x)).run Tryz.prog (pw W g (pkC p h)).drew = .ok () (pw W g (pkC { p with kind := x } h)).drew := pw_st0 W.drew g p h x hg
theorem pw_st1 (x : Bool) (hg : g < W.heap.size) : (stF 4 (.pointer (some ⟨g, 1, none⟩)) (.bool x)).run Tryz.prog (pw W g (pkC p h)) = .ok () (pw W g (pkC { p with dup := x } h)) := pw_store W g _ info_b rfl rfl (by rw [pkC_size]; decide) rfl hg
theorem pw_dst1 (x : Bool) (hg : g < W.heap.size) : (stF 4 (.pointer (some ⟨g, 1, none⟩)) (.bool x)).run Tryz.prog (pw W g (pkC p h)).drew = .ok () (pw W g (pkC { p with dup := x } h)).drew := pw_st1 W.drew g p h x hg
theorem pw_st2 (x : Bool) (hg : g < W.heap.size) : (stF 4 (.pointer (some ⟨g, 2, none⟩)) (.bool x)).run Tryz.prog (pw W g (pkC p h)) = .ok () (pw W g (pkC { p with retain := x } h)) := pw_store W g _ info_b rfl rfl (by rw [pkC_size]; decide) rfl hg
theorem pw_dst2 (x : Bool) (hg : g < W.heap.size) : (stF 4 (.pointer (some ⟨g, 2, none⟩)) (.bool x)).run Tryz.prog (pw W g (pkC p h)).drew = .ok () (pw W g (pkC { p with retain := x } h)).drew := pw_st2 W.drew g p h x hg
theorem pw_st3 (x : Int) (hg : g < W.heap.size) : (stF 3 (.pointer (some ⟨g, 3, none⟩)) (.int .i64 x)).run Tryz.prog (pw W g (pkC p h)) = .ok () (pw W g (pkC { p with qos := x } h)) := pw_store W g _ info_i rfl rfl (by rw [pkC_size]; decide) rfl hg
theorem pw_dst3 (x : Int) (hg : g < W.heap.size) : (stF 3 (.pointer (some ⟨g, 3, none⟩)) (.int .i64 x)).run Tryz.prog (pw W g (pkC p h)).drew = .ok () (pw W g (pkC { p with qos := x } h)).drew := pw_st3 W.drew g p h x hg
theorem pw_st4 (x : Int) (hg : g < W.heap.size) : (stF 3 (.pointer (some ⟨g, 4, none⟩)) (.int .i64 x)).run Tryz.prog (pw W g (pkC p h)) = .ok () (pw W g (pkC { p with id := x } h)) := pw_store W g _ info_i rfl rfl (by rw [pkC_size]; decide) rfl hg
theorem pw_dst4 (x : Int) (hg : g < W.heap.size) : (stF 3 (.pointer (some ⟨g, 4, none⟩)) (.int .i64 x)).run Tryz.prog (pw W g (pkC p h)).drew = .ok () (pw W g (pkC { p with id := x } h)).drew := pw_st4 W.drew g p h x hg
theorem pw_st5 (x : ByteArray) (hg : g < W.heap.size) : (stF 9 (.pointer (some ⟨g, 5, none⟩)) (.string x)).run Tryz.prog (pw W g (pkC p h)) = .ok () (pw W g (pkC { p with topic := x } h)) := pw_store W g _ info_s rfl rfl (by rw [pkC_size]; decide) rfl hg
theorem pw_dst5 (x : ByteArray) (hg : g < W.heap.size) : (stF 9 (.pointer (some ⟨g, 5, none⟩)) (.string x)).run Tryz.prog (pw W g (pkC p h)).drew = .ok () (pw W g (pkC { p with topic := x } h)).drew := pw_st5 W.drew g p h x hg
theorem pw_st6 (x : ByteArray) (hg : g < W.heap.size) : (stF 9 (.pointer (some ⟨g, 6, none⟩)) (.string x)).run Tryz.prog (pw W g (pkC p h)) = .ok () (pw W g (pkC { p with payload := x } h)) := pw_store W g _ info_s rfl rfl (by rw [pkC_size]; decide) rfl hg
theorem pw_dst6 (x : ByteArray) (hg : g < W.heap.size) : (stF 9 (.pointer (some ⟨g, 6, none⟩)) (.string x)).run Tryz.prog (pw W g (pkC p h)).drew = .ok () (pw W g (pkC { p with payload := x } h)).drew := pw_st6 W.drew g p h x hg
theorem pw_st7 (x : Bool) (hg : g < W.heap.size) : (stF 4 (.pointer (some ⟨g, 7, none⟩)) (.bool x)).run Tryz.prog (pw W g (pkC p h)) = .ok () (pw W g (pkC { p with clean := x } h)) := pw_store W g _ info_b rfl rfl (by rw [pkC_size]; decide) rfl hg
theorem pw_dst7 (x : Bool) (hg : g < W.heap.size) : (stF 4 (.pointer (some ⟨g, 7, none⟩)) (.bool x)).run Tryz.prog (pw W g (pkC p h)).drew = .ok () (pw W g (pkC { p with clean := x } h)).drew := pw_st7 W.drew g p h x hg
theorem pw_st8 (x : Int) (hg : g < W.heap.size) : (stF 3 (.pointer (some ⟨g, 8, none⟩)) (.int .i64 x)).run Tryz.prog (pw W g (pkC p h)) = .ok () (pw W g (pkC { p with alive := x } h)) := pw_store W g _ info_i rfl rfl (by rw [pkC_size]; decide) rfl hg
theorem pw_dst8 (x : Int) (hg : g < W.heap.size) : (stF 3 (.pointer (some ⟨g, 8, none⟩)) (.int .i64 x)).run Tryz.prog (pw W g (pkC p h)).drew = .ok () (pw W g (pkC { p with alive := x } h)).drew := pw_st8 W.drew g p h x hg
theorem pw_st9 (x : ByteArray) (hg : g < W.heap.size) : (stF 9 (.pointer (some ⟨g, 9, none⟩)) (.string x)).run Tryz.prog (pw W g (pkC p h)) = .ok () (pw W g (pkC { p with client := x } h)) := pw_store W g _ info_s rfl rfl (by rw [pkC_size]; decide) rfl hg
theorem pw_dst9 (x : ByteArray) (hg : g < W.heap.size) : (stF 9 (.pointer (some ⟨g, 9, none⟩)) (.string x)).run Tryz.prog (pw W g (pkC p h)).drew = .ok () (pw W g (pkC { p with client := x } h)).drew := pw_st9 W.drew g p h x hg
theorem pw_st10 (x : Bool) (hg : g < W.heap.size) : (stF 4 (.pointer (some ⟨g, 10, none⟩)) (.bool x)).run Tryz.prog (pw W g (pkC p h)) = .ok () (pw W g (pkC { p with hasUser := x } h)) := pw_store W g _ info_b rfl rfl (by rw [pkC_size]; decide) rfl hg
theorem pw_dst10 (x : Bool) (hg : g < W.heap.size) : (stF 4 (.pointer (some ⟨g, 10, none⟩)) (.bool x)).run Tryz.prog (pw W g (pkC p h)).drew = .ok () (pw W g (pkC { p with hasUser := x } h)).drew := pw_st10 W.drew g p h x hg
theorem pw_st11 (x : ByteArray) (hg : g < W.heap.size) : (stF 9 (.pointer (some ⟨g, 11, none⟩)) (.string x)).run Tryz.prog (pw W g (pkC p h)) = .ok () (pw W g (pkC { p with user := x } h)) := pw_store W g _ info_s rfl rfl (by rw [pkC_size]; decide) rfl hg
theorem pw_dst11 (x : ByteArray) (hg : g < W.heap.size) : (stF 9 (.pointer (some ⟨g, 11, none⟩)) (.string x)).run Tryz.prog (pw W g (pkC p h)).drew = .ok () (pw W g (pkC { p with user := x } h)).drew := pw_st11 W.drew g p h x hg
theorem pw_st12 (x : Bool) (hg : g < W.heap.size) : (stF 4 (.pointer (some ⟨g, 12, none⟩)) (.bool x)).run Tryz.prog (pw W g (pkC p h)) = .ok () (pw W g (pkC { p with hasPass := x } h)) := pw_store W g _ info_b rfl rfl (by rw [pkC_size]; decide) rfl hg
theorem pw_dst12 (x : Bool) (hg : g < W.heap.size) : (stF 4 (.pointer (some ⟨g, 12, none⟩)) (.bool x)).run Tryz.prog (pw W g (pkC p h)).drew = .ok () (pw W g (pkC { p with hasPass := x } h)).drew := pw_st12 W.drew g p h x hg
theorem pw_st13 (x : ByteArray) (hg : g < W.heap.size) : (stF 9 (.pointer (some ⟨g, 13, none⟩)) (.string x)).run Tryz.prog (pw W g (pkC p h)) = .ok () (pw W g (pkC { p with pass := x } h)) := pw_store W g _ info_s rfl rfl (by rw [pkC_size]; decide) rfl hg
theorem pw_dst13 (x : ByteArray) (hg : g < W.heap.size) : (stF 9 (.pointer (some ⟨g, 13, none⟩)) (.string x)).run Tryz.prog (pw W g (pkC p h)).drew = .ok () (pw W g (pkC { p with pass := x } h)).drew := pw_st13 W.drew g p h x hg
theorem pw_st14 (x : Bool) (hg : g < W.heap.size) : (stF 4 (.pointer (some ⟨g, 14, none⟩)) (.bool x)).run Tryz.prog (pw W g (pkC p h)) = .ok () (pw W g (pkC { p with hasWill := x } h)) := pw_store W g _ info_b rfl rfl (by rw [pkC_size]; decide) rfl hg
theorem pw_dst14 (x : Bool) (hg : g < W.heap.size) : (stF 4 (.pointer (some ⟨g, 14, none⟩)) (.bool x)).run Tryz.prog (pw W g (pkC p h)).drew = .ok () (pw W g (pkC { p with hasWill := x } h)).drew := pw_st14 W.drew g p h x hg
theorem pw_st15 (x : ByteArray) (hg : g < W.heap.size) : (stF 9 (.pointer (some ⟨g, 15, none⟩)) (.string x)).run Tryz.prog (pw W g (pkC p h)) = .ok () (pw W g (pkC { p with will := { p.will with topic := x } } h)) := pw_store W g _ info_s rfl rfl (by rw [pkC_size]; decide) rfl hg
theorem pw_dst15 (x : ByteArray) (hg : g < W.heap.size) : (stF 9 (.pointer (some ⟨g, 15, none⟩)) (.string x)).run Tryz.prog (pw W g (pkC p h)).drew = .ok () (pw W g (pkC { p with will := { p.will with topic := x } } h)).drew := pw_st15 W.drew g p h x hg
theorem pw_st16 (x : ByteArray) (hg : g < W.heap.size) : (stF 9 (.pointer (some ⟨g, 16, none⟩)) (.string x)).run Tryz.prog (pw W g (pkC p h)) = .ok () (pw W g (pkC { p with will := { p.will with payload := x } } h)) := pw_store W g _ info_s rfl rfl (by rw [pkC_size]; decide) rfl hg
theorem pw_dst16 (x : ByteArray) (hg : g < W.heap.size) : (stF 9 (.pointer (some ⟨g, 16, none⟩)) (.string x)).run Tryz.prog (pw W g (pkC p h)).drew = .ok () (pw W g (pkC { p with will := { p.will with payload := x } } h)).drew := pw_st16 W.drew g p h x hg
theorem pw_st17 (x : Int) (hg : g < W.heap.size) : (stF 3 (.pointer (some ⟨g, 17, none⟩)) (.int .i64 x)).run Tryz.prog (pw W g (pkC p h)) = .ok () (pw W g (pkC { p with will := { p.will with qos := x } } h)) := pw_store W g _ info_i rfl rfl (by rw [pkC_size]; decide) rfl hg
theorem pw_dst17 (x : Int) (hg : g < W.heap.size) : (stF 3 (.pointer (some ⟨g, 17, none⟩)) (.int .i64 x)).run Tryz.prog (pw W g (pkC p h)).drew = .ok () (pw W g (pkC { p with will := { p.will with qos := x } } h)).drew := pw_st17 W.drew g p h x hg
theorem pw_st18 (x : Bool) (hg : g < W.heap.size) : (stF 4 (.pointer (some ⟨g, 18, none⟩)) (.bool x)).run Tryz.prog (pw W g (pkC p h)) = .ok () (pw W g (pkC { p with will := { p.will with retain := x } } h)) := pw_store W g _ info_b rfl rfl (by rw [pkC_size]; decide) rfl hg
theorem pw_dst18 (x : Bool) (hg : g < W.heap.size) : (stF 4 (.pointer (some ⟨g, 18, none⟩)) (.bool x)).run Tryz.prog (pw W g (pkC p h)).drew = .ok () (pw W g (pkC { p with will := { p.will with retain := x } } h)).drew := pw_st18 W.drew g p h x hg
theorem pw_st20 (x : Bool) (hg : g < W.heap.size) : (stF 4 (.pointer (some ⟨g, 20, none⟩)) (.bool x)).run Tryz.prog (pw W g (pkC p h)) = .ok () (pw W g (pkC { p with session := x } h)) := pw_store W g _ info_b rfl rfl (by rw [pkC_size]; decide) rfl hg
theorem pw_dst20 (x : Bool) (hg : g < W.heap.size) : (stF 4 (.pointer (some ⟨g, 20, none⟩)) (.bool x)).run Tryz.prog (pw W g (pkC p h)).drew = .ok () (pw W g (pkC { p with session := x } h)).drew := pw_st20 W.drew g p h x hg
theorem pw_st21 (x : Int) (hg : g < W.heap.size) : (stF 3 (.pointer (some ⟨g, 21, none⟩)) (.int .i64 x)).run Tryz.prog (pw W g (pkC p h)) = .ok () (pw W g (pkC { p with code := x } h)) := pw_store W g _ info_i rfl rfl (by rw [pkC_size]; decide) rfl hg
theorem pw_dst21 (x : Int) (hg : g < W.heap.size) : (stF 3 (.pointer (some ⟨g, 21, none⟩)) (.int .i64 x)).run Tryz.prog (pw W g (pkC p h)).drew = .ok () (pw W g (pkC { p with code := x } h)).drew := pw_st21 W.drew g p h x hg
theorem pw_st22 (l : List Int) (A : Option Addr) (n : Nat) (hg : g < W.heap.size) : (stF 26 (.pointer (some ⟨g, 22, none⟩)) (.slice A l.length n)).run Tryz.prog (pw W g (pkC p h)) = .ok () (pw W g (pkC { p with codes := l } { h with codes := ⟨A, n⟩ })) := pw_store W g _ info_lc rfl rfl (by rw [pkC_size]; decide) rfl hg
theorem pw_nil22 (hg : g < W.heap.size) : (stF 26 (.pointer (some ⟨g, 22, none⟩)) (.slice none 0 0)).run Tryz.prog (pw W g (pkC p h)) = .ok () (pw W g (pkC { p with codes := [] } { h with codes := hd0 })) := pw_store W g _ info_lc rfl rfl (by rw [pkC_size]; decide) rfl hg
theorem pw_st23 (l : List Fi) (A : Option Addr) (n : Nat) (hg : g < W.heap.size) : (stF 27 (.pointer (some ⟨g, 23, none⟩)) (.slice A l.length n)).run Tryz.prog (pw W g (pkC p h)) = .ok () (pw W g (pkC { p with filters := l } { h with filters := ⟨A, n⟩ })) := pw_store W g _ info_lf rfl rfl (by rw [pkC_size]; decide) rfl hg
theorem pw_nil23 (hg : g < W.heap.size) : (stF 27 (.pointer (some ⟨g, 23, none⟩)) (.slice none 0 0)).run Tryz.prog (pw W g (pkC p h)) = .ok () (pw W g (pkC { p with filters := [] } { h with filters := hd0 })) := pw_store W g _ info_lf rfl rfl (by rw [pkC_size]; decide) rfl hg
theorem pw_st24 (l : List Pr) (A : Option Addr) (n : Nat) (hg : g < W.heap.size) : (stF 23 (.pointer (some ⟨g, 24, none⟩)) (.slice A l.length n)).run Tryz.prog (pw W g (pkC p h)) = .ok () (pw W g (pkC { p with props := l } { h with props := ⟨A, n⟩ })) := pw_store W g _ info_lp rfl rfl (by rw [pkC_size]; decide) rfl hg
theorem pw_nil24 (hg : g < W.heap.size) : (stF 23 (.pointer (some ⟨g, 24, none⟩)) (.slice none 0 0)).run Tryz.prog (pw W g (pkC p h)) = .ok () (pw W g (pkC { p with props := [] } { h with props := hd0 })) := pw_store W g _ info_lp rfl rfl (by rw [pkC_size]; decide) rfl hg
theorem pw_stwp (l : List Pr) (A : Option Addr) (n : Nat) (hg : g < W.heap.size) : (stF 23 (.pointer (some ⟨g, 19, none⟩)) (.slice A l.length n)).run Tryz.prog (pw W g (pkC p h)) = .ok () (pw W g (pkC { p with will := { p.will with props := l } } { h with wp := ⟨A, n⟩ })) := pw_store W g _ info_lp rfl rfl (by rw [pkC_size]; decide) rfl hg
def ldWl (v : Value) : Sem Value := Instr.loadAt WlT v
def stWl (a v : Value) : Sem Unit := Instr.storeAt WlT a v
theorem to_ldWl (v : Value) : Instr.loadAt WlT v = ldWl v := rfl
theorem to_stWl (a v : Value) : Instr.storeAt WlT a v = stWl a v := rfl
end
theorem info_wl : (Tryz.prog.info? WlT).map (·.size) = some 5 := by kernel_rfl
theorem wlC_one (x : Wl) (k : Hd) : (wlC x k).all (·.oneCell') = true := by simp [wlC, Value.oneCell']
/-- A will loaded out of a packet. -/
theorem ld_wl {w : World} {g : Nat} {p : Pk} {h : Hs} (hb : Bk w g PkT (pkC p h)) : (ldWl (.pointer (some ⟨g, 15, none⟩))).run Tryz.prog w = .ok (wlV p.will h.wp) w := by
  unfold ldWl
  have hc : w.rangeAt g 15 (wlC p.will h.wp).toList := fun j v hv => by
    rw [hb.cell]
    rcases j with _ | _ | _ | _ | _ | j
    · exact hv
    · exact hv
    · exact hv
    · exact hv
    · exact hv
    · simp [wlC] at hv
  exact run_loadAt_mid w g 15 WlT (wlC p.will h.wp).toList _ hc Tryz.underlying25 rfl (by rw [Array.length_toList]; exact info_wl)
theorem pw_puts (W : World) (g : Nat) (hg : g < W.heap.size) : ∀ (vs : List Value) (o : Nat) (cs : Array Value), (pw W g cs).setCells g o vs = pw W g (putA cs o vs)
  | [], _, _ => rfl
  | v :: vs, o, cs => by rw [World.setCells, pw_put W g cs o v hg, pw_puts W g hg vs (o + 1) _, putA]
/-- A whole will stored into a packet. -/
theorem pw_stwl (W : World) (g : Nat) (p : Pk) (h : Hs) (x : Wl) (k : Hd) (hg : g < W.heap.size) : (stWl (.pointer (some ⟨g, 15, none⟩)) (wlV x k)).run Tryz.prog (pw W g (pkC p h)) = .ok () (pw W g (pkC { p with will := x } { h with wp := k })) := by
  unfold stWl
  refine (run_storeAt_mid (pw W g (pkC p h)) g 15 WlT (wlC x k) (pw_there W g _ 15 5 hg (by rw [pkC_size]; decide)) info_wl (wlC_one x k)).trans ?_
  rw [pw_puts W g hg, show putA (pkC p h) 15 (wlC x k).toList = pkC { p with will := x } { h with wp := k } from rfl]
theorem pw_dstwl (W : World) (g : Nat) (p : Pk) (h : Hs) (x : Wl) (k : Hd) (hg : g < W.heap.size) : (stWl (.pointer (some ⟨g, 15, none⟩)) (wlV x k)).run Tryz.prog (pw W g (pkC p h)).drew = .ok () (pw W g (pkC { p with will := x } { h with wp := k })).drew := pw_stwl W.drew g p h x k hg
theorem pw_stwl0 (W : World) (g : Nat) (p : Pk) (h : Hs) (hg : g < W.heap.size) : (stWl (.pointer (some ⟨g, 15, none⟩)) (.agg #[.string ⟨#[]⟩, .string ⟨#[]⟩, .int .i64 0, .bool false, .slice none 0 0])).run Tryz.prog (pw W g (pkC p h)) = .ok () (pw W g (pkC { p with will := wl0 } { h with wp := hd0 })) := pw_stwl W g p h wl0 hd0 hg
end Go.Proofs.YtbdgkkmbnahgiaaGreatDoor

namespace Go.Proofs.YtbdgkkmbnahgiaaGreatDoor
open Go.RowKit
attribute [local go_sem ↓] to_ldPk to_bxPk to_bdPk to_alPk to_stPk
attribute [local go_sem] run_bxPk run_bxPk_agg ld_fresh run_alPk run_bd0 run_bdK run_bdKI run_bdKIC run_bdKC run_bdKICP run_stPk_fresh pkC_0 pkC_1 pkC_2 pkC_3 pkC_4 pkC_5 pkC_6 pkC_7 pkC_8 pkC_9 pkC_10 pkC_11 pkC_12 pkC_13 pkC_14 pkC_15 pkC_16 pkC_17 pkC_18 pkC_19 pkC_20 pkC_21 pkC_22 pkC_23 pkC_24
/-- A packet with nothing but what a PUBLISH may have. -/
def pubQ (p : Pk) : Pk := { pk0 with kind := p.kind, dup := p.dup, retain := p.retain, qos := p.qos, id := p.id, topic := p.topic, payload := p.payload, props := p.props }
def pubF (v : Int) (p : Pk) : Bool := decide (p = pubQ p ∧ ¬ (v = 4 ∧ 0 < p.props.length) ∧ (p.qos = 0 → p.id = 0) ∧ (p.qos ≠ 0 → 0 < p.id ∧ p.id < 65536))
def aliasB (p : Pk) : Bool := (getP p.props 35).isSome
def pubN (v : Int) (p : Pk) : Bool := nameB p.topic || (decide (v = 5) && (aliasB p && decide (p.topic.size = 0)))
theorem getR_n (l : List Pr) (id : Int) (h : ∀ p ∈ l, prGood p) : (getR l id).n < 4294967296 := by
  unfold getR
  cases hg : getP l id with
  | none => simp
  | some q => exact (h q (List.mem_of_find?_eq_some hg)).1
set_option maxHeartbeats 1000000 in
set_option maxRecDepth 10000 in
theorem alias_any (p : Pk) (h : Hs) (w : World) (ip : PkIn w w.heap.size p h) (ok : PkOk p) :
    Calls Tryz.prog 371 #[pkV p h] w fun e w' => e = .returned (.tuple #[.int .i64 (getR p.props 35).n, .bool (aliasB p)]) ∧ Below w.heap.size w w' := by
  have hn := getR_n p.props 35 ok.props
  have OK := Lib.hid ok
  have S0 := Lib.hid ((St.start w).push ip)
  clear ip ok
  go_enter Tryz.func371, Tryz.ntmps371
  go_wp2_with fail
  refine (getP_any 35 p.props h.props.a h.props.c _ (S0.out.into 0 rfl).props OK.out.len.2.2.2).mono ?_
  rintro e w1 ⟨rfl, hb⟩
  have S1 := Lib.hid (S0.out.below hb); clear hb
  have HA : Hid (aliasB p = (getP p.props 35).isSome) := Lib.hid rfl
  generalize (getP p.props 35).isSome = al at *
  obtain ⟨q, hq⟩ : ∃ q, getR p.props 35 = q := ⟨_, rfl⟩
  rw [hq] at hn ⊢
  have HQ := Lib.hid hq
  clear hq
  obtain ⟨id, n, t, u⟩ := q
  simp only at hn
  have hw : IntKind.i64.wrap (n : Int) = (n : Int) := by rw [IntKind.wrap_i64]; omega
  simp only [Pr.val]
  have S2 := Lib.hid (S1.out.alloc (.cells #[.int .i64 id, .int .u32 n, .string t, .string u] 102))
  go_wp2
  go_ret2
  exact ⟨by rw [HA.out, HQ.out]; rfl, S2.out.kept⟩
set_option maxHeartbeats 1000000 in
set_option maxRecDepth 10000 in
theorem pubN_any (v : Int) (p : Pk) (h : Hs) (w : World) (ip : PkIn w w.heap.size p h) (ok : PkOk p) :
    Calls Tryz.prog 341 #[.int .i64 v, pkV p h] w fun e w' => e = .returned (.bool (pubN v p)) ∧ Below w.heap.size w w' := by
  have OK := Lib.hid ok
  have S0 := Lib.hid ((St.start w).push ip)
  have HE : Hid (pubN v p = (nameB p.topic || (decide (v = 5) && (aliasB p && decide (p.topic.size = 0))))) := Lib.hid rfl
  clear ip ok
  have hl := S0.out.ld 0 rfl
  go_enter Tryz.func341, Tryz.ntmps341
  go_wp2_with fail
  refine (alias_any p h _ (S0.out.into 0 rfl) OK.out).mono ?_
  rintro e w1 ⟨rfl, hb⟩
  have S1 := Lib.hid (S0.out.below hb); clear hb hl
  have k1 := S1.out.cell 0 rfl 5
  rw [pkC_5] at k1
  go_wp2_with fail
  refine (name_any p.topic _ (by have := OK.out.texts.1; omega)).mono ?_
  rintro e w2 ⟨rfl, hb⟩
  have S2 := Lib.hid (S1.out.below hb); clear hb k1
  have k2 := S2.out.cell 0 rfl 5
  rw [pkC_5] at k2
  have hem := emptyB_iff p.topic
  rw [← hem] at HE
  clear hem
  cases hn : nameB p.topic
  · rw [hn, Bool.false_or] at HE
    by_cases h5 : v = 5
    · have e5 : (v == 5) = true := beq_iff_eq.2 h5
      rw [decide_eq_true h5, Bool.true_and] at HE
      clear hn h5
      cases ha : aliasB p
      · rw [ha, Bool.false_and] at HE
        clear ha
        go_wp2
        go_ret
        exact ⟨by rw [HE.out]; rfl, S2.out.kept⟩
      · rw [ha, Bool.true_and] at HE
        clear ha
        go_wp2
        go_ret
        exact ⟨by rw [HE.out]; rfl, S2.out.kept⟩
    · have e5 : (v == 5) = false := beq_eq_false_iff_ne.2 h5
      rw [decide_eq_false h5, Bool.false_and] at HE
      clear hn h5
      go_wp2
      go_ret
      exact ⟨by rw [HE.out]; rfl, S2.out.kept⟩
  · rw [hn, Bool.true_or] at HE
    clear hn
    go_wp2
    go_ret
    exact ⟨by rw [HE.out]; rfl, S2.out.kept⟩

attribute [local go_sem ↓ high] to_stPk to_stWl to_ldWl
attribute [local go_sem ↓] to_stF
attribute [local go_sem] ld_pw pw_at pw_stwl pw_stwl0 pw_stwp pw_st0 pw_st1 pw_st2 pw_st3 pw_st4 pw_st5 pw_st6 pw_st7 pw_st8 pw_st9 pw_st10 pw_st11 pw_st12 pw_st13 pw_st14 pw_st15 pw_st16 pw_st17 pw_st18 pw_st20 pw_st21 pw_st22 pw_nil22 pw_st23 pw_nil23 pw_st24 pw_nil24
/-- A copy of the packet in a block of its own: what the walk needs of it. -/
structure PwIn (w : World) (p : Pk) (h : Hs) (W : World) : Prop where
  below : Below w.heap.size w W
  lt : w.heap.size + 1 < W.heap.size
  bk : Bk W w.heap.size PkT (pkC p h)
theorem PwIn.bk_pw {w W : World} {p : Pk} {h : Hs} (s : PwIn w p h W) (cs : Array Value) : Bk (pw W (w.heap.size + 1) cs) w.heap.size PkT (pkC p h) := (pw_other W (w.heap.size + 1) cs (by omega)).trans s.bk
theorem PwIn.kept {w W : World} {p : Pk} {h : Hs} (s : PwIn w p h W) (cs : Array Value) : Below w.heap.size w (pw W (w.heap.size + 1) cs) := pw_below W _ cs s.below (by omega)
theorem pwIn_start (w : World) (p q : Pk) (h k : Hs) : ∃ W, PwIn w p h W ∧ (stPk (.pointer (some ⟨w.heap.size + 1, 0, none⟩)) (pkV q k)).run Tryz.prog ((w.alloc (.cells (pkC p h) PkT)).alloc (.cells (pkC pk0 hs0) PkT)) = .ok () (pw W (w.heap.size + 1) (pkC q k)) := by
  have B0 := Bk.fresh (w.alloc (.cells (pkC p h) PkT)) PkT (pkC q k)
  have hst := run_stPk_fresh (w.alloc (.cells (pkC p h) PkT)) pk0 q hs0 k
  rw [heap_alloc_size] at hst B0
  have B1 : Below w.heap.size w (w.alloc (.cells (pkC p h) PkT)) := (Below.refl _ _).alloc (Nat.le_refl _) _
  refine ⟨(w.alloc (.cells (pkC p h) PkT)).alloc (.cells (pkC q k) PkT), ⟨B1.alloc B1.size _, by simp, (Bk.fresh w PkT (pkC p h)).alloc _⟩, ?_⟩
  rw [pw_self _ _ _ B0]
  exact hst
set_option maxHeartbeats 4000000 in
set_option maxRecDepth 10000 in
theorem pubF_any (v : Int) (p : Pk) (h : Hs) (w : World) (ip : PkIn w w.heap.size p h) (ok : PkOk p) :
    Calls Tryz.prog 339 #[.int .i64 v, pkV p h] w fun e w' => e = .returned (.bool (pubF v p)) ∧ Below w.heap.size w w' := by
  have OK := Lib.hid ok
  have IP := Lib.hid ip
  have hl := ld_bk (Bk.fresh w PkT (pkC p h))
  obtain ⟨W, hW, hst⟩ := pwIn_start w p p h h
  have HW := Lib.hid hW
  have hlt := hW.lt
  have hl0 := fun cs => ld_bk (hW.bk_pw cs)
  clear ip ok hW
  have HE : Hid (pubF v p = decide (p = pubQ p ∧ ¬ (v = 4 ∧ 0 < p.props.length) ∧ (p.qos = 0 → p.id = 0) ∧ (p.qos ≠ 0 → 0 < p.id ∧ p.id < 65536))) := Lib.hid rfl
  have HQI : Hid (∀ x, Below w.heap.size w x → PkIn x x.heap.size p h ∧ PkIn x x.heap.size (pubQ p) (ackH h)) := Lib.hid fun x hx => by
    have := (IP.out.below hx).wider hx.size
    exact ⟨this, Rd.nil _ _ _ _, Rd.nil _ _ _ _, Rd.nil _ _ _ _, this.props, Nat.zero_le _, Nat.zero_le _, Nat.zero_le _, this.caps.2.2.2⟩
  go_enter Tryz.func339, Tryz.ntmps339
  go_wp2_with fail
  refine (same_any p (pubQ p) h (ackH h) _ (HQI.out _ (HW.out.kept _)).1 (HQI.out _ (HW.out.kept _)).2 OK.out.len ⟨Nat.zero_le _, Nat.zero_le _, Nat.zero_le _, OK.out.len.2.2.2⟩).mono ?_
  rintro e w1 ⟨rfl, hb⟩
  have HB := Lib.hid ((HW.out.kept _).trans (hb.mono (HW.out.kept _).size))
  have HP := Lib.hid ((HW.out.bk_pw _).below hb (HW.out.bk_pw _).lt)
  clear hb hl hl0 hst hlt
  by_cases hs : p = pubQ p
  rotate_left
  · rw [decide_eq_false hs]
    have HX : Hid (pubF v p = false) := Lib.hid (by rw [HE.out]; exact decide_eq_false (fun y => hs y.1))
    clear hs
    go_wp2
    go_ret
    exact ⟨by rw [HX.out]; rfl, HB.out⟩
  rw [decide_eq_true hs]
  have k1 := HP.out.cell 24
  rw [pkC_24] at k1
  have k2 := HP.out.cell 3
  rw [pkC_3] at k2
  have k3 := HP.out.cell 4
  rw [pkC_4] at k3
  have HS := Lib.hid hs
  clear hs
  by_cases h4 : v = 4
  · have e4 : (v == 4) = true := beq_iff_eq.2 h4
    by_cases hp : 0 < p.props.length
    · have HX : Hid (pubF v p = false) := Lib.hid (by rw [HE.out]; exact decide_eq_false (fun y => y.2.1 ⟨h4, hp⟩))
      have d1 : (0 : Int) < (p.props.length : Int) := by omega
      clear h4 hp
      go_wp2
      go_ret
      exact ⟨by rw [HX.out]; rfl, HB.out⟩
    · have HE2 : Hid (pubF v p = decide ((p.qos = 0 → p.id = 0) ∧ (p.qos ≠ 0 → 0 < p.id ∧ p.id < 65536))) := Lib.hid (by rw [HE.out]; exact decide_eq_decide.2 ⟨fun y => y.2.2, fun y => ⟨HS.out, fun z => hp z.2, y⟩⟩)
      have d1 : (p.props.length : Int) ≤ 0 := by omega
      clear h4 hp
      by_cases hq : p.qos = 0
      · have eq : (p.qos == 0) = true := beq_iff_eq.2 hq
        have HX : Hid (pubF v p = (p.id == 0)) := Lib.hid (by
          rw [HE2.out]
          by_cases hi : p.id = 0
          · rw [beq_iff_eq.2 hi]; exact decide_eq_true ⟨fun _ => hi, fun y => absurd hq y⟩
          · rw [beq_eq_false_iff_ne.2 hi]; exact decide_eq_false (fun y => hi (y.1 hq)))
        clear hq
        go_wp2
        go_ret
        exact ⟨by rw [HX.out]; rfl, HB.out⟩
      · have eq : (p.qos == 0) = false := beq_eq_false_iff_ne.2 hq
        have HX : Hid (pubF v p = decide (0 < p.id ∧ p.id < 65536)) := Lib.hid (by rw [HE2.out]; exact decide_eq_decide.2 ⟨fun y => y.2 hq, fun y => ⟨fun z => absurd z hq, fun _ => y⟩⟩)
        clear hq
        by_cases h1 : 0 < p.id
        · have HZ : Hid (pubF v p = decide (p.id < 65536)) := Lib.hid (by rw [HX.out]; exact decide_eq_decide.2 ⟨fun y => y.2, fun y => ⟨h1, y⟩⟩)
          go_wp2
          go_ret
          exact ⟨by rw [HZ.out]; rfl, HB.out⟩
        · have HZ : Hid (pubF v p = false) := Lib.hid (by rw [HX.out]; exact decide_eq_false (fun y => h1 y.1))
          have h1' : p.id ≤ 0 := by omega
          clear h1
          go_wp2
          go_ret
          exact ⟨by rw [HZ.out]; rfl, HB.out⟩
  · have e4 : (v == 4) = false := beq_eq_false_iff_ne.2 h4
    have HE2 : Hid (pubF v p = decide ((p.qos = 0 → p.id = 0) ∧ (p.qos ≠ 0 → 0 < p.id ∧ p.id < 65536))) := Lib.hid (by rw [HE.out]; exact decide_eq_decide.2 ⟨fun y => y.2.2, fun y => ⟨HS.out, fun z => h4 z.1, y⟩⟩)
    clear h4
    by_cases hq : p.qos = 0
    · have eq : (p.qos == 0) = true := beq_iff_eq.2 hq
      have HX : Hid (pubF v p = (p.id == 0)) := Lib.hid (by
        rw [HE2.out]
        by_cases hi : p.id = 0
        · rw [beq_iff_eq.2 hi]; exact decide_eq_true ⟨fun _ => hi, fun y => absurd hq y⟩
        · rw [beq_eq_false_iff_ne.2 hi]; exact decide_eq_false (fun y => hi (y.1 hq)))
      clear hq
      go_wp2
      go_ret
      exact ⟨by rw [HX.out]; rfl, HB.out⟩
    · have eq : (p.qos == 0) = false := beq_eq_false_iff_ne.2 hq
      have HX : Hid (pubF v p = decide (0 < p.id ∧ p.id < 65536)) := Lib.hid (by rw [HE2.out]; exact decide_eq_decide.2 ⟨fun y => y.2 hq, fun y => ⟨fun z => absurd z hq, fun _ => y⟩⟩)
      clear hq
      by_cases h1 : 0 < p.id
      · have HZ : Hid (pubF v p = decide (p.id < 65536)) := Lib.hid (by rw [HX.out]; exact decide_eq_decide.2 ⟨fun y => y.2, fun y => ⟨h1, y⟩⟩)
        go_wp2
        go_ret
        exact ⟨by rw [HZ.out]; rfl, HB.out⟩
      · have HZ : Hid (pubF v p = false) := Lib.hid (by rw [HX.out]; exact decide_eq_false (fun y => h1 y.1))
        have h1' : p.id ≤ 0 := by omega
        clear h1
        go_wp2
        go_ret
        exact ⟨by rw [HZ.out]; rfl, HB.out⟩
end Go.Proofs.YtbdgkkmbnahgiaaGreatDoor

namespace Go.Proofs.YtbdgkkmbnahgiaaGreatDoor
open Go.RowKit
attribute [local go_sem ↓] to_ldPk to_bxPk to_bdPk to_alPk to_stPk
attribute [local go_sem] run_bxPk run_bxPk_agg ld_fresh run_alPk run_bd0 run_bdK run_bdKI run_bdKIC run_bdKC run_bdKICP run_stPk_fresh pkC_0 pkC_1 pkC_2 pkC_3 pkC_4 pkC_5 pkC_6 pkC_7 pkC_8 pkC_9 pkC_10 pkC_11 pkC_12 pkC_13 pkC_14 pkC_15 pkC_16 pkC_17 pkC_18 pkC_19 pkC_20 pkC_21 pkC_22 pkC_23 pkC_24
/-- What the looks answer. -/
def pubL (v : Int) (p : Pk) (k : Nat) : Int :=
  if k = 0 then (if hdKnown v = true ∧ p.kind = 3 then 0 else 2) else if k = 1 then (hdFlags v p).2 else if k = 2 then (if pubF v p = true then 0 else 2) else if k = 3 then (if pubN v p = true then 0 else 10) else (bytesS 3 p.props).2
def pubE (v : Int) (p : Pk) : Int :=
  if pubL v p 0 ≠ 0 then pubL v p 0 else if pubL v p 1 ≠ 0 then pubL v p 1 else if pubL v p 2 ≠ 0 then pubL v p 2 else if pubL v p 3 ≠ 0 then pubL v p 3 else pubL v p 4
theorem pubE_at {v : Int} {p : Pk} {k : Nat} (hk : k < 5) (h0 : ∀ j, j < k → pubL v p j = 0) (h : pubL v p k ≠ 0) : pubE v p = pubL v p k := by
  unfold pubE
  obtain rfl | rfl | rfl | rfl | rfl : k = 0 ∨ k = 1 ∨ k = 2 ∨ k = 3 ∨ k = 4 := by omega
  · rw [if_pos h]
  · rw [if_neg (fun x => x (h0 0 (by omega))), if_pos h]
  · rw [if_neg (fun x => x (h0 0 (by omega))), if_neg (fun x => x (h0 1 (by omega))), if_pos h]
  · rw [if_neg (fun x => x (h0 0 (by omega))), if_neg (fun x => x (h0 1 (by omega))), if_neg (fun x => x (h0 2 (by omega))), if_pos h]
  · rw [if_neg (fun x => x (h0 0 (by omega))), if_neg (fun x => x (h0 1 (by omega))), if_neg (fun x => x (h0 2 (by omega))), if_neg (fun x => x (h0 3 (by omega)))]
theorem pubE_all {v : Int} {p : Pk} (h0 : ∀ j, j < 5 → pubL v p j = 0) : pubE v p = 0 := by
  unfold pubE
  rw [if_neg (fun x => x (h0 0 (by omega))), if_neg (fun x => x (h0 1 (by omega))), if_neg (fun x => x (h0 2 (by omega))), if_neg (fun x => x (h0 3 (by omega)))]
  exact h0 4 (by omega)

/-- What stands while a packet is looked at: the version's block, the packet's. -/
structure PV (w : World) (gv gp : Nat) (v : Int) (p : Pk) (h : Hs) (x : World) : Prop where
  kept : Below w.heap.size w x
  vb : Bk x gv 3 #[.int .i64 v]
  pk : Bk x gp PkT (pkC p h)
  inn : PkIn x x.heap.size p h
theorem PV.below {w x y : World} {gv gp : Nat} {v : Int} {p : Pk} {h : Hs} (s : PV w gv gp v p h x) (hb : Below x.heap.size x y) : PV w gv gp v p h y :=
  ⟨s.kept.trans (hb.mono s.kept.size), s.vb.below hb s.vb.lt, s.pk.below hb s.pk.lt, s.inn.next hb⟩
/-- What a look leaves. -/
def LookOut (v : Int) (p : Pk) (k : Nat) (x : World) (e : Ending) (y : World) : Prop := e = .returned (.int .i64 (pubL v p k)) ∧ Below x.heap.size x y

set_option maxHeartbeats 1000000 in
set_option maxRecDepth 10000 in
theorem look0_any (w : World) (gv gp : Nat) (v : Int) (p : Pk) (h : Hs) (x : World) (s : PV w gv gp v p h x) :
    Calls Tryz.prog 335 #[.pointer (some ⟨gv, 0, none⟩), .pointer (some ⟨gp, 0, none⟩)] x (LookOut v p 0 x) := by
  have HE : Hid (pubL v p 0 = if hdKnown v = true ∧ p.kind = 3 then 0 else 2) := Lib.hid rfl
  have k1 : x.cell? ⟨gv, 0, none⟩ = some (.int .i64 v) := s.vb.cell 0
  have k2 : x.cell? ⟨gp, 0, none⟩ = some (.int .i64 p.kind) := s.pk.cell 0
  clear s
  go_enter Tryz.func335, Tryz.ntmps335
  go_wp2_with fail
  refine (pubKnown_any v _).mono ?_
  rintro e w1 ⟨rfl, rfl⟩
  cases hk : hdKnown v
  · have HX : Hid (pubL v p 0 = 2) := Lib.hid (by rw [HE.out, if_neg (fun y => by rw [hk] at y; cases y.1)])
    clear hk
    go_wp2_with fail
    refine (when_any true 2 _).mono ?_
    rintro e w1 ⟨rfl, rfl⟩
    go_wp2
    go_ret
    exact ⟨by rw [HX.out]; rfl, Below.refl _ _⟩
  · by_cases h3 : p.kind = 3
    · have HX : Hid (pubL v p 0 = 0) := Lib.hid (by rw [HE.out, if_pos ⟨hk, h3⟩])
      have e3 : (p.kind != 3) = false := by simpa using h3
      clear hk h3
      go_wp2_with fail
      refine (when_any false 2 _).mono ?_
      rintro e w1 ⟨rfl, rfl⟩
      go_wp2
      go_ret
      exact ⟨by rw [HX.out]; rfl, Below.refl _ _⟩
    · have HX : Hid (pubL v p 0 = 2) := Lib.hid (by rw [HE.out, if_neg (fun y => h3 y.2)])
      have e3 : (p.kind != 3) = true := bne_iff_ne.2 h3
      clear hk h3
      go_wp2_with fail
      refine (when_any true 2 _).mono ?_
      rintro e w1 ⟨rfl, rfl⟩
      go_wp2
      go_ret
      exact ⟨by rw [HX.out]; rfl, Below.refl _ _⟩
set_option maxHeartbeats 1000000 in
set_option maxRecDepth 10000 in
theorem look1_any (w : World) (gv gp : Nat) (v : Int) (p : Pk) (h : Hs) (x : World) (s : PV w gv gp v p h x) :
    Calls Tryz.prog 337 #[.pointer (some ⟨gv, 0, none⟩), .pointer (some ⟨gp, 0, none⟩)] x (LookOut v p 1 x) := by
  have HE : Hid (pubL v p 1 = (hdFlags v p).2) := Lib.hid rfl
  have k1 : x.cell? ⟨gv, 0, none⟩ = some (.int .i64 v) := s.vb.cell 0
  have hl := ld_bk s.pk
  clear s
  go_enter Tryz.func337, Tryz.ntmps337
  go_wp2_with fail
  refine (hdFlags_any v p h _).mono ?_
  rintro e w1 ⟨rfl, hb⟩
  have HB := Lib.hid hb; clear hb
  go_wp2
  go_ret
  exact ⟨by rw [HE.out]; rfl, HB.out⟩
set_option maxHeartbeats 1000000 in
set_option maxRecDepth 10000 in
theorem look2_any (w : World) (gv gp : Nat) (v : Int) (p : Pk) (h : Hs) (ok : PkOk p) (x : World) (s : PV w gv gp v p h x) :
    Calls Tryz.prog 338 #[.pointer (some ⟨gv, 0, none⟩), .pointer (some ⟨gp, 0, none⟩)] x (LookOut v p 2 x) := by
  have HE : Hid (pubL v p 2 = if pubF v p = true then 0 else 2) := Lib.hid rfl
  have k1 : x.cell? ⟨gv, 0, none⟩ = some (.int .i64 v) := s.vb.cell 0
  have hl := ld_bk s.pk
  have SS := Lib.hid s; have OK := Lib.hid ok
  clear s ok
  go_enter Tryz.func338, Tryz.ntmps338
  go_wp2_with fail
  refine (pubF_any v p h _ SS.out.inn OK.out).mono ?_
  rintro e w1 ⟨rfl, hb⟩
  have HB := Lib.hid hb; clear hb hl k1
  cases hf : pubF v p
  · have HX : Hid (pubL v p 2 = 2) := Lib.hid (by rw [HE.out, hf]; rfl)
    clear hf
    go_wp2_with fail
    refine (when_any true 2 _).mono ?_
    rintro e w2 ⟨rfl, rfl⟩
    go_wp2
    go_ret
    exact ⟨by rw [HX.out]; rfl, HB.out⟩
  · have HX : Hid (pubL v p 2 = 0) := Lib.hid (by rw [HE.out, hf]; rfl)
    clear hf
    go_wp2_with fail
    refine (when_any false 2 _).mono ?_
    rintro e w2 ⟨rfl, rfl⟩
    go_wp2
    go_ret
    exact ⟨by rw [HX.out]; rfl, HB.out⟩
set_option maxHeartbeats 1000000 in
set_option maxRecDepth 10000 in
theorem look3_any (w : World) (gv gp : Nat) (v : Int) (p : Pk) (h : Hs) (ok : PkOk p) (x : World) (s : PV w gv gp v p h x) :
    Calls Tryz.prog 340 #[.pointer (some ⟨gv, 0, none⟩), .pointer (some ⟨gp, 0, none⟩)] x (LookOut v p 3 x) := by
  have HE : Hid (pubL v p 3 = if pubN v p = true then 0 else 10) := Lib.hid rfl
  have k1 : x.cell? ⟨gv, 0, none⟩ = some (.int .i64 v) := s.vb.cell 0
  have hl := ld_bk s.pk
  have SS := Lib.hid s; have OK := Lib.hid ok
  clear s ok
  go_enter Tryz.func340, Tryz.ntmps340
  go_wp2_with fail
  refine (pubN_any v p h _ SS.out.inn OK.out).mono ?_
  rintro e w1 ⟨rfl, hb⟩
  have HB := Lib.hid hb; clear hb hl k1
  cases hf : pubN v p
  · have HX : Hid (pubL v p 3 = 10) := Lib.hid (by rw [HE.out, hf]; rfl)
    clear hf
    go_wp2_with fail
    refine (when_any true 10 _).mono ?_
    rintro e w2 ⟨rfl, rfl⟩
    go_wp2
    go_ret
    exact ⟨by rw [HX.out]; rfl, HB.out⟩
  · have HX : Hid (pubL v p 3 = 0) := Lib.hid (by rw [HE.out, hf]; rfl)
    clear hf
    go_wp2_with fail
    refine (when_any false 10 _).mono ?_
    rintro e w2 ⟨rfl, rfl⟩
    go_wp2
    go_ret
    exact ⟨by rw [HX.out]; rfl, HB.out⟩
set_option maxHeartbeats 1000000 in
set_option maxRecDepth 10000 in
theorem look4_any (w : World) (gv gp : Nat) (v : Int) (p : Pk) (h : Hs) (ok : PkOk p) (x : World) (s : PV w gv gp v p h x) :
    Calls Tryz.prog 342 #[.pointer (some ⟨gp, 0, none⟩)] x (LookOut v p 4 x) := by
  have HE : Hid (pubL v p 4 = (bytesS 3 p.props).2) := Lib.hid rfl
  have k1 : x.cell? ⟨gp, 24, none⟩ = some (.slice h.props.a p.props.length h.props.c) := s.pk.cell 24
  have SS := Lib.hid s; have OK := Lib.hid ok
  clear s ok
  go_enter Tryz.func342, Tryz.ntmps342
  go_wp2_with fail
  refine (validP_n 3 p.props _ rfl OK.out.props h.props.a h.props.c _ SS.out.inn.props OK.out.len.2.2.2).mono ?_
  rintro e w1 ⟨rfl, hb⟩
  have HB := Lib.hid hb; clear hb k1
  go_wp2
  go_ret
  exact ⟨by rw [HE.out]; rfl, HB.out⟩

theorem enter_k0 (args : Array Value) (w : World) : (callFunc 335 args).run Tryz.prog w = .ok (.enter 335 args) w := run_enter Tryz.func335 (by kernel_rfl) rfl args w
theorem enter_k1 (args : Array Value) (w : World) : (callFunc 337 args).run Tryz.prog w = .ok (.enter 337 args) w := run_enter Tryz.func337 (by kernel_rfl) rfl args w
theorem enter_k2 (args : Array Value) (w : World) : (callFunc 338 args).run Tryz.prog w = .ok (.enter 338 args) w := run_enter Tryz.func338 (by kernel_rfl) rfl args w
theorem enter_k3 (args : Array Value) (w : World) : (callFunc 340 args).run Tryz.prog w = .ok (.enter 340 args) w := run_enter Tryz.func340 (by kernel_rfl) rfl args w
theorem enter_k4 (args : Array Value) (w : World) : (callFunc 342 args).run Tryz.prog w = .ok (.enter 342 args) w := run_enter Tryz.func342 (by kernel_rfl) rfl args w
/-- The five looks, as values. -/
def lookC (gv gp : Nat) : Array Value := #[.func (.func 335) #[] #[.pointer (some ⟨gv, 0, none⟩), .pointer (some ⟨gp, 0, none⟩)], .func (.func 337) #[] #[.pointer (some ⟨gv, 0, none⟩), .pointer (some ⟨gp, 0, none⟩)],
  .func (.func 338) #[] #[.pointer (some ⟨gv, 0, none⟩), .pointer (some ⟨gp, 0, none⟩)], .func (.func 340) #[] #[.pointer (some ⟨gv, 0, none⟩), .pointer (some ⟨gp, 0, none⟩)], .func (.func 342) #[] #[.pointer (some ⟨gp, 0, none⟩)]]

set_option maxHeartbeats 4000000 in
set_option maxRecDepth 10000 in
theorem pubValid_any (v : Int) (p : Pk) (h : Hs) (w : World) (ip : PkIn w w.heap.size p h) (ok : PkOk p) :
    Calls Tryz.prog 277 #[.int .i64 v, pkV p h] w fun e w' => e = .returned (.int .i64 (pubE v p)) ∧ Below w.heap.size w w' := by
  have OK := Lib.hid ok
  have B1 := (Below.refl w.heap.size w).alloc (Nat.le_refl _) (.cells #[.int .i64 v] 3)
  have S2 : Hid (PV w w.heap.size (w.heap.size + 1) v p h ((w.alloc (.cells #[.int .i64 v] 3)).alloc (.cells (pkC p h) PkT))) := Lib.hid (by
    refine ⟨B1.alloc B1.size _, (Bk.fresh _ _ _).alloc _, ?_, ((ip.below B1).wider B1.size).next ((Below.refl _ _).alloc (Nat.le_refl _) _)⟩
    have := Bk.fresh (w.alloc (.cells #[.int .i64 v] 3)) PkT (pkC p h)
    rwa [heap_alloc_size] at this)
  clear ip ok B1
  go_enter Tryz.func277, Tryz.ntmps277
  go_wp2_with fail
  have GS : Hid (Bk (((w.alloc (.cells #[.int .i64 v] 3)).alloc (.cells (pkC p h) PkT)).alloc (.cells (lookC w.heap.size (w.heap.size + 1)) 64)) (w.heap.size + 2) 64 (lookC w.heap.size (w.heap.size + 1))) := Lib.hid (by
    have := Bk.fresh ((w.alloc (.cells #[.int .i64 v] 3)).alloc (.cells (pkC p h) PkT)) 64 (lookC w.heap.size (w.heap.size + 1))
    rwa [heap_alloc_size, heap_alloc_size] at this)
  have S3 := Lib.hid (S2.out.below ((Below.refl _ _).alloc (Nat.le_refl _) (.cells (lookC w.heap.size (w.heap.size + 1)) 64)))
  go_loopw [17] (fun i wr => ∃ k : Nat, k ≤ 5 ∧ i = .int .i64 k ∧ (∀ j, j < k → pubL v p j = 0) ∧ PV w w.heap.size (w.heap.size + 1) v p h wr ∧ Bk wr (w.heap.size + 2) 64 (lookC w.heap.size (w.heap.size + 1))) (fun i _ => 5 - (intOf i).toNat)
  case atStart => exact ⟨0, by omega, rfl, fun j hj => by omega, S3.out, GS.out⟩
  case round =>
    obtain ⟨k, hk, rfl, h0, hs, hg⟩ := hrel
    have H0 := Lib.hid h0; have SR := Lib.hid hs; have GR := Lib.hid hg
    clear h0 hs hg
    obtain rfl | rfl | rfl | rfl | rfl | rfl : k = 0 ∨ k = 1 ∨ k = 2 ∨ k = 3 ∨ k = 4 ∨ k = 5 := by omega
    · have HX : Hid (pubL v p 0 ≠ 0 → pubE v p = pubL v p 0) := Lib.hid (pubE_at (by omega) H0.out)
      have c1 : wr.cell? ⟨w.heap.size + 2, 0, none⟩ = some (.func (.func 335) #[] #[.pointer (some ⟨w.heap.size, 0, none⟩), .pointer (some ⟨w.heap.size + 1, 0, none⟩)]) := GR.out.cell 0
      have en := enter_k0
      go_wp2_with fail
      refine (look0_any w w.heap.size (w.heap.size + 1) v p h _ SR.out).mono ?_
      rintro e w2 ⟨rfl, hb⟩
      have S2 := Lib.hid (SR.out.below hb); have G2 := Lib.hid (GR.out.below hb GR.out.lt)
      clear hb c1 en
      by_cases hz : pubL v p 0 = 0
      · have HN : Hid (∀ j, j < 0 + 1 → pubL v p j = 0) := Lib.hid (fun j hj => by
          by_cases hjk : j = 0
          · rw [hjk]; exact hz
          · exact H0.out j (by omega))
        rw [hz]
        clear hz HX
        go_wp2
        go_roundw
        case rel => exact ⟨0 + 1, by omega, by go_num, HN.out, S2.out, G2.out⟩
        case measure => simp [intOf]
      · have e0 : (pubL v p 0 != 0) = true := bne_iff_ne.2 hz
        have HY := Lib.hid (HX.out hz)
        clear hz HX
        go_wp2
        go_ret
        exact ⟨by rw [HY.out]; rfl, S2.out.kept⟩
    · have HX : Hid (pubL v p 1 ≠ 0 → pubE v p = pubL v p 1) := Lib.hid (pubE_at (by omega) H0.out)
      have c1 : wr.cell? ⟨w.heap.size + 2, 1, none⟩ = some (.func (.func 337) #[] #[.pointer (some ⟨w.heap.size, 0, none⟩), .pointer (some ⟨w.heap.size + 1, 0, none⟩)]) := GR.out.cell 1
      have en := enter_k1
      go_wp2_with fail
      refine (look1_any w w.heap.size (w.heap.size + 1) v p h _ SR.out).mono ?_
      rintro e w2 ⟨rfl, hb⟩
      have S2 := Lib.hid (SR.out.below hb); have G2 := Lib.hid (GR.out.below hb GR.out.lt)
      clear hb c1 en
      by_cases hz : pubL v p 1 = 0
      · have HN : Hid (∀ j, j < 1 + 1 → pubL v p j = 0) := Lib.hid (fun j hj => by
          by_cases hjk : j = 1
          · rw [hjk]; exact hz
          · exact H0.out j (by omega))
        rw [hz]
        clear hz HX
        go_wp2
        go_roundw
        case rel => exact ⟨1 + 1, by omega, by go_num, HN.out, S2.out, G2.out⟩
        case measure => simp [intOf]
      · have e0 : (pubL v p 1 != 0) = true := bne_iff_ne.2 hz
        have HY := Lib.hid (HX.out hz)
        clear hz HX
        go_wp2
        go_ret
        exact ⟨by rw [HY.out]; rfl, S2.out.kept⟩
    · have HX : Hid (pubL v p 2 ≠ 0 → pubE v p = pubL v p 2) := Lib.hid (pubE_at (by omega) H0.out)
      have c1 : wr.cell? ⟨w.heap.size + 2, 2, none⟩ = some (.func (.func 338) #[] #[.pointer (some ⟨w.heap.size, 0, none⟩), .pointer (some ⟨w.heap.size + 1, 0, none⟩)]) := GR.out.cell 2
      have en := enter_k2
      go_wp2_with fail
      refine (look2_any w w.heap.size (w.heap.size + 1) v p h OK.out _ SR.out).mono ?_
      rintro e w2 ⟨rfl, hb⟩
      have S2 := Lib.hid (SR.out.below hb); have G2 := Lib.hid (GR.out.below hb GR.out.lt)
      clear hb c1 en
      by_cases hz : pubL v p 2 = 0
      · have HN : Hid (∀ j, j < 2 + 1 → pubL v p j = 0) := Lib.hid (fun j hj => by
          by_cases hjk : j = 2
          · rw [hjk]; exact hz
          · exact H0.out j (by omega))
        rw [hz]
        clear hz HX
        go_wp2
        go_roundw
        case rel => exact ⟨2 + 1, by omega, by go_num, HN.out, S2.out, G2.out⟩
        case measure => simp [intOf]
      · have e0 : (pubL v p 2 != 0) = true := bne_iff_ne.2 hz
        have HY := Lib.hid (HX.out hz)
        clear hz HX
        go_wp2
        go_ret
        exact ⟨by rw [HY.out]; rfl, S2.out.kept⟩
    · have HX : Hid (pubL v p 3 ≠ 0 → pubE v p = pubL v p 3) := Lib.hid (pubE_at (by omega) H0.out)
      have c1 : wr.cell? ⟨w.heap.size + 2, 3, none⟩ = some (.func (.func 340) #[] #[.pointer (some ⟨w.heap.size, 0, none⟩), .pointer (some ⟨w.heap.size + 1, 0, none⟩)]) := GR.out.cell 3
      have en := enter_k3
      go_wp2_with fail
      refine (look3_any w w.heap.size (w.heap.size + 1) v p h OK.out _ SR.out).mono ?_
      rintro e w2 ⟨rfl, hb⟩
      have S2 := Lib.hid (SR.out.below hb); have G2 := Lib.hid (GR.out.below hb GR.out.lt)
      clear hb c1 en
      by_cases hz : pubL v p 3 = 0
      · have HN : Hid (∀ j, j < 3 + 1 → pubL v p j = 0) := Lib.hid (fun j hj => by
          by_cases hjk : j = 3
          · rw [hjk]; exact hz
          · exact H0.out j (by omega))
        rw [hz]
        clear hz HX
        go_wp2
        go_roundw
        case rel => exact ⟨3 + 1, by omega, by go_num, HN.out, S2.out, G2.out⟩
        case measure => simp [intOf]
      · have e0 : (pubL v p 3 != 0) = true := bne_iff_ne.2 hz
        have HY := Lib.hid (HX.out hz)
        clear hz HX
        go_wp2
        go_ret
        exact ⟨by rw [HY.out]; rfl, S2.out.kept⟩
    · have HX : Hid (pubL v p 4 ≠ 0 → pubE v p = pubL v p 4) := Lib.hid (pubE_at (by omega) H0.out)
      have c1 : wr.cell? ⟨w.heap.size + 2, 4, none⟩ = some (.func (.func 342) #[] #[.pointer (some ⟨w.heap.size + 1, 0, none⟩)]) := GR.out.cell 4
      have en := enter_k4
      go_wp2_with fail
      refine (look4_any w w.heap.size (w.heap.size + 1) v p h OK.out _ SR.out).mono ?_
      rintro e w2 ⟨rfl, hb⟩
      have S2 := Lib.hid (SR.out.below hb); have G2 := Lib.hid (GR.out.below hb GR.out.lt)
      clear hb c1 en
      by_cases hz : pubL v p 4 = 0
      · have HN : Hid (∀ j, j < 4 + 1 → pubL v p j = 0) := Lib.hid (fun j hj => by
          by_cases hjk : j = 4
          · rw [hjk]; exact hz
          · exact H0.out j (by omega))
        rw [hz]
        clear hz HX
        go_wp2
        go_roundw
        case rel => exact ⟨4 + 1, by omega, by go_num, HN.out, S2.out, G2.out⟩
        case measure => simp [intOf]
      · have e0 : (pubL v p 4 != 0) = true := bne_iff_ne.2 hz
        have HY := Lib.hid (HX.out hz)
        clear hz HX
        go_wp2
        go_ret
        exact ⟨by rw [HY.out]; rfl, S2.out.kept⟩
    · have HX := Lib.hid (pubE_all H0.out)
      go_wp2
      go_ret
      exact ⟨by rw [HX.out]; rfl, SR.out.kept⟩
end Go.Proofs.YtbdgkkmbnahgiaaGreatDoor

namespace Go.Proofs.YtbdgkkmbnahgiaaGreatDoor
open Go.RowKit
attribute [local go_sem ↓] to_ldPk to_bxPk to_bdPk to_alPk to_stPk
attribute [local go_sem] run_bxPk run_bxPk_agg ld_fresh run_alPk run_bd0 run_bdK run_bdKI run_bdKIC run_bdKC run_bdKICP run_stPk_fresh pkC_0 pkC_1 pkC_2 pkC_3 pkC_4 pkC_5 pkC_6 pkC_7 pkC_8 pkC_9 pkC_10 pkC_11 pkC_12 pkC_13 pkC_14 pkC_15 pkC_16 pkC_17 pkC_18 pkC_19 pkC_20 pkC_21 pkC_22 pkC_23 pkC_24
/-- What ustring.Text answers. -/
def textUS (s : ByteArray) : ByteArray × Int := if validB s = true then (framedS s, 0) else (⟨#[]⟩, 6)
set_option maxHeartbeats 400000 in
set_option maxRecDepth 10000 in
theorem textU_any (s : ByteArray) (w : World) (hs : s.size ≤ 4611686018427387904) :
    Calls Tryz.prog 58 #[.string s] w fun e w' => e = .returned (.tuple #[.string (textUS s).1, .int .i64 (textUS s).2]) ∧ Below w.heap.size w w' := by
  go_enter Tryz.func58, Tryz.ntmps58
  go_wp2_with fail
  refine (valid_any s _ hs).mono ?_
  rintro e w1 ⟨rfl, hb⟩
  have HB := Lib.hid hb; clear hb
  cases hv : validB s
  · have HX : Hid (textUS s = (⟨#[]⟩, 6)) := Lib.hid (by unfold textUS; rw [if_neg (by rw [hv]; decide)])
    clear hv
    go_wp2
    go_ret2
    exact ⟨by rw [HX.out]; rfl, HB.out⟩
  · have HX : Hid (textUS s = (framedS s, 0)) := Lib.hid (by unfold textUS; rw [if_pos hv])
    have hz := Lib.hid (valid_size hv)
    clear hv
    go_wp2_with fail
    refine (framed_any s _ hz.out).mono ?_
    rintro e w2 ⟨rfl, hb⟩
    have HB2 := Lib.hid (HB.out.trans (hb.mono HB.out.size)); clear hb
    go_wp2
    go_ret2
    exact ⟨by rw [HX.out]; rfl, HB2.out⟩
/-- A body, where the packet is valid. -/
def pubS1 (p : Pk) : ByteArray := if p.qos ≠ 0 then framedS p.topic ++ ⟨(putL p.id.toNat 2).toArray⟩ else framedS p.topic
def pubS2 (v : Int) (p : Pk) : ByteArray := if v = 5 then pubS1 p ++ ⟨(bytesS p.kind p.props).1.toArray⟩ else pubS1 p
def pubB (v : Int) (p : Pk) : ByteArray × Int := if pubE v p = 0 then (pubS2 v p ++ p.payload, 0) else (⟨#[]⟩, pubE v p)
structure PubGood (v : Int) (p : Pk) : Prop where
  k : v = 4 ∨ v = 5
  kind : p.kind = 3
  flags : badQ p = false
  same : p = pubQ p
  old : v = 4 → p.props = []
  id0 : p.qos = 0 → p.id = 0
  id1 : p.qos ≠ 0 → 0 < p.id ∧ p.id < 65536
  named : pubN v p = true
  topic : validB p.topic = true
  bytes : (bytesS 3 p.props).2 = 0
theorem valid_empty : validB ⟨#[]⟩ = true := by decide +kernel
theorem pubE_good {v : Int} {p : Pk} (x : pubE v p = 0) : PubGood v p := by
  have h : ∀ j, j < 5 → pubL v p j = 0 := by
    intro j hj
    refine Decidable.not_not.1 fun hn => ?_
    by_cases h0 : pubL v p 0 = 0
    · by_cases h1 : pubL v p 1 = 0
      · by_cases h2 : pubL v p 2 = 0
        · by_cases h3 : pubL v p 3 = 0
          · have e : pubE v p = pubL v p 4 := by unfold pubE; rw [if_neg (fun y => y h0), if_neg (fun y => y h1), if_neg (fun y => y h2), if_neg (fun y => y h3)]
            obtain rfl | rfl | rfl | rfl | rfl : j = 0 ∨ j = 1 ∨ j = 2 ∨ j = 3 ∨ j = 4 := by omega
            · exact hn h0
            · exact hn h1
            · exact hn h2
            · exact hn h3
            · exact hn (e ▸ x)
          · rw [pubE_at (k := 3) (by omega) (fun i hi => by obtain rfl | rfl | rfl : i = 0 ∨ i = 1 ∨ i = 2 := by omega
                                                            all_goals assumption) h3] at x
            exact h3 x
        · rw [pubE_at (k := 2) (by omega) (fun i hi => by obtain rfl | rfl : i = 0 ∨ i = 1 := by omega
                                                          all_goals assumption) h2] at x
          exact h2 x
      · rw [pubE_at (k := 1) (by omega) (fun i hi => by obtain rfl : i = 0 := by omega
                                                        assumption) h1] at x
        exact h1 x
    · rw [pubE_at (k := 0) (by omega) (fun i hi => by omega) h0] at x
      exact h0 x
  have l0 := h 0 (by omega)
  have l1 := h 1 (by omega)
  have l2 := h 2 (by omega)
  have l3 := h 3 (by omega)
  have l4 : (bytesS 3 p.props).2 = 0 := h 4 (by omega)
  have hk : hdKnown v = true ∧ p.kind = 3 := Decidable.not_not.1 fun y => by
    have : pubL v p 0 = 2 := if_neg y
    omega
  have hv : v = 4 ∨ v = 5 := of_decide_eq_true hk.1
  have hq : badQ p = false := by
    cases e : badQ p
    · rfl
    · have hki : hdKinds v p.kind = true := decide_eq_true (by omega)
      have : pubL v p 1 = 7 := by
        show (hdFlags v p).2 = 7
        unfold hdFlags
        rw [if_neg (fun y => by rw [hk.1] at y; cases y), if_neg (fun y => by rw [hki] at y; cases y), if_neg (fun y => y hk.2), if_pos e]
      omega
  have hf : pubF v p = true := Decidable.not_not.1 fun y => by
    have : pubL v p 2 = 2 := if_neg y
    omega
  have hn : pubN v p = true := Decidable.not_not.1 fun y => by
    have : pubL v p 3 = 10 := if_neg y
    omega
  obtain ⟨f1, f2, f3, f4⟩ := of_decide_eq_true hf
  refine ⟨hv, hk.2, hq, f1, fun h4 => ?_, f3, f4, hn, ?_, l4⟩
  · have : ¬ 0 < p.props.length := fun y => f2 ⟨h4, y⟩
    exact List.eq_nil_of_length_eq_zero (by omega)
  · unfold pubN at hn
    rcases Bool.or_eq_true_iff.1 hn with hn | hn
    · unfold nameB textB at hn
      simp at hn
      exact hn.1.2
    · have hz : p.topic.size = 0 := of_decide_eq_true (Bool.and_eq_true_iff.1 (Bool.and_eq_true_iff.1 hn).2).2
      have : p.topic = ⟨#[]⟩ := ls_ext (by rw [show ls (⟨#[]⟩ : ByteArray) = [] from rfl]; exact List.eq_nil_of_length_eq_zero (by rw [ls_len]; exact hz))
      rw [this]
      exact valid_empty
theorem PubGood.ok {v : Int} {p : Pk} (x : PubGood v p) : pubE v p = 0 := by
  have hk : hdKnown v = true := decide_eq_true x.k
  have hki : hdKinds v p.kind = true := decide_eq_true (by have := x.kind; omega)
  refine pubE_all fun j hj => ?_
  obtain rfl | rfl | rfl | rfl | rfl : j = 0 ∨ j = 1 ∨ j = 2 ∨ j = 3 ∨ j = 4 := by omega
  · show (if hdKnown v = true ∧ p.kind = 3 then (0 : Int) else 2) = 0
    exact if_pos ⟨hk, x.kind⟩
  · show (hdFlags v p).2 = 0
    unfold hdFlags
    rw [if_neg (fun y => by rw [hk] at y; cases y), if_neg (fun y => by rw [hki] at y; cases y), if_neg (fun y => y x.kind), if_neg (fun y => by rw [x.flags] at y; cases y)]
  · show (if pubF v p = true then (0 : Int) else 2) = 0
    exact if_pos (decide_eq_true ⟨x.same, fun y => by have := x.old y.1; rw [this] at y; exact absurd y.2 (by simp), x.id0, x.id1⟩)
  · show (if pubN v p = true then (0 : Int) else 10) = 0
    exact if_pos x.named
  · exact x.bytes

set_option maxHeartbeats 4000000 in
set_option maxRecDepth 10000 in
theorem pubBody_any (v : Int) (p : Pk) (h : Hs) (w : World) (ip : PkIn w w.heap.size p h) (ok : PkOk p) :
    Calls Tryz.prog 199 #[.int .i64 v, pkV p h] w fun e w' => e = .returned (.tuple #[.string (pubB v p).1, .int .i64 (pubB v p).2]) ∧ Below w.heap.size w w' := by
  have OK := Lib.hid ok
  have S0 := Lib.hid ((St.start w).push ip)
  have HE : Hid (pubB v p = if pubE v p = 0 then (pubS2 v p ++ p.payload, 0) else (⟨#[]⟩, pubE v p)) := Lib.hid rfl
  have H2 : Hid (pubS2 v p = if v = 5 then pubS1 p ++ ⟨(bytesS p.kind p.props).1.toArray⟩ else pubS1 p) := Lib.hid rfl
  have H1 : Hid (pubS1 p = if p.qos ≠ 0 then framedS p.topic ++ ⟨(putL p.id.toNat 2).toArray⟩ else framedS p.topic) := Lib.hid rfl
  clear ip ok
  have hl := S0.out.ld 0 rfl
  go_enter Tryz.func199, Tryz.ntmps199
  go_wp2_with fail
  refine (pubValid_any v p h _ (S0.out.into 0 rfl) OK.out).mono ?_
  rintro e w1 ⟨rfl, hb⟩
  have S1 := Lib.hid (S0.out.below hb); clear hb hl
  by_cases he : pubE v p = 0
  rotate_left
  · have e0 : (pubE v p != 0) = true := bne_iff_ne.2 he
    have HX : Hid (pubB v p = (⟨#[]⟩, pubE v p)) := Lib.hid (by rw [HE.out, if_neg he])
    clear he
    go_wp2
    go_ret2
    exact ⟨by rw [HX.out]; rfl, S1.out.kept⟩
  have HX : Hid (pubB v p = (pubS2 v p ++ p.payload, 0)) := Lib.hid (by rw [HE.out, if_pos he])
  have G := Lib.hid (pubE_good he)
  rw [he]
  have HB := Lib.hid (bytesS_size 3 p.props G.out.bytes).2
  have HT := Lib.hid (valid_size G.out.topic)
  have k1 := S1.out.cell 0 rfl 5
  rw [pkC_5] at k1
  clear he
  go_wp2_with fail
  refine (textU_any p.topic _ (by have := OK.out.texts.1; omega)).mono ?_
  rintro e w2 ⟨rfl, hb⟩
  have S2 := Lib.hid (S1.out.below hb); clear hb k1
  rw [show textUS p.topic = (framedS p.topic, 0) from if_pos G.out.topic]
  simp only
  have hfs : (framedS p.topic).size ≤ 65537 := by rw [framedS_size]; have := HT.out; omega
  obtain ⟨T, hT⟩ : ∃ T, framedS p.topic = T := ⟨_, rfl⟩
  rw [hT] at hfs H1 ⊢
  have HFS := Lib.hid hfs
  obtain ⟨Y, hY⟩ : ∃ Y : ByteArray, p.payload = Y := ⟨_, rfl⟩
  have HY : Hid (Y.size ≤ 140737488351232) := Lib.hid (by rw [← hY]; exact OK.out.texts.2.1)
  obtain ⟨Z, hZ⟩ : ∃ Z : ByteArray, (⟨(bytesS p.kind p.props).1.toArray⟩ : ByteArray) = Z := ⟨_, rfl⟩
  have HZ : Hid (Z.size ≤ 131075004) := Lib.hid (by rw [← hZ, mk_size, G.out.kind]; exact HB.out)
  have HZZ := Lib.hid hZ
  rw [hZ] at H2
  rw [hY] at HX
  have HYY := Lib.hid hY
  clear hT hfs hY hZ
  have k2 := S2.out.cell 0 rfl 3
  rw [pkC_3] at k2
  have k3 := S2.out.cell 0 rfl 4
  rw [pkC_4] at k3
  by_cases hq : p.qos = 0
  · have eq : (p.qos != 0) = false := by simpa using hq
    have H1' : Hid (pubS1 p = T) := Lib.hid (by rw [H1.out, if_neg (fun y => y hq)])
    clear hq k3
    by_cases h5 : v = 5
    · have e5 : (v == 5) = true := beq_iff_eq.2 h5
      have HW : Hid (pubB v p = (T ++ Z ++ Y, 0)) := Lib.hid (by rw [HX.out, H2.out, if_pos h5, H1'.out])
      have k4 := S2.out.cell 0 rfl 0
      rw [pkC_0] at k4
      have k5 := S2.out.cell 0 rfl 24
      rw [pkC_24] at k5
      clear h5
      go_wp2_with fail
      refine (bytesP_n p.kind p.props _ rfl OK.out.props h.props.a h.props.c _ (S2.out.into 0 rfl).props OK.out.len.2.2.2).mono ?_
      rintro e w3 ⟨rfl, hb⟩
      have S3 := Lib.hid (S2.out.below hb); clear hb k2 k4 k5
      rw [HZZ.out]
      have k6 : w3.cell? ⟨w.heap.size, 6, none⟩ = some (.string Y) := by rw [← HYY.out]; exact S3.out.cell 0 rfl 6
      have hs1 : ¬ (9223372036854775807 < T.size + Z.size) := by have := HFS.out; have := HZ.out; omega
      have hs2 : ¬ (9223372036854775807 < T.size + Z.size + Y.size) := by have := HFS.out; have := HZ.out; have := HY.out; omega
      go_wp2
      go_ret2
      exact ⟨by rw [HW.out]; rfl, S3.out.kept⟩
    · have e5 : (v == 5) = false := beq_eq_false_iff_ne.2 h5
      have HW : Hid (pubB v p = (T ++ Y, 0)) := Lib.hid (by rw [HX.out, H2.out, if_neg h5, H1'.out])
      have k6 : w2.cell? ⟨w.heap.size, 6, none⟩ = some (.string Y) := by rw [← HYY.out]; exact S2.out.cell 0 rfl 6
      have hs1 : ¬ (9223372036854775807 < T.size + Y.size) := by have := HFS.out; have := HY.out; omega
      clear h5
      go_wp2
      go_ret2
      exact ⟨by rw [HW.out]; rfl, S2.out.kept⟩
  · have eq : (p.qos != 0) = true := bne_iff_ne.2 hq
    obtain ⟨m, hm, hw1⟩ : ∃ m : Nat, Hid (p.id.toNat = m) ∧ IntKind.u64.wrap p.id = (m : Int) := ⟨_, Lib.hid rfl, by rw [IntKind.wrap_u64]; have := G.out.id1 hq; omega⟩
    have HM : Hid (m < 65536) := Lib.hid (by have := hm.out; have := G.out.id1 hq; omega)
    obtain ⟨X, hX⟩ : ∃ X : ByteArray, (⟨(putL m 2).toArray⟩ : ByteArray) = X := ⟨_, rfl⟩
    have HXX := Lib.hid hX
    have HXS : Hid (X.size = 2) := Lib.hid (by rw [← hX, mk_size, putL_len])
    have H1' : Hid (pubS1 p = T ++ X) := Lib.hid (by rw [H1.out, if_pos hq, hm.out, hX])
    clear hq hX
    go_wp2_with fail
    refine (put_any m 2 _ (by have := HM.out; omega) (by omega) (by omega)).mono ?_
    rintro e w3 ⟨rfl, hb⟩
    have S3 := Lib.hid (S2.out.below hb); clear hb k2 k3
    rw [HXX.out]
    have hs0 : ¬ (9223372036854775807 < T.size + X.size) := by have := HFS.out; have := HXS.out; omega
    by_cases h5 : v = 5
    · have e5 : (v == 5) = true := beq_iff_eq.2 h5
      have HW : Hid (pubB v p = (T ++ X ++ Z ++ Y, 0)) := Lib.hid (by rw [HX.out, H2.out, if_pos h5, H1'.out])
      have k4 := S3.out.cell 0 rfl 0
      rw [pkC_0] at k4
      have k5 := S3.out.cell 0 rfl 24
      rw [pkC_24] at k5
      clear h5
      go_wp2_with fail
      refine (bytesP_n p.kind p.props _ rfl OK.out.props h.props.a h.props.c _ (S3.out.into 0 rfl).props OK.out.len.2.2.2).mono ?_
      rintro e w4 ⟨rfl, hb⟩
      have S4 := Lib.hid (S3.out.below hb); clear hb k4 k5
      rw [HZZ.out]
      have k6 : w4.cell? ⟨w.heap.size, 6, none⟩ = some (.string Y) := by rw [← HYY.out]; exact S4.out.cell 0 rfl 6
      have hs1 : ¬ (9223372036854775807 < T.size + X.size + Z.size) := by have := HFS.out; have := HXS.out; have := HZ.out; omega
      have hs2 : ¬ (9223372036854775807 < T.size + X.size + Z.size + Y.size) := by have := HFS.out; have := HXS.out; have := HZ.out; have := HY.out; omega
      go_wp2
      go_ret2
      exact ⟨by rw [HW.out]; rfl, S4.out.kept⟩
    · have e5 : (v == 5) = false := beq_eq_false_iff_ne.2 h5
      have HW : Hid (pubB v p = (T ++ X ++ Y, 0)) := Lib.hid (by rw [HX.out, H2.out, if_neg h5, H1'.out])
      have k6 : w3.cell? ⟨w.heap.size, 6, none⟩ = some (.string Y) := by rw [← HYY.out]; exact S3.out.cell 0 rfl 6
      have hs1 : ¬ (9223372036854775807 < T.size + X.size + Y.size) := by have := HFS.out; have := HXS.out; have := HY.out; omega
      clear h5
      go_wp2
      go_ret2
      exact ⟨by rw [HW.out]; rfl, S3.out.kept⟩
end Go.Proofs.YtbdgkkmbnahgiaaGreatDoor

namespace Go.Proofs.YtbdgkkmbnahgiaaGreatDoor
open Go.RowKit
theorem and_flags6 : bits BinOp.and IntKind.i64 0 6 = 0 ∧ bits BinOp.and IntKind.i64 1 6 = 0 ∧ bits BinOp.and IntKind.i64 2 6 = 2 ∧ bits BinOp.and IntKind.i64 3 6 = 2 ∧ bits BinOp.and IntKind.i64 4 6 = 4 ∧ bits BinOp.and IntKind.i64 5 6 = 4 ∧ bits BinOp.and IntKind.i64 6 6 = 6 ∧ bits BinOp.and IntKind.i64 7 6 = 6 ∧ bits BinOp.and IntKind.i64 8 6 = 0 ∧ bits BinOp.and IntKind.i64 9 6 = 0 ∧ bits BinOp.and IntKind.i64 10 6 = 2 ∧ bits BinOp.and IntKind.i64 11 6 = 2 ∧ bits BinOp.and IntKind.i64 12 6 = 4 ∧ bits BinOp.and IntKind.i64 13 6 = 4 ∧ bits BinOp.and IntKind.i64 14 6 = 6 ∧ bits BinOp.and IntKind.i64 15 6 = 6 := by decide +kernel
theorem and_flags8 : bits BinOp.and IntKind.i64 0 8 = 0 ∧ bits BinOp.and IntKind.i64 1 8 = 0 ∧ bits BinOp.and IntKind.i64 2 8 = 0 ∧ bits BinOp.and IntKind.i64 3 8 = 0 ∧ bits BinOp.and IntKind.i64 4 8 = 0 ∧ bits BinOp.and IntKind.i64 5 8 = 0 ∧ bits BinOp.and IntKind.i64 6 8 = 0 ∧ bits BinOp.and IntKind.i64 7 8 = 0 ∧ bits BinOp.and IntKind.i64 8 8 = 8 ∧ bits BinOp.and IntKind.i64 9 8 = 8 ∧ bits BinOp.and IntKind.i64 10 8 = 8 ∧ bits BinOp.and IntKind.i64 11 8 = 8 ∧ bits BinOp.and IntKind.i64 12 8 = 8 ∧ bits BinOp.and IntKind.i64 13 8 = 8 ∧ bits BinOp.and IntKind.i64 14 8 = 8 ∧ bits BinOp.and IntKind.i64 15 8 = 8 := by decide +kernel
def hdFlag3 (f : Int) : Bool := decide (f = 0 ∨ f = 1 ∨ f = 2 ∨ f = 3 ∨ f = 4 ∨ f = 5 ∨ f = 10 ∨ f = 11 ∨ f = 12 ∨ f = 13)
set_option maxHeartbeats 4000000 in
set_option maxRecDepth 10000 in
theorem hdFlag3_any (f : Int) (w : World) : Calls Tryz.prog 179 #[.int .i64 3, .int .i64 f] w fun e w' => e = .returned (.bool (hdFlag3 f)) ∧ w = w' := by
  by_cases h0 : f < 0
  · have HX : Hid (hdFlag3 f = false) := Lib.hid (decide_eq_false (by omega))
    go_enter Tryz.func179, Tryz.ntmps179
    go_wp2
    go_ret
    exact ⟨by rw [HX.out]; rfl, rfl⟩
  by_cases h1 : 15 < f
  · have HX : Hid (hdFlag3 f = false) := Lib.hid (decide_eq_false (by omega))
    have d0 : decide (f < 0) = false := decide_eq_false h0
    clear h0
    go_enter Tryz.func179, Tryz.ntmps179
    go_wp2
    go_ret
    exact ⟨by rw [HX.out]; rfl, rfl⟩
  obtain ⟨a0, a1, a2, a3, a4, a5, a6, a7, a8, a9, a10, a11, a12, a13, a14, a15⟩ := and_flags6
  obtain ⟨b0, b1, b2, b3, b4, b5, b6, b7, b8, b9, b10, b11, b12, b13, b14, b15⟩ := and_flags8
  obtain rfl | rfl | rfl | rfl | rfl | rfl | rfl | rfl | rfl | rfl | rfl | rfl | rfl | rfl | rfl | rfl : f = 0 ∨ f = 1 ∨ f = 2 ∨ f = 3 ∨ f = 4 ∨ f = 5 ∨ f = 6 ∨ f = 7 ∨ f = 8 ∨ f = 9 ∨ f = 10 ∨ f = 11 ∨ f = 12 ∨ f = 13 ∨ f = 14 ∨ f = 15 := by omega
  all_goals
    clear h0 h1
    go_enter Tryz.func179, Tryz.ntmps179
    go_wp2
    go_ret
    exact ⟨rfl, rfl⟩
set_option maxHeartbeats 400000 in
set_option maxRecDepth 10000 in
theorem size0_any (w : World) : Calls Tryz.prog 180 #[.int .i64 0] w fun e w' => e = .returned (.int .i64 1) ∧ Below w.heap.size w w' := by
  have HB := Lib.hid (Below.refl w.heap.size w)
  go_enter Tryz.func180, Tryz.ntmps180
  go_wp2_with fail
  refine (mayV_any 0 _).mono ?_
  rintro e w1 ⟨rfl, rfl⟩
  have hm : mayV 0 = true := by decide
  go_wp2
  go_loopw [0, 3] (fun v o wr => v = .int .i64 0 ∧ o = .int .i64 1 ∧ Below w.heap.size w wr) (fun _ _ _ => 0)
  case atStart => exact ⟨rfl, rfl, HB.out⟩
  case round =>
    obtain ⟨rfl, rfl, hbel⟩ := hrel
    clear hm
    go_wp2
    go_ret
    exact ⟨rfl, hbel⟩
def hdCheck3 (v f : Int) : Int := if hdKnown v = false then 2 else if hdFlag3 f = false then 7 else 0
set_option maxHeartbeats 400000 in
set_option maxRecDepth 10000 in
theorem hdCheck3_any (v f : Int) (w : World) : Calls Tryz.prog 129 #[.int .i64 v, .agg #[.int .i64 3, .int .i64 f, .int .i64 0]] w fun e w' => e = .returned (.int .i64 (hdCheck3 v f)) ∧ Below w.heap.size w w' := by
  have HE : Hid (hdCheck3 v f = if hdKnown v = false then 2 else if hdFlag3 f = false then 7 else 0) := Lib.hid rfl
  have HB := Lib.hid ((Below.refl w.heap.size w).alloc (Nat.le_refl _) (.cells #[.int .i64 3, .int .i64 f, .int .i64 0] 112))
  go_enter Tryz.func129, Tryz.ntmps129
  go_wp2_with fail
  refine (hdKnown_any v _).mono ?_
  rintro e w1 ⟨rfl, rfl⟩
  cases hk : hdKnown v
  · have HX : Hid (hdCheck3 v f = 2) := Lib.hid (by rw [HE.out, if_pos hk])
    clear hk
    go_wp2
    go_ret
    exact ⟨by rw [HX.out]; rfl, HB.out⟩
  have HE1 : Hid (hdCheck3 v f = if hdFlag3 f = false then 7 else 0) := Lib.hid (by rw [HE.out, if_neg (fun x => by rw [hk] at x; cases x)])
  have hk3 : hdKinds v 3 = true := decide_eq_true (by omega)
  clear hk HE
  have k1 : (w.alloc (.cells #[.int .i64 3, .int .i64 f, .int .i64 0] 112)).cell? ⟨w.heap.size, 0, none⟩ = some (.int .i64 3) := (Bk.fresh w 112 _).cell 0
  have k2 : (w.alloc (.cells #[.int .i64 3, .int .i64 f, .int .i64 0] 112)).cell? ⟨w.heap.size, 1, none⟩ = some (.int .i64 f) := (Bk.fresh w 112 _).cell 1
  have k3 : (w.alloc (.cells #[.int .i64 3, .int .i64 f, .int .i64 0] 112)).cell? ⟨w.heap.size, 2, none⟩ = some (.int .i64 0) := (Bk.fresh w 112 _).cell 2
  go_wp2_with fail
  refine (hdKinds_any v 3 _).mono ?_
  rintro e w1 ⟨rfl, rfl⟩
  go_wp2_with fail
  refine (hdFlag3_any f _).mono ?_
  rintro e w1 ⟨rfl, rfl⟩
  cases hk : hdFlag3 f
  · have HX : Hid (hdCheck3 v f = 7) := Lib.hid (by rw [HE1.out, if_pos hk])
    clear hk
    go_wp2
    go_ret
    exact ⟨by rw [HX.out]; rfl, HB.out⟩
  have HX : Hid (hdCheck3 v f = 0) := Lib.hid (by rw [HE1.out, if_neg (fun x => by rw [hk] at x; cases x)])
  clear hk HE1
  go_wp2_with fail
  refine (size0_any _).mono ?_
  rintro e w1 ⟨rfl, hb⟩
  have HB2 := Lib.hid (HB.out.trans (hb.mono HB.out.size)); clear hb
  go_wp2
  go_ret
  exact ⟨by rw [HX.out]; rfl, HB2.out⟩
end Go.Proofs.YtbdgkkmbnahgiaaGreatDoor

