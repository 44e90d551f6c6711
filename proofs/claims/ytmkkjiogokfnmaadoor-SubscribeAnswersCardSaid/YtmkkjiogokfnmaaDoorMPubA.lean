/-
  head: the walks of known, kinds, fixed, Flags; publish.known, when.
  A packet's block, kept whole in the walk while its fields are stored.
  publish: the walks of Alias, fields, named.
  publish: the walks of Valid's looks, of Valid.
  publish: the walk of Body.
  head: the walks of flagged, Check (of a PUBLISH), varint.Size of nought.
-/
import Derived.Test.YtmkkjiogokfnmaaDoorMAck
import Derived.Test.YtmkkjiogokfnmaaDoorMLis

namespace Go.Proofs.YtmkkjiogokfnmaaDoor
open Go.RowKit
attribute [local go_sem ↓] to_ldPk to_bxPk to_bdPk to_alPk to_stPk
attribute [local go_sem] run_bxPk run_bxPk_agg ld_fresh run_alPk run_bd0 run_bdK run_bdKI run_bdKIC run_bdKC run_bdKICP run_stPk_fresh pkC_0 pkC_1 pkC_2 pkC_3 pkC_4 pkC_5 pkC_6 pkC_7 pkC_8 pkC_9 pkC_10 pkC_11 pkC_12 pkC_13 pkC_14 pkC_15 pkC_16 pkC_17 pkC_18 pkC_19 pkC_20 pkC_21 pkC_22 pkC_23 pkC_24
theorem emptyB_iff (s : ByteArray) : s.toList.isEmpty = decide (s.size = 0) := by
  cases hz : s.toList.isEmpty
  · exact (decide_eq_false (fun x => by
      have : s = ⟨#[]⟩ := ls_ext (by rw [show ls (⟨#[]⟩ : ByteArray) = [] from rfl]; exact List.eq_nil_of_length_eq_zero (by rw [ls_len]; exact x))
      rw [this] at hz
      exact absurd hz (by decide +kernel))).symm
  · exact (decide_eq_true (empty_size hz)).symm
def hdKnown (v : Int) : Bool := decide (v = 4 ∨ v = 5)
def hdKinds (v k : Int) : Bool := decide (1 ≤ k ∧ (k ≤ 14 ∨ (k = 15 ∧ v = 5)))
def hdFixed (k : Int) : Int := if k = 6 ∨ k = 8 ∨ k = 10 then 2 else 0
def flagsP (p : Pk) : Int := 2 * p.qos + (if p.retain = true then 1 else 0) + (if p.dup = true then 8 else 0)
def badQ (p : Pk) : Bool := decide (p.qos < 0 ∨ 2 < p.qos ∨ (p.qos = 0 ∧ p.dup = true))
def hdFlags (v : Int) (p : Pk) : Int × Int :=
  if hdKnown v = false then (0, 2) else if hdKinds v p.kind = false then (0, 8) else if p.kind ≠ 3 then (hdFixed p.kind, 0) else if badQ p = true then (0, 7) else (flagsP p, 0)
theorem or_flags : bits BinOp.or IntKind.i64 0 1 = 1 ∧ bits BinOp.or IntKind.i64 2 1 = 3 ∧ bits BinOp.or IntKind.i64 4 1 = 5 ∧ bits BinOp.or IntKind.i64 0 8 = 8 ∧ bits BinOp.or IntKind.i64 1 8 = 9 ∧ bits BinOp.or IntKind.i64 2 8 = 10 ∧ bits BinOp.or IntKind.i64 3 8 = 11 ∧ bits BinOp.or IntKind.i64 4 8 = 12 ∧ bits BinOp.or IntKind.i64 5 8 = 13 := by decide +kernel
end Go.Proofs.YtmkkjiogokfnmaaDoor

namespace Go.Proofs.YtmkkjiogokfnmaaDoor
open Go.RowKit

def stF (t : TypeId) (a v : Value) : Sem Unit := Instr.storeAt t a v
theorem to_stF (t : TypeId) (a v : Value) : Instr.storeAt t a v = stF t a v := rfl
theorem run_stF {P : Program} {w : World} {g i : Nat} {t : TypeId} {v : Value} (hi : (P.info? t).map (·.size) = some 1) (hv : v.cells = #[v]) (h1 : v.oneCell' = true) (ht : w.there g i 1) : (stF t (.pointer (some ⟨g, i, none⟩)) v).run P w = .ok () (w.setCell ⟨g, i, none⟩ v) := by
  have e : Instr.storeAt t (.pointer (some ⟨g, i, none⟩)) v = Instr.storeAt t (.pointer (some ⟨g, i, none⟩)) (.agg #[v]) := by
    unfold Instr.storeAt storeVar
    rw [hv]
    rfl
  unfold stF
  rw [e, run_storeAt_mid w g i t #[v] ht hi (by simpa using h1)]
  rfl
/-- Block g is a packet's block of these cells. -/
def pw (W : World) (g : Nat) (cs : Array Value) : World := { W with heap := W.heap.setIfInBounds g (.cells cs PkT (0, 0)) }
section
variable (W : World) (g : Nat) (cs : Array Value)
theorem pw_size : (pw W g cs).heap.size = W.heap.size := by simp [pw]
theorem pw_bk (hg : g < W.heap.size) : Bk (pw W g cs) g PkT cs := by
  unfold Bk pw
  simp [hg]
theorem pw_drew : (pw W g cs).drew = pw W.drew g cs := rfl
theorem pw_self (hb : Bk W g PkT cs) : pw W g cs = W := by
  have hh : W.heap.setIfInBounds g (.cells cs PkT (0, 0)) = W.heap := by
    apply Array.ext_getElem?
    intro k
    by_cases hk : k = g
    · subst hk
      have := hb
      unfold Bk at this
      rw [this]
      simp [hb.lt]
    · rw [Array.getElem?_setIfInBounds_ne (fun e => hk e.symm)]
  unfold pw
  rw [hh]
theorem pw_other {k : Nat} (hk : k ≠ g) : (pw W g cs).heap[k]? = W.heap[k]? := by
  unfold pw
  exact Array.getElem?_setIfInBounds_ne (fun e => hk e.symm)
theorem pw_grown : W.grownBy (pw W g cs) (some g) := ⟨rfl, rfl, rfl, by rw [pw_size]; exact Nat.le_refl _, fun k _ hk => pw_other W g cs (fun e => hk (by rw [e]))⟩
theorem pw_below {w : World} (h : Below w.heap.size w W) (hg : w.heap.size ≤ g) : Below w.heap.size w (pw W g cs) := below_mod h (pw_grown W g cs) h.size hg
theorem pw_put (i : Nat) (u : Value) (hg : g < W.heap.size) : (pw W g cs).setCell ⟨g, i, none⟩ u = pw W g (cs.setIfInBounds i u) := by
  have hh : (W.heap.setIfInBounds g (.cells cs PkT (0, 0))).modify g (fun
      | .cells c elem frozen => .cells (if (none : Option Unit).isSome then c else c.setIfInBounds i u) elem frozen
      | o => o) = W.heap.setIfInBounds g (.cells (cs.setIfInBounds i u) PkT (0, 0)) := by
    apply Array.ext_getElem?
    intro k
    rw [Array.getElem?_modify]
    by_cases hk : g = k
    · subst hk
      simp [hg]
    · rw [if_neg hk, Array.getElem?_setIfInBounds_ne hk, Array.getElem?_setIfInBounds_ne hk]
  unfold World.setCell pw
  exact congrArg (fun x => { W with heap := x }) hh
theorem pw_there (i k : Nat) (hg : g < W.heap.size) (hi : i + k ≤ cs.size) : (pw W g cs).there g i k := fun j hj => by
  rw [(pw_bk W g cs hg).cell, (pw_bk W g cs hg).free]
  refine ⟨?_, rfl⟩
  rw [Array.getElem?_eq_getElem (by omega)]
  rfl
theorem pw_store {P : Program} {t : TypeId} {v : Value} {i : Nat} {ds : Array Value} (hi : (P.info? t).map (·.size) = some 1) (hv : v.cells = #[v]) (h1 : v.oneCell' = true) (hlt : i < cs.size) (he : cs.setIfInBounds i v = ds) (hg : g < W.heap.size) :
    (stF t (.pointer (some ⟨g, i, none⟩)) v).run P (pw W g cs) = .ok () (pw W g ds) := by
  subst he
  rw [run_stF hi hv h1 (pw_there W g cs i 1 hg (by omega)), pw_put W g cs i v hg]
theorem ld_pw (p : Pk) (h : Hs) (hg : g < W.heap.size) : (ldPk (.pointer (some ⟨g, 0, none⟩))).run Tryd.prog (pw W g (pkC p h)) = .ok (pkV p h) (pw W g (pkC p h)) := ld_bk (pw_bk W g (pkC p h) hg)
theorem pw_at (p : Pk) (h : Hs) (hg : g < W.heap.size) (i : Nat) : (pw W g (pkC p h)).cell? ⟨g, i, none⟩ = (pkC p h)[i]? := (pw_bk W g (pkC p h) hg).cell i
theorem pw_free (hg : g < W.heap.size) (i : Nat) : (pw W g cs).frozen? ⟨g, i, none⟩ = false := (pw_bk W g cs hg).free i
end
theorem info_i : (Tryd.prog.info? 3).map (·.size) = some 1 := by kernel_rfl
theorem info_b : (Tryd.prog.info? 4).map (·.size) = some 1 := by kernel_rfl
theorem info_s : (Tryd.prog.info? 9).map (·.size) = some 1 := by kernel_rfl
theorem info_lc : (Tryd.prog.info? 24).map (·.size) = some 1 := by kernel_rfl
theorem info_lf : (Tryd.prog.info? 30).map (·.size) = some 1 := by kernel_rfl
theorem info_lp : (Tryd.prog.info? 27).map (·.size) = some 1 := by kernel_rfl
section
variable (W : World) (g : Nat) (p : Pk) (h : Hs)
theorem pw_st0 (x : Int) (hg : g < W.heap.size) : (stF 3 (.pointer (some ⟨g, 0, none⟩)) (.int .i64 x)).run Tryd.prog (pw W g (pkC p h)) = .ok () (pw W g (pkC { p with kind := x } h)) := pw_store W g _ info_i rfl rfl (by rw [pkC_size]; decide) rfl hg
theorem pw_dst0 (x : Int) (hg : g < W.heap.size) : (stF 3 (.pointer (some ⟨g, 0, none⟩)) (.int .i64 x)).run Tryd.prog (pw W g (pkC p h)).drew = .ok () (pw W g (pkC { p with kind := x } h)).drew := pw_st0 W.drew g p h x hg
theorem pw_st1 (x : Bool) (hg : g < W.heap.size) : (stF 4 (.pointer (some ⟨g, 1, none⟩)) (.bool x)).run Tryd.prog (pw W g (pkC p h)) = .ok () (pw W g (pkC { p with dup := x } h)) := pw_store W g _ info_b rfl rfl (by rw [pkC_size]; decide) rfl hg
theorem pw_dst1 (x : Bool) (hg : g < W.heap.size) : (stF 4 (.pointer (some ⟨g, 1, none⟩)) (.bool x)).run Tryd.prog (pw W g (pkC p h)).drew = .ok () (pw W g (pkC { p with dup := x } h)).drew := pw_st1 W.drew g p h x hg
theorem pw_st2 (x : Bool) (hg : g < W.heap.size) : (stF 4 (.pointer (some ⟨g, 2, none⟩)) (.bool x)).run Tryd.prog (pw W g (pkC p h)) = .ok () (pw W g (pkC { p with retain := x } h)) := pw_store W g _ info_b rfl rfl (by rw [pkC_size]; decide) rfl hg
theorem pw_dst2 (x : Bool) (hg : g < W.heap.size) : (stF 4 (.pointer (some ⟨g, 2, none⟩)) (.bool x)).run Tryd.prog (pw W g (pkC p h)).drew = .ok () (pw W g (pkC { p with retain := x } h)).drew := pw_st2 W.drew g p h x hg
theorem pw_st3 (x : Int) (hg : g < W.heap.size) : (stF 3 (.pointer (some ⟨g, 3, none⟩)) (.int .i64 x)).run Tryd.prog (pw W g (pkC p h)) = .ok () (pw W g (pkC { p with qos := x } h)) := pw_store W g _ info_i rfl rfl (by rw [pkC_size]; decide) rfl hg
theorem pw_dst3 (x : Int) (hg : g < W.heap.size) : (stF 3 (.pointer (some ⟨g, 3, none⟩)) (.int .i64 x)).run Tryd.prog (pw W g (pkC p h)).drew = .ok () (pw W g (pkC { p with qos := x } h)).drew := pw_st3 W.drew g p h x hg
theorem pw_st4 (x : Int) (hg : g < W.heap.size) : (stF 3 (.pointer (some ⟨g, 4, none⟩)) (.int .i64 x)).run Tryd.prog (pw W g (pkC p h)) = .ok () (pw W g (pkC { p with id := x } h)) := pw_store W g _ info_i rfl rfl (by rw [pkC_size]; decide) rfl hg
theorem pw_dst4 (x : Int) (hg : g < W.heap.size) : (stF 3 (.pointer (some ⟨g, 4, none⟩)) (.int .i64 x)).run Tryd.prog (pw W g (pkC p h)).drew = .ok () (pw W g (pkC { p with id := x } h)).drew := pw_st4 W.drew g p h x hg
theorem pw_st5 (x : ByteArray) (hg : g < W.heap.size) : (stF 9 (.pointer (some ⟨g, 5, none⟩)) (.string x)).run Tryd.prog (pw W g (pkC p h)) = .ok () (pw W g (pkC { p with topic := x } h)) := pw_store W g _ info_s rfl rfl (by rw [pkC_size]; decide) rfl hg
theorem pw_dst5 (x : ByteArray) (hg : g < W.heap.size) : (stF 9 (.pointer (some ⟨g, 5, none⟩)) (.string x)).run Tryd.prog (pw W g (pkC p h)).drew = .ok () (pw W g (pkC { p with topic := x } h)).drew := pw_st5 W.drew g p h x hg
theorem pw_st6 (x : ByteArray) (hg : g < W.heap.size) : (stF 9 (.pointer (some ⟨g, 6, none⟩)) (.string x)).run Tryd.prog (pw W g (pkC p h)) = .ok () (pw W g (pkC { p with payload := x } h)) := pw_store W g _ info_s rfl rfl (by rw [pkC_size]; decide) rfl hg
theorem pw_dst6 (x : ByteArray) (hg : g < W.heap.size) : (stF 9 (.pointer (some ⟨g, 6, none⟩)) (.string x)).run Tryd.prog (pw W g (pkC p h)).drew = .ok () (pw W g (pkC { p with payload := x } h)).drew := pw_st6 W.drew g p h x hg
theorem pw_st7 (x : Bool) (hg : g < W.heap.size) : (stF 4 (.pointer (some ⟨g, 7, none⟩)) (.bool x)).run Tryd.prog (pw W g (pkC p h)) = .ok () (pw W g (pkC { p with clean := x } h)) := pw_store W g _ info_b rfl rfl (by rw [pkC_size]; decide) rfl hg
theorem pw_dst7 (x : Bool) (hg : g < W.heap.size) : (stF 4 (.pointer (some ⟨g, 7, none⟩)) (.bool x)).run Tryd.prog (pw W g (pkC p h)).drew = .ok () (pw W g (pkC { p with clean := x } h)).drew := pw_st7 W.drew g p h x hg
theorem pw_st8 (x : Int) (hg : g < W.heap.size) : (stF 3 (.pointer (some ⟨g, 8, none⟩)) (.int .i64 x)).run Tryd.prog (pw W g (pkC p h)) = .ok () (pw W g (pkC { p with alive := x } h)) := pw_store W g _ info_i rfl rfl (by rw [pkC_size]; decide) rfl hg
theorem pw_dst8 (x : Int) (hg : g < W.heap.size) : (stF 3 (.pointer (some ⟨g, 8, none⟩)) (.int .i64 x)).run Tryd.prog (pw W g (pkC p h)).drew = .ok () (pw W g (pkC { p with alive := x } h)).drew := pw_st8 W.drew g p h x hg
theorem pw_st9 (x : ByteArray) (hg : g < W.heap.size) : (stF 9 (.pointer (some ⟨g, 9, none⟩)) (.string x)).run Tryd.prog (pw W g (pkC p h)) = .ok () (pw W g (pkC { p with client := x } h)) := pw_store W g _ info_s rfl rfl (by rw [pkC_size]; decide) rfl hg
theorem pw_dst9 (x : ByteArray) (hg : g < W.heap.size) : (stF 9 (.pointer (some ⟨g, 9, none⟩)) (.string x)).run Tryd.prog (pw W g (pkC p h)).drew = .ok () (pw W g (pkC { p with client := x } h)).drew := pw_st9 W.drew g p h x hg
theorem pw_st10 (x : Bool) (hg : g < W.heap.size) : (stF 4 (.pointer (some ⟨g, 10, none⟩)) (.bool x)).run Tryd.prog (pw W g (pkC p h)) = .ok () (pw W g (pkC { p with hasUser := x } h)) := pw_store W g _ info_b rfl rfl (by rw [pkC_size]; decide) rfl hg
theorem pw_dst10 (x : Bool) (hg : g < W.heap.size) : (stF 4 (.pointer (some ⟨g, 10, none⟩)) (.bool x)).run Tryd.prog (pw W g (pkC p h)).drew = .ok () (pw W g (pkC { p with hasUser := x } h)).drew := pw_st10 W.drew g p h x hg
theorem pw_st11 (x : ByteArray) (hg : g < W.heap.size) : (stF 9 (.pointer (some ⟨g, 11, none⟩)) (.string x)).run Tryd.prog (pw W g (pkC p h)) = .ok () (pw W g (pkC { p with user := x } h)) := pw_store W g _ info_s rfl rfl (by rw [pkC_size]; decide) rfl hg
theorem pw_dst11 (x : ByteArray) (hg : g < W.heap.size) : (stF 9 (.pointer (some ⟨g, 11, none⟩)) (.string x)).run Tryd.prog (pw W g (pkC p h)).drew = .ok () (pw W g (pkC { p with user := x } h)).drew := pw_st11 W.drew g p h x hg
theorem pw_st12 (x : Bool) (hg : g < W.heap.size) : (stF 4 (.pointer (some ⟨g, 12, none⟩)) (.bool x)).run Tryd.prog (pw W g (pkC p h)) = .ok () (pw W g (pkC { p with hasPass := x } h)) := pw_store W g _ info_b rfl rfl (by rw [pkC_size]; decide) rfl hg
theorem pw_dst12 (x : Bool) (hg : g < W.heap.size) : (stF 4 (.pointer (some ⟨g, 12, none⟩)) (.bool x)).run Tryd.prog (pw W g (pkC p h)).drew = .ok () (pw W g (pkC { p with hasPass := x } h)).drew := pw_st12 W.drew g p h x hg
theorem pw_st13 (x : ByteArray) (hg : g < W.heap.size) : (stF 9 (.pointer (some ⟨g, 13, none⟩)) (.string x)).run Tryd.prog (pw W g (pkC p h)) = .ok () (pw W g (pkC { p with pass := x } h)) := pw_store W g _ info_s rfl rfl (by rw [pkC_size]; decide) rfl hg
theorem pw_dst13 (x : ByteArray) (hg : g < W.heap.size) : (stF 9 (.pointer (some ⟨g, 13, none⟩)) (.string x)).run Tryd.prog (pw W g (pkC p h)).drew = .ok () (pw W g (pkC { p with pass := x } h)).drew := pw_st13 W.drew g p h x hg
theorem pw_st14 (x : Bool) (hg : g < W.heap.size) : (stF 4 (.pointer (some ⟨g, 14, none⟩)) (.bool x)).run Tryd.prog (pw W g (pkC p h)) = .ok () (pw W g (pkC { p with hasWill := x } h)) := pw_store W g _ info_b rfl rfl (by rw [pkC_size]; decide) rfl hg
theorem pw_dst14 (x : Bool) (hg : g < W.heap.size) : (stF 4 (.pointer (some ⟨g, 14, none⟩)) (.bool x)).run Tryd.prog (pw W g (pkC p h)).drew = .ok () (pw W g (pkC { p with hasWill := x } h)).drew := pw_st14 W.drew g p h x hg
theorem pw_st15 (x : ByteArray) (hg : g < W.heap.size) : (stF 9 (.pointer (some ⟨g, 15, none⟩)) (.string x)).run Tryd.prog (pw W g (pkC p h)) = .ok () (pw W g (pkC { p with will := { p.will with topic := x } } h)) := pw_store W g _ info_s rfl rfl (by rw [pkC_size]; decide) rfl hg
theorem pw_dst15 (x : ByteArray) (hg : g < W.heap.size) : (stF 9 (.pointer (some ⟨g, 15, none⟩)) (.string x)).run Tryd.prog (pw W g (pkC p h)).drew = .ok () (pw W g (pkC { p with will := { p.will with topic := x } } h)).drew := pw_st15 W.drew g p h x hg
theorem pw_st16 (x : ByteArray) (hg : g < W.heap.size) : (stF 9 (.pointer (some ⟨g, 16, none⟩)) (.string x)).run Tryd.prog (pw W g (pkC p h)) = .ok () (pw W g (pkC { p with will := { p.will with payload := x } } h)) := pw_store W g _ info_s rfl rfl (by rw [pkC_size]; decide) rfl hg
theorem pw_dst16 (x : ByteArray) (hg : g < W.heap.size) : (stF 9 (.pointer (some ⟨g, 16, none⟩)) (.string x)).run Tryd.prog (pw W g (pkC p h)).drew = .ok () (pw W g (pkC { p with will := { p.will with payload := x } } h)).drew := pw_st16 W.drew g p h x hg
theorem pw_st17 (x : Int) (hg : g < W.heap.size) : (stF 3 (.pointer (some ⟨g, 17, none⟩)) (.int .i64 x)).run Tryd.prog (pw W g (pkC p h)) = .ok () (pw W g (pkC { p with will := { p.will with qos := x } } h)) := pw_store W g _ info_i rfl rfl (by rw [pkC_size]; decide) rfl hg
theorem pw_dst17 (x : Int) (hg : g < W.heap.size) : (stF 3 (.pointer (some ⟨g, 17, none⟩)) (.int .i64 x)).run Tryd.prog (pw W g (pkC p h)).drew = .ok () (pw W g (pkC { p with will := { p.will with qos := x } } h)).drew := pw_st17 W.drew g p h x hg
theorem pw_st18 (x : Bool) (hg : g < W.heap.size) : (stF 4 (.pointer (some ⟨g, 18, none⟩)) (.bool x)).run Tryd.prog (pw W g (pkC p h)) = .ok () (pw W g (pkC { p with will := { p.will with retain := x } } h)) := pw_store W g _ info_b rfl rfl (by rw [pkC_size]; decide) rfl hg
theorem pw_dst18 (x : Bool) (hg : g < W.heap.size) : (stF 4 (.pointer (some ⟨g, 18, none⟩)) (.bool x)).run Tryd.prog (pw W g (pkC p h)).drew = .ok () (pw W g (pkC { p with will := { p.will with retain := x } } h)).drew := pw_st18 W.drew g p h x hg
theorem pw_st20 (x : Bool) (hg : g < W.heap.size) : (stF 4 (.pointer (some ⟨g, 20, none⟩)) (.bool x)).run Tryd.prog (pw W g (pkC p h)) = .ok () (pw W g (pkC { p with session := x } h)) := pw_store W g _ info_b rfl rfl (by rw [pkC_size]; decide) rfl hg
theorem pw_dst20 (x : Bool) (hg : g < W.heap.size) : (stF 4 (.pointer (some ⟨g, 20, none⟩)) (.bool x)).run Tryd.prog (pw W g (pkC p h)).drew = .ok () (pw W g (pkC { p with session := x } h)).drew := pw_st20 W.drew g p h x hg
theorem pw_st21 (x : Int) (hg : g < W.heap.size) : (stF 3 (.pointer (some ⟨g, 21, none⟩)) (.int .i64 x)).run Tryd.prog (pw W g (pkC p h)) = .ok () (pw W g (pkC { p with code := x } h)) := pw_store W g _ info_i rfl rfl (by rw [pkC_size]; decide) rfl hg
theorem pw_dst21 (x : Int) (hg : g < W.heap.size) : (stF 3 (.pointer (some ⟨g, 21, none⟩)) (.int .i64 x)).run Tryd.prog (pw W g (pkC p h)).drew = .ok () (pw W g (pkC { p with code := x } h)).drew := pw_st21 W.drew g p h x hg
theorem pw_st22 (l : List Int) (A : Option Addr) (n : Nat) (hg : g < W.heap.size) : (stF 24 (.pointer (some ⟨g, 22, none⟩)) (.slice A l.length n)).run Tryd.prog (pw W g (pkC p h)) = .ok () (pw W g (pkC { p with codes := l } { h with codes := ⟨A, n⟩ })) := pw_store W g _ info_lc rfl rfl (by rw [pkC_size]; decide) rfl hg
theorem pw_nil22 (hg : g < W.heap.size) : (stF 24 (.pointer (some ⟨g, 22, none⟩)) (.slice none 0 0)).run Tryd.prog (pw W g (pkC p h)) = .ok () (pw W g (pkC { p with codes := [] } { h with codes := hd0 })) := pw_store W g _ info_lc rfl rfl (by rw [pkC_size]; decide) rfl hg
theorem pw_st23 (l : List Fi) (A : Option Addr) (n : Nat) (hg : g < W.heap.size) : (stF 30 (.pointer (some ⟨g, 23, none⟩)) (.slice A l.length n)).run Tryd.prog (pw W g (pkC p h)) = .ok () (pw W g (pkC { p with filters := l } { h with filters := ⟨A, n⟩ })) := pw_store W g _ info_lf rfl rfl (by rw [pkC_size]; decide) rfl hg
theorem pw_nil23 (hg : g < W.heap.size) : (stF 30 (.pointer (some ⟨g, 23, none⟩)) (.slice none 0 0)).run Tryd.prog (pw W g (pkC p h)) = .ok () (pw W g (pkC { p with filters := [] } { h with filters := hd0 })) := pw_store W g _ info_lf rfl rfl (by rw [pkC_size]; decide) rfl hg
theorem pw_st24 (l : List Pr) (A : Option Addr) (n : Nat) (hg : g < W.heap.size) : (stF 27 (.pointer (some ⟨g, 24, none⟩)) (.slice A l.length n)).run Tryd.prog (pw W g (pkC p h)) = .ok () (pw W g (pkC { p with props := l } { h with props := ⟨A, n⟩ })) := pw_store W g _ info_lp rfl rfl (by rw [pkC_size]; decide) rfl hg
theorem pw_nil24 (hg : g < W.heap.size) : (stF 27 (.pointer (some ⟨g, 24, none⟩)) (.slice none 0 0)).run Tryd.prog (pw W g (pkC p h)) = .ok () (pw W g (pkC { p with props := [] } { h with props := hd0 })) := pw_store W g _ info_lp rfl rfl (by rw [pkC_size]; decide) rfl hg
theorem pw_stwp (l : List Pr) (A : Option Addr) (n : Nat) (hg : g < W.heap.size) : (stF 27 (.pointer (some ⟨g, 19, none⟩)) (.slice A l.length n)).run Tryd.prog (pw W g (pkC p h)) = .ok () (pw W g (pkC { p with will := { p.will with props := l } } { h with wp := ⟨A, n⟩ })) := pw_store W g _ info_lp rfl rfl (by rw [pkC_size]; decide) rfl hg
def ldWl (v : Value) : Sem Value := Instr.loadAt WlT v
def stWl (a v : Value) : Sem Unit := Instr.storeAt WlT a v
theorem to_ldWl (v : Value) : Instr.loadAt WlT v = ldWl v := rfl
theorem to_stWl (a v : Value) : Instr.storeAt WlT a v = stWl a v := rfl
end
theorem info_wl : (Tryd.prog.info? WlT).map (·.size) = some 5 := by kernel_rfl
theorem wlC_one (x : Wl) (k : Hd) : (wlC x k).all (·.oneCell') = true := by simp [wlC, Value.oneCell']
/-- A will loaded out of a packet. -/
theorem ld_wl {w : World} {g : Nat} {p : Pk} {h : Hs} (hb : Bk w g PkT (pkC p h)) : (ldWl (.pointer (some ⟨g, 15, none⟩))).run Tryd.prog w = .ok (wlV p.will h.wp) w := by
  unfold ldWl
  have hc : w.rangeAt g 15 (wlC p.will h.wp).toList := fun j v hv => by
    rw [hb.cell]
    rcases j with _ | _ | _ | _ | _ | j
    · exact hv
    · exact hv
    · exact hv
    · exact hv
    · exact hv
    · simp [wlC] at hv
  exact run_loadAt_mid w g 15 WlT (wlC p.will h.wp).toList _ hc Tryd.underlying29 rfl (by rw [Array.length_toList]; exact info_wl)
theorem pw_puts (W : World) (g : Nat) (hg : g < W.heap.size) : ∀ (vs : List Value) (o : Nat) (cs : Array Value), (pw W g cs).setCells g o vs = pw W g (putA cs o vs)
  | [], _, _ => rfl
  | v :: vs, o, cs => by rw [World.setCells, pw_put W g cs o v hg, pw_puts W g hg vs (o + 1) _, putA]
/-- A whole will stored into a packet. -/
theorem pw_stwl (W : World) (g : Nat) (p : Pk) (h : Hs) (x : Wl) (k : Hd) (hg : g < W.heap.size) : (stWl (.pointer (some ⟨g, 15, none⟩)) (wlV x k)).run Tryd.prog (pw W g (pkC p h)) = .ok () (pw W g (pkC { p with will := x } { h with wp := k })) := by
  unfold stWl
  refine (run_storeAt_mid (pw W g (pkC p h)) g 15 WlT (wlC x k) (pw_there W g _ 15 5 hg (by rw [pkC_size]; decide)) info_wl (wlC_one x k)).trans ?_
  rw [pw_puts W g hg, show putA (pkC p h) 15 (wlC x k).toList = pkC { p with will := x } { h with wp := k } from rfl]
theorem pw_dstwl (W : World) (g : Nat) (p : Pk) (h : Hs) (x : Wl) (k : Hd) (hg : g < W.heap.size) : (stWl (.pointer (some ⟨g, 15, none⟩)) (wlV x k)).run Tryd.prog (pw W g (pkC p h)).drew = .ok () (pw W g (pkC { p with will := x } { h with wp := k })).drew := pw_stwl W.drew g p h x k hg
theorem pw_stwl0 (W : World) (g : Nat) (p : Pk) (h : Hs) (hg : g < W.heap.size) : (stWl (.pointer (some ⟨g, 15, none⟩)) (.agg #[.string ⟨#[]⟩, .string ⟨#[]⟩, .int .i64 0, .bool false, .slice none 0 0])).run Tryd.prog (pw W g (pkC p h)) = .ok () (pw W g (pkC { p with will := wl0 } { h with wp := hd0 })) := pw_stwl W g p h wl0 hd0 hg
theorem run_bdWl0 (w : World) : (Instr.build WlT #[]).run Tryd.prog w = .ok (wlV wl0 hd0) w := by kernel_rfl
end Go.Proofs.YtmkkjiogokfnmaaDoor

namespace Go.Proofs.YtmkkjiogokfnmaaDoor
open Go.RowKit
attribute [local go_sem ↓] to_ldPk to_bxPk to_bdPk to_alPk to_stPk
attribute [local go_sem] run_bxPk run_bxPk_agg ld_fresh run_alPk run_bd0 run_bdK run_bdKI run_bdKIC run_bdKC run_bdKICP run_stPk_fresh pkC_0 pkC_1 pkC_2 pkC_3 pkC_4 pkC_5 pkC_6 pkC_7 pkC_8 pkC_9 pkC_10 pkC_11 pkC_12 pkC_13 pkC_14 pkC_15 pkC_16 pkC_17 pkC_18 pkC_19 pkC_20 pkC_21 pkC_22 pkC_23 pkC_24
/-- A packet with nothing but what a PUBLISH may have. -/
def pubQ (p : Pk) : Pk := { pk0 with kind := p.kind, dup := p.dup, retain := p.retain, qos := p.qos, id := p.id, topic := p.topic, payload := p.payload, props := p.props }
def pubF (v : Int) (p : Pk) : Bool := decide (p = pubQ p ∧ ¬ (v = 4 ∧ 0 < p.props.length) ∧ (p.qos = 0 → p.id = 0) ∧ (p.qos ≠ 0 → 0 < p.id ∧ p.id < 65536))
def aliasB (p : Pk) : Bool := (getP p.props 35).isSome
def pubN (v : Int) (p : Pk) : Bool := nameB p.topic || (decide (v = 5) && (aliasB p && decide (p.topic.size = 0)))
theorem getR_n (l : List Pr) (id : Int) (h : ∀ p ∈ l, prGood p) : (getR l id).n < 4294967296 := by
  unfold getR
  cases hg : getP l id with
  | none => simp
  | some q => exact (h q (List.mem_of_find?_eq_some hg)).1
attribute [local go_sem ↓ high] to_stPk to_stWl to_ldWl
attribute [local go_sem ↓] to_stF
attribute [local go_sem] ld_pw pw_at pw_stwl pw_stwl0 pw_stwp pw_st0 pw_st1 pw_st2 pw_st3 pw_st4 pw_st5 pw_st6 pw_st7 pw_st8 pw_st9 pw_st10 pw_st11 pw_st12 pw_st13 pw_st14 pw_st15 pw_st16 pw_st17 pw_st18 pw_st20 pw_st21 pw_st22 pw_nil22 pw_st23 pw_nil23 pw_st24 pw_nil24
/-- A copy of the packet in a block of its own: what the walk needs of it. -/
structure PwIn (w : World) (p : Pk) (h : Hs) (W : World) : Prop where
  below : Below w.heap.size w W
  lt : w.heap.size + 1 < W.heap.size
  bk : Bk W w.heap.size PkT (pkC p h)
theorem PwIn.bk_pw {w W : World} {p : Pk} {h : Hs} (s : PwIn w p h W) (cs : Array Value) : Bk (pw W (w.heap.size + 1) cs) w.heap.size PkT (pkC p h) := (pw_other W (w.heap.size + 1) cs (by omega)).trans s.bk
theorem PwIn.kept {w W : World} {p : Pk} {h : Hs} (s : PwIn w p h W) (cs : Array Value) : Below w.heap.size w (pw W (w.heap.size + 1) cs) := pw_below W _ cs s.below (by omega)
theorem pwIn_start (w : World) (p q : Pk) (h k : Hs) : ∃ W, PwIn w p h W ∧ (stPk (.pointer (some ⟨w.heap.size + 1, 0, none⟩)) (pkV q k)).run Tryd.prog ((w.alloc (.cells (pkC p h) PkT)).alloc (.cells (pkC pk0 hs0) PkT)) = .ok () (pw W (w.heap.size + 1) (pkC q k)) := by
  have B0 := Bk.fresh (w.alloc (.cells (pkC p h) PkT)) PkT (pkC q k)
  have hst := run_stPk_fresh (w.alloc (.cells (pkC p h) PkT)) pk0 q hs0 k
  rw [heap_alloc_size] at hst B0
  have B1 : Below w.heap.size w (w.alloc (.cells (pkC p h) PkT)) := (Below.refl _ _).alloc (Nat.le_refl _) _
  refine ⟨(w.alloc (.cells (pkC p h) PkT)).alloc (.cells (pkC q k) PkT), ⟨B1.alloc B1.size _, by simp, (Bk.fresh w PkT (pkC p h)).alloc _⟩, ?_⟩
  rw [pw_self _ _ _ B0]
  exact hst
end Go.Proofs.YtmkkjiogokfnmaaDoor

namespace Go.Proofs.YtmkkjiogokfnmaaDoor
open Go.RowKit
attribute [local go_sem ↓] to_ldPk to_bxPk to_bdPk to_alPk to_stPk
attribute [local go_sem] run_bxPk run_bxPk_agg ld_fresh run_alPk run_bd0 run_bdK run_bdKI run_bdKIC run_bdKC run_bdKICP run_stPk_fresh pkC_0 pkC_1 pkC_2 pkC_3 pkC_4 pkC_5 pkC_6 pkC_7 pkC_8 pkC_9 pkC_10 pkC_11 pkC_12 pkC_13 pkC_14 pkC_15 pkC_16 pkC_17 pkC_18 pkC_19 pkC_20 pkC_21 pkC_22 pkC_23 pkC_24
/-- What the looks answer. -/
def pubL (v : Int) (p : Pk) (k : Nat) : Int :=
  if k = 0 then (if hdKnown v = true ∧ p.kind = 3 then 0 else 2) else if k = 1 then (hdFlags v p).2 else if k = 2 then (if pubF v p = true then 0 else 2) else if k = 3 then (if pubN v p = true then 0 else 10) else (bytesS 3 p.props).2
def pubE (v : Int) (p : Pk) : Int :=
  if pubL v p 0 ≠ 0 then pubL v p 0 else if pubL v p 1 ≠ 0 then pubL v p 1 else if pubL v p 2 ≠ 0 then pubL v p 2 else if pubL v p 3 ≠ 0 then pubL v p 3 else pubL v p 4
theorem pubE_at {v : Int} {p : Pk} {k : Nat} (hk : k < 5) (h0 : ∀ j, j < k → pubL v p j = 0) (h : pubL v p k ≠ 0) : pubE v p = pubL v p k := by
  unfold pubE
  obtain rfl | rfl | rfl | rfl | rfl : k = 0 ∨ k = 1 ∨ k = 2 ∨ k = 3 ∨ k = 4 := by omega
  · rw [if_pos h]
  · rw [if_neg (fun x => x (h0 0 (by omega))), if_pos h]
  · rw [if_neg (fun x => x (h0 0 (by omega))), if_neg (fun x => x (h0 1 (by omega))), if_pos h]
  · rw [if_neg (fun x => x (h0 0 (by omega))), if_neg (fun x => x (h0 1 (by omega))), if_neg (fun x => x (h0 2 (by omega))), if_pos h]
  · rw [if_neg (fun x => x (h0 0 (by omega))), if_neg (fun x => x (h0 1 (by omega))), if_neg (fun x => x (h0 2 (by omega))), if_neg (fun x => x (h0 3 (by omega)))]
theorem pubE_all {v : Int} {p : Pk} (h0 : ∀ j, j < 5 → pubL v p j = 0) : pubE v p = 0 := by
  unfold pubE
  rw [if_neg (fun x => x (h0 0 (by omega))), if_neg (fun x => x (h0 1 (by omega))), if_neg (fun x => x (h0 2 (by omega))), if_neg (fun x => x (h0 3 (by omega)))]
  exact h0 4 (by omega)

/-- What stands while a packet is looked at: the version's block, the packet's. -/
structure PV (w : World) (gv gp : Nat) (v : Int) (p : Pk) (h : Hs) (x : World) : Prop where
  kept : Below w.heap.size w x
  vb : Bk x gv 3 #[.int .i64 v]
  pk : Bk x gp PkT (pkC p h)
  inn : PkIn x x.heap.size p h
theorem PV.below {w x y : World} {gv gp : Nat} {v : Int} {p : Pk} {h : Hs} (s : PV w gv gp v p h x) (hb : Below x.heap.size x y) : PV w gv gp v p h y :=
  ⟨s.kept.trans (hb.mono s.kept.size), s.vb.below hb s.vb.lt, s.pk.below hb s.pk.lt, s.inn.next hb⟩
/-- What a look leaves. -/
def LookOut (v : Int) (p : Pk) (k : Nat) (x : World) (e : Ending) (y : World) : Prop := e = .returned (.int .i64 (pubL v p k)) ∧ Below x.heap.size x y

end Go.Proofs.YtmkkjiogokfnmaaDoor

namespace Go.Proofs.YtmkkjiogokfnmaaDoor
open Go.RowKit
attribute [local go_sem ↓] to_ldPk to_bxPk to_bdPk to_alPk to_stPk
attribute [local go_sem] run_bxPk run_bxPk_agg ld_fresh run_alPk run_bd0 run_bdK run_bdKI run_bdKIC run_bdKC run_bdKICP run_stPk_fresh pkC_0 pkC_1 pkC_2 pkC_3 pkC_4 pkC_5 pkC_6 pkC_7 pkC_8 pkC_9 pkC_10 pkC_11 pkC_12 pkC_13 pkC_14 pkC_15 pkC_16 pkC_17 pkC_18 pkC_19 pkC_20 pkC_21 pkC_22 pkC_23 pkC_24
/-- What ustring.Text answers. -/
def textUS (s : ByteArray) : ByteArray × Int := if validB s = true then (framedS s, 0) else (⟨#[]⟩, 6)
set_option maxHeartbeats 400000 in
set_option maxRecDepth 10000 in
theorem textU_any (s : ByteArray) (w : World) (hs : s.size ≤ 4611686018427387904) :
    Calls Tryd.prog 22 #[.string s] w fun e w' => e = .returned (.tuple #[.string (textUS s).1, .int .i64 (textUS s).2]) ∧ Below w.heap.size w w' := by
  go_enter Tryd.func22, Tryd.ntmps22
  go_wp2_with fail
  refine (valid_any s _ hs).mono ?_
  rintro e w1 ⟨rfl, hb⟩
  have HB := Lib.hid hb; clear hb
  cases hv : validB s
  · have HX : Hid (textUS s = (⟨#[]⟩, 6)) := Lib.hid (by unfold textUS; rw [if_neg (by rw [hv]; decide)])
    clear hv
    go_wp2
    go_ret2
    exact ⟨by rw [HX.out]; rfl, HB.out⟩
  · have HX : Hid (textUS s = (framedS s, 0)) := Lib.hid (by unfold textUS; rw [if_pos hv])
    have hz := Lib.hid (valid_size hv)
    clear hv
    go_wp2_with fail
    refine (framed_any s _ hz.out).mono ?_
    rintro e w2 ⟨rfl, hb⟩
    have HB2 := Lib.hid (HB.out.trans (hb.mono HB.out.size)); clear hb
    go_wp2
    go_ret2
    exact ⟨by rw [HX.out]; rfl, HB2.out⟩
/-- A body, where the packet is valid. -/
def pubS1 (p : Pk) : ByteArray := if p.qos ≠ 0 then framedS p.topic ++ ⟨(putL p.id.toNat 2).toArray⟩ else framedS p.topic
def pubS2 (v : Int) (p : Pk) : ByteArray := if v = 5 then pubS1 p ++ ⟨(bytesS p.kind p.props).1.toArray⟩ else pubS1 p
def pubB (v : Int) (p : Pk) : ByteArray × Int := if pubE v p = 0 then (pubS2 v p ++ p.payload, 0) else (⟨#[]⟩, pubE v p)
structure PubGood (v : Int) (p : Pk) : Prop where
  k : v = 4 ∨ v = 5
  kind : p.kind = 3
  flags : badQ p = false
  same : p = pubQ p
  old : v = 4 → p.props = []
  id0 : p.qos = 0 → p.id = 0
  id1 : p.qos ≠ 0 → 0 < p.id ∧ p.id < 65536
  named : pubN v p = true
  topic : validB p.topic = true
  bytes : (bytesS 3 p.props).2 = 0
theorem valid_empty : validB ⟨#[]⟩ = true := by decide +kernel
theorem pubE_good {v : Int} {p : Pk} (x : pubE v p = 0) : PubGood v p := by
  have h : ∀ j, j < 5 → pubL v p j = 0 := by
    intro j hj
    refine Decidable.not_not.1 fun hn => ?_
    by_cases h0 : pubL v p 0 = 0
    · by_cases h1 : pubL v p 1 = 0
      · by_cases h2 : pubL v p 2 = 0
        · by_cases h3 : pubL v p 3 = 0
          · have e : pubE v p = pubL v p 4 := by unfold pubE; rw [if_neg (fun y => y h0), if_neg (fun y => y h1), if_neg (fun y => y h2), if_neg (fun y => y h3)]
            obtain rfl | rfl | rfl | rfl | rfl : j = 0 ∨ j = 1 ∨ j = 2 ∨ j = 3 ∨ j = 4 := by omega
            · exact hn h0
            · exact hn h1
            · exact hn h2
            · exact hn h3
            · exact hn (e ▸ x)
          · rw [pubE_at (k := 3) (by omega) (fun i hi => by obtain rfl | rfl | rfl : i = 0 ∨ i = 1 ∨ i = 2 := by omega
                                                            all_goals assumption) h3] at x
            exact h3 x
        · rw [pubE_at (k := 2) (by omega) (fun i hi => by obtain rfl | rfl : i = 0 ∨ i = 1 := by omega
                                                          all_goals assumption) h2] at x
          exact h2 x
      · rw [pubE_at (k := 1) (by omega) (fun i hi => by obtain rfl : i = 0 := by omega
                                                        assumption) h1] at x
        exact h1 x
    · rw [pubE_at (k := 0) (by omega) (fun i hi => by omega) h0] at x
      exact h0 x
  have l0 := h 0 (by omega)
  have l1 := h 1 (by omega)
  have l2 := h 2 (by omega)
  have l3 := h 3 (by omega)
  have l4 : (bytesS 3 p.props).2 = 0 := h 4 (by omega)
  have hk : hdKnown v = true ∧ p.kind = 3 := Decidable.not_not.1 fun y => by
    have : pubL v p 0 = 2 := if_neg y
    omega
  have hv : v = 4 ∨ v = 5 := of_decide_eq_true hk.1
  have hq : badQ p = false := by
    cases e : badQ p
    · rfl
    · have hki : hdKinds v p.kind = true := decide_eq_true (by omega)
      have : pubL v p 1 = 7 := by
        show (hdFlags v p).2 = 7
        unfold hdFlags
        rw [if_neg (fun y => by rw [hk.1] at y; cases y), if_neg (fun y => by rw [hki] at y; cases y), if_neg (fun y => y hk.2), if_pos e]
      omega
  have hf : pubF v p = true := Decidable.not_not.1 fun y => by
    have : pubL v p 2 = 2 := if_neg y
    omega
  have hn : pubN v p = true := Decidable.not_not.1 fun y => by
    have : pubL v p 3 = 10 := if_neg y
    omega
  obtain ⟨f1, f2, f3, f4⟩ := of_decide_eq_true hf
  refine ⟨hv, hk.2, hq, f1, fun h4 => ?_, f3, f4, hn, ?_, l4⟩
  · have : ¬ 0 < p.props.length := fun y => f2 ⟨h4, y⟩
    exact List.eq_nil_of_length_eq_zero (by omega)
  · unfold pubN at hn
    rcases Bool.or_eq_true_iff.1 hn with hn | hn
    · unfold nameB textB at hn
      simp at hn
      exact hn.1.2
    · have hz : p.topic.size = 0 := of_decide_eq_true (Bool.and_eq_true_iff.1 (Bool.and_eq_true_iff.1 hn).2).2
      have : p.topic = ⟨#[]⟩ := ls_ext (by rw [show ls (⟨#[]⟩ : ByteArray) = [] from rfl]; exact List.eq_nil_of_length_eq_zero (by rw [ls_len]; exact hz))
      rw [this]
      exact valid_empty
theorem PubGood.ok {v : Int} {p : Pk} (x : PubGood v p) : pubE v p = 0 := by
  have hk : hdKnown v = true := decide_eq_true x.k
  have hki : hdKinds v p.kind = true := decide_eq_true (by have := x.kind; omega)
  refine pubE_all fun j hj => ?_
  obtain rfl | rfl | rfl | rfl | rfl : j = 0 ∨ j = 1 ∨ j = 2 ∨ j = 3 ∨ j = 4 := by omega
  · show (if hdKnown v = true ∧ p.kind = 3 then (0 : Int) else 2) = 0
    exact if_pos ⟨hk, x.kind⟩
  · show (hdFlags v p).2 = 0
    unfold hdFlags
    rw [if_neg (fun y => by rw [hk] at y; cases y), if_neg (fun y => by rw [hki] at y; cases y), if_neg (fun y => y x.kind), if_neg (fun y => by rw [x.flags] at y; cases y)]
  · show (if pubF v p = true then (0 : Int) else 2) = 0
    exact if_pos (decide_eq_true ⟨x.same, fun y => by have := x.old y.1; rw [this] at y; exact absurd y.2 (by simp), x.id0, x.id1⟩)
  · show (if pubN v p = true then (0 : Int) else 10) = 0
    exact if_pos x.named
  · exact x.bytes

end Go.Proofs.YtmkkjiogokfnmaaDoor

namespace Go.Proofs.YtmkkjiogokfnmaaDoor
open Go.RowKit
theorem and_flags6 : bits BinOp.and IntKind.i64 0 6 = 0 ∧ bits BinOp.and IntKind.i64 1 6 = 0 ∧ bits BinOp.and IntKind.i64 2 6 = 2 ∧ bits BinOp.and IntKind.i64 3 6 = 2 ∧ bits BinOp.and IntKind.i64 4 6 = 4 ∧ bits BinOp.and IntKind.i64 5 6 = 4 ∧ bits BinOp.and IntKind.i64 6 6 = 6 ∧ bits BinOp.and IntKind.i64 7 6 = 6 ∧ bits BinOp.and IntKind.i64 8 6 = 0 ∧ bits BinOp.and IntKind.i64 9 6 = 0 ∧ bits BinOp.and IntKind.i64 10 6 = 2 ∧ bits BinOp.and IntKind.i64 11 6 = 2 ∧ bits BinOp.and IntKind.i64 12 6 = 4 ∧ bits BinOp.and IntKind.i64 13 6 = 4 ∧ bits BinOp.and IntKind.i64 14 6 = 6 ∧ bits BinOp.and IntKind.i64 15 6 = 6 := by decide +kernel
theorem and_flags8 : bits BinOp.and IntKind.i64 0 8 = 0 ∧ bits BinOp.and IntKind.i64 1 8 = 0 ∧ bits BinOp.and IntKind.i64 2 8 = 0 ∧ bits BinOp.and IntKind.i64 3 8 = 0 ∧ bits BinOp.and IntKind.i64 4 8 = 0 ∧ bits BinOp.and IntKind.i64 5 8 = 0 ∧ bits BinOp.and IntKind.i64 6 8 = 0 ∧ bits BinOp.and IntKind.i64 7 8 = 0 ∧ bits BinOp.and IntKind.i64 8 8 = 8 ∧ bits BinOp.and IntKind.i64 9 8 = 8 ∧ bits BinOp.and IntKind.i64 10 8 = 8 ∧ bits BinOp.and IntKind.i64 11 8 = 8 ∧ bits BinOp.and IntKind.i64 12 8 = 8 ∧ bits BinOp.and IntKind.i64 13 8 = 8 ∧ bits BinOp.and IntKind.i64 14 8 = 8 ∧ bits BinOp.and IntKind.i64 15 8 = 8 := by decide +kernel
def hdFlag3 (f : Int) : Bool := decide (f = 0 ∨ f = 1 ∨ f = 2 ∨ f = 3 ∨ f = 4 ∨ f = 5 ∨ f = 10 ∨ f = 11 ∨ f = 12 ∨ f = 13)
def hdCheck3 (v f : Int) : Int := if hdKnown v = false then 2 else if hdFlag3 f = false then 7 else 0
end Go.Proofs.YtmkkjiogokfnmaaDoor
