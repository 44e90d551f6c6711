/- A part of what the laws stand on: MPubA, PubD, MFil, SubA, FilC. -/
import Derived.Test.YtbdgkkmbnahgiaaGreatDoorMnG0MReaA
import Derived.Test.YtbdgkkmbnahgiaaGreatDoorMnG0MLis
import Derived.Lib.SplitLaws
import Derived.Shelf.Strings.SplitCore
import Derived.Shelf.Strings.Search3
import Derived.Shelf.Strings.Count
import Derived.Shelf.Strings.Cut
namespace Go.Proofs.YtbdgkkmbnahgiaaGreatDoor
open Go.RowKit
attribute [local go_sem ↓] to_ldPk to_bxPk to_bdPk to_alPk to_stPk
attribute [local go_sem] run_bxPk run_bxPk_agg ld_fresh run_alPk run_bd0 run_bdK run_bdKI run_bdKIC run_bdKC run_bdKICP run_stPk_fresh pkC_0 pkC_1 pkC_2 pkC_3 pkC_4 pkC_5 pkC_6 pkC_7 pkC_8 pkC_9 pkC_10 pkC_11 pkC_12 pkC_13 pkC_14 pkC_15 pkC_16 pkC_17 pkC_18 pkC_19 pkC_20 pkC_21 pkC_22 pkC_23 pkC_24
def hdKnown (v : Int) : Bool := decide (v = 4 ∨ v = 5)
def hdKinds (v k : Int) : Bool := decide (1 ≤ k ∧ (k ≤ 14 ∨ (k = 15 ∧ v = 5)))
def hdFixed (k : Int) : Int := if k = 6 ∨ k = 8 ∨ k = 10 then 2 else 0
def flagsP (p : Pk) : Int := 2 * p.qos + (if p.retain = true then 1 else 0) + (if p.dup = true then 8 else 0)
def badQ (p : Pk) : Bool := decide (p.qos < 0 ∨ 2 < p.qos ∨ (p.qos = 0 ∧ p.dup = true))
def hdFlags (v : Int) (p : Pk) : Int × Int :=
  if hdKnown v = false then (0, 2) else if hdKinds v p.kind = false then (0, 8) else if p.kind ≠ 3 then (hdFixed p.kind, 0) else if badQ p = true then (0, 7) else (flagsP p, 0)
end Go.Proofs.YtbdgkkmbnahgiaaGreatDoor

namespace Go.Proofs.YtbdgkkmbnahgiaaGreatDoor
open Go.RowKit

def stF (t : TypeId) (a v : Value) : Sem Unit := Instr.storeAt t a v
theorem to_stF (t : TypeId) (a v : Value) : Instr.storeAt t a v = stF t a v := rfl
theorem run_stF {P : Program} {w : World} {g i : Nat} {t : TypeId} {v : Value} (hi : (P.info? t).map (·.size) = some 1) (hv : v.cells = #[v]) (h1 : v.oneCell' = true) (ht : w.there g i 1) : (stF t (.pointer (some ⟨g, i, none⟩)) v).run P w = .ok () (w.setCell ⟨g, i, none⟩ v) := by
  have e : Instr.storeAt t (.pointer (some ⟨g, i, none⟩)) v = Instr.storeAt t (.pointer (some ⟨g, i, none⟩)) (.agg #[v]) := by
    unfold Instr.storeAt storeVar
    rw [hv]
    rfl
  unfold stF
  rw [e, run_storeAt_mid w g i t #[v] ht hi (by simpa using h1)]
  rfl
/-- Block g is a packet's block of these cells. -/
def pw (W : World) (g : Nat) (cs : Array Value) : World := { W with heap := W.heap.setIfInBounds g (.cells cs PkT (0, 0)) }
section
variable (W : World) (g : Nat) (cs : Array Value)
theorem pw_size : (pw W g cs).heap.size = W.heap.size := by simp [pw]
theorem pw_bk (hg : g < W.heap.size) : Bk (pw W g cs) g PkT cs := by
  unfold Bk pw
  simp [hg]
theorem pw_self (hb : Bk W g PkT cs) : pw W g cs = W := by
  have hh : W.heap.setIfInBounds g (.cells cs PkT (0, 0)) = W.heap := by
    apply Array.ext_getElem?
    intro k
    by_cases hk : k = g
    · subst hk
      have := hb
      unfold Bk at this
      rw [this]
      simp [hb.lt]
    · rw [Array.getElem?_setIfInBounds_ne (fun e => hk e.symm)]
  unfold pw
  rw [hh]
theorem pw_other {k : Nat} (hk : k ≠ g) : (pw W g cs).heap[k]? = W.heap[k]? := by
  unfold pw
  exact Array.getElem?_setIfInBounds_ne (fun e => hk e.symm)
theorem pw_grown : W.grownBy (pw W g cs) (some g) := ⟨rfl, rfl, rfl, by rw [pw_size]; exact Nat.le_refl _, fun k _ hk => pw_other W g cs (fun e => hk (by rw [e]))⟩
theorem pw_below {w : World} (h : Below w.heap.size w W) (hg : w.heap.size ≤ g) : Below w.heap.size w (pw W g cs) := below_mod h (pw_grown W g cs) h.size hg
theorem pw_put (i : Nat) (u : Value) (hg : g < W.heap.size) : (pw W g cs).setCell ⟨g, i, none⟩ u = pw W g (cs.setIfInBounds i u) := by
  have hh : (W.heap.setIfInBounds g (.cells cs PkT (0, 0))).modify g (fun
      | .cells c elem frozen => .cells (if (none : Option Unit).isSome then c else c.setIfInBounds i u) elem frozen
      | o => o) = W.heap.setIfInBounds g (.cells (cs.setIfInBounds i u) PkT (0, 0)) := by
    apply Array.ext_getElem?
    intro k
    rw [Array.getElem?_modify]
    by_cases hk : g = k
    · subst hk
      simp [hg]
    · rw [if_neg hk, Array.getElem?_setIfInBounds_ne hk, Array.getElem?_setIfInBounds_ne hk]
  unfold World.setCell pw
  exact congrArg (fun x => { W with heap := x }) hh
theorem pw_there (i k : Nat) (hg : g < W.heap.size) (hi : i + k ≤ cs.size) : (pw W g cs).there g i k := fun j hj => by
  rw [(pw_bk W g cs hg).cell, (pw_bk W g cs hg).free]
  refine ⟨?_, rfl⟩
  rw [Array.getElem?_eq_getElem (by omega)]
  rfl
theorem pw_store {P : Program} {t : TypeId} {v : Value} {i : Nat} {ds : Array Value} (hi : (P.info? t).map (·.size) = some 1) (hv : v.cells = #[v]) (h1 : v.oneCell' = true) (hlt : i < cs.size) (he : cs.setIfInBounds i v = ds) (hg : g < W.heap.size) :
    (stF t (.pointer (some ⟨g, i, none⟩)) v).run P (pw W g cs) = .ok () (pw W g ds) := by
  subst he
  rw [run_stF hi hv h1 (pw_there W g cs i 1 hg (by omega)), pw_put W g cs i v hg]
theorem ld_pw (p : Pk) (h : Hs) (hg : g < W.heap.size) : (ldPk (.pointer (some ⟨g, 0, none⟩))).run Tryz.prog (pw W g (pkC p h)) = .ok (pkV p h) (pw W g (pkC p h)) := ld_bk (pw_bk W g (pkC p h) hg)
theorem pw_at (p : Pk) (h : Hs) (hg : g < W.heap.size) (i : Nat) : (pw W g (pkC p h)).cell? ⟨g, i, none⟩ = (pkC p h)[i]? := (pw_bk W g (pkC p h) hg).cell i
end
theorem info_i : (Tryz.prog.info? 3).map (·.size) = some 1 := by kernel_rfl
theorem info_b : (Tryz.prog.info? 4).map (·.size) = some 1 := by kernel_rfl
theorem info_s : (Tryz.prog.info? 9).map (·.size) = some 1 := by kernel_rfl
theorem info_lc : (Tryz.prog.info? 26).map (·.size) = some 1 := by kernel_rfl
theorem info_lf : (Tryz.prog.info? 27).map (·.size) = some 1 := by kernel_rfl
theorem info_lp : (Tryz.prog.info? 23).map (·.size) = some 1 := by kernel_rfl
section
variable (W : World) (g : Nat) (p : Pk) (h : Hs)
theorem pw_st0 (x : Int) (hg : g < W.heap.size) : (stF 3 (.pointer (some ⟨g, 0, none⟩)) (.int .i64 x)).run Tryz.prog (pw W g (pkC p h)) = .ok () (pw W g (pkC { p with kind := x } h)) := pw_store W g _ info_i rfl rfl (by rw [pkC_size]; decide) rfl hg
theorem pw_dst0 (x : Int) (hg : g < W.heap.size) : (stF 3 (.pointer (some ⟨g, 0, none⟩)) (.int .i64 x)).run Tryz.prog (pw W g (pkC p h)).drew = .ok () (pw W g (pkC { p with kind := x } h)).drew := pw_st0 W.drew g p h x hg
theorem pw_st1 (x : Bool) (hg : g < W.heap.size) : (stF 4 (.pointer (some ⟨g, 1, none⟩)) (.bool x)).run Tryz.prog (pw W g (pkC p h)) = .ok () (pw W g (pkC { p with dup := x } h)) := pw_store W g _ info_b rfl rfl (by rw [pkC_size]; decide) rfl hg
theorem pw_dst1 (x : Bool) (hg : g < W.heap.size) : (stF 4 (.pointer (some ⟨g, 1, none⟩)) (.bool x)).run Tryz.prog (pw W g (pkC p h)).drew = .ok () (pw W g (pkC { p with dup := x } h)).drew := pw_st1 W.drew g p h x hg
theorem pw_st2 (x : Bool) (hg : g < W.heap.size) : (stF 4 (.pointer (some ⟨g, 2, none⟩)) (.bool x)).run Tryz.prog (pw W g (pkC p h)) = .ok () (pw W g (pkC { p with retain := x } h)) := pw_store W g _ info_b rfl rfl (by rw [pkC_size]; decide) rfl hg
theorem pw_dst2 (x : Bool) (hg : g < W.heap.size) : (stF 4 (.pointer (some ⟨g, 2, none⟩)) (.bool x)).run Tryz.prog (pw W g (pkC p h)).drew = .ok () (pw W g (pkC { p with retain := x } h)).drew := pw_st2 W.drew g p h x hg
theorem pw_st3 (x : Int) (hg : g < W.heap.size) : (stF 3 (.pointer (some ⟨g, 3, none⟩)) (.int .i64 x)).run Tryz.prog (pw W g (pkC p h)) = .ok () (pw W g (pkC { p with qos := x } h)) := pw_store W g _ info_i rfl rfl (by rw [pkC_size]; decide) rfl hg
theorem pw_dst3 (x : Int) (hg : g < W.heap.size) : (stF 3 (.pointer (some ⟨g, 3, none⟩)) (.int .i64 x)).run Tryz.prog (pw W g (pkC p h)).drew = .ok () (pw W g (pkC { p with qos := x } h)).drew := pw_st3 W.drew g p h x hg
theorem pw_st4 (x : Int) (hg : g < W.heap.size) : (stF 3 (.pointer (some ⟨g, 4, none⟩)) (.int .i64 x)).run Tryz.prog (pw W g (pkC p h)) = .ok () (pw W g (pkC { p with id := x } h)) := pw_store W g _ info_i rfl rfl (by rw [pkC_size]; decide) rfl hg
theorem pw_dst4 (x : Int) (hg : g < W.heap.size) : (stF 3 (.pointer (some ⟨g, 4, none⟩)) (.int .i64 x)).run Tryz.prog (pw W g (pkC p h)).drew = .ok () (pw W g (pkC { p with id := x } h)).drew := pw_st4 W.drew g p h x hg
theorem pw_st5 (x : ByteArray) (hg : g < W.heap.size) : (stF 9 (.pointer (some ⟨g, 5, none⟩)) (.string x)).run Tryz.prog (pw W g (pkC p h)) = .ok () (pw W g (pkC { p with topic := x } h)) := pw_store W g _ info_s rfl rfl (by rw [pkC_size]; decide) rfl hg
theorem pw_dst5 (x : ByteArray) (hg : g < W.heap.size) : (stF 9 (.pointer (some ⟨g, 5, none⟩)) (.string x)).run Tryz.prog (pw W g (pkC p h)).drew = .ok () (pw W g (pkC { p with topic := x } h)).drew := pw_st5 W.drew g p h x hg
theorem pw_st6 (x : ByteArray) (hg : g < W.heap.size) : (stF 9 (.pointer (some ⟨g, 6, none⟩)) (.string x)).run Tryz.prog (pw W g (pkC p h)) = .ok () (pw W g (pkC { p with payload := x } h)) := pw_store W g _ info_s rfl rfl (by rw [pkC_size]; decide) rfl hg
theorem pw_dst6 (x : ByteArray) (hg : g < W.heap.size) : (stF 9 (.pointer (some ⟨g, 6, none⟩)) (.string x)).run Tryz.prog (pw W g (pkC p h)).drew = .ok () (pw W g (pkC { p with payload := x } h)).drew := pw_st6 W.drew g p h x hg
theorem pw_st7 (x : Bool) (hg : g < W.heap.size) : (stF 4 (.pointer (some ⟨g, 7, none⟩)) (.bool x)).run Tryz.prog (pw W g (pkC p h)) = .ok () (pw W g (pkC { p with clean := x } h)) := pw_store W g _ info_b rfl rfl (by rw [pkC_size]; decide) rfl hg
theorem pw_dst7 (x : Bool) (hg : g < W.heap.size) : (stF 4 (.pointer (some ⟨g, 7, none⟩)) (.bool x)).run Tryz.prog (pw W g (pkC p h)).drew = .ok () (pw W g (pkC { p with clean := x } h)).drew := pw_st7 W.drew g p h x hg
theorem pw_st8 (x : Int) (hg : g < W.heap.size) : (stF 3 (.pointer (some ⟨g, 8, none⟩)) (.int .i64 x)).run Tryz.prog (pw W g (pkC p h)) = .ok () (pw W g (pkC { p with alive := x } h)) := pw_store W g _ info_i rfl rfl (by rw [pkC_size]; decide) rfl hg
theorem pw_dst8 (x : Int) (hg : g < W.heap.size) : (stF 3 (.pointer (some ⟨g, 8, none⟩)) (.int .i64 x)).run Tryz.prog (pw W g (pkC p h)).drew = .ok () (pw W g (pkC { p with alive := x } h)).drew := pw_st8 W.drew g p h x hg
theorem pw_st9 (x : ByteArray) (hg : g < W.heap.size) : (stF 9 (.pointer (some ⟨g, 9, none⟩)) (.string x)).run Tryz.prog (pw W g (pkC p h)) = .ok () (pw W g (pkC { p with client := x } h)) := pw_store W g _ info_s rfl rfl (by rw [pkC_size]; decide) rfl hg
theorem pw_dst9 (x : ByteArray) (hg : g < W.heap.size) : (stF 9 (.pointer (some ⟨g, 9, none⟩)) (.string x)).run Tryz.prog (pw W g (pkC p h)).drew = .ok () (pw W g (pkC { p with client := x } h)).drew := pw_st9 W.drew g p h x hg
theorem pw_st10 (x : Bool) (hg : g < W.heap.size) : (stF 4 (.pointer (some ⟨g, 10, none⟩)) (.bool x)).run Tryz.prog (pw W g (pkC p h)) = .ok () (pw W g (pkC { p with hasUser := x } h)) := pw_store W g _ info_b rfl rfl (by rw [pkC_size]; decide) rfl hg
theorem pw_dst10 (x : Bool) (hg : g < W.heap.size) : (stF 4 (.pointer (some ⟨g, 10, none⟩)) (.bool x)).run Tryz.prog (pw W g (pkC p h)).drew = .ok () (pw W g (pkC { p with hasUser := x } h)).drew := pw_st10 W.drew g p h x hg
theorem pw_st11 (x : ByteArray) (hg : g < W.heap.size) : (stF 9 (.pointer (some ⟨g, 11, none⟩)) (.string x)).run Tryz.prog (pw W g (pkC p h)) = .ok () (pw W g (pkC { p with user := x } h)) := pw_store W g _ info_s rfl rfl (by rw [pkC_size]; decide) rfl hg
theorem pw_dst11 (x : ByteArray) (hg : g < W.heap.size) : (stF 9 (.pointer (some ⟨g, 11, none⟩)) (.string x)).run Tryz.prog (pw W g (pkC p h)).drew = .ok () (pw W g (pkC { p with user := x } h)).drew := pw_st11 W.drew g p h x hg
theorem pw_st12 (x : Bool) (hg : g < W.heap.size) : (stF 4 (.pointer (some ⟨g, 12, none⟩)) (.bool x)).run Tryz.prog (pw W g (pkC p h)) = .ok () (pw W g (pkC { p with hasPass := x } h)) := pw_store W g _ info_b rfl rfl (by rw [pkC_size]; decide) rfl hg
theorem pw_dst12 (x : Bool) (hg : g < W.heap.size) : (stF 4 (.pointer (some ⟨g, 12, none⟩)) (.bool x)).run Tryz.prog (pw W g (pkC p h)).drew = .ok () (pw W g (pkC { p with hasPass := x } h)).drew := pw_st12 W.drew g p h x hg
theorem pw_st13 (x : ByteArray) (hg : g < W.heap.size) : (stF 9 (.pointer (some ⟨g, 13, none⟩)) (.string x)).run Tryz.prog (pw W g (pkC p h)) = .ok () (pw W g (pkC { p with pass := x } h)) := pw_store W g _ info_s rfl rfl (by rw [pkC_size]; decide) rfl hg
theorem pw_dst13 (x : ByteArray) (hg : g < W.heap.size) : (stF 9 (.pointer (some ⟨g, 13, none⟩)) (.string x)).run Tryz.prog (pw W g (pkC p h)).drew = .ok () (pw W g (pkC { p with pass := x } h)).drew := pw_st13 W.drew g p h x hg
theorem pw_st14 (x : Bool) (hg : g < W.heap.size) : (stF 4 (.pointer (some ⟨g, 14, none⟩)) (.bool x)).run Tryz.prog (pw W g (pkC p h)) = .ok () (pw W g (pkC { p with hasWill := x } h)) := pw_store W g _ info_b rfl rfl (by rw [pkC_size]; decide) rfl hg
theorem pw_dst14 (x : Bool) (hg : g < W.heap.size) : (stF 4 (.pointer (some ⟨g, 14, none⟩)) (.bool x)).run Tryz.prog (pw W g (pkC p h)).drew = .ok () (pw W g (pkC { p with hasWill := x } h)).drew := pw_st14 W.drew g p h x hg
theorem pw_st15 (x : ByteArray) (hg : g < W.heap.size) : (stF 9 (.pointer (some ⟨g, 15, none⟩)) (.string x)).run Tryz.prog (pw W g (pkC p h)) = .ok () (pw W g (pkC { p with will := { p.will with topic := x } } h)) := pw_store W g _ info_s rfl rfl (by rw [pkC_size]; decide) rfl hg
theorem pw_dst15 (x : ByteArray) (hg : g < W.heap.size) : (stF 9 (.pointer (some ⟨g, 15, none⟩)) (.string x)).run Tryz.prog (pw W g (pkC p h)).drew = .ok () (pw W g (pkC { p with will := { p.will with topic := x } } h)).drew := pw_st15 W.drew g p h x hg
theorem pw_st16 (x : ByteArray) (hg : g < W.heap.size) : (stF 9 (.pointer (some ⟨g, 16, none⟩)) (.string x)).run Tryz.prog (pw W g (pkC p h)) = .ok () (pw W g (pkC { p with will := { p.will with payload := x } } h)) := pw_store W g _ info_s rfl rfl (by rw [pkC_size]; decide) rfl hg
theorem pw_dst16 (x : ByteArray) (hg : g < W.heap.size) : (stF 9 (.pointer (some ⟨g, 16, none⟩)) (.string x)).run Tryz.prog (pw W g (pkC p h)).drew = .ok () (pw W g (pkC { p with will := { p.will with payload := x } } h)).drew := pw_st16 W.drew g p h x hg
theorem pw_st17 (x : Int) (hg : g < W.heap.size) : (stF 3 (.pointer (some ⟨g, 17, none⟩)) (.int .i64 x)).run Tryz.prog (pw W g (pkC p h)) = .ok () (pw W g (pkC { p with will := { p.will with qos := x } } h)) := pw_store W g _ info_i rfl rfl (by rw [pkC_size]; decide) rfl hg
theorem pw_dst17 (x : Int) (hg : g < W.heap.size) : (stF 3 (.pointer (some ⟨g, 17, none⟩)) (.int .i64 x)).run Tryz.prog (pw W g (pkC p h)).drew = .ok () (pw W g (pkC { p with will := { p.will with qos := x } } h)).drew := pw_st17 W.drew g p h x hg
theorem pw_st18 (x : Bool) (hg : g < W.heap.size) : (stF 4 (.pointer (some ⟨g, 18, none⟩)) (.bool x)).run Tryz.prog (pw W g (pkC p h)) = .ok () (pw W g (pkC { p with will := { p.will with retain := x } } h)) := pw_store W g _ info_b rfl rfl (by rw [pkC_size]; decide) rfl hg
theorem pw_dst18 (x : Bool) (hg : g < W.heap.size) : (stF 4 (.pointer (some ⟨g, 18, none⟩)) (.bool x)).run Tryz.prog (pw W g (pkC p h)).drew = .ok () (pw W g (pkC { p with will := { p.will with retain := x } } h)).drew := pw_st18 W.drew g p h x hg
theorem pw_st20 (x : Bool) (hg : g < W.heap.size) : (stF 4 (.pointer (some ⟨g, 20, none⟩)) (.bool x)).run Tryz.prog (pw W g (pkC p h)) = .ok () (pw W g (pkC { p with session := x } h)) := pw_store W g _ info_b rfl rfl (by rw [pkC_size]; decide) rfl hg
theorem pw_dst20 (x : Bool) (hg : g < W.heap.size) : (stF 4 (.pointer (some ⟨g, 20, none⟩)) (.bool x)).run Tryz.prog (pw W g (pkC p h)).drew = .ok () (pw W g (pkC { p with session := x } h)).drew := pw_st20 W.drew g p h x hg
theorem pw_st21 (x : Int) (hg : g < W.heap.size) : (stF 3 (.pointer (some ⟨g, 21, none⟩)) (.int .i64 x)).run Tryz.prog (pw W g (pkC p h)) = .ok () (pw W g (pkC { p with code := x } h)) := pw_store W g _ info_i rfl rfl (by rw [pkC_size]; decide) rfl hg
theorem pw_dst21 (x : Int) (hg : g < W.heap.size) : (stF 3 (.pointer (some ⟨g, 21, none⟩)) (.int .i64 x)).run Tryz.prog (pw W g (pkC p h)).drew = .ok () (pw W g (pkC { p with code := x } h)).drew := pw_st21 W.drew g p h x hg
theorem pw_st22 (l : List Int) (A : Option Addr) (n : Nat) (hg : g < W.heap.size) : (stF 26 (.pointer (some ⟨g, 22, none⟩)) (.slice A l.length n)).run Tryz.prog (pw W g (pkC p h)) = .ok () (pw W g (pkC { p with codes := l } { h with codes := ⟨A, n⟩ })) := pw_store W g _ info_lc rfl rfl (by rw [pkC_size]; decide) rfl hg
theorem pw_nil22 (hg : g < W.heap.size) : (stF 26 (.pointer (some ⟨g, 22, none⟩)) (.slice none 0 0)).run Tryz.prog (pw W g (pkC p h)) = .ok () (pw W g (pkC { p with codes := [] } { h with codes := hd0 })) := pw_store W g _ info_lc rfl rfl (by rw [pkC_size]; decide) rfl hg
theorem pw_st23 (l : List Fi) (A : Option Addr) (n : Nat) (hg : g < W.heap.size) : (stF 27 (.pointer (some ⟨g, 23, none⟩)) (.slice A l.length n)).run Tryz.prog (pw W g (pkC p h)) = .ok () (pw W g (pkC { p with filters := l } { h with filters := ⟨A, n⟩ })) := pw_store W g _ info_lf rfl rfl (by rw [pkC_size]; decide) rfl hg
theorem pw_nil23 (hg : g < W.heap.size) : (stF 27 (.pointer (some ⟨g, 23, none⟩)) (.slice none 0 0)).run Tryz.prog (pw W g (pkC p h)) = .ok () (pw W g (pkC { p with filters := [] } { h with filters := hd0 })) := pw_store W g _ info_lf rfl rfl (by rw [pkC_size]; decide) rfl hg
theorem pw_st24 (l : List Pr) (A : Option Addr) (n : Nat) (hg : g < W.heap.size) : (stF 23 (.pointer (some ⟨g, 24, none⟩)) (.slice A l.length n)).run Tryz.prog (pw W g (pkC p h)) = .ok () (pw W g (pkC { p with props := l } { h with props := ⟨A, n⟩ })) := pw_store W g _ info_lp rfl rfl (by rw [pkC_size]; decide) rfl hg
theorem pw_nil24 (hg : g < W.heap.size) : (stF 23 (.pointer (some ⟨g, 24, none⟩)) (.slice none 0 0)).run Tryz.prog (pw W g (pkC p h)) = .ok () (pw W g (pkC { p with props := [] } { h with props := hd0 })) := pw_store W g _ info_lp rfl rfl (by rw [pkC_size]; decide) rfl hg
theorem pw_stwp (l : List Pr) (A : Option Addr) (n : Nat) (hg : g < W.heap.size) : (stF 23 (.pointer (some ⟨g, 19, none⟩)) (.slice A l.length n)).run Tryz.prog (pw W g (pkC p h)) = .ok () (pw W g (pkC { p with will := { p.will with props := l } } { h with wp := ⟨A, n⟩ })) := pw_store W g _ info_lp rfl rfl (by rw [pkC_size]; decide) rfl hg
def ldWl (v : Value) : Sem Value := Instr.loadAt WlT v
def stWl (a v : Value) : Sem Unit := Instr.storeAt WlT a v
theorem to_ldWl (v : Value) : Instr.loadAt WlT v = ldWl v := rfl
theorem to_stWl (a v : Value) : Instr.storeAt WlT a v = stWl a v := rfl
end
theorem info_wl : (Tryz.prog.info? WlT).map (·.size) = some 5 := by kernel_rfl
theorem wlC_one (x : Wl) (k : Hd) : (wlC x k).all (·.oneCell') = true := by simp [wlC, Value.oneCell']
theorem pw_puts (W : World) (g : Nat) (hg : g < W.heap.size) : ∀ (vs : List Value) (o : Nat) (cs : Array Value), (pw W g cs).setCells g o vs = pw W g (putA cs o vs)
  | [], _, _ => rfl
  | v :: vs, o, cs => by rw [World.setCells, pw_put W g cs o v hg, pw_puts W g hg vs (o + 1) _, putA]
/-- A whole will stored into a packet. -/
theorem pw_stwl (W : World) (g : Nat) (p : Pk) (h : Hs) (x : Wl) (k : Hd) (hg : g < W.heap.size) : (stWl (.pointer (some ⟨g, 15, none⟩)) (wlV x k)).run Tryz.prog (pw W g (pkC p h)) = .ok () (pw W g (pkC { p with will := x } { h with wp := k })) := by
  unfold stWl
  refine (run_storeAt_mid (pw W g (pkC p h)) g 15 WlT (wlC x k) (pw_there W g _ 15 5 hg (by rw [pkC_size]; decide)) info_wl (wlC_one x k)).trans ?_
  rw [pw_puts W g hg, show putA (pkC p h) 15 (wlC x k).toList = pkC { p with will := x } { h with wp := k } from rfl]
theorem pw_dstwl (W : World) (g : Nat) (p : Pk) (h : Hs) (x : Wl) (k : Hd) (hg : g < W.heap.size) : (stWl (.pointer (some ⟨g, 15, none⟩)) (wlV x k)).run Tryz.prog (pw W g (pkC p h)).drew = .ok () (pw W g (pkC { p with will := x } { h with wp := k })).drew := pw_stwl W.drew g p h x k hg
theorem pw_stwl0 (W : World) (g : Nat) (p : Pk) (h : Hs) (hg : g < W.heap.size) : (stWl (.pointer (some ⟨g, 15, none⟩)) (.agg #[.string ⟨#[]⟩, .string ⟨#[]⟩, .int .i64 0, .bool false, .slice none 0 0])).run Tryz.prog (pw W g (pkC p h)) = .ok () (pw W g (pkC { p with will := wl0 } { h with wp := hd0 })) := pw_stwl W g p h wl0 hd0 hg
end Go.Proofs.YtbdgkkmbnahgiaaGreatDoor

namespace Go.Proofs.YtbdgkkmbnahgiaaGreatDoor
open Go.RowKit
attribute [local go_sem ↓] to_ldPk to_bxPk to_bdPk to_alPk to_stPk
attribute [local go_sem] run_bxPk run_bxPk_agg ld_fresh run_alPk run_bd0 run_bdK run_bdKI run_bdKIC run_bdKC run_bdKICP run_stPk_fresh pkC_0 pkC_1 pkC_2 pkC_3 pkC_4 pkC_5 pkC_6 pkC_7 pkC_8 pkC_9 pkC_10 pkC_11 pkC_12 pkC_13 pkC_14 pkC_15 pkC_16 pkC_17 pkC_18 pkC_19 pkC_20 pkC_21 pkC_22 pkC_23 pkC_24
/-- A packet with nothing but what a PUBLISH may have. -/
def pubQ (p : Pk) : Pk := { pk0 with kind := p.kind, dup := p.dup, retain := p.retain, qos := p.qos, id := p.id, topic := p.topic, payload := p.payload, props := p.props }
def pubF (v : Int) (p : Pk) : Bool := decide (p = pubQ p ∧ ¬ (v = 4 ∧ 0 < p.props.length) ∧ (p.qos = 0 → p.id = 0) ∧ (p.qos ≠ 0 → 0 < p.id ∧ p.id < 65536))
def aliasB (p : Pk) : Bool := (getP p.props 35).isSome
def pubN (v : Int) (p : Pk) : Bool := nameB p.topic || (decide (v = 5) && (aliasB p && decide (p.topic.size = 0)))
attribute [local go_sem ↓ high] to_stPk to_stWl to_ldWl
attribute [local go_sem ↓] to_stF
attribute [local go_sem] ld_pw pw_at pw_stwl pw_stwl0 pw_stwp pw_st0 pw_st1 pw_st2 pw_st3 pw_st4 pw_st5 pw_st6 pw_st7 pw_st8 pw_st9 pw_st10 pw_st11 pw_st12 pw_st13 pw_st14 pw_st15 pw_st16 pw_st17 pw_st18 pw_st20 pw_st21 pw_st22 pw_nil22 pw_st23 pw_nil23 pw_st24 pw_nil24
/-- A copy of the packet in a block of its own: what the walk needs of it. -/
structure PwIn (w : World) (p : Pk) (h : Hs) (W : World) : Prop where
  below : Below w.heap.size w W
  lt : w.heap.size + 1 < W.heap.size
  bk : Bk W w.heap.size PkT (pkC p h)
theorem PwIn.bk_pw {w W : World} {p : Pk} {h : Hs} (s : PwIn w p h W) (cs : Array Value) : Bk (pw W (w.heap.size + 1) cs) w.heap.size PkT (pkC p h) := (pw_other W (w.heap.size + 1) cs (by omega)).trans s.bk
theorem PwIn.kept {w W : World} {p : Pk} {h : Hs} (s : PwIn w p h W) (cs : Array Value) : Below w.heap.size w (pw W (w.heap.size + 1) cs) := pw_below W _ cs s.below (by omega)
theorem pwIn_start (w : World) (p q : Pk) (h k : Hs) : ∃ W, PwIn w p h W ∧ (stPk (.pointer (some ⟨w.heap.size + 1, 0, none⟩)) (pkV q k)).run Tryz.prog ((w.alloc (.cells (pkC p h) PkT)).alloc (.cells (pkC pk0 hs0) PkT)) = .ok () (pw W (w.heap.size + 1) (pkC q k)) := by
  have B0 := Bk.fresh (w.alloc (.cells (pkC p h) PkT)) PkT (pkC q k)
  have hst := run_stPk_fresh (w.alloc (.cells (pkC p h) PkT)) pk0 q hs0 k
  rw [heap_alloc_size] at hst B0
  have B1 : Below w.heap.size w (w.alloc (.cells (pkC p h) PkT)) := (Below.refl _ _).alloc (Nat.le_refl _) _
  refine ⟨(w.alloc (.cells (pkC p h) PkT)).alloc (.cells (pkC q k) PkT), ⟨B1.alloc B1.size _, by simp, (Bk.fresh w PkT (pkC p h)).alloc _⟩, ?_⟩
  rw [pw_self _ _ _ B0]
  exact hst
end Go.Proofs.YtbdgkkmbnahgiaaGreatDoor

namespace Go.Proofs.YtbdgkkmbnahgiaaGreatDoor
open Go.RowKit
attribute [local go_sem ↓] to_ldPk to_bxPk to_bdPk to_alPk to_stPk
attribute [local go_sem] run_bxPk run_bxPk_agg ld_fresh run_alPk run_bd0 run_bdK run_bdKI run_bdKIC run_bdKC run_bdKICP run_stPk_fresh pkC_0 pkC_1 pkC_2 pkC_3 pkC_4 pkC_5 pkC_6 pkC_7 pkC_8 pkC_9 pkC_10 pkC_11 pkC_12 pkC_13 pkC_14 pkC_15 pkC_16 pkC_17 pkC_18 pkC_19 pkC_20 pkC_21 pkC_22 pkC_23 pkC_24
/-- What the looks answer. -/
def pubL (v : Int) (p : Pk) (k : Nat) : Int :=
  if k = 0 then (if hdKnown v = true ∧ p.kind = 3 then 0 else 2) else if k = 1 then (hdFlags v p).2 else if k = 2 then (if pubF v p = true then 0 else 2) else if k = 3 then (if pubN v p = true then 0 else 10) else (bytesS 3 p.props).2
def pubE (v : Int) (p : Pk) : Int :=
  if pubL v p 0 ≠ 0 then pubL v p 0 else if pubL v p 1 ≠ 0 then pubL v p 1 else if pubL v p 2 ≠ 0 then pubL v p 2 else if pubL v p 3 ≠ 0 then pubL v p 3 else pubL v p 4
theorem pubE_all {v : Int} {p : Pk} (h0 : ∀ j, j < 5 → pubL v p j = 0) : pubE v p = 0 := by
  unfold pubE
  rw [if_neg (fun x => x (h0 0 (by omega))), if_neg (fun x => x (h0 1 (by omega))), if_neg (fun x => x (h0 2 (by omega))), if_neg (fun x => x (h0 3 (by omega)))]
  exact h0 4 (by omega)

/-- What stands while a packet is looked at: the version's block, the packet's. -/
structure PV (w : World) (gv gp : Nat) (v : Int) (p : Pk) (h : Hs) (x : World) : Prop where
  kept : Below w.heap.size w x
  vb : Bk x gv 3 #[.int .i64 v]
  pk : Bk x gp PkT (pkC p h)
  inn : PkIn x x.heap.size p h
theorem PV.below {w x y : World} {gv gp : Nat} {v : Int} {p : Pk} {h : Hs} (s : PV w gv gp v p h x) (hb : Below x.heap.size x y) : PV w gv gp v p h y :=
  ⟨s.kept.trans (hb.mono s.kept.size), s.vb.below hb s.vb.lt, s.pk.below hb s.pk.lt, s.inn.next hb⟩
end Go.Proofs.YtbdgkkmbnahgiaaGreatDoor

namespace Go.Proofs.YtbdgkkmbnahgiaaGreatDoor
open Go.RowKit
attribute [local go_sem ↓] to_ldPk to_bxPk to_bdPk to_alPk to_stPk
attribute [local go_sem] run_bxPk run_bxPk_agg ld_fresh run_alPk run_bd0 run_bdK run_bdKI run_bdKIC run_bdKC run_bdKICP run_stPk_fresh pkC_0 pkC_1 pkC_2 pkC_3 pkC_4 pkC_5 pkC_6 pkC_7 pkC_8 pkC_9 pkC_10 pkC_11 pkC_12 pkC_13 pkC_14 pkC_15 pkC_16 pkC_17 pkC_18 pkC_19 pkC_20 pkC_21 pkC_22 pkC_23 pkC_24
/-- What ustring.Text answers. -/
def textUS (s : ByteArray) : ByteArray × Int := if validB s = true then (framedS s, 0) else (⟨#[]⟩, 6)
set_option maxHeartbeats 400000 in
set_option maxRecDepth 10000 in
theorem textU_any (s : ByteArray) (w : World) (hs : s.size ≤ 4611686018427387904) :
    Calls Tryz.prog 58 #[.string s] w fun e w' => e = .returned (.tuple #[.string (textUS s).1, .int .i64 (textUS s).2]) ∧ Below w.heap.size w w' := by
  go_enter Tryz.func58, Tryz.ntmps58
  go_wp2_with fail
  refine (valid_any s _ hs).mono ?_
  rintro e w1 ⟨rfl, hb⟩
  have HB := Lib.hid hb; clear hb
  cases hv : validB s
  · have HX : Hid (textUS s = (⟨#[]⟩, 6)) := Lib.hid (by unfold textUS; rw [if_neg (by rw [hv]; decide)])
    clear hv
    go_wp2
    go_ret2
    exact ⟨by rw [HX.out]; rfl, HB.out⟩
  · have HX : Hid (textUS s = (framedS s, 0)) := Lib.hid (by unfold textUS; rw [if_pos hv])
    have hz := Lib.hid (valid_size hv)
    clear hv
    go_wp2_with fail
    refine (framed_any s _ hz.out).mono ?_
    rintro e w2 ⟨rfl, hb⟩
    have HB2 := Lib.hid (HB.out.trans (hb.mono HB.out.size)); clear hb
    go_wp2
    go_ret2
    exact ⟨by rw [HX.out]; rfl, HB2.out⟩
structure PubGood (v : Int) (p : Pk) : Prop where
  k : v = 4 ∨ v = 5
  kind : p.kind = 3
  flags : badQ p = false
  same : p = pubQ p
  old : v = 4 → p.props = []
  id0 : p.qos = 0 → p.id = 0
  id1 : p.qos ≠ 0 → 0 < p.id ∧ p.id < 65536
  named : pubN v p = true
  topic : validB p.topic = true
  bytes : (bytesS 3 p.props).2 = 0
theorem PubGood.ok {v : Int} {p : Pk} (x : PubGood v p) : pubE v p = 0 := by
  have hk : hdKnown v = true := decide_eq_true x.k
  have hki : hdKinds v p.kind = true := decide_eq_true (by have := x.kind; omega)
  refine pubE_all fun j hj => ?_
  obtain rfl | rfl | rfl | rfl | rfl : j = 0 ∨ j = 1 ∨ j = 2 ∨ j = 3 ∨ j = 4 := by omega
  · show (if hdKnown v = true ∧ p.kind = 3 then (0 : Int) else 2) = 0
    exact if_pos ⟨hk, x.kind⟩
  · show (hdFlags v p).2 = 0
    unfold hdFlags
    rw [if_neg (fun y => by rw [hk] at y; cases y), if_neg (fun y => by rw [hki] at y; cases y), if_neg (fun y => y x.kind), if_neg (fun y => by rw [x.flags] at y; cases y)]
  · show (if pubF v p = true then (0 : Int) else 2) = 0
    exact if_pos (decide_eq_true ⟨x.same, fun y => by have := x.old y.1; rw [this] at y; exact absurd y.2 (by simp), x.id0, x.id1⟩)
  · show (if pubN v p = true then (0 : Int) else 10) = 0
    exact if_pos x.named
  · exact x.bytes

end Go.Proofs.YtbdgkkmbnahgiaaGreatDoor

namespace Go.Proofs.YtbdgkkmbnahgiaaGreatDoor
open Go.RowKit
attribute [local go_sem ↓] to_ldPk to_bxPk to_bdPk to_alPk to_stPk
attribute [local go_sem] run_bxPk run_bxPk_agg ld_fresh run_alPk run_bd0 run_bdK run_bdKI run_bdKIC run_bdKC run_bdKICP run_stPk_fresh pkC_0 pkC_1 pkC_2 pkC_3 pkC_4 pkC_5 pkC_6 pkC_7 pkC_8 pkC_9 pkC_10 pkC_11 pkC_12 pkC_13 pkC_14 pkC_15 pkC_16 pkC_17 pkC_18 pkC_19 pkC_20 pkC_21 pkC_22 pkC_23 pkC_24
set_option maxRecDepth 100000 in
theorem results_pk1 {fn : Func} {p : Tmp} (hr : fn.results = #[.cell p PkT]) (tmps : Array Value) {w : World} {g : Nat} {q : Pk} {h : Hs} (hp : tmps.getD p undef = .pointer (some ⟨g, 0, none⟩)) (hb : Bk w g PkT (pkC q h)) :
    (results fn tmps).run Tryz.prog w = .ok (pkV q h) w := by
  have hl := lv_bk hb
  have e : (results fn tmps).run Tryz.prog w = ((asAddr (tmps.getD p undef)).run Tryz.prog w).andThen fun a w₁ => (loadVar PkT a).run Tryz.prog w₁ := by
    simp only [results, hr]
    simp [Sem.run_bind, Result.andThen]
  rw [e, hp]
  generalize pkV q h = V at hl ⊢
  exact then_ok _ (⟨g, 0, none⟩ : Addr) w _ rfl |>.trans hl
end Go.Proofs.YtbdgkkmbnahgiaaGreatDoor

namespace Go.Proofs.YtbdgkkmbnahgiaaGreatDoor
open Go.RowKit Go.Shelf

/-- What stands between slashes. -/
def lvs (s : ByteArray) : List ByteArray := Lib.splitB ⟨#[47]⟩ 0 (Lib.countB s ⟨#[47]⟩) s
theorem occ_one (l : List UInt8) (c : UInt8) (j : Nat) : Lib.occAt l [c] j = (l[j]? == some c) := by
  unfold Lib.occAt
  rw [← List.head?_drop]
  cases l.drop j with
  | nil => rfl
  | cons b t =>
    rw [Bool.eq_iff_iff]
    simp [List.isPrefixOf]
    exact eq_comm
theorem index_hit {l : List UInt8} {c : UInt8} {i : Nat} (h : l[i]? = some c) (hn : ∀ j, j < i → l[j]? ≠ some c) : Lib.index l [c] = i := by
  refine Lib.index_first ?_ ?_ ?_
  · have := (List.getElem?_eq_some_iff.1 h).1; omega
  · rw [occ_one, h]; simp
  · intro j hj; rw [occ_one]; simpa using hn j hj
theorem index_miss {l : List UInt8} {c : UInt8} (hn : ∀ j : Nat, l[j]? ≠ some c) : Lib.index l [c] = -1 :=
  Lib.index_none fun j _ => by rw [occ_one]; simpa using hn j
theorem lvs_none {s : ByteArray} (h : ∀ j : Nat, (ls s)[j]? ≠ some 47) : lvs s = [s] := Lib.splitB_miss _ _ _ _ (index_miss h)
theorem lvs_hit {s : ByteArray} {i : Nat} (h : (ls s)[i]? = some 47) (hn : ∀ j : Nat, j < i → (ls s)[j]? ≠ some 47) : lvs s = s.extract 0 i :: lvs (s.extract (i + 1) s.size) := by
  have hi : Lib.indexB s ⟨#[47]⟩ = i := index_hit h hn
  have hc := Lib.countB_hit s ⟨#[47]⟩ i (by decide) hi
  unfold lvs
  rw [hc, Nat.add_comm 1, Lib.splitB_hit _ _ _ _ i hi]
  rfl
theorem lvs_count (s : ByteArray) : (lvs s).length = Lib.countB s ⟨#[47]⟩ + 1 := Lib.splitB_all _ (by decide) 0 _ s rfl
theorem lvs_len (s : ByteArray) : (lvs s).length ≤ s.size + 1 := by
  have := Lib.countB_le ⟨#[47]⟩ (by decide) s.size s (Nat.le_refl _)
  rw [lvs_count]; omega
theorem find_slash (s : ByteArray) : (∀ j : Nat, (ls s)[j]? ≠ some 47) ∨ ∃ i, i < s.size ∧ (ls s)[i]? = some 47 ∧ ∀ j : Nat, j < i → (ls s)[j]? ≠ some 47 := by
  rcases Lib.index_spec (ls s) [47] with ⟨-, h⟩ | ⟨i, -, -, h, hn⟩
  · left
    intro j hj
    have hl := (List.getElem?_eq_some_iff.1 hj).1
    have := h j (by omega)
    rw [occ_one, hj] at this
    simp at this
  · right
    rw [occ_one] at h
    have h' : (ls s)[i]? = some 47 := by simpa using h
    have hl := (List.getElem?_eq_some_iff.1 h').1
    refine ⟨i, by rw [ls_len] at hl; exact hl, h', fun j hj he => ?_⟩
    have := hn j hj
    rw [occ_one, he] at this
    simp at this
theorem lvs_ind {C : ByteArray → Prop} (h1 : ∀ s, (∀ j : Nat, (ls s)[j]? ≠ some 47) → C s)
    (h2 : ∀ s i, i < s.size → (ls s)[i]? = some 47 → (∀ j : Nat, j < i → (ls s)[j]? ≠ some 47) → C (s.extract (i + 1) s.size) → C s) (s : ByteArray) : C s := by
  suffices h : ∀ n (t : ByteArray), t.size ≤ n → C t from h s.size s (Nat.le_refl _)
  intro n
  induction n with
  | zero =>
    intro t ht
    refine h1 t fun j hj => ?_
    have := (List.getElem?_eq_some_iff.1 hj).1
    rw [ls_len] at this
    omega
  | succ n ih =>
    intro t ht
    rcases find_slash t with h | ⟨i, hi, h, hn⟩
    · exact h1 t h
    · exact h2 t i hi h hn (ih _ (by rw [ByteArray.size_extract]; omega))
theorem lvs_size (s : ByteArray) : ∀ x ∈ lvs s, x.size ≤ s.size := by
  induction s using lvs_ind with
  | h1 s h => rw [lvs_none h]; intro x hx; simp at hx; rw [hx]; exact Nat.le_refl _
  | h2 s i hi h hn ih =>
    rw [lvs_hit h hn]
    intro x hx
    rcases List.mem_cons.1 hx with rfl | hx
    · rw [ByteArray.size_extract]; omega
    · have := ih x hx
      rw [ByteArray.size_extract] at this
      omega
def wildB (x : ByteArray) : Bool := (x.toList == [43]) || (x.toList == [35])
def levOk (x : ByteArray) (last : Bool) : Bool := !(((x.toList == [35]) && !last) || (!wildB x && anyS x))
def levsOk (l : List ByteArray) : Bool := (List.range l.length).all fun i => levOk (l.getD i ⟨#[]⟩) (decide (i + 1 = l.length))
def filterB (s : ByteArray) : Bool := textB s && levsOk (lvs s)
theorem levs_yes {l : List ByteArray} (h : ∀ i x, l[i]? = some x → levOk x (decide (i + 1 = l.length)) = true) : levsOk l = true := by
  unfold levsOk
  rw [List.all_eq_true]
  intro i hi
  have hi := List.mem_range.1 hi
  rw [List.getD_eq_getElem?_getD, List.getElem?_eq_getElem hi]
  exact h i _ (List.getElem?_eq_getElem hi)
theorem levs_no {l : List ByteArray} {i : Nat} {x : ByteArray} (hx : l[i]? = some x) (h : levOk x (decide (i + 1 = l.length)) = false) : levsOk l = false := by
  unfold levsOk
  rw [List.all_eq_false]
  have hi := (List.getElem?_eq_some_iff.1 hx).1
  refine ⟨i, List.mem_range.2 hi, ?_⟩
  rw [List.getD_eq_getElem?_getD, hx]
  simp [h]

theorem tl_ls (x : ByteArray) : x.toList = ls x := Lib.toList_data x
end Go.Proofs.YtbdgkkmbnahgiaaGreatDoor

namespace Go.Proofs.YtbdgkkmbnahgiaaGreatDoor
open Go.RowKit Go.Shelf

theorem ls_front (s : ByteArray) (i : Nat) : ls (s.extract 0 i) = (ls s).take i := by
  show (s.extract 0 i).data.toList = _
  rw [Lib.extract_from_zero]; rfl
theorem size_back (s : ByteArray) (a : Nat) : (s.extract a s.size).size = s.size - a := by rw [ByteArray.size_extract]; omega
def frontL : List UInt8 := [36, 115, 104, 97, 114, 101, 47]
def frontB (s : ByteArray) : Bool := frontL.isPrefixOf (ls s)
def shrS (s : ByteArray) : ByteArray := if frontB s then s.extract 7 s.size else s
/-- A cut at the first slash: what stands ahead, behind, whether there is one. -/
def cutS (s : ByteArray) : ByteArray × ByteArray × Bool :=
  if Lib.indexB s ⟨#[47]⟩ = -1 then (s, ⟨#[]⟩, false) else (s.extract 0 (Lib.indexB s ⟨#[47]⟩).toNat, s.extract ((Lib.indexB s ⟨#[47]⟩).toNat + 1) s.size, true)
def sharedB (s : ByteArray) : Bool := frontB s && ((cutS (shrS s)).2.2 && (validB s && (nameB (cutS (shrS s)).1 && filterB (cutS (shrS s)).2.1)))
theorem cut_size (s : ByteArray) : (cutS s).1.size ≤ s.size ∧ (cutS s).2.1.size ≤ s.size := by
  unfold cutS
  split
  · exact ⟨Nat.le_refl _, Nat.zero_le _⟩
  · simp only [ByteArray.size_extract]; omega
theorem shr_size (s : ByteArray) : (shrS s).size ≤ s.size := by
  unfold shrS
  split
  · rw [ByteArray.size_extract]; omega
  · exact Nat.le_refl _

theorem front_facts {s : ByteArray} (h : frontB s = true) : 7 ≤ s.size ∧ (ls s)[6]? = some 47 ∧ ∀ j, j < 6 → (ls s)[j]? ≠ some 47 := by
  unfold frontB at h
  obtain ⟨t, ht⟩ := List.isPrefixOf_iff_prefix.1 h
  have hl : (ls s).length = 7 + t.length := by rw [← ht]; simp [frontL]; omega
  rw [ls_len] at hl
  refine ⟨by omega, by rw [← ht]; rfl, fun j hj => ?_⟩
  rw [← ht]
  have : j = 0 ∨ j = 1 ∨ j = 2 ∨ j = 3 ∨ j = 4 ∨ j = 5 := by omega
  rcases this with rfl | rfl | rfl | rfl | rfl | rfl <;> simp [frontL]
end Go.Proofs.YtbdgkkmbnahgiaaGreatDoor

namespace Go.Proofs.YtbdgkkmbnahgiaaGreatDoor
open Go.RowKit

def sbKnown (v k : Int) : Bool := decide ((v = 4 ∨ v = 5) ∧ 8 ≤ k ∧ k ≤ 11)
def sbAsk (k : Int) : Bool := decide (k = 8 ∨ k = 10)
def sbSil (v k : Int) : Bool := decide (k = 11 ∧ v = 4)
/-- A packet with just what its kind may have. -/
def sbQ (v : Int) (p : Pk) : Pk :=
  if sbAsk p.kind = true then { pk0 with kind := p.kind, id := p.id, props := p.props, filters := p.filters }
  else if sbSil v p.kind = true then { pk0 with kind := p.kind, id := p.id, props := p.props }
  else { pk0 with kind := p.kind, id := p.id, props := p.props, codes := p.codes }
def sbHave (v : Int) (p : Pk) : Bool := if sbAsk p.kind = true then decide (0 < p.filters.length) else if sbSil v p.kind = true then true else decide (0 < p.codes.length)
def sbFields (v : Int) (p : Pk) : Bool := !(decide (p.id < 1) || (decide (65535 < p.id) || (decide (v = 4) && decide (0 < p.props.length)))) && (sbHave v p && decide (p = sbQ v p))
def sbLow (n : Int) : Bool := decide (0 ≤ n) && decide (n < 3)
def fiPlain (f : Fi) : Bool := decide (f = ⟨f.topic, f.qos, false, false, 0⟩)
/-- May a filter's options be? -/
def optB (v k : Int) (f : Fi) : Bool :=
  if k = 10 then fiPlain f && decide (f.qos = 0) else if v = 4 then fiPlain f && sbLow f.qos else sbLow f.qos && (sbLow f.handling && !(sharedB f.topic && f.noLocal))
def ansB (v k c : Int) : Bool := if v = 4 then grantB c else may k c
def fiE (v k : Int) : List Fi → Int
  | [] => 0
  | f :: l => if filterB f.topic = false then 10 else if optB v k f = false then 2 else fiE v k l
def cdE (v k : Int) : List Int → Int
  | [] => 0
  | c :: l => if ansB v k c = false then 2 else cdE v k l
def sbArg (v : Int) (p : Pk) : Bool := sbKnown v p.kind && sbFields v p
def sbE (v : Int) (p : Pk) : Int :=
  if sbArg v p = false then 2 else if (bytesS p.kind p.props).2 ≠ 0 then (bytesS p.kind p.props).2
  else if fiE v p.kind p.filters ≠ 0 then fiE v p.kind p.filters else cdE v p.kind p.codes
/-- Does a packet answer another one? -/
def sbAns (v : Int) (p q : Pk) : Bool :=
  sbAsk p.kind && (decide (q.kind = p.kind + 1) && (decide (q.id = p.id) && (decide (sbE v p = 0) && (decide (sbE v q = 0) && (sbSil v q.kind || decide (q.codes.length = p.filters.length))))))
end Go.Proofs.YtbdgkkmbnahgiaaGreatDoor

namespace Go.Proofs.YtbdgkkmbnahgiaaGreatDoor
open Go.RowKit Go.Shelf
def lays221_ren : Ren := ⟨fun | 138 => 306 | 143 => 307 | 195 => 358 | 197 => 359 | 217 => 361 | 218 => 360 | 219 => 309 | 221 => 234 | 224 => 356 | 225 => 357 | 260 => 376 | 266 => 377 | 267 => 362 | 268 => 305 | 314 => 378 | n => n, fun | 0 => 0 | 3 => 3 | 4 => 4 | 5 => 5 | 9 => 9 | 21 => 21 | 31 => 55 | 46 => 103 | 51 => 100 | 105 => 282 | 119 => 310 | 138 => 312 | 139 => 313 | 146 => 302 | n => n, fun | 1 => 0 | 3 => 1 | 4 => 2 | n => n⟩
theorem lays221 : Lays.n221 Tryz.prog lays221_ren where
  mixed := by kernel_rfl
  f138 := Tryz.func306.trans (congrArg some (by kernel_rfl))
  f143 := Tryz.func307.trans (congrArg some (by kernel_rfl))
  f195 := Tryz.func358.trans (congrArg some (by kernel_rfl))
  f197 := Tryz.func359.trans (congrArg some (by kernel_rfl))
  f217 := Tryz.func361.trans (congrArg some (by kernel_rfl))
  f218 := Tryz.func360.trans (congrArg some (by kernel_rfl))
  f219 := Tryz.func309.trans (congrArg some (by kernel_rfl))
  f221 := Tryz.func234.trans (congrArg some (by kernel_rfl))
  f224 := Tryz.func356.trans (congrArg some (by kernel_rfl))
  f225 := Tryz.func357.trans (congrArg some (by kernel_rfl))
  f260 := Tryz.func376.trans (congrArg some (by kernel_rfl))
  f266 := Tryz.func377.trans (congrArg some (by kernel_rfl))
  f267 := Tryz.func362.trans (congrArg some (by kernel_rfl))
  f268 := Tryz.func305.trans (congrArg some (by kernel_rfl))
  f314 := Tryz.func378.trans (congrArg some (by kernel_rfl))
  t0 := Tryz.underlying0
  a0 := Tryz.isAgg0
  z0 := Tryz.sizeOf0
  v0 := Tryz.zeroValue0
  t3 := Tryz.underlying3
  a3 := Tryz.isAgg3
  z3 := Tryz.sizeOf3
  v3 := Tryz.zeroValue3
  t4 := Tryz.underlying4
  a4 := Tryz.isAgg4
  z4 := Tryz.sizeOf4
  v4 := Tryz.zeroValue4
  t5 := Tryz.underlying5
  a5 := Tryz.isAgg5
  z5 := Tryz.sizeOf5
  v5 := Tryz.zeroValue5
  t9 := Tryz.underlying9
  a9 := Tryz.isAgg9
  z9 := Tryz.sizeOf9
  v9 := Tryz.zeroValue9
  t21 := Tryz.underlying21
  a21 := Tryz.isAgg21
  z21 := Tryz.sizeOf21
  v21 := Tryz.zeroValue21
  t31 := Tryz.underlying55
  a31 := Tryz.isAgg55
  z31 := Tryz.sizeOf55
  v31 := Tryz.zeroValue55
  t46 := Tryz.underlying103
  a46 := Tryz.isAgg103
  z46 := Tryz.sizeOf103
  v46 := Tryz.zeroValue103
  t51 := Tryz.underlying100
  a51 := Tryz.isAgg100
  z51 := Tryz.sizeOf100
  v51 := Tryz.zeroValue100
  t105 := Tryz.underlying282
  a105 := Tryz.isAgg282
  z105 := Tryz.sizeOf282
  v105 := Tryz.zeroValue282
  t119 := Tryz.underlying310
  a119 := Tryz.isAgg310
  z119 := Tryz.sizeOf310
  t138 := Tryz.underlying312
  a138 := Tryz.isAgg312
  z138 := Tryz.sizeOf312
  v138 := Tryz.zeroValue312
  t139 := Tryz.underlying313
  a139 := Tryz.isAgg313
  z139 := Tryz.sizeOf313
  v139 := Tryz.zeroValue313
  t146 := Tryz.underlying302
  a146 := Tryz.isAgg302
  z146 := Tryz.sizeOf302
  v146 := Tryz.zeroValue302
  g1 := by kernel_rfl
  g3 := by kernel_rfl
  g4 := by kernel_rfl
theorem info_string : (Tryz.prog.info? 9).map (fun i => (i.zero, i.size, i.bytes)) = some (some (.string ByteArray.empty), 1, 16) := by kernel_rfl
/-- Texts as the cells of a slice. -/
def sv (l : List ByteArray) : List Value := l.map Value.string
theorem sv_len (l : List ByteArray) : (sv l).length = l.length := by simp [sv]
theorem index_s (x : ByteArray) (w : World) : Calls Tryz.prog 307 #[.string x, .string ⟨#[47]⟩] w fun e w' => e = .returned (.int .i64 (Lib.indexB x ⟨#[47]⟩)) ∧ w' = w := by
  have c : Calls Tryz.prog 307 #[.string x, .string ⟨#[47]⟩] w fun e w' => e = .returned (.int .i64 (Lib.indexByte x.data.toList 47)) ∧ w' = w := Any.strings_Index_one { lays221 with } x 47 w
  rw [← Lib.index_one] at c
  exact c
theorem indexL_s (x : ByteArray) (w : World) : Calls Tryz.prog 309 #[.string x, .string ⟨#[47]⟩] w fun e w' => e = .returned (.int .i64 (Lib.indexB x ⟨#[47]⟩)) ∧ w' = w := by
  have c : Calls Tryz.prog 309 #[.string x, .string ⟨#[47]⟩] w fun e w' => e = .returned (.int .i64 (Lib.indexByte x.data.toList 47)) ∧ w' = w := Any.stringslite_Index_one { lays221 with } x 47 w
  rw [← Lib.index_one] at c
  exact c
theorem count_s (x : ByteArray) (w : World) : Calls Tryz.prog 306 #[.string x, .string ⟨#[47]⟩] w fun e w' => e = .returned (.int .i64 (Lib.countB x ⟨#[47]⟩)) ∧ w' = w := by
  have c : Calls Tryz.prog 306 #[.string x, .string ⟨#[47]⟩] w fun e w' => e = .returned (.int .i64 (Lib.countByte x.data.toList 47)) ∧ w' = w := Any.strings_Count_one { lays221 with } x 47 w
  refine c.mono fun e w' ⟨he, hw⟩ => ⟨?_, hw⟩
  rw [he]
  show _ = Ending.returned (Value.int .i64 ((Lib.count x.data.toList [47] : Nat) : Int))
  rw [Lib.count_one]
  rfl
set_option maxHeartbeats 1000000 in
theorem split_any (s : ByteArray) (w : World) (hs : s.size < 4294967281) :
    Calls Tryz.prog 174 #[.string s, .string ⟨#[47]⟩] w fun e w' => e = .returned (.slice (some ⟨w.heap.size, 0, none⟩) (lvs s).length (lvs s).length) ∧ w' = w.alloc (.cells (sv (lvs s)).toArray 9) := by
  have hle := Lib.countB_le ⟨#[47]⟩ (by decide) s.size s (Nat.le_refl _)
  have c : Calls Tryz.prog 234 #[.string s, .string ⟨#[47]⟩, .int .i64 ((0 : Nat) : Int), .int .i64 (-1)] w _ := Any.strings_genSplit_core lays221 info_string s ⟨#[47]⟩ 0 (-1) (Lib.countB s ⟨#[47]⟩ + 1) w hs (by decide) (Nat.zero_le _) (fun x c _ => index_s x _) (count_s s w) (by decide) (by decide) (by rw [if_pos (by decide)]; omega)
  rw [Nat.add_sub_cancel] at c
  have e2 : Lib.cellsOf (Lib.splitB ⟨#[47]⟩ 0 (Lib.countB s ⟨#[47]⟩) s) (Lib.countB s ⟨#[47]⟩ + 1) = (sv (lvs s)).toArray := by rw [← lvs_count s]; exact Lib.cellsOf_full _
  rw [e2] at c
  have e3 : (Lib.splitB ⟨#[47]⟩ 0 (Lib.countB s ⟨#[47]⟩) s).length = (lvs s).length := rfl
  rw [e3, ← lvs_count s] at c
  clear hle e2 e3 hs
  generalize lvs s = l at *
  go_enter Tryz.func174, Tryz.ntmps174
  go_wp2_with fail
  refine c.mono ?_
  rintro e w1 ⟨rfl, rfl⟩
  go_wp2
  go_ret
  exact ⟨rfl, rfl⟩
set_option maxHeartbeats 1000000 in
theorem levelsS_any (s : ByteArray) (w : World) (hs : s.size < 4294967281) :
    Calls Tryz.prog 120 #[.string s] w fun e w' => e = .returned (.slice (some ⟨w.heap.size, 0, none⟩) (lvs s).length (lvs s).length) ∧ w' = w.alloc (.cells (sv (lvs s)).toArray 9) := by
  have c := split_any s w hs
  generalize lvs s = l at *
  go_enter Tryz.func120, Tryz.ntmps120
  go_wp2_with fail
  refine c.mono ?_
  rintro e w1 ⟨rfl, rfl⟩
  go_wp2
  go_ret
  exact ⟨rfl, rfl⟩
set_option maxHeartbeats 1000000 in
theorem wild_any (x : ByteArray) (w : World) :
    Calls Tryz.prog 172 #[.string x] w fun e w' => e = .returned (.bool (wildB x)) ∧ w = w' := by
  have HW : Hid (wildB x = ((x.toList == [43]) || (x.toList == [35]))) := Lib.hid rfl
  go_enter Tryz.func172, Tryz.ntmps172
  cases h1 : (x.toList == [43])
  · have HX : Hid (wildB x = (x.toList == [35])) := Lib.hid (by rw [HW.out, h1, Bool.false_or])
    go_wp2
    go_ret
    exact ⟨by rw [HX.out]; rfl, rfl⟩
  · have HX : Hid (wildB x = true) := Lib.hid (by rw [HW.out, h1, Bool.true_or])
    go_wp2
    go_ret
    exact ⟨by rw [HX.out]; rfl, rfl⟩
theorem levs_step {l : List ByteArray} {k : Nat} {x : ByteArray} (hx : l[k]? = some x) (h : levOk x (decide (k + 1 = l.length)) = true) (ha : ∀ (j : Nat) (y : ByteArray), j < k → l[j]? = some y → levOk y (decide (j + 1 = l.length)) = true) :
    ∀ (j : Nat) (y : ByteArray), j < k + 1 → l[j]? = some y → levOk y (decide (j + 1 = l.length)) = true := by
  intro j y hj hy
  rcases Nat.lt_succ_iff_lt_or_eq.1 hj with h1 | rfl
  · exact ha j y h1 hy
  · rw [hx] at hy
    obtain rfl := Option.some.inj hy
    exact h
theorem levs_end {l : List ByteArray} (ha : ∀ (j : Nat) (y : ByteArray), j < l.length → l[j]? = some y → levOk y (decide (j + 1 = l.length)) = true) : levsOk l = true :=
  levs_yes fun i x hx => ha i x (List.getElem?_eq_some_iff.1 hx).1 hx
theorem rd_sv {w : World} {B n : Nat} {A : Option Addr} {l : List ByteArray} (h : Rd w B 1 A n (sv l)) {i : Nat} (hi : i < n) : ∃ b o x, A = some ⟨b, o, none⟩ ∧ b < B ∧ l[i]? = some x ∧ w.cell? ⟨b, o + i, none⟩ = some (.string x) := by
  obtain ⟨b, o, u, e, hb, hu, hc⟩ := h.at1 hi
  have hl : i < l.length := by have := h.len; rw [sv_len] at this; omega
  refine ⟨b, o, l[i], e, hb, List.getElem?_eq_getElem hl, ?_⟩
  have : u = .string l[i] := by simpa [sv, hl] using hu.symm
  rw [← this]; exact hc
set_option maxHeartbeats 2000000 in
set_option maxRecDepth 10000 in
theorem levels_any (A : Option Addr) (n c : Nat) (l : List ByteArray) (w : World) (hn : l.length = n) (h : Rd w w.heap.size 1 A n (sv l)) (hsz : ∀ x ∈ l, x.size ≤ 65535) (hn2 : n ≤ 4611686018427387904) :
    Calls Tryz.prog 119 #[.slice A n c] w fun e w' => e = .returned (.bool (levsOk l)) ∧ Below w.heap.size w w' := by
  have E1 := Lib.hid hn; have HL := Lib.hid h; have HS := Lib.hid hsz
  clear hn h hsz
  go_enter Tryz.func119, Tryz.ntmps119
  go_wp2
  go_loopw [8] (fun i wr => ∃ k : Nat, k ≤ n ∧ i = .int .i64 k ∧ (∀ (j : Nat) (y : ByteArray), j < k → l[j]? = some y → levOk y (decide (j + 1 = l.length)) = true) ∧ Below w.heap.size w wr) (fun i _ => n - (intOf i).toNat)
  case atStart => exact ⟨0, by omega, rfl, fun j x hj => by omega, Below.refl _ _⟩
  case round =>
    obtain ⟨k, hk, rfl, hall, hbel⟩ := hrel
    have HA := Lib.hid hall; have HB := Lib.hid hbel; clear hall
    by_cases hlt : k < n
    · obtain ⟨b, o, x, rfl, hb, hx, hc⟩ := rd_sv (HL.out.below hbel) hlt
      have HX := Lib.hid hx
      have HXS := Lib.hid (HS.out x (List.mem_of_getElem? hx))
      obtain ⟨d, hd⟩ : ∃ d, decide (k + 1 = l.length) = d := ⟨_, rfl⟩
      have hlast : ((k : Int) + 1 == (n : Int)) = d := by
        rw [← hd, E1.out, Bool.eq_iff_iff, beq_iff_eq, decide_eq_true_iff]; omega
      have HD := Lib.hid hd
      have b1 : (0 : Int) ≤ (k : Int) := by omega
      have b2 : (k : Int) < (n : Int) := by omega
      have HV : Hid (levOk x d = !(((x.toList == [35]) && !d) || (!wildB x && anyS x))) := Lib.hid rfl
      clear hx hd hbel
      cases h35 : (x.toList == [35])
      · have HV1 : Hid (levOk x d = !(!wildB x && anyS x)) := Lib.hid (by rw [HV.out, h35]; rfl)
        go_wp2_with fail
        refine (wild_any x _).mono ?_
        rintro e w1 ⟨rfl, rfl⟩
        cases hw : wildB x
        · have HV2 : Hid (levOk x d = !anyS x) := Lib.hid (by rw [HV1.out, hw]; rfl)
          clear hw
          go_wp2_with fail
          refine (containsAny_any x _ HXS.out).mono ?_
          rintro e w2 ⟨rfl, hb2⟩
          have HB2 := Lib.hid (HB.out.trans (hb2.mono HB.out.size)); clear hb2
          cases ha : anyS x
          · have HV3 : Hid (levOk x (decide (k + 1 = l.length)) = true) := Lib.hid (by rw [HD.out, HV2.out, ha]; rfl)
            clear ha
            go_wp2
            go_roundw
            case rel => exact ⟨k + 1, by omega, by go_num, levs_step HX.out HV3.out HA.out, HB2.out⟩
            case measure => simp [intOf]; omega
          · have HV3 : Hid (levsOk l = false) := Lib.hid (levs_no HX.out (by rw [HD.out, HV2.out, ha]; rfl))
            clear ha
            go_wp2
            go_ret
            exact ⟨by rw [HV3.out]; rfl, HB2.out⟩
        · have HV3 : Hid (levOk x (decide (k + 1 = l.length)) = true) := Lib.hid (by rw [HD.out, HV1.out, hw]; rfl)
          clear hw
          go_wp2
          go_roundw
          case rel => exact ⟨k + 1, by omega, by go_num, levs_step HX.out HV3.out HA.out, HB.out⟩
          case measure => simp [intOf]; omega
      · cases d
        · have HV3 : Hid (levsOk l = false) := Lib.hid (levs_no HX.out (by rw [HD.out, HV.out, h35]; rfl))
          go_wp2
          go_ret
          exact ⟨by rw [HV3.out]; rfl, HB.out⟩
        · have HWX : Hid (wildB x = true) := Lib.hid (by unfold wildB; rw [h35, Bool.or_true])
          have HV3 : Hid (levOk x (decide (k + 1 = l.length)) = true) := Lib.hid (by rw [HD.out, HV.out, HWX.out, Bool.not_true, Bool.and_false]; rfl)
          go_wp2_with fail
          refine (wild_any x _).mono ?_
          rintro e w1 ⟨rfl, rfl⟩
          rw [HWX.out]
          go_wp2
          go_roundw
          case rel => exact ⟨k + 1, by omega, by go_num, levs_step HX.out HV3.out HA.out, HB.out⟩
          case measure => simp [intOf]; omega
    · obtain rfl : k = n := by omega
      have HV3 : Hid (levsOk l = true) := Lib.hid (levs_end (fun j y hj => HA.out j y (by have := E1.out; omega)))
      go_wp2
      go_ret
      exact ⟨by rw [HV3.out]; rfl, hbel⟩
theorem rd_lvs (w : World) (l : List ByteArray) : Rd (w.alloc (.cells (sv l).toArray 9)) (w.alloc (.cells (sv l).toArray 9)).heap.size 1 (some ⟨w.heap.size, 0, none⟩) l.length (sv l) := by
  have h := Rd.fresh w (sv l).toArray 9
  simp only [heap_alloc_size] at h ⊢
  simpa [sv_len] using h
set_option maxHeartbeats 1000000 in
set_option maxRecDepth 10000 in
theorem filter_any (s : ByteArray) (w : World) (hs : s.size ≤ 4611686018427387904) :
    Calls Tryz.prog 76 #[.string s] w fun e w' => e = .returned (.bool (filterB s)) ∧ Below w.heap.size w w' := by
  have HS := Lib.hid hs
  have HF : Hid (filterB s = (textB s && levsOk (lvs s))) := Lib.hid rfl
  clear hs
  go_enter Tryz.func76, Tryz.ntmps76
  go_wp2_with fail
  refine (textT_any s _ HS.out).mono ?_
  rintro e w1 ⟨rfl, hb⟩
  have HB := Lib.hid hb; clear hb
  cases ht : textB s
  · have HX : Hid (filterB s = false) := Lib.hid (by rw [HF.out, ht]; rfl)
    clear ht
    go_wp2
    go_ret
    exact ⟨by rw [HX.out]; rfl, HB.out⟩
  have HX : Hid (filterB s = levsOk (lvs s)) := Lib.hid (by rw [HF.out, ht, Bool.true_and])
  have HV : Hid (s.size ≤ 65535) := Lib.hid (valid_size (by unfold textB at ht; rw [Bool.and_eq_true] at ht; exact ht.2))
  clear ht HF
  have HLS : Hid (∀ x ∈ lvs s, x.size ≤ 65535) := Lib.hid fun x hx => Nat.le_trans (lvs_size s x hx) HV.out
  have HLL : Hid ((lvs s).length ≤ 4611686018427387904) := Lib.hid (by have := lvs_len s; have := HV.out; omega)
  go_wp2_with fail
  refine (levelsS_any s _ (by have := HV.out; omega)).mono ?_
  rintro e w2 ⟨rfl, rfl⟩
  generalize lvs s = l at *
  have HR := Lib.hid (rd_lvs w1 l)
  have HB2 := Lib.hid (HB.out.alloc HB.out.size (.cells (sv l).toArray 9))
  generalize w1.alloc (.cells (sv l).toArray 9) = W at *
  generalize w1.heap.size = g at *
  go_wp2_with fail
  refine (levels_any _ _ _ l _ rfl HR.out HLS.out HLL.out).mono ?_
  rintro e w3 ⟨rfl, hb⟩
  have HB3 := Lib.hid (HB2.out.trans (hb.mono HB2.out.size)); clear hb
  go_wp2
  go_ret
  exact ⟨by rw [HX.out]; rfl, HB3.out⟩
theorem front_ext (s : ByteArray) : frontB s = (decide (7 ≤ s.size) && ((s.extract 0 7).toList == [36, 115, 104, 97, 114, 101, 47])) := by
  rw [tl_ls, ls_front]
  unfold frontB
  by_cases h : 7 ≤ s.size
  · rw [decide_eq_true h, Bool.true_and, Bool.eq_iff_iff, List.isPrefixOf_iff_prefix, beq_iff_eq, List.prefix_iff_eq_take]
    exact eq_comm
  · rw [decide_eq_false h, Bool.false_and, Bool.eq_false_iff]
    intro hp
    have := (List.isPrefixOf_iff_prefix.1 hp).length_le
    rw [ls_len] at this
    simp [frontL] at this
    omega
set_option maxHeartbeats 1000000 in
theorem hasPrefix_any (s : ByteArray) (w : World) (hs : s.size ≤ 4611686018427387904) :
    Calls Tryz.prog 308 #[.string s, .string ⟨#[36, 115, 104, 97, 114, 101, 47]⟩] w fun e w' => e = .returned (.bool (frontB s)) ∧ w = w' := by
  by_cases h : 7 ≤ s.size
  · have h' : (7 : Int) ≤ (s.size : Int) := by omega
    have HF : Hid (frontB s = ((s.extract 0 7).toList == [36, 115, 104, 97, 114, 101, 47])) := Lib.hid (by rw [front_ext, decide_eq_true h, Bool.true_and])
    clear h
    go_enter Tryz.func308, Tryz.ntmps308
    go_wp2
    go_ret
    exact ⟨by rw [HF.out]; rfl, rfl⟩
  · have h' : ¬ (7 : Int) ≤ (s.size : Int) := by omega
    have HF : Hid (frontB s = false) := Lib.hid (by rw [front_ext, decide_eq_false h, Bool.false_and])
    clear h
    go_enter Tryz.func308, Tryz.ntmps308
    go_wp2
    go_ret
    exact ⟨by rw [HF.out]; rfl, rfl⟩
theorem front_size {s : ByteArray} (h : frontB s = true) : 7 ≤ s.size := (front_facts h).1
set_option maxHeartbeats 1000000 in
theorem cutPrefixL_any (s : ByteArray) (w : World) (hs : s.size ≤ 4611686018427387904) :
    Calls Tryz.prog 235 #[.string s, .string ⟨#[36, 115, 104, 97, 114, 101, 47]⟩] w fun e w' => e = .returned (.tuple #[.string (shrS s), .bool (frontB s)]) ∧ w = w' := by
  have HS := Lib.hid hs; clear hs
  go_enter Tryz.func235, Tryz.ntmps235
  go_wp2_with fail
  refine (hasPrefix_any s _ HS.out).mono ?_
  rintro e w1 ⟨rfl, rfl⟩
  cases hf : frontB s
  · have HFB := Lib.hid hf
    have HX : Hid (shrS s = s) := Lib.hid (by unfold shrS; rw [hf]; rfl)
    clear hf
    go_wp2
    go_ret2
    exact ⟨by rw [HX.out, HFB.out]; rfl, rfl⟩
  · have HFB := Lib.hid hf
    have HX : Hid (shrS s = s.extract 7 s.size) := Lib.hid (by unfold shrS; rw [hf]; rfl)
    have h7 : (7 : Int) ≤ (s.size : Int) := by have := front_size hf; omega
    clear hf
    go_wp2
    go_ret2
    exact ⟨by rw [HX.out, HFB.out]; rfl, rfl⟩
set_option maxHeartbeats 1000000 in
theorem cutPrefix_any (s : ByteArray) (w : World) (hs : s.size ≤ 4611686018427387904) :
    Calls Tryz.prog 175 #[.string s, .string ⟨#[36, 115, 104, 97, 114, 101, 47]⟩] w fun e w' => e = .returned (.tuple #[.string (shrS s), .bool (frontB s)]) ∧ w = w' := by
  have HS := Lib.hid hs; clear hs
  go_enter Tryz.func175, Tryz.ntmps175
  go_wp2_with fail
  refine (cutPrefixL_any s _ HS.out).mono ?_
  rintro e w1 ⟨rfl, rfl⟩
  go_wp2
  go_ret2
  exact ⟨rfl, rfl⟩
set_option maxHeartbeats 2000000 in
theorem cutL_any (s : ByteArray) (w : World) (hs : s.size ≤ 4611686018427387904) :
    Calls Tryz.prog 236 #[.string s, .string ⟨#[47]⟩] w fun e w' => e = .returned (.tuple #[.string (cutS s).1, .string (cutS s).2.1, .bool (cutS s).2.2]) ∧ Below w.heap.size w w' := by
  rcases Lib.indexB_cases s ⟨#[47]⟩ with hix | ⟨i, hix, hroom⟩
  · have HX : Hid (cutS s = (s, ⟨#[]⟩, false)) := Lib.hid (by unfold cutS; rw [if_pos hix])
    have HI := Lib.hid hix
    clear hix
    go_enter Tryz.func236, Tryz.ntmps236
    go_wp2_with fail
    refine (indexL_s s _).mono ?_
    rintro e w1 ⟨rfl, rfl⟩
    rw [HI.out]
    go_wp2
    go_ret3
    exact ⟨by rw [HX.out]; rfl, Below.refl _ _⟩
  · have HX : Hid (cutS s = (s.extract 0 i, s.extract (i + 1) s.size, true)) := Lib.hid (by
      unfold cutS; rw [if_neg (by omega), hix]; rfl)
    have HI := Lib.hid hix
    have hz : (⟨#[47]⟩ : ByteArray).size = 1 := rfl
    rw [hz] at hroom
    have c1 : (0 : Int) ≤ (i : Int) := by omega
    have c2 : (i : Int) ≤ (s.size : Int) := by omega
    have c3 : (0 : Int) ≤ (i : Int) + 1 := by omega
    have c4 : (i : Int) + 1 ≤ (s.size : Int) := by omega
    clear hix hz hroom
    go_enter Tryz.func236, Tryz.ntmps236
    go_wp2_with fail
    refine (indexL_s s _).mono ?_
    rintro e w1 ⟨rfl, rfl⟩
    rw [HI.out]
    go_wp2
    go_region
    go_wp2
    go_ret3
    exact ⟨by rw [HX.out]; rfl, below_drawn (Below.refl _ _) _⟩
set_option maxHeartbeats 1000000 in
theorem cut_any (s : ByteArray) (w : World) (hs : s.size ≤ 4611686018427387904) :
    Calls Tryz.prog 176 #[.string s, .string ⟨#[47]⟩] w fun e w' => e = .returned (.tuple #[.string (cutS s).1, .string (cutS s).2.1, .bool (cutS s).2.2]) ∧ Below w.heap.size w w' := by
  have HS := Lib.hid hs; clear hs
  go_enter Tryz.func176, Tryz.ntmps176
  go_wp2_with fail
  refine (cutL_any s _ HS.out).mono ?_
  rintro e w1 ⟨rfl, hb⟩
  have HB := Lib.hid hb; clear hb
  go_wp2
  go_ret3
  exact ⟨rfl, HB.out⟩
/-- What topic.Shared leaves. -/
def SharedOut (s : ByteArray) (w : World) (e : Ending) (w' : World) : Prop := (∃ a b : ByteArray, e = .returned (.tuple #[.string a, .string b, .bool (sharedB s)])) ∧ Below w.heap.size w w'
set_option maxHeartbeats 2000000 in
set_option maxRecDepth 10000 in
theorem shared_any (s : ByteArray) (w : World) (hs : s.size ≤ 4611686018427387904) :
    Calls Tryz.prog 122 #[.string s] w (SharedOut s w) := by
  have HS := Lib.hid hs
  have HZ := Lib.hid (shr_size s)
  have HC := Lib.hid (cut_size (shrS s))
  have HE : Hid (sharedB s = (frontB s && ((cutS (shrS s)).2.2 && (validB s && (nameB (cutS (shrS s)).1 && filterB (cutS (shrS s)).2.1))))) := Lib.hid rfl
  clear hs
  go_enter Tryz.func122, Tryz.ntmps122
  go_wp2_with fail
  refine (cutPrefix_any s _ HS.out).mono ?_
  rintro e w1 ⟨rfl, rfl⟩
  go_wp2_with fail
  refine (cut_any (shrS s) _ (by have := HS.out; have := HZ.out; omega)).mono ?_
  rintro e w1 ⟨rfl, hb⟩
  have HB := Lib.hid hb; clear hb
  obtain ⟨R, hR⟩ : ∃ R, cutS (shrS s) = R := ⟨_, rfl⟩
  rw [hR] at HC HE ⊢
  clear hR
  generalize shrS s = r at *
  obtain ⟨x, y, z⟩ := R
  simp only at HC HE ⊢
  cases hf : frontB s
  · have HX : Hid (sharedB s = false) := Lib.hid (by rw [HE.out, hf]; rfl)
    clear hf
    go_wp2
    go_ret3
    exact ⟨⟨_, _, by rw [HX.out]; rfl⟩, HB.out⟩
  have HE1 : Hid (sharedB s = (z && (validB s && (nameB x && filterB y)))) := Lib.hid (by rw [HE.out, hf, Bool.true_and])
  clear hf
  cases z
  · have HX : Hid (sharedB s = false) := Lib.hid (by rw [HE1.out]; rfl)
    go_wp2
    go_ret3
    exact ⟨⟨_, _, by rw [HX.out]; rfl⟩, HB.out⟩
  go_wp2_with fail
  refine (valid_any s _ HS.out).mono ?_
  rintro e w2 ⟨rfl, hb⟩
  have HB2 := Lib.hid (HB.out.trans (hb.mono HB.out.size)); clear hb
  cases hv : validB s
  · have HX : Hid (sharedB s = false) := Lib.hid (by rw [HE1.out, hv]; rfl)
    clear hv
    go_wp2
    go_ret3
    exact ⟨⟨_, _, by rw [HX.out]; rfl⟩, HB2.out⟩
  have HE2 : Hid (sharedB s = (nameB x && filterB y)) := Lib.hid (by rw [HE1.out, hv, Bool.true_and, Bool.true_and])
  clear hv
  go_wp2_with fail
  refine (name_any x _ (by have := HS.out; have := HZ.out; have := HC.out.1; omega)).mono ?_
  rintro e w3 ⟨rfl, hb⟩
  have HB3 := Lib.hid (HB2.out.trans (hb.mono HB2.out.size)); clear hb
  cases hn : nameB x
  · have HX : Hid (sharedB s = false) := Lib.hid (by rw [HE2.out, hn]; rfl)
    clear hn
    go_wp2
    go_ret3
    exact ⟨⟨_, _, by rw [HX.out]; rfl⟩, HB3.out⟩
  have HE3 : Hid (sharedB s = filterB y) := Lib.hid (by rw [HE2.out, hn, Bool.true_and])
  clear hn
  go_wp2_with fail
  refine (filter_any y _ (by have := HS.out; have := HZ.out; have := HC.out.2; omega)).mono ?_
  rintro e w4 ⟨rfl, hb⟩
  have HB4 := Lib.hid (HB3.out.trans (hb.mono HB3.out.size)); clear hb
  cases hn : filterB y
  · have HX : Hid (sharedB s = false) := Lib.hid (by rw [HE3.out, hn])
    clear hn
    go_wp2
    go_ret3
    exact ⟨⟨_, _, by rw [HX.out]; rfl⟩, HB4.out⟩
  have HX : Hid (sharedB s = true) := Lib.hid (by rw [HE3.out, hn])
  clear hn
  go_wp2
  go_ret3
  exact ⟨⟨_, _, by rw [HX.out]; rfl⟩, HB4.out⟩
end Go.Proofs.YtbdgkkmbnahgiaaGreatDoor

