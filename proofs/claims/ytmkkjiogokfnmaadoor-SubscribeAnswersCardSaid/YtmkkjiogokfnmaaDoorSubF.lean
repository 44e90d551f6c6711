/- subscribe: the walk of list. -/
import Derived.Test.YtmkkjiogokfnmaaDoorSubE
import Derived.Test.YtmkkjiogokfnmaaDoorOrdD
import Derived.Test.YtmkkjiogokfnmaaDoorOwnK
import Derived.WalkMore
import Derived.BigRegion
import Derived.Deep.LoopGhost
namespace Go.Proofs.YtmkkjiogokfnmaaDoor
open Go.RowKit
attribute [local go_sem ↓] to_ldPk to_bxPk to_bdPk to_alPk to_stPk
attribute [local go_sem] run_bxPk run_bxPk_agg ld_fresh run_alPk run_bd0 run_bdK run_bdKI run_bdKIC run_bdKC run_bdKICP run_stPk_fresh pkC_0 pkC_1 pkC_2 pkC_3 pkC_4 pkC_5 pkC_6 pkC_7 pkC_8 pkC_9 pkC_10 pkC_11 pkC_12 pkC_13 pkC_14 pkC_15 pkC_16 pkC_17 pkC_18 pkC_19 pkC_20 pkC_21 pkC_22 pkC_23 pkC_24
theorem Mods.own {S : Nat → Prop} {w x y : World} {r : Option Nat} (h : Mods S w x) (hg : x.grownBy y r) (hr : ∀ k, r = some k → w.heap.size ≤ k) : Mods S w y :=
  ⟨hg.os.trans h.os, hg.tape.trans h.tape, hg.output.trans h.output, Nat.le_trans h.size hg.size, fun i hi hs => (hg.block i (Nat.lt_of_lt_of_le hi h.size) (fun e => by have := hr i e.symm; omega)).trans (h.block i hi hs)⟩
def OwnF (w x : World) (l : List Fi) (F : Hd) : Prop := x.ownsRow w.heap.size 35 5 (.slice F.a l.length F.c) l.length (fis l)
def OwnC (w x : World) (l : List Int) (C : Hd) : Prop := x.ownsRow w.heap.size 3 1 (.slice C.a l.length C.c) l.length (iv l)
section
variable {w x y : World} {g gp : Nat} {t : ByteArray} {q : Pk} {hq : Hs} {a a' : Nat} {e e' : Int}
theorem OwnF.stay {l : List Fi} {F : Hd} (h : OwnF w x l F) (hm : x.grownBy y (some g)) (hg : g < w.heap.size) : OwnF w y l F := own_mods h (Mods.of_grown (S := fun i => i = g) hm rfl) (fun k hk e => by have := (own_block h k hk).1; omega)
theorem OwnC.stay {l : List Int} {F : Hd} (h : OwnC w x l F) (hm : x.grownBy y (some g)) (hg : g < w.heap.size) : OwnC w y l F := own_mods h (Mods.of_grown (S := fun i => i = g) hm rfl) (fun k hk e => by have := (own_block h k hk).1; omega)
end
theorem OwnC.snoc {w x : World} {l : List Int} {A : Option Addr} {c : Nat} {y : Int} (h : x.ownsRow w.heap.size 3 1 (.slice A (l.length + 1) c) (l.length + 1) (iv l ++ [.int .i64 y])) {g i : Nat} (u : Value) (hg : g < w.heap.size) : OwnC w (x.setCell ⟨g, i, none⟩ u) (l ++ [y]) ⟨A, c⟩ := by
  have h1 : OwnC w x (l ++ [y]) ⟨A, c⟩ := by
    unfold OwnC
    rw [List.length_append]
    simpa [iv] using h
  exact h1.stay (mod_set x g i u) hg
theorem codes_put (q : Pk) (hq : Hs) (l : List Int) (y : Int) (A : Option Addr) (c : Nat) (C : Hd) : (pkC { q with codes := l } { hq with codes := C }).setIfInBounds 22 (.slice A (l.length + 1) c) = pkC { q with codes := l ++ [y] } { hq with codes := ⟨A, c⟩ } := by
  rw [show l.length + 1 = (l ++ [y]).length by simp]
  rfl
theorem OwnF.opt {w x y : World} {g gf : Nat} {l : List Fi} {F : Hd} (h : OwnF w x l F) (hm : Mods (two g gf) x y) (hg : g < w.heap.size) (hlt : ∀ q, (Value.slice F.a l.length F.c).ownBlock = some q → q < gf) : OwnF w y l F :=
  own_mods h hm (fun k hk e => by have h1 := (own_block h k hk).1; have h2 := hlt k hk; rcases e with e | e <;> omega)
theorem fis_snoc (l : List Fi) (f : Fi) : fis (l ++ [f]) = fis l ++ fiC f := by simp [fis]
theorem OwnF.snoc {w x : World} {l : List Fi} {A : Option Addr} {c : Nat} {f : Fi} (h : x.ownsRow w.heap.size 35 5 (.slice A (l.length + 1) c) (l.length + 1) (fis l ++ fiC f)) {g i : Nat} (u : Value) (hg : g < w.heap.size) : OwnF w (x.setCell ⟨g, i, none⟩ u) (l ++ [f]) ⟨A, c⟩ := by
  have h1 : OwnF w x (l ++ [f]) ⟨A, c⟩ := by
    unfold OwnF
    rw [List.length_append, fis_snoc]
    exact h
  exact h1.stay (mod_set x g i u) hg
theorem filters_put (q : Pk) (hq : Hs) (l : List Fi) (f : Fi) (A : Option Addr) (c : Nat) (F : Hd) : (pkC { q with filters := l } { hq with filters := F }).setIfInBounds 23 (.slice A (l.length + 1) c) = pkC { q with filters := l ++ [f] } { hq with filters := ⟨A, c⟩ } := by
  rw [show l.length + 1 = (l ++ [f]).length by simp]
  rfl
theorem rd_fi1 (W : World) (f : Fi) : Rd (W.alloc (.cells #[.string f.topic, .int .i64 f.qos, .bool f.noLocal, .bool f.asPub, .int .i64 f.handling] 35)) (W.heap.size + 1) 5 (some ⟨W.heap.size, 0, none⟩) 1 (fiC f) := by
  have h := Rd.fresh W (fiCells f) 35
  refine ⟨rfl, ?_⟩
  rcases h.2 with h | h
  · exact .inl h
  · exact .inr h
theorem fiC_one (f : Fi) : ∀ u ∈ fiC f, u.oneCell' = true := by
  intro u hu
  simp [fiC] at hu
  rcases hu with rfl | rfl | rfl | rfl | rfl <;> rfl
theorem lsR_succ (v k : Int) (t : ByteArray) (n a : Nat) (e : Int) (fi : List Fi) (cd : List Int) : lsR v k t (n + 1) a e fi cd =
    if e ≠ 0 ∨ t.size ≤ a then (fi, cd, a, e)
    else if sbAsk k = true then lsR v k t n (fiR v k t a).2.1 (fiR v k t a).2.2 (fi ++ [(fiR v k t a).1]) cd
    else lsR v k t n (a + 1) 0 fi (cd ++ [((numS t a 0 1 : Nat) : Int)]) := rfl
theorem lsR_err {v k : Int} {t : ByteArray} {n a : Nat} {e : Int} {fi : List Fi} {cd : List Int} (he : e ≠ 0) : lsR v k t n a e fi cd = (fi, cd, a, e) := by
  cases n with
  | zero => rfl
  | succ n => rw [lsR_succ, if_pos (.inl he)]
theorem readU_zero {r : ByteArray} (h : (readU r).2.2 ≠ 0) : (readU r).2.1 = 0 := by
  unfold readU readB at h ⊢
  split
  · rfl
  · rename_i hc
    rw [if_neg hc] at h
    split
    · rfl
    · rename_i h1
      rw [if_neg h1] at h
      split
      · rfl
      · rename_i h2
        rw [if_neg h2] at h
        exact absurd rfl h
theorem rt_take {t : ByteArray} {a : Nat} (ha : a ≤ t.size) : (takeS t a (readU (t.extract a t.size)).2.2 ((readU (t.extract a t.size)).2.1 : Nat)).2 = ((rtC t a 0).2.1, (rtC t a 0).2.2) := by
  have hR : rtC t a 0 = ((readU (t.extract a t.size)).1, a + (readU (t.extract a t.size)).2.1, (readU (t.extract a t.size)).2.2) := if_neg (fun x => x rfl)
  have hle := (readU_le (t.extract a t.size)).1
  rw [size_back] at hle
  rw [hR]
  by_cases hx : (readU (t.extract a t.size)).2.2 = 0
  · rw [hx, take_yes (by omega)]
  · rw [takeS_bad hx, readU_zero hx]
    rfl
end Go.Proofs.YtmkkjiogokfnmaaDoor
