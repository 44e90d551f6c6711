/- Packets made: a literal, an empty variable, a store of a whole one. -/
import Derived.Test.YtdpeljnoaiaplaaPkL
import Derived.Laws.NewBlocks
namespace Go.Proofs.Ytdpeljnoaiaplaa
open Go.RowKit

def wl0 : Wl := ⟨⟨#[]⟩, ⟨#[]⟩, 0, false, []⟩
def pk0 : Pk := ⟨0, false, false, 0, 0, ⟨#[]⟩, ⟨#[]⟩, false, 0, ⟨#[]⟩, false, ⟨#[]⟩, false, ⟨#[]⟩, false, wl0, false, 0, [], [], []⟩
def bdPk (v : Array (Nat × Value)) : Sem Value := Instr.build PkT v
def alPk (b : Bool) (v : Value) : Sem Value := Instr.alloc PkT b v
def stPk (a v : Value) : Sem Unit := Instr.storeAt PkT a v
theorem to_bdPk (v : Array (Nat × Value)) : Instr.build PkT v = bdPk v := rfl
theorem to_alPk (b : Bool) (v : Value) : Instr.alloc PkT b v = alPk b v := rfl
theorem to_stPk (a v : Value) : Instr.storeAt PkT a v = stPk a v := rfl
theorem run_alPk (w : World) : (alPk true (.tuple #[])).run Try.prog w = .ok (.pointer (some ⟨w.heap.size, 0, none⟩)) (w.alloc (.cells (pkC pk0 hs0) PkT)) := by kernel_rfl
theorem run_bd0 (w : World) : (bdPk #[]).run Try.prog w = .ok (pkV pk0 hs0) w := by kernel_rfl
theorem run_bdK (k : Int) (w : World) : (bdPk #[(0, .int .i64 k)]).run Try.prog w = .ok (pkV { pk0 with kind := k } hs0) w := by kernel_rfl
theorem run_bdKI (k i : Int) (w : World) : (bdPk #[(0, .int .i64 k), (4, .int .i64 i)]).run Try.prog w = .ok (pkV { pk0 with kind := k, id := i } hs0) w := by kernel_rfl
theorem run_bdKIC (k i c : Int) (w : World) : (bdPk #[(0, .int .i64 k), (4, .int .i64 i), (17, .int .i64 c)]).run Try.prog w = .ok (pkV { pk0 with kind := k, id := i, code := c } hs0) w := by kernel_rfl
theorem run_bdKC (k c : Int) (w : World) : (bdPk #[(0, .int .i64 k), (17, .int .i64 c)]).run Try.prog w = .ok (pkV { pk0 with kind := k, code := c } hs0) w := by kernel_rfl
theorem run_bdKICP (k i c : Int) (l : List Pr) (A : Option Addr) (n : Nat) (w : World) : (bdPk #[(0, .int .i64 k), (4, .int .i64 i), (17, .int .i64 c), (20, .slice A l.length n)]).run Try.prog w = .ok (pkV { pk0 with kind := k, id := i, code := c, props := l } { hs0 with props := ⟨A, n⟩ }) w := by kernel_rfl
theorem there_bk {w : World} {g : Nat} {p : Pk} {h : Hs} (hb : Bk w g PkT (pkC p h)) : w.there g 0 25 := fun j hj => by
  rw [Nat.zero_add, hb.cell, hb.free]
  refine ⟨?_, rfl⟩
  rw [Array.getElem?_eq_getElem (by rw [pkC_size]; exact hj)]
  rfl
theorem pkC_one (p : Pk) (h : Hs) : (pkC p h).all (·.oneCell') = true := by simp [pkC, Value.oneCell']
/-- Block g made a packet. -/
def putPk (w : World) (g : Nat) (q : Pk) (k : Hs) : World := w.setCells g 0 (pkC q k).toList
/-- A whole packet stored into a block that holds one. -/
theorem run_stPk {w : World} {g : Nat} {p : Pk} {h : Hs} (hb : Bk w g PkT (pkC p h)) (q : Pk) (k : Hs) : (stPk (.pointer (some ⟨g, 0, none⟩)) (pkV q k)).run Try.prog w = .ok () (putPk w g q k) := by
  unfold stPk
  exact run_storeAt_mid w g 0 PkT (pkC q k) (by rw [pkC_size]; exact there_bk hb) (by rw [pkC_size]; exact info_pk) (pkC_one q k)
def putA (cs : Array Value) : Nat → List Value → Array Value
  | _, [] => cs
  | o, v :: vs => putA (cs.setIfInBounds o v) (o + 1) vs
theorem putA_size : ∀ (vs : List Value) (o : Nat) (cs : Array Value), (putA cs o vs).size = cs.size
  | [], _, _ => rfl
  | v :: vs, o, cs => by rw [putA, putA_size vs]; simp
theorem putA_at : ∀ (vs : List Value) (o : Nat) (cs : Array Value) (i : Nat), i < cs.size → (putA cs o vs)[i]? = if o ≤ i ∧ i < o + vs.length then vs[i - o]? else cs[i]?
  | [], o, cs, i, _ => by rw [putA, if_neg (by simp <;> omega)]
  | v :: vs, o, cs, i, hi => by
    rw [putA, putA_at vs (o + 1) _ i (by simpa using hi)]
    by_cases h : i = o
    · subst h
      rw [if_neg (by omega), if_pos (by simp)]
      simp [hi]
    · by_cases h2 : o + 1 ≤ i ∧ i < o + 1 + vs.length
      · rw [if_pos h2, if_pos (by simp; omega)]
        rw [show i - o = (i - (o + 1)) + 1 by omega]
        simp
      · rw [if_neg h2, if_neg (by simp; omega)]
        rw [Array.getElem?_setIfInBounds_ne (fun e => h e.symm)]
theorem putA_all {cs ds : Array Value} (h : ds.size = cs.size) : putA cs 0 ds.toList = ds := by
  apply Array.ext_getElem?
  intro i
  by_cases hi : i < cs.size
  · rw [putA_at _ _ _ _ hi, if_pos (by simp; omega)]
    simp
  · rw [Array.getElem?_eq_none (by rw [putA_size]; omega), Array.getElem?_eq_none (by omega)]
theorem setCells_bk : ∀ (vs : List Value) (o : Nat) {w : World} {g : Nat} {t : TypeId} {cs : Array Value}, Bk w g t cs → Bk (w.setCells g o vs) g t (putA cs o vs)
  | [], _, _, _, _, _, h => h
  | v :: vs, o, _, _, _, _, h => setCells_bk vs (o + 1) (h.put o v)
theorem put_bk {w : World} {g : Nat} {p : Pk} {h0 : Hs} (h : Bk w g PkT (pkC p h0)) (q : Pk) (k : Hs) : Bk (putPk w g q k) g PkT (pkC q k) := by
  have := setCells_bk (pkC q k).toList 0 h
  rw [putA_all (by rw [pkC_size, pkC_size])] at this
  exact this
theorem putPk_mods (w : World) (g : Nat) (q : Pk) (k : Hs) : w.grownBy (putPk w g q k) (some g) := by
  have : ∀ (vs : List Value) (o : Nat) (x : World), w.grownBy x (some g) → w.grownBy (x.setCells g o vs) (some g) := by
    intro vs
    induction vs with
    | nil => intro o x hx; exact hx
    | cons v vs ih => intro o x hx; exact ih (o + 1) _ (hx.trans (mod_set x g o v))
  exact this _ 0 w (World.grownBy.refl w _)
theorem setCells_fresh (w : World) (t : TypeId) : ∀ (vs : List Value) (o : Nat) (cs : Array Value), (w.alloc (.cells cs t)).setCells w.heap.size o vs = w.alloc (.cells (putA cs o vs) t)
  | [], _, _ => rfl
  | v :: vs, o, cs => by
    rw [World.setCells, putA, ← setCells_fresh w t vs (o + 1) (cs.setIfInBounds o v)]
    rw [World.setCell_alloc_at _ _ _ _ _ rfl]
theorem putPk_fresh (w : World) (p q : Pk) (h k : Hs) : putPk (w.alloc (.cells (pkC p h) PkT)) w.heap.size q k = w.alloc (.cells (pkC q k) PkT) := by
  unfold putPk
  rw [setCells_fresh, putA_all (by rw [pkC_size, pkC_size])]
theorem run_stPk_fresh (w : World) (p q : Pk) (h k : Hs) : (stPk (.pointer (some ⟨w.heap.size, 0, none⟩)) (pkV q k)).run Try.prog (w.alloc (.cells (pkC p h) PkT)) = .ok () (w.alloc (.cells (pkC q k) PkT)) := by
  rw [run_stPk (Bk.fresh w PkT (pkC p h)), putPk_fresh]
end Go.Proofs.Ytdpeljnoaiaplaa
