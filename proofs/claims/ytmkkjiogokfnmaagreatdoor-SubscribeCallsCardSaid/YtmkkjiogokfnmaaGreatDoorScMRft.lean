/-
  References 10 and 12, plain: what they answer is what the program answers.
  Reference 10: right, Valid, Short, Body, Next, Rest; reference 08: Done.
  Reference 10: Body, Next, Rest; reference 08: Done.
-/
import Derived.Test.YtmkkjiogokfnmaaGreatDoorScMRfC
import Derived.Test.YtmkkjiogokfnmaaGreatDoorScMTai
import Derived.Test.YtmkkjiogokfnmaaGreatDoorScMRfB
import Derived.Test.YtmkkjiogokfnmaaGreatDoorScMReaB
import Derived.Deep.RegionLaw
namespace Go.Proofs.YtmkkjiogokfnmaaGreatDoor
open Go.RowKit

theorem right_none {v k : Int} {l : List Pr} (h : v = 4 → l.length = 0) : rightE v k l = (bytesS k l).2 := by
  unfold rightE
  by_cases h4 : v = 4
  · have h0 := h h4
    have hl : l = [] := List.eq_nil_of_length_eq_zero h0
    subst hl
    rw [if_pos h4, if_neg (by simp), bytesS_none]
  · rw [if_neg h4]
/-- The error behind a packet that was read, and what is handed back. -/
def doneE (t : ByteArray) (a : Nat) (e x : Int) : Int := if (if e = 0 ∧ a < t.size then 5 else e) = 0 then x else (if e = 0 ∧ a < t.size then 5 else e)
def doneR (p : Pk) (t : ByteArray) (a : Nat) (e x : Int) : Pk × Int := if doneE t a e x ≠ 0 then (pk0, doneE t a e x) else (p, 0)
end Go.Proofs.YtmkkjiogokfnmaaGreatDoor

namespace Go.Proofs.YtmkkjiogokfnmaaGreatDoor
open Go.RowKit
attribute [local go_sem ↓] to_ldPk to_bxPk to_bdPk to_alPk to_stPk
attribute [local go_sem] run_bxPk run_bxPk_agg ld_fresh run_alPk run_bd0 run_bdK run_bdKI run_bdKIC run_bdKC run_bdKICP run_stPk_fresh pkC_0 pkC_1 pkC_2 pkC_3 pkC_4 pkC_5 pkC_6 pkC_7 pkC_8 pkC_9 pkC_10 pkC_11 pkC_12 pkC_13 pkC_14 pkC_15 pkC_16 pkC_17 pkC_18 pkC_19 pkC_20 pkC_21 pkC_22 pkC_23 pkC_24

/-- What stands while Done goes. -/
structure DS (w : World) (g : Nat) (p : Pk) (h : Hs) (t : ByteArray) (a : Nat) (e : Int) (x : World) : Prop where
  mods : Mods (fun z => z = g) w x
  pk : Bk x w.heap.size PkT (pkC p h)
  res : Bk x (w.heap.size + 1) PkT (pkC pk0 hs0)
  cur : RCur x g t a e
  lt : g < w.heap.size
section
variable {w x y : World} {g a : Nat} {p : Pk} {h : Hs} {t : ByteArray} {e : Int}
theorem DS.below (d : DS w g p h t a e x) (hb : Below x.heap.size x y) : DS w g p h t a e y :=
  ⟨d.mods.trans (Mods.of_below hb), d.pk.below hb d.pk.lt, d.res.below hb d.res.lt, d.cur.below hb, d.lt⟩
theorem DS.turn (d : DS w g p h t a e x) {e' : Int} (hc : RCur y g t a e') (hm : x.grownBy y (some g)) : DS w g p h t a e' y :=
  ⟨d.mods.trans (Mods.of_grown hm rfl), d.pk.mods (S := fun z => z = g) (Mods.of_grown hm rfl) (by have := d.lt; omega), d.res.mods (S := fun z => z = g) (Mods.of_grown hm rfl) (by have := d.lt; omega), hc, d.lt⟩
theorem Mods.grown {w x : World} {g : Nat} (h : Mods (fun z => z = g) w x) : w.grownBy x (some g) := ⟨h.os, h.tape, h.output, h.size, fun i hi hn => h.block i hi (fun e => hn (by rw [e]))⟩
theorem DS.put (d : DS w g p h t a e x) (q : Pk) (k : Hs) : Mods (fun z => z = g) w (putPk x (w.heap.size + 1) q k) := by
  have h1 : Mods (fun z => z = g ∨ z = w.heap.size + 1) w (putPk x (w.heap.size + 1) q k) := (d.mods.mono (fun _ _ hz => .inl hz)).trans (Mods.of_grown (putPk_mods x (w.heap.size + 1) q k) (.inr rfl))
  exact h1.mono (fun i hi hz => hz.elim id (fun e => by omega))
end
end Go.Proofs.YtmkkjiogokfnmaaGreatDoor

