/- Reference 10: Read. -/
import Derived.Test.YtmkkjiogokfnmaaGreatDoorScMRft
import Derived.Test.YtmkkjiogokfnmaaGreatDoorScOrdD
namespace Go.Proofs.YtmkkjiogokfnmaaGreatDoor
open Go.RowKit
attribute [local go_sem ↓] to_ldPk to_bxPk to_bdPk to_alPk to_stPk
attribute [local go_sem] run_bxPk run_bxPk_agg ld_fresh run_alPk run_bd0 run_bdK run_bdKI run_bdKIC run_bdKC run_bdKICP run_stPk_fresh pkC_0 pkC_1 pkC_2 pkC_3 pkC_4 pkC_5 pkC_6 pkC_7 pkC_8 pkC_9 pkC_10 pkC_11 pkC_12 pkC_13 pkC_14 pkC_15 pkC_16 pkC_17 pkC_18 pkC_19 pkC_20 pkC_21 pkC_22 pkC_23 pkC_24

/-- What stands while a packet is read: the result's block, the packet's, the cursor's. -/
structure RK (w : World) (g gp gc : Nat) (k i c : Int) (l : List Pr) (A : Option Addr) (n : Nat) (t : ByteArray) (a : Nat) (e : Int) (x : World) : Prop where
  kept : Below w.heap.size w x
  res : Bk x g PkT (pkC pk0 hs0)
  pk : Bk x gp PkT (pkC (ackR1 k i c l) { hs0 with props := ⟨A, n⟩ })
  cur : RCur x gc t a e
  rd : Rd x x.heap.size 4 A l.length (prs l)
  cap : l.length ≤ n
  ne : g ≠ gp ∧ g ≠ gc ∧ gp ≠ gc
  base : w.heap.size ≤ g ∧ w.heap.size ≤ gp ∧ w.heap.size ≤ gc
section
variable {w x y : World} {g gp gc : Nat} {k i c : Int} {l : List Pr} {A : Option Addr} {n : Nat} {t : ByteArray} {a a' : Nat} {e e' : Int}
theorem RK.below (h : RK w g gp gc k i c l A n t a e x) (hb : Below x.heap.size x y) : RK w g gp gc k i c l A n t a e y :=
  ⟨h.kept.trans (hb.mono h.kept.size), h.res.below hb h.res.lt, h.pk.below hb h.pk.lt, h.cur.below hb, (h.rd.below hb).wider hb.size, h.cap, h.ne, h.base⟩
theorem RK.turn (h : RK w g gp gc k i c l A n t a e x) (hc : RCur y gc t a' e') (hm : x.grownBy y (some gc)) : RK w g gp gc k i c l A n t a' e' y :=
  ⟨below_mod h.kept hm h.kept.size h.base.2.2, h.res.mods (S := fun z => z = gc) (Mods.of_grown hm rfl) h.ne.2.1, h.pk.mods (S := fun z => z = gc) (Mods.of_grown hm rfl) h.ne.2.2, hc,
    (h.rd.other h.cur.1 (rcur_no32 _ _ _) hm (Nat.le_refl _)).wider hm.size, h.cap, h.ne, h.base⟩
theorem pk_put {w : World} {g : Nat} {k i c : Int} {l : List Pr} {A : Option Addr} {n : Nat} (h : Bk w g PkT (pkC (ackR1 k i 0 []) hs0)) : Bk ((w.setCell ⟨g, 21, .none⟩ (.int .i64 c)).setCell ⟨g, 24, .none⟩ (.slice A l.length n)) g PkT (pkC (ackR1 k i c l) { hs0 with props := ⟨A, n⟩ }) :=
  (h.upd 21 (.int .i64 c) (pk_code k i 0 c [] hs0)).upd 24 _ (pk_props k i c [] l A n hs0)
theorem RK.put (h : RK w g gp gc k i 0 [] Option.none 0 t a e x) {A' : Option Addr} {n' : Nat} {l' : List Pr} {c' : Int} (hr : Rd x x.heap.size 4 A' l'.length (prs l')) (hn : l'.length ≤ n') :
    RK w g gp gc k i c' l' A' n' t a e ((x.setCell ⟨gp, 21, .none⟩ (.int .i64 c')).setCell ⟨gp, 24, .none⟩ (.slice A' l'.length n')) := by
  have hm := (mod_set x gp 21 (.int .i64 c')).trans (mod_set _ gp 24 (.slice A' l'.length n'))
  exact ⟨below_mod h.kept hm h.kept.size h.base.2.1, (h.res.other h.ne.1 _).other h.ne.1 _, pk_put h.pk, ⟨(h.cur.1.other (Ne.symm h.ne.2.2) _).other (Ne.symm h.ne.2.2) _, h.cur.2⟩, (hr.other h.pk (pk_no32 _ _) hm (Nat.le_refl _)).wider hm.size, hn, h.ne, h.base⟩
/-- The packet stays while the cursor goes. -/
theorem RK.stay (h : RK w g gp gc k i c l A n t a e x) (hm : Mods (fun z => z = gc) x y) : PkIn y y.heap.size (ackR1 k i c l) { hs0 with props := ⟨A, n⟩ } :=
  PkIn.R1 ((h.rd.other h.cur.1 (rcur_no32 _ _ _) hm.grown (Nat.le_refl _)).wider hm.size) h.cap k i c
theorem RK.drewN (h : RK w g gp gc k i c l A n t a e x) (m : Nat) : RK w g gp gc k i c l A n t a e (x.drewN m) := h.below (below_drawn (Below.refl _ _) m)
/-- What Done hands back, stored into the result. -/
theorem RK.done {r : Pk × Int} {kk : Hs} (h : RK w g gp gc k i c l A n t a e x) (_hi : PkIn y y.heap.size r.1 kk) (hm : x.grownBy y (some gc)) (hst : ∀ z, y.grownBy z (some g) → PkIn z z.heap.size r.1 kk) :
    Below w.heap.size w (putPk y g r.1 kk) ∧ Bk (putPk y g r.1 kk) g PkT (pkC r.1 kk) ∧ PkIn (putPk y g r.1 kk) (putPk y g r.1 kk).heap.size r.1 kk :=
  ⟨below_put (below_mod h.kept hm h.kept.size h.base.2.2) (Nat.le_trans h.kept.size hm.size) h.base.1 _ _, put_bk (h.res.mods (S := fun z => z = gc) (Mods.of_grown hm rfl) h.ne.2.1) _ _, hst _ (putPk_mods _ _ _ _)⟩
theorem RK.into (h : RK w g gp gc k i c l A n t a e x) : PkIn x x.heap.size (ackR1 k i c l) { hs0 with props := ⟨A, n⟩ } := PkIn.R1 h.rd h.cap k i c
/-- The result stored. -/
theorem RK.none (h : RK w g gp gc k i c l A n t a e x) : Below w.heap.size w (putPk x g pk0 hs0) ∧ Bk (putPk x g pk0 hs0) g PkT (pkC pk0 hs0) := ⟨below_put h.kept h.kept.size h.base.1 _ _, put_bk h.res _ _⟩
theorem RK.some (h : RK w g gp gc k i c l A n t a e x) : Below w.heap.size w (putPk x g (ackR1 k i c l) { hs0 with props := ⟨A, n⟩ }) ∧ Bk (putPk x g (ackR1 k i c l) { hs0 with props := ⟨A, n⟩ }) g PkT (pkC (ackR1 k i c l) { hs0 with props := ⟨A, n⟩ }) ∧
    PkIn (putPk x g (ackR1 k i c l) { hs0 with props := ⟨A, n⟩ }) (putPk x g (ackR1 k i c l) { hs0 with props := ⟨A, n⟩ }).heap.size (ackR1 k i c l) { hs0 with props := ⟨A, n⟩ } :=
  ⟨below_put h.kept h.kept.size h.base.1 _ _, put_bk h.res _ _, PkIn.R1 ((h.rd.other h.res (pk_no32 _ _) (putPk_mods _ _ _ _) (Nat.le_refl _)).wider (putPk_mods _ _ _ _).size) h.cap k i c⟩
end
end Go.Proofs.YtmkkjiogokfnmaaGreatDoor

