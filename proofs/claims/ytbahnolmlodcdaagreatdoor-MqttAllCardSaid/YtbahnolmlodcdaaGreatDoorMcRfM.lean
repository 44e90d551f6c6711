/- A part of what the laws stand on: RfM, MRfC, MRft, MCnr, RfX, MCns. -/
import Derived.Test.YtbahnolmlodcdaaGreatDoorMcMRfB
import Derived.Lib.QuietBelow
import Derived.Test.YtbahnolmlodcdaaGreatDoorMcMPk
import Derived.Test.YtbahnolmlodcdaaGreatDoorMcMPubA
import Derived.Test.YtbahnolmlodcdaaGreatDoorMcMAck
import Derived.Test.YtbahnolmlodcdaaGreatDoorMcMTai
import Derived.Deep.DeepCutAuto
import Derived.Deep.RegionHeld3
import Derived.Test.YtbahnolmlodcdaaGreatDoorMcMReaA
import Derived.Deep.RegionLaw
import Derived.Test.YtbahnolmlodcdaaGreatDoorMcMCnu
import Derived.Test.YtbahnolmlodcdaaGreatDoorMcCntH
import Derived.BigRegion
import Derived.Test.YtbahnolmlodcdaaGreatDoorMcOrdD
namespace Go.Proofs.YtbahnolmlodcdaaGreatDoor
open Go.RowKit
theorem Rd.grow {w : World} {k n : Nat} {A : Option Addr} {xs : List Value} (h : Rd w w.heap.size k A n xs) (o : Obj) : Rd (w.alloc o) (w.alloc o).heap.size k A n xs := (h.alloc (Nat.le_refl _) o).wider (by simp)
end Go.Proofs.YtbahnolmlodcdaaGreatDoor

namespace Go.Proofs.YtbahnolmlodcdaaGreatDoor
open Go.RowKit
set_option maxHeartbeats 1000000 in
set_option maxRecDepth 10000 in
theorem refVersion_any (v : Int) (w : World) : Calls Tryz.prog 27 #[.int .i64 v] w fun e w' => e = .returned (.bool (hdKnown v)) ∧ w = w' := by
  have HE : Hid (hdKnown v = decide (v = 4 ∨ v = 5)) := Lib.hid rfl
  by_cases h4 : v = 4
  · have HX : Hid (hdKnown v = true) := Lib.hid (by rw [HE.out]; exact decide_eq_true (.inl h4))
    have e4 : (v == 4) = true := beq_iff_eq.2 h4
    clear h4
    go_enter Tryz.func27, Tryz.ntmps27
    go_wp2
    go_ret
    exact ⟨by rw [HX.out]; rfl, rfl⟩
  have e4 : (v == 4) = false := beq_eq_false_iff_ne.2 h4
  by_cases h5 : v = 5
  · have HX : Hid (hdKnown v = true) := Lib.hid (by rw [HE.out]; exact decide_eq_true (.inr h5))
    have e5 : (v == 5) = true := beq_iff_eq.2 h5
    clear h4 h5
    go_enter Tryz.func27, Tryz.ntmps27
    go_wp2
    go_ret
    exact ⟨by rw [HX.out]; rfl, rfl⟩
  · have HX : Hid (hdKnown v = false) := Lib.hid (by rw [HE.out]; exact decide_eq_false (by omega))
    have e5 : (v == 5) = false := beq_eq_false_iff_ne.2 h5
    clear h4 h5
    go_enter Tryz.func27, Tryz.ntmps27
    go_wp2
    go_ret
    exact ⟨by rw [HX.out]; rfl, rfl⟩
set_option maxHeartbeats 1000000 in
set_option maxRecDepth 10000 in
theorem refKind_any (v k : Int) (w : World) : Calls Tryz.prog 124 #[.int .i64 v, .int .i64 k] w fun e w' => e = .returned (.bool (hdKinds v k)) ∧ w = w' := by
  have HE : Hid (hdKinds v k = decide (1 ≤ k ∧ (k ≤ 14 ∨ (k = 15 ∧ v = 5)))) := Lib.hid rfl
  by_cases h1 : 1 ≤ k
  rotate_left
  · have HX : Hid (hdKinds v k = false) := Lib.hid (by rw [HE.out]; exact decide_eq_false (by omega))
    have d1 : decide ((1 : Int) ≤ k) = false := decide_eq_false h1
    clear h1
    go_enter Tryz.func124, Tryz.ntmps124
    go_wp2
    go_ret
    exact ⟨by rw [HX.out]; rfl, rfl⟩
  have d1 : decide ((1 : Int) ≤ k) = true := decide_eq_true h1
  by_cases h14 : k < 15
  · have HX : Hid (hdKinds v k = true) := Lib.hid (by rw [HE.out]; exact decide_eq_true (by omega))
    have d2 : decide (k < (15 : Int)) = true := decide_eq_true h14
    clear h1 h14
    go_enter Tryz.func124, Tryz.ntmps124
    go_wp2
    go_ret
    exact ⟨by rw [HX.out]; rfl, rfl⟩
  have d2 : decide (k < (15 : Int)) = false := decide_eq_false h14
  by_cases h15 : k = 15
  rotate_left
  · have HX : Hid (hdKinds v k = false) := Lib.hid (by rw [HE.out]; exact decide_eq_false (by omega))
    have d3 : (k == 15) = false := beq_eq_false_iff_ne.2 h15
    clear h1 h14 h15
    go_enter Tryz.func124, Tryz.ntmps124
    go_wp2
    go_ret
    exact ⟨by rw [HX.out]; rfl, rfl⟩
  have d3 : (k == 15) = true := beq_iff_eq.2 h15
  by_cases h5 : v = 5
  · have HX : Hid (hdKinds v k = true) := Lib.hid (by rw [HE.out]; exact decide_eq_true (by omega))
    have d4 : (v == 5) = true := beq_iff_eq.2 h5
    clear h1 h14 h15 h5
    go_enter Tryz.func124, Tryz.ntmps124
    go_wp2
    go_ret
    exact ⟨by rw [HX.out]; rfl, rfl⟩
  · have HX : Hid (hdKinds v k = false) := Lib.hid (by rw [HE.out]; exact decide_eq_false (by omega))
    have d4 : (v == 5) = false := beq_eq_false_iff_ne.2 h5
    clear h1 h14 h15 h5
    go_enter Tryz.func124, Tryz.ntmps124
    go_wp2
    go_ret
    exact ⟨by rw [HX.out]; rfl, rfl⟩
set_option maxHeartbeats 4000000 in
set_option maxRecDepth 10000 in
theorem refFlags3_any (f : Int) (w : World) : Calls Tryz.prog 125 #[.int .i64 3, .int .i64 f] w fun e w' => e = .returned (.bool (hdFlag3 f)) ∧ w = w' := by
  by_cases h0 : 0 ≤ f
  rotate_left
  · have HX : Hid (hdFlag3 f = false) := Lib.hid (by unfold hdFlag3; exact decide_eq_false (by omega))
    have d0 : decide ((0 : Int) ≤ f) = false := decide_eq_false h0
    clear h0
    go_enter Tryz.func125, Tryz.ntmps125
    go_wp2
    go_ret
    exact ⟨by rw [HX.out]; rfl, rfl⟩
  by_cases h15 : f ≤ 15
  rotate_left
  · have HX : Hid (hdFlag3 f = false) := Lib.hid (by unfold hdFlag3; exact decide_eq_false (by omega))
    have d1 : decide (f ≤ (15 : Int)) = false := decide_eq_false h15
    clear h15
    go_enter Tryz.func125, Tryz.ntmps125
    go_wp2
    go_ret
    exact ⟨by rw [HX.out]; rfl, rfl⟩
  have hh : f = 0 ∨ f = 1 ∨ f = 2 ∨ f = 3 ∨ f = 4 ∨ f = 5 ∨ f = 6 ∨ f = 7 ∨ f = 8 ∨ f = 9 ∨ f = 10 ∨ f = 11 ∨ f = 12 ∨ f = 13 ∨ f = 14 ∨ f = 15 := by omega
  clear h0 h15
  obtain rfl | rfl | rfl | rfl | rfl | rfl | rfl | rfl | rfl | rfl | rfl | rfl | rfl | rfl | rfl | rfl := hh
  all_goals
    go_enter Tryz.func125, Tryz.ntmps125
    go_wp2
    go_ret
    exact ⟨by rfl, rfl⟩
theorem readP_at (kind : Int) (s : ByteArray) : (readP kind s).2.1 ≤ s.size := by
  by_cases h : (readP kind s).2.2 = 0
  · exact (readP_back (kind := kind) (s := s) (l := (readP kind s).1) (n := (readP kind s).2.1) (by rw [← h])).2.2
  · rw [readP_bad h]; exact Nat.zero_le _
theorem rcur_no32 (t : ByteArray) (a : Nat) (e : Int) : ∀ (i : Nat) (n : Int), (curC t a e)[i]? ≠ some (Value.int IntKind.u32 n) := cur_no32 t a e
end Go.Proofs.YtbahnolmlodcdaaGreatDoor

namespace Go.Proofs.YtbahnolmlodcdaaGreatDoor
open Go.RowKit
attribute [local go_sem ↓] to_ldPk to_bxPk to_bdPk to_alPk to_stPk
attribute [local go_sem] run_bxPk run_bxPk_agg ld_fresh run_alPk run_bd0 run_bdK run_bdKI run_bdKIC run_bdKC run_bdKICP run_stPk_fresh pkC_0 pkC_1 pkC_2 pkC_3 pkC_4 pkC_5 pkC_6 pkC_7 pkC_8 pkC_9 pkC_10 pkC_11 pkC_12 pkC_13 pkC_14 pkC_15 pkC_16 pkC_17 pkC_18 pkC_19 pkC_20 pkC_21 pkC_22 pkC_23 pkC_24

/-- What stands while Done goes. -/
structure DS (w : World) (g : Nat) (p : Pk) (h : Hs) (t : ByteArray) (a : Nat) (e : Int) (x : World) : Prop where
  mods : Mods (fun z => z = g) w x
  pk : Bk x w.heap.size PkT (pkC p h)
  res : Bk x (w.heap.size + 1) PkT (pkC pk0 hs0)
  cur : RCur x g t a e
  lt : g < w.heap.size
section
variable {w x y : World} {g a : Nat} {p : Pk} {h : Hs} {t : ByteArray} {e : Int}
theorem DS.below (d : DS w g p h t a e x) (hb : Below x.heap.size x y) : DS w g p h t a e y :=
  ⟨d.mods.trans (Mods.of_below hb), d.pk.below hb d.pk.lt, d.res.below hb d.res.lt, d.cur.below hb, d.lt⟩
theorem DS.turn (d : DS w g p h t a e x) {e' : Int} (hc : RCur y g t a e') (hm : x.grownBy y (some g)) : DS w g p h t a e' y :=
  ⟨d.mods.trans (Mods.of_grown hm rfl), d.pk.mods (S := fun z => z = g) (Mods.of_grown hm rfl) (by have := d.lt; omega), d.res.mods (S := fun z => z = g) (Mods.of_grown hm rfl) (by have := d.lt; omega), hc, d.lt⟩
theorem Mods.grown {w x : World} {g : Nat} (h : Mods (fun z => z = g) w x) : w.grownBy x (some g) := ⟨h.os, h.tape, h.output, h.size, fun i hi hn => h.block i hi (fun e => hn (by rw [e]))⟩
theorem DS.put (d : DS w g p h t a e x) (q : Pk) (k : Hs) : Mods (fun z => z = g) w (putPk x (w.heap.size + 1) q k) := by
  have h1 : Mods (fun z => z = g ∨ z = w.heap.size + 1) w (putPk x (w.heap.size + 1) q k) := (d.mods.mono (fun _ _ hz => .inl hz)).trans (Mods.of_grown (putPk_mods x (w.heap.size + 1) q k) (.inr rfl))
  exact h1.mono (fun i hi hz => hz.elim id (fun e => by omega))
end
end Go.Proofs.YtbahnolmlodcdaaGreatDoor

namespace Go.Proofs.YtbahnolmlodcdaaGreatDoor
open Go.RowKit
attribute [local go_sem ↓] to_ldPk to_bxPk to_bdPk to_alPk to_stPk
attribute [local go_sem] run_bxPk run_bxPk_agg ld_fresh run_alPk run_bd0 run_bdK run_bdKI run_bdKIC run_bdKC run_bdKICP run_stPk_fresh pkC_0 pkC_1 pkC_2 pkC_3 pkC_4 pkC_5 pkC_6 pkC_7 pkC_8 pkC_9 pkC_10 pkC_11 pkC_12 pkC_13 pkC_14 pkC_15 pkC_16 pkC_17 pkC_18 pkC_19 pkC_20 pkC_21 pkC_22 pkC_23 pkC_24
/-- A cursor's next data, text, as the reference reads them. -/
def rbC (t : ByteArray) (a : Nat) (e : Int) : ByteArray × Nat × Int := if e ≠ 0 then (⟨#[]⟩, a, e) else ((readB (t.extract a t.size)).1, a + (readB (t.extract a t.size)).2.1, (readB (t.extract a t.size)).2.2)
def rtC (t : ByteArray) (a : Nat) (e : Int) : ByteArray × Nat × Int := if e ≠ 0 then (⟨#[]⟩, a, e) else ((readU (t.extract a t.size)).1, a + (readU (t.extract a t.size)).2.1, (readU (t.extract a t.size)).2.2)
theorem readB_le (s : ByteArray) : (readB s).2.1 ≤ s.size ∧ (readB s).1.size ≤ 65535 := by
  unfold readB
  split
  · exact ⟨Nat.zero_le _, Nat.zero_le _⟩
  · split
    · exact ⟨Nat.zero_le _, Nat.zero_le _⟩
    · refine ⟨by show 2 + numS s 0 0 2 ≤ s.size; omega, ?_⟩
      rw [ByteArray.size_extract]
      have := num_two_lt s 0 0 (Nat.zero_le _)
      omega
theorem readU_le (s : ByteArray) : (readU s).2.1 ≤ s.size ∧ (readU s).1.size ≤ 65535 := by
  unfold readU
  split
  · exact ⟨Nat.zero_le _, Nat.zero_le _⟩
  · exact readB_le s
theorem rtC_le {t : ByteArray} {a : Nat} {e : Int} (h : a ≤ t.size) : (rtC t a e).2.1 ≤ t.size ∧ (rtC t a e).1.size ≤ 65535 := by
  unfold rtC
  split
  · exact ⟨h, Nat.zero_le _⟩
  · have := readU_le (t.extract a t.size)
    rw [ByteArray.size_extract] at this
    refine ⟨by show a + (readU (t.extract a t.size)).2.1 ≤ t.size; omega, this.2⟩
end Go.Proofs.YtbahnolmlodcdaaGreatDoor

namespace Go.Proofs.YtbahnolmlodcdaaGreatDoor
open Go.RowKit
attribute [local go_sem ↓] to_ldPk to_bxPk to_bdPk to_alPk to_stPk
attribute [local go_sem] run_bxPk run_bxPk_agg ld_fresh run_alPk run_bd0 run_bdK run_bdKI run_bdKIC run_bdKC run_bdKICP run_stPk_fresh pkC_0 pkC_1 pkC_2 pkC_3 pkC_4 pkC_5 pkC_6 pkC_7 pkC_8 pkC_9 pkC_10 pkC_11 pkC_12 pkC_13 pkC_14 pkC_15 pkC_16 pkC_17 pkC_18 pkC_19 pkC_20 pkC_21 pkC_22 pkC_23 pkC_24

/-- What stands while a packet is read: the result's block, the packet's, the cursor's. -/
structure RK (w : World) (g gp gc : Nat) (k i c : Int) (l : List Pr) (A : Option Addr) (n : Nat) (t : ByteArray) (a : Nat) (e : Int) (x : World) : Prop where
  kept : Below w.heap.size w x
  res : Bk x g PkT (pkC pk0 hs0)
  pk : Bk x gp PkT (pkC (ackR1 k i c l) { hs0 with props := ⟨A, n⟩ })
  cur : RCur x gc t a e
  rd : Rd x x.heap.size 4 A l.length (prs l)
  cap : l.length ≤ n
  ne : g ≠ gp ∧ g ≠ gc ∧ gp ≠ gc
  base : w.heap.size ≤ g ∧ w.heap.size ≤ gp ∧ w.heap.size ≤ gc
section
variable {w x y : World} {g gp gc : Nat} {k i c : Int} {l : List Pr} {A : Option Addr} {n : Nat} {t : ByteArray} {a a' : Nat} {e e' : Int}
theorem RK.below (h : RK w g gp gc k i c l A n t a e x) (hb : Below x.heap.size x y) : RK w g gp gc k i c l A n t a e y :=
  ⟨h.kept.trans (hb.mono h.kept.size), h.res.below hb h.res.lt, h.pk.below hb h.pk.lt, h.cur.below hb, (h.rd.below hb).wider hb.size, h.cap, h.ne, h.base⟩
theorem RK.turn (h : RK w g gp gc k i c l A n t a e x) (hc : RCur y gc t a' e') (hm : x.grownBy y (some gc)) : RK w g gp gc k i c l A n t a' e' y :=
  ⟨below_mod h.kept hm h.kept.size h.base.2.2, h.res.mods (S := fun z => z = gc) (Mods.of_grown hm rfl) h.ne.2.1, h.pk.mods (S := fun z => z = gc) (Mods.of_grown hm rfl) h.ne.2.2, hc,
    (h.rd.other h.cur.1 (rcur_no32 _ _ _) hm (Nat.le_refl _)).wider hm.size, h.cap, h.ne, h.base⟩
theorem pk_put {w : World} {g : Nat} {k i c : Int} {l : List Pr} {A : Option Addr} {n : Nat} (h : Bk w g PkT (pkC (ackR1 k i 0 []) hs0)) : Bk ((w.setCell ⟨g, 21, .none⟩ (.int .i64 c)).setCell ⟨g, 24, .none⟩ (.slice A l.length n)) g PkT (pkC (ackR1 k i c l) { hs0 with props := ⟨A, n⟩ }) :=
  (h.upd 21 (.int .i64 c) (pk_code k i 0 c [] hs0)).upd 24 _ (pk_props k i c [] l A n hs0)
theorem RK.put (h : RK w g gp gc k i 0 [] Option.none 0 t a e x) {A' : Option Addr} {n' : Nat} {l' : List Pr} {c' : Int} (hr : Rd x x.heap.size 4 A' l'.length (prs l')) (hn : l'.length ≤ n') :
    RK w g gp gc k i c' l' A' n' t a e ((x.setCell ⟨gp, 21, .none⟩ (.int .i64 c')).setCell ⟨gp, 24, .none⟩ (.slice A' l'.length n')) := by
  have hm := (mod_set x gp 21 (.int .i64 c')).trans (mod_set _ gp 24 (.slice A' l'.length n'))
  exact ⟨below_mod h.kept hm h.kept.size h.base.2.1, (h.res.other h.ne.1 _).other h.ne.1 _, pk_put h.pk, ⟨(h.cur.1.other (Ne.symm h.ne.2.2) _).other (Ne.symm h.ne.2.2) _, h.cur.2⟩, (hr.other h.pk (pk_no32 _ _) hm (Nat.le_refl _)).wider hm.size, hn, h.ne, h.base⟩
/-- The packet stays while the cursor goes. -/
theorem RK.stay (h : RK w g gp gc k i c l A n t a e x) (hm : Mods (fun z => z = gc) x y) : PkIn y y.heap.size (ackR1 k i c l) { hs0 with props := ⟨A, n⟩ } :=
  PkIn.R1 ((h.rd.other h.cur.1 (rcur_no32 _ _ _) hm.grown (Nat.le_refl _)).wider hm.size) h.cap k i c
theorem RK.drewN (h : RK w g gp gc k i c l A n t a e x) (m : Nat) : RK w g gp gc k i c l A n t a e (x.drewN m) := h.below (below_drawn (Below.refl _ _) m)
/-- What Done hands back, stored into the result. -/
theorem RK.done {r : Pk × Int} {kk : Hs} (h : RK w g gp gc k i c l A n t a e x) (_hi : PkIn y y.heap.size r.1 kk) (hm : x.grownBy y (some gc)) (hst : ∀ z, y.grownBy z (some g) → PkIn z z.heap.size r.1 kk) :
    Below w.heap.size w (putPk y g r.1 kk) ∧ Bk (putPk y g r.1 kk) g PkT (pkC r.1 kk) ∧ PkIn (putPk y g r.1 kk) (putPk y g r.1 kk).heap.size r.1 kk :=
  ⟨below_put (below_mod h.kept hm h.kept.size h.base.2.2) (Nat.le_trans h.kept.size hm.size) h.base.1 _ _, put_bk (h.res.mods (S := fun z => z = gc) (Mods.of_grown hm rfl) h.ne.2.1) _ _, hst _ (putPk_mods _ _ _ _)⟩
theorem RK.into (h : RK w g gp gc k i c l A n t a e x) : PkIn x x.heap.size (ackR1 k i c l) { hs0 with props := ⟨A, n⟩ } := PkIn.R1 h.rd h.cap k i c
/-- The result stored. -/
theorem RK.none (h : RK w g gp gc k i c l A n t a e x) : Below w.heap.size w (putPk x g pk0 hs0) ∧ Bk (putPk x g pk0 hs0) g PkT (pkC pk0 hs0) := ⟨below_put h.kept h.kept.size h.base.1 _ _, put_bk h.res _ _⟩
theorem RK.some (h : RK w g gp gc k i c l A n t a e x) : Below w.heap.size w (putPk x g (ackR1 k i c l) { hs0 with props := ⟨A, n⟩ }) ∧ Bk (putPk x g (ackR1 k i c l) { hs0 with props := ⟨A, n⟩ }) g PkT (pkC (ackR1 k i c l) { hs0 with props := ⟨A, n⟩ }) ∧
    PkIn (putPk x g (ackR1 k i c l) { hs0 with props := ⟨A, n⟩ }) (putPk x g (ackR1 k i c l) { hs0 with props := ⟨A, n⟩ }).heap.size (ackR1 k i c l) { hs0 with props := ⟨A, n⟩ } :=
  ⟨below_put h.kept h.kept.size h.base.1 _ _, put_bk h.res _ _, PkIn.R1 ((h.rd.other h.res (pk_no32 _ _) (putPk_mods _ _ _ _) (Nat.le_refl _)).wider (putPk_mods _ _ _ _).size) h.cap k i c⟩
end
end Go.Proofs.YtbahnolmlodcdaaGreatDoor

namespace Go.Proofs.YtbahnolmlodcdaaGreatDoor
open Go.RowKit
theorem bin_bad {t : ByteArray} {a : Nat} {e : Int} (he : e ≠ 0) : binC t a e = (⟨#[]⟩, a, e) := by
  unfold binC
  rw [takeS_bad he]
  exact takeS_bad he
theorem txt_bad {t : ByteArray} {a : Nat} {e : Int} (he : e ≠ 0) : (txtC t a e).2.2 = e := by
  unfold txtC
  rw [bin_bad he]
  simp only
  split
  · rfl
  · exact if_neg he
theorem rb_bin {t : ByteArray} {a : Nat} (h : a ≤ t.size) (e : Int) : (rbC t a e).2.2 = (binC t a e).2.2 ∧ ((binC t a e).2.2 = 0 → rbC t a e = binC t a e) := by
  by_cases he : e = 0
  rotate_left
  · have h1 : rbC t a e = binC t a e := by rw [bin_bad he]; exact if_pos he
    exact ⟨by rw [h1], fun _ => h1⟩
  subst he
  have hz : (t.extract a t.size).size = t.size - a := by rw [ByteArray.size_extract]; omega
  by_cases h2 : t.size < a + 2
  · have h1 : rbC t a 0 = binC t a 0 := by
      unfold rbC binC
      rw [if_neg (fun x => x rfl), show (2 : Int) = ((2 : Nat) : Int) from rfl, take_no (by omega)]
      simp only
      rw [takeS_bad (by decide)]
      unfold readB
      rw [if_pos (by omega)]
      rfl
    exact ⟨by rw [h1], fun _ => h1⟩
  have hn : numS (t.extract a t.size) 0 0 2 = numS t a 0 2 := by
    unfold numS
    rw [show (2 : Int) = ((2 : Nat) : Int) from rfl, take_yes (t := t.extract a t.size) (by omega), take_yes (t := t) (by omega)]
    simp only
    rw [extract_ls, extract_ls, rest_ls, List.drop_zero]
  have hB : binC t a 0 = takeS t (a + 2) 0 (numS t a 0 2 : Nat) := by
    unfold binC
    rw [show takeS t a 0 2 = (t.extract a (a + 2), a + 2, 0) from take_yes (k := 2) (by omega)]
  have hR : rbC t a 0 = ((readB (t.extract a t.size)).1, a + (readB (t.extract a t.size)).2.1, (readB (t.extract a t.size)).2.2) := if_neg (fun x => x rfl)
  rw [hB, hR]
  unfold readB
  rw [if_neg (by omega), hn]
  generalize numS t a 0 2 = n
  by_cases h3 : t.size < a + 2 + n
  · rw [take_no (by omega), if_pos (by omega)]
    exact ⟨rfl, fun x => by cases x⟩
  · rw [take_yes (by omega), if_neg (by omega)]
    refine ⟨rfl, fun _ => ?_⟩
    have e1 : (t.extract a t.size).extract 2 (2 + n) = t.extract (a + 2) (a + 2 + n) := ls_ext (by
      rw [extract_ls, extract_ls, rest_ls, List.drop_drop])
    simp only
    rw [e1, Nat.add_assoc]
theorem rt_txt {t : ByteArray} {a : Nat} (h : a ≤ t.size) (e : Int) : (rtC t a e).2.2 = (txtC t a e).2.2 ∧ ((txtC t a e).2.2 = 0 → rtC t a e = txtC t a e) := by
  by_cases he : e = 0
  rotate_left
  · have h1 : (rtC t a e).2.2 = e := by rw [show rtC t a e = (⟨#[]⟩, a, e) from if_pos he]
    exact ⟨by rw [h1, txt_bad he], fun x => absurd ((txt_bad he).symm.trans x) he⟩
  subst he
  have hR : rtC t a 0 = ((readU (t.extract a t.size)).1, a + (readU (t.extract a t.size)).2.1, (readU (t.extract a t.size)).2.2) := if_neg (fun x => x rfl)
  have hb : rbC t a 0 = ((readB (t.extract a t.size)).1, a + (readB (t.extract a t.size)).2.1, (readB (t.extract a t.size)).2.2) := if_neg (fun x => x rfl)
  obtain ⟨g1, g2⟩ := rb_bin h 0
  rw [hR]
  by_cases hz : (binC t a 0).2.2 = 0
  · have g3 := g2 hz
    rw [hb] at g3
    have g4 : (readB (t.extract a t.size)).1 = (binC t a 0).1 := by rw [← g3]
    have g5 : (readB (t.extract a t.size)).2.2 = 0 := by rw [← hz, ← g3]
    by_cases hv : validB (binC t a 0).1 = true
    · have hU : readU (t.extract a t.size) = readB (t.extract a t.size) := by
        unfold readU
        rw [if_neg (fun y => by rw [g4, hv] at y; cases y.2)]
      have hT : txtC t a 0 = binC t a 0 := by unfold txtC; rw [if_pos hv]
      rw [hU, hT, ← g3]
      exact ⟨rfl, fun _ => rfl⟩
    · have hU : readU (t.extract a t.size) = (⟨#[]⟩, 0, 6) := by
        unfold readU
        rw [if_pos ⟨g5, by rw [g4]; simpa using hv⟩]
      have hT : (txtC t a 0).2.2 = 6 := by
        unfold txtC
        rw [if_neg hv]
        simp only
        rw [hz]
        rfl
      rw [hU, hT]
      exact ⟨rfl, fun x => by cases x⟩
  · have g5 : (readB (t.extract a t.size)).2.2 = (binC t a 0).2.2 := by rw [← g1, hb]
    have hU : readU (t.extract a t.size) = readB (t.extract a t.size) := by
      unfold readU
      rw [if_neg (fun y => hz (g5.symm.trans y.1))]
    have hT : (txtC t a 0).2.2 = (binC t a 0).2.2 := by
      unfold txtC
      simp only
      split
      · rfl
      · exact if_neg hz
    rw [hU, hT]
    exact ⟨g5, fun x => absurd x hz⟩
theorem prp_le8 (v k : Int) {t : ByteArray} {a : Nat} (e : Int) (h : a ≤ t.size) : (prpC v k t a e).2.1 ≤ t.size := by
  unfold prpC
  split
  · exact h
  · have := readP_at k (t.extract a t.size)
    rw [ByteArray.size_extract] at this
    simp only
    omega
end Go.Proofs.YtbahnolmlodcdaaGreatDoor

namespace Go.Proofs.YtbahnolmlodcdaaGreatDoor
open Go.RowKit
attribute [local go_sem ↓] to_ldPk to_bxPk to_bdPk to_alPk to_stPk
attribute [local go_sem] run_bxPk run_bxPk_agg ld_fresh run_alPk run_bd0 run_bdK run_bdKI run_bdKIC run_bdKC run_bdKICP run_stPk_fresh pkC_0 pkC_1 pkC_2 pkC_3 pkC_4 pkC_5 pkC_6 pkC_7 pkC_8 pkC_9 pkC_10 pkC_11 pkC_12 pkC_13 pkC_14 pkC_15 pkC_16 pkC_17 pkC_18 pkC_19 pkC_20 pkC_21 pkC_22 pkC_23 pkC_24
/-- What stands while the reference reads: the result's block, the packet's, the cursor. -/
structure CQ (w : World) (gc : Nat) (p : Pk) (h : Hs) (t : ByteArray) (a : Nat) (e : Int) (x : World) : Prop where
  mods : w.grownBy x (some gc)
  cur : RCur x gc t a e
  res : Bk x w.heap.size PkT (pkC pk0 hs0)
  pk : Bk x (w.heap.size + 1) PkT (pkC p h)
  into : PkIn x x.heap.size p h
  flat : p.codes = [] ∧ p.filters = []
  lt : gc < w.heap.size
section
variable {w x y : World} {gc : Nat} {p p' : Pk} {h h' : Hs} {t : ByteArray} {a a' : Nat} {e e' : Int}
theorem CQ.below (c : CQ w gc p h t a e x) (hb : Below x.heap.size x y) : CQ w gc p h t a e y :=
  ⟨c.mods.trans (mod_below hb _), c.cur.below hb, c.res.below hb c.res.lt, c.pk.below hb c.pk.lt, c.into.next hb, c.flat, c.lt⟩
theorem CQ.drewN (c : CQ w gc p h t a e x) (n : Nat) : CQ w gc p h t a e (x.drewN n) := c.below (below_drawn (Below.refl _ _) n)
theorem CQ.turn (c : CQ w gc p h t a e x) (hc : RCur y gc t a' e') (hm : x.grownBy y (some gc)) : CQ w gc p h t a' e' y :=
  ⟨c.mods.trans hm, hc, c.res.mods (S := fun z => z = gc) (Mods.of_grown hm rfl) (by have := c.lt; omega), c.pk.mods (S := fun z => z = gc) (Mods.of_grown hm rfl) (by have := c.lt; omega),
    c.into.blk c.flat.1 c.flat.2 c.cur.1 (rcur_no32 _ _ _) hm, c.flat, c.lt⟩
theorem CQ.put (c : CQ w gc p h t a e x) (i : Nat) (u : Value) (he : (pkC p h).setIfInBounds i u = pkC p' h') (hf : p'.codes = [] ∧ p'.filters = [])
    (hi : PkIn (x.setCell ⟨w.heap.size + 1, i, none⟩ u) (x.setCell ⟨w.heap.size + 1, i, none⟩ u).heap.size p' h') : CQ w gc p' h' t a e (x.setCell ⟨w.heap.size + 1, i, none⟩ u) :=
  ⟨grown_set c.mods (by omega) i u, ⟨c.cur.1.other (by have := c.lt; simp; omega) u, c.cur.2⟩, c.res.other (by simp) u, c.pk.upd i u he, hi, hf, c.lt⟩
/-- A field that is no list. -/
theorem CQ.set (c : CQ w gc p h t a e x) (i : Nat) (u : Value) (he : (pkC p h).setIfInBounds i u = pkC p' h) (hl : p'.will.props = p.will.props ∧ p'.codes = p.codes ∧ p'.filters = p.filters ∧ p'.props = p.props) :
    CQ w gc p' h t a e (x.setCell ⟨w.heap.size + 1, i, none⟩ u) := by
  refine c.put i u he ⟨hl.2.1.trans c.flat.1, hl.2.2.1.trans c.flat.2⟩ ?_
  have := c.into.blk c.flat.1 c.flat.2 c.pk (pk_no32 _ _) (mod_set x (w.heap.size + 1) i u)
  obtain ⟨h1, h2, h3, h4⟩ := hl
  exact ⟨by rw [h1]; exact this.wp, by rw [h2]; exact this.codes, by rw [h3]; exact this.filters, by rw [h4]; exact this.props, by rw [h1, h2, h3, h4]; exact this.caps⟩
theorem CQ.setP (c : CQ w gc p h t a e x) {A : Option Addr} {n : Nat} {l : List Pr} (hr : Rd x x.heap.size 4 A l.length (prs l)) (hn : l.length ≤ n) :
    CQ w gc { p with props := l } { h with props := ⟨A, n⟩ } t a e (x.setCell ⟨w.heap.size + 1, 24, none⟩ (.slice A l.length n)) := by
  refine c.put 24 _ rfl c.flat ?_
  have hm := mod_set x (w.heap.size + 1) 24 (.slice A l.length n)
  have := c.into.blk c.flat.1 c.flat.2 c.pk (pk_no32 _ _) hm
  exact ⟨this.wp, this.codes, this.filters, (hr.other c.pk (pk_no32 _ _) hm (Nat.le_refl _)).wider hm.size, this.caps.1, this.caps.2.1, this.caps.2.2.1, hn⟩
theorem CQ.setW (c : CQ w gc p h t a e x) {A : Option Addr} {n : Nat} {l : List Pr} (hr : Rd x x.heap.size 4 A l.length (prs l)) (hn : l.length ≤ n) :
    CQ w gc { p with will := { p.will with props := l } } { h with wp := ⟨A, n⟩ } t a e (x.setCell ⟨w.heap.size + 1, 19, none⟩ (.slice A l.length n)) := by
  refine c.put 19 _ rfl c.flat ?_
  have hm := mod_set x (w.heap.size + 1) 19 (.slice A l.length n)
  have := c.into.blk c.flat.1 c.flat.2 c.pk (pk_no32 _ _) hm
  exact ⟨(hr.other c.pk (pk_no32 _ _) hm (Nat.le_refl _)).wider hm.size, this.codes, this.filters, this.props, hn, this.caps.2⟩
end
/-- What the reference's connect hands back. -/
def ConRef (g : Nat) (t : ByteArray) (r : Pk × Nat × Int) (w : World) (e : Ending) (w' : World) : Prop :=
  ∃ k, e = .returned (pkV r.1 k) ∧ PkIn w' w'.heap.size r.1 k ∧ (r.1.codes = [] ∧ r.1.filters = []) ∧ RCur w' g t r.2.1 r.2.2 ∧ w.grownBy w' (some g)
theorem CQ.fin {w x : World} {gc : Nat} {p : Pk} {h : Hs} {t : ByteArray} {a : Nat} {e : Int} (c : CQ w gc p h t a e x) : ConRef gc t (p, a, e) w (.returned (pkV p h)) (putPk x w.heap.size p h) := by
  have hm := putPk_mods x w.heap.size p h
  exact ⟨h, rfl, c.into.blk c.flat.1 c.flat.2 c.res (pk_no32 _ _) hm, c.flat, ⟨c.cur.1.mods (S := fun z => z = w.heap.size) (Mods.of_grown hm rfl) (by have := c.lt; omega), c.cur.2⟩,
    ⟨hm.os.trans c.mods.os, hm.tape.trans c.mods.tape, hm.output.trans c.mods.output, Nat.le_trans c.mods.size hm.size, fun i hi hn => (hm.block i (by have := c.mods.size; omega) (fun e => by cases e; omega)).trans (c.mods.block i hi hn)⟩⟩
end Go.Proofs.YtbahnolmlodcdaaGreatDoor

namespace Go.Proofs.YtbahnolmlodcdaaGreatDoor
open Go.RowKit
attribute [local go_sem ↓] to_ldPk to_bxPk to_bdPk to_alPk to_stPk
attribute [local go_sem] run_bxPk run_bxPk_agg ld_fresh run_alPk run_bd0 run_bdK run_bdKI run_bdKIC run_bdKC run_bdKICP run_stPk_fresh pkC_0 pkC_1 pkC_2 pkC_3 pkC_4 pkC_5 pkC_6 pkC_7 pkC_8 pkC_9 pkC_10 pkC_11 pkC_12 pkC_13 pkC_14 pkC_15 pkC_16 pkC_17 pkC_18 pkC_19 pkC_20 pkC_21 pkC_22 pkC_23 pkC_24

/-- What stands while Read goes: the result's block, the cursor, the reader, the packet. -/
structure RQ (w : World) (gc gp : Nat) (p : Pk) (h : Hs) (t : ByteArray) (a : Nat) (e : Int) (x : World) : Prop where
  kept : Below w.heap.size w x
  res : Bk x w.heap.size PkT (pkC pk0 hs0)
  pk : Bk x gp PkT (pkC p h)
  into : PkIn x x.heap.size p h
  flat : p.codes = [] ∧ p.filters = []
  cur : RCur x gc t a e
  ne : w.heap.size < gc ∧ gc < gp
section
variable {w x y : World} {gc gp : Nat} {p p' : Pk} {h h' : Hs} {t : ByteArray} {a a' : Nat} {e e' : Int}
theorem RQ.below (c : RQ w gc gp p h t a e x) (hb : Below x.heap.size x y) : RQ w gc gp p h t a e y :=
  ⟨c.kept.trans (hb.mono c.kept.size), c.res.below hb c.res.lt, c.pk.below hb c.pk.lt, c.into.next hb, c.flat, c.cur.below hb, c.ne⟩
theorem RQ.drewN (c : RQ w gc gp p h t a e x) (n : Nat) : RQ w gc gp p h t a e (x.drewN n) := c.below (below_drawn (Below.refl _ _) n)
theorem RQ.turn (c : RQ w gc gp p h t a e x) (hc : RCur y gc t a' e') (hm : x.grownBy y (some gc)) : RQ w gc gp p h t a' e' y :=
  ⟨below_mod c.kept hm c.kept.size (Nat.le_of_lt c.ne.1), c.res.mods (S := fun z => z = gc) (Mods.of_grown hm rfl) (by have := c.ne; omega), c.pk.mods (S := fun z => z = gc) (Mods.of_grown hm rfl) (by have := c.ne; omega), c.into.blk c.flat.1 c.flat.2 c.cur.1 (rcur_no32 _ _ _) hm, c.flat, hc, c.ne⟩
/-- The packet that was read, stored. -/
theorem RQ.put (c : RQ w gc gp p h t a e x) (hi : PkIn x x.heap.size p' h') (hf : p'.codes = [] ∧ p'.filters = []) : RQ w gc gp p' h' t a e (putPk x gp p' h') := by
  have hm := putPk_mods x gp p' h'
  exact ⟨below_put c.kept c.kept.size (by have := c.ne; omega) _ _, c.res.mods (S := fun z => z = gp) (Mods.of_grown hm rfl) (by have := c.ne; omega), put_bk c.pk _ _, hi.blk hf.1 hf.2 c.pk (pk_no32 _ _) hm, hf, ⟨c.cur.1.mods (S := fun z => z = gp) (Mods.of_grown hm rfl) (by have := c.ne; omega), c.cur.2⟩, c.ne⟩
theorem RQ.bad (c : RQ w gc gp p h t a e x) {r : Pk × Int} {n : Int} (hr : r = (pk0, n)) : PkOut r w (.returned (.tuple #[pkV pk0 hs0, .int .i64 n])) (putPk x w.heap.size pk0 hs0) :=
  pkOut_bad hr (below_put c.kept c.kept.size (Nat.le_refl _) _ _)
theorem RQ.good (c : RQ w gc gp p h t a e x) {r : Pk × Int} (hr : r = (p, 0)) : PkOut r w (.returned (.tuple #[pkV p h, .int .i64 0])) (putPk x w.heap.size p h) :=
  pkOut_ok hr (c.into.blk c.flat.1 c.flat.2 c.res (pk_no32 _ _) (putPk_mods _ _ _ _)) (below_put c.kept c.kept.size (Nat.le_refl _) _ _)
end
end Go.Proofs.YtbahnolmlodcdaaGreatDoor

namespace Go.Proofs.YtbahnolmlodcdaaGreatDoor
open Go.RowKit
attribute [local go_sem ↓] to_ldPk to_bxPk to_bdPk to_alPk to_stPk
attribute [local go_sem] run_bxPk run_bxPk_agg ld_fresh run_alPk run_bd0 run_bdK run_bdKI run_bdKIC run_bdKC run_bdKICP run_stPk_fresh pkC_0 pkC_1 pkC_2 pkC_3 pkC_4 pkC_5 pkC_6 pkC_7 pkC_8 pkC_9 pkC_10 pkC_11 pkC_12 pkC_13 pkC_14 pkC_15 pkC_16 pkC_17 pkC_18 pkC_19 pkC_20 pkC_21 pkC_22 pkC_23 pkC_24

section
variable {w x y : World} {gc gp : Nat} {p : Pk} {h : Hs} {t : ByteArray} {a : Nat} {e : Int}
theorem RQ.stay (c : RQ w gc gp p h t a e x) (hm : Mods (fun z => z = gc) x y) : PkIn y y.heap.size p h := c.into.blk c.flat.1 c.flat.2 c.cur.1 (rcur_no32 _ _ _) hm.grown
theorem RQ.done {r : Pk × Int} {kk : Hs} (c : RQ w gc gp p h t a e x) (hm : x.grownBy y (some gc)) (hst : ∀ z, y.grownBy z (some w.heap.size) → PkIn z z.heap.size r.1 kk) :
    Below w.heap.size w (putPk y w.heap.size r.1 kk) ∧ Bk (putPk y w.heap.size r.1 kk) w.heap.size PkT (pkC r.1 kk) ∧ PkIn (putPk y w.heap.size r.1 kk) (putPk y w.heap.size r.1 kk).heap.size r.1 kk :=
  ⟨below_put (below_mod c.kept hm c.kept.size (Nat.le_of_lt c.ne.1)) (Nat.le_trans c.kept.size hm.size) (Nat.le_refl _) _ _, put_bk (c.res.mods (S := fun z => z = gc) (Mods.of_grown hm rfl) (by have := c.ne; omega)) _ _, hst _ (putPk_mods _ _ _ _)⟩
end
theorem RQ.setP {w x : World} {gc gp : Nat} {p : Pk} {h : Hs} {t : ByteArray} {a : Nat} {e : Int} (c : RQ w gc gp p h t a e x) {A : Option Addr} {n : Nat} {l : List Pr} (hr : Rd x x.heap.size 4 A l.length (prs l)) (hn : l.length ≤ n) :
    RQ w gc gp { p with props := l } { h with props := ⟨A, n⟩ } t a e (x.setCell ⟨gp, 24, none⟩ (.slice A l.length n)) := by
  have hm := mod_set x gp 24 (.slice A l.length n)
  have := c.into.blk c.flat.1 c.flat.2 c.pk (pk_no32 _ _) hm
  exact ⟨below_mod c.kept hm c.kept.size (by have := c.ne; omega), c.res.other (by have := c.ne; simp; omega) _, c.pk.upd 24 _ rfl,
    ⟨this.wp, this.codes, this.filters, (hr.other c.pk (pk_no32 _ _) hm (Nat.le_refl _)).wider hm.size, this.caps.1, this.caps.2.1, this.caps.2.2.1, hn⟩, c.flat, ⟨c.cur.1.other (by have := c.ne; simp; omega) _, c.cur.2⟩, c.ne⟩
end Go.Proofs.YtbahnolmlodcdaaGreatDoor

