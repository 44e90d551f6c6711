/-
  Reference 07: lists that are the same, versions, kinds, flags, tails, properties.
  Reference 07: packets that are the same.
-/
import Derived.Test.YtmkkjiogokfnmaaGreatDoorScRfM
import Derived.Test.YtmkkjiogokfnmaaGreatDoorScMPubA
import Derived.Test.YtmkkjiogokfnmaaGreatDoorScMAck
import Derived.Test.YtmkkjiogokfnmaaGreatDoorScMTai
import Derived.Deep.DeepCutAuto
import Derived.Deep.RegionHeld3
namespace Go.Proofs.YtmkkjiogokfnmaaGreatDoor
open Go.RowKit
set_option maxHeartbeats 400000 in
set_option maxRecDepth 10000 in
theorem refInts_any (A A' : Option Addr) (n m c c' : Nat) (l l' : List Int) (w : World) (hl : Rd w w.heap.size 1 A n (iv l)) (hm : Rd w w.heap.size 1 A' m (iv l')) (hn : n ≤ 9223372036854775807) (hn' : m ≤ 9223372036854775807) :
    Calls Tryz.prog 133 #[.slice A n c, .slice A' m c'] w fun e w' => e = .returned (.bool (decide (l = l'))) ∧ Below w.heap.size w w' := by
  have e1 : l.length = n := by have := hl.len; simp [iv] at this; omega
  have e2 : l'.length = m := by have := hm.len; simp [iv] at this; omega
  have E1 := Lib.hid e1; have E2 := Lib.hid e2; clear e1 e2
  by_cases hlen : n = m
  · subst hlen
    go_enter Tryz.func133, Tryz.ntmps133
    go_wp2
    go_loopw [5] (fun i wr => ∃ k : Nat, k ≤ n ∧ i = .int .i64 k ∧ (∀ j, j < k → l[j]? = l'[j]?) ∧ Below w.heap.size w wr) (fun i _ => n - (intOf i).toNat)
    case atStart => exact ⟨0, by omega, rfl, fun j hj => by omega, Below.refl _ _⟩
    case round =>
      obtain ⟨k, hk, rfl, hall, hbel⟩ := hrel
      have HA := Lib.hid hall; clear hall
      by_cases hlt : k < n
      · obtain ⟨bA, oA, z, rfl, hb, hz, hc⟩ := (hl.below hbel).atI hlt
        obtain ⟨bA', oA', z', rfl, hb', hz', hc'⟩ := (hm.below hbel).atI hlt
        have HZ := Lib.hid hz; have HZ' := Lib.hid hz'; clear hz hz' hl hm
        have b1 : (0 : Int) ≤ (k : Int) := by omega
        have b2 : (k : Int) < (n : Int) := by omega
        by_cases he : z = z'
        · subst he
          go_wp2
          go_quiet (fail)
          go_wp2
          go_roundw
          case rel =>
            refine ⟨k + 1, by omega, by go_num, fun j hj => ?_, below_drawn hbel _⟩
            rcases Nat.lt_succ_iff_lt_or_eq.1 hj with h | rfl
            · exact HA.out j h
            · rw [HZ.out, HZ'.out]
          case measure => simp [intOf]; omega
        · have h1 : (z != z') = true := by simpa using he
          have HE := Lib.hid he; clear he
          go_wp2
          go_quiet (fail)
          go_wp2
          go_ret
          refine ⟨?_, below_drawn hbel _⟩
          have : l ≠ l' := by
            rintro rfl
            have := HZ.out.symm.trans HZ'.out
            exact HE.out (by simpa using this)
          simp [this]
      · go_wp2
        go_ret
        refine ⟨?_, hbel⟩
        have : l = l' := by
          apply List.ext_getElem?
          intro j
          by_cases hj : j < k
          · exact HA.out j hj
          · rw [List.getElem?_eq_none (by have := E1.out; omega), List.getElem?_eq_none (by have := E2.out; omega)]
        simp [this]
  · have h1 : ((n : Int) != (m : Int)) = true := by simpa using (by omega : ¬ (n : Int) = (m : Int))
    have HN := Lib.hid hlen; clear hlen
    go_enter Tryz.func133, Tryz.ntmps133
    go_wp2
    go_ret
    refine ⟨?_, Below.refl _ _⟩
    have : l ≠ l' := by
      rintro rfl
      exact HN.out (E1.out.symm.trans E2.out)
    simp [this]

set_option maxHeartbeats 1000000 in
set_option maxRecDepth 10000 in
theorem refFilters_any (A A' : Option Addr) (n m c c' : Nat) (l l' : List Fi) (w : World) (e1 : l.length = n) (e2 : l'.length = m) (hl : Rd w w.heap.size 5 A n (fis l)) (hm : Rd w w.heap.size 5 A' m (fis l')) (hn : n ≤ 4611686018427387904) (hn' : m ≤ 4611686018427387904) :
    Calls Tryz.prog 134 #[.slice A n c, .slice A' m c'] w fun e w' => e = .returned (.bool (decide (l = l'))) ∧ Below w.heap.size w w' := by
  have hgt := guard_filter
  by_cases hlen : n = m
  · subst hlen
    have E1 := Lib.hid e1; have E2 := Lib.hid e2; clear e1 e2
    have HL := Lib.hid hl; have HM := Lib.hid hm; clear hl hm
    go_enter Tryz.func134, Tryz.ntmps134
    go_wp2
    go_loopw [5] (fun i wr => ∃ k : Nat, k ≤ n ∧ i = .int .i64 k ∧ (∀ j, j < k → l[j]? = l'[j]?) ∧ Below w.heap.size w wr) (fun i _ => n - (intOf i).toNat)
    case atStart => exact ⟨0, by omega, rfl, fun j hj => by omega, Below.refl _ _⟩
    case round =>
      obtain ⟨k, hk, rfl, hall, hbel⟩ := hrel
      have HA := Lib.hid hall; clear hall
      by_cases hlt : k < n
      · obtain ⟨bA, oA, rfl, hb, c0, c1, c2, c3, c4⟩ := (show Rd w w.heap.size 5 A l.length (fis l) by rw [E1.out]; exact HL.out).below hbel |>.atF (show k < l.length by rw [E1.out]; exact hlt)
        obtain ⟨bA', oA', rfl, hb', d0, d1, d2, d3, d4⟩ := (show Rd w w.heap.size 5 A' l'.length (fis l') by rw [E2.out]; exact HM.out).below hbel |>.atF (show k < l'.length by rw [E2.out]; exact hlt)
        have HZ : Hid (l[k]? = some (l[k]'(by rw [E1.out]; exact hlt))) := Lib.hid (List.getElem?_eq_getElem _)
        have HZ' : Hid (l'[k]? = some (l'[k]'(by rw [E2.out]; exact hlt))) := Lib.hid (List.getElem?_eq_getElem _)
        generalize l[k]'(by rw [E1.out]; exact hlt) = p at *
        generalize l'[k]'(by rw [E2.out]; exact hlt) = q at *
        have b1 : (0 : Int) ≤ (k : Int) := by omega
        have b2 : (k : Int) < (n : Int) := by omega
        have hne := fun W => neq_filter p q W
        by_cases he : p = q
        · subst he
          have hd : decide (p = p) = true := by simp
          rw [hd] at hne
          clear hd
          go_wp2
          go_quiet (fail)
          go_wp2
          go_roundw
          case rel =>
            refine ⟨k + 1, by omega, by go_num, fun j hj => ?_, below_drawn hbel _⟩
            rcases Nat.lt_succ_iff_lt_or_eq.1 hj with h | rfl
            · exact HA.out j h
            · rw [HZ.out, HZ'.out]
          case measure => simp [intOf]; omega
        · have hd : decide (p = q) = false := decide_eq_false he
          rw [hd] at hne
          have HE := Lib.hid he; clear he hd
          go_wp2
          go_quiet (fail)
          go_wp2
          go_ret
          refine ⟨?_, below_drawn hbel _⟩
          have : l ≠ l' := by
            rintro rfl
            have := HZ.out.symm.trans HZ'.out
            exact HE.out (by simpa using this)
          simp [this]
      · go_wp2
        go_ret
        refine ⟨?_, hbel⟩
        have : l = l' := by
          apply List.ext_getElem?
          intro j
          by_cases hj : j < k
          · exact HA.out j hj
          · rw [List.getElem?_eq_none (by have := E1.out; omega), List.getElem?_eq_none (by have := E2.out; omega)]
        simp [this]
  · have h1 : ((n : Int) != (m : Int)) = true := by simpa using (by omega : ¬ (n : Int) = (m : Int))
    have HN := Lib.hid hlen; have E1 := Lib.hid e1; have E2 := Lib.hid e2; clear hlen e1 e2 hl hm
    go_enter Tryz.func134, Tryz.ntmps134
    go_wp2
    go_ret
    refine ⟨?_, Below.refl _ _⟩
    have : l ≠ l' := by
      rintro rfl
      exact HN.out (E1.out.symm.trans E2.out)
    simp [this]


set_option maxHeartbeats 1000000 in
set_option maxRecDepth 10000 in
theorem refVersion_any (v : Int) (w : World) : Calls Tryz.prog 35 #[.int .i64 v] w fun e w' => e = .returned (.bool (hdKnown v)) ∧ w = w' := by
  have HE : Hid (hdKnown v = decide (v = 4 ∨ v = 5)) := Lib.hid rfl
  by_cases h4 : v = 4
  · have HX : Hid (hdKnown v = true) := Lib.hid (by rw [HE.out]; exact decide_eq_true (.inl h4))
    have e4 : (v == 4) = true := beq_iff_eq.2 h4
    clear h4
    go_enter Tryz.func35, Tryz.ntmps35
    go_wp2
    go_ret
    exact ⟨by rw [HX.out]; rfl, rfl⟩
  have e4 : (v == 4) = false := beq_eq_false_iff_ne.2 h4
  by_cases h5 : v = 5
  · have HX : Hid (hdKnown v = true) := Lib.hid (by rw [HE.out]; exact decide_eq_true (.inr h5))
    have e5 : (v == 5) = true := beq_iff_eq.2 h5
    clear h4 h5
    go_enter Tryz.func35, Tryz.ntmps35
    go_wp2
    go_ret
    exact ⟨by rw [HX.out]; rfl, rfl⟩
  · have HX : Hid (hdKnown v = false) := Lib.hid (by rw [HE.out]; exact decide_eq_false (by omega))
    have e5 : (v == 5) = false := beq_eq_false_iff_ne.2 h5
    clear h4 h5
    go_enter Tryz.func35, Tryz.ntmps35
    go_wp2
    go_ret
    exact ⟨by rw [HX.out]; rfl, rfl⟩
/-- Properties' bytes; of 3.1.1 none. -/
def tailB (v kind : Int) (l : List Pr) : ByteArray := if v = 4 then ⟨#[]⟩ else ⟨(bytesS kind l).1.toArray⟩
set_option maxHeartbeats 1000000 in
set_option maxRecDepth 10000 in
theorem refTail_any (v kind : Int) (l : List Pr) (n : Nat) (hn : l.length = n) (hg : ∀ p ∈ l, prGood p) (A : Option Addr) (c : Nat) (w : World) (h : Rd w w.heap.size 4 A n (prs l)) (hl : n ≤ 4611686018427387904) (hc : n ≤ c) :
    Calls Tryz.prog 72 #[.int .i64 v, .int .i64 kind, .slice A n c] w fun e w' => e = .returned (.string (tailB v kind l)) ∧ Below w.heap.size w w' := by
  have H := Lib.hid h; clear h
  by_cases h4 : v = 4
  · have HX : Hid (tailB v kind l = ⟨#[]⟩) := Lib.hid (if_pos h4)
    have e4 : (v == 4) = true := beq_iff_eq.2 h4
    clear h4
    go_enter Tryz.func72, Tryz.ntmps72
    go_wp2
    go_ret
    exact ⟨by rw [HX.out]; rfl, Below.refl _ _⟩
  · have HX : Hid (tailB v kind l = ⟨(bytesS kind l).1.toArray⟩) := Lib.hid (if_neg h4)
    have e4 : (v == 4) = false := beq_eq_false_iff_ne.2 h4
    have HN := Lib.hid hn; have HG := Lib.hid hg
    clear h4 hn hg
    go_enter Tryz.func72, Tryz.ntmps72
    go_wp2_with fail
    refine (refBytesP_any kind l n HN.out HG.out A c _ H.out hl hc).mono ?_
    rintro e w1 ⟨rfl, hb⟩
    have HB := Lib.hid hb; clear hb
    go_wp2
    go_ret
    exact ⟨by rw [HX.out]; rfl, HB.out⟩
/-- What is wrong with properties; of 3.1.1 any. -/
def rightE (v kind : Int) (l : List Pr) : Int := if v = 4 then (if 0 < l.length then 2 else 0) else (bytesS kind l).2
set_option maxHeartbeats 1000000 in
set_option maxRecDepth 10000 in
theorem refRight_any (v kind : Int) (l : List Pr) (n : Nat) (hn : l.length = n) (hg : ∀ p ∈ l, prGood p) (A : Option Addr) (c : Nat) (w : World) (h : Rd w w.heap.size 4 A n (prs l)) (hl : n ≤ 4611686018427387904) (hc : n ≤ c) :
    Calls Tryz.prog 84 #[.int .i64 v, .int .i64 kind, .slice A n c] w fun e w' => e = .returned (.int .i64 (rightE v kind l)) ∧ Below w.heap.size w w' := by
  have H := Lib.hid h; clear h
  have HN := Lib.hid hn; have HG := Lib.hid hg
  by_cases h4 : v = 4
  · have e4 : (v == 4) = true := beq_iff_eq.2 h4
    by_cases h0 : 0 < n
    · have HX : Hid (rightE v kind l = 2) := Lib.hid (by unfold rightE; rw [if_pos h4, if_pos (by omega)])
      have d0 : decide ((0 : Int) < (n : Int)) = true := decide_eq_true (by omega)
      have d1 : decide (0 < n) = true := decide_eq_true h0
      clear h4 h0 hn hg
      go_enter Tryz.func84, Tryz.ntmps84
      go_wp2
      go_ret
      exact ⟨by rw [HX.out]; rfl, Below.refl _ _⟩
    · have HX : Hid (rightE v kind l = 0) := Lib.hid (by unfold rightE; rw [if_pos h4, if_neg (by omega)])
      have d0 : decide ((0 : Int) < (n : Int)) = false := decide_eq_false (by omega)
      have d1 : decide (0 < n) = false := decide_eq_false h0
      clear h4 h0 hn hg
      go_enter Tryz.func84, Tryz.ntmps84
      go_wp2
      go_ret
      exact ⟨by rw [HX.out]; rfl, Below.refl _ _⟩
  · have HX : Hid (rightE v kind l = (bytesS kind l).2) := Lib.hid (if_neg h4)
    have e4 : (v == 4) = false := beq_eq_false_iff_ne.2 h4
    clear h4 hn hg
    go_enter Tryz.func84, Tryz.ntmps84
    go_wp2_with fail
    refine (refValidP_any kind l n HN.out HG.out A c _ H.out hl hc).mono ?_
    rintro e w1 ⟨rfl, hb⟩
    have HB := Lib.hid hb; clear hb
    go_wp2
    go_ret
    exact ⟨by rw [HX.out]; rfl, HB.out⟩
/-- What the reading of properties by a cursor finds: the list, the place, the error. -/
def propsC (v kind : Int) (t : ByteArray) (a : Nat) (e : Int) : List Pr × Nat × Int :=
  if v = 4 ∨ e ≠ 0 then ([], a, e) else ((readP kind (t.extract a t.size)).1, a + (readP kind (t.extract a t.size)).2.1, (readP kind (t.extract a t.size)).2.2)
def PropsOut (g : Nat) (t : ByteArray) (r : List Pr × Nat × Int) (w : World) (e : Ending) (w' : World) : Prop :=
  ∃ A c, e = .returned (.slice A r.1.length c) ∧ r.1.length ≤ c ∧ Rd w' w'.heap.size 4 A r.1.length (prs r.1) ∧ RCur w' g t r.2.1 r.2.2 ∧ w.grownBy w' (some g)
theorem readP_at (kind : Int) (s : ByteArray) : (readP kind s).2.1 ≤ s.size := by
  by_cases h : (readP kind s).2.2 = 0
  · exact (readP_back (kind := kind) (s := s) (l := (readP kind s).1) (n := (readP kind s).2.1) (by rw [← h])).2.2
  · rw [readP_bad h]; exact Nat.zero_le _
theorem rcur_no32 (t : ByteArray) (a : Nat) (e : Int) : ∀ (i : Nat) (n : Int), (curC t a e)[i]? ≠ some (Value.int IntKind.u32 n) := cur_no32 t a e
set_option maxHeartbeats 2000000 in
set_option maxRecDepth 10000 in
theorem refProps_any (v kind : Int) (g a : Nat) (t : ByteArray) (e : Int) (w : World) (h : RCur w g t a e) (ht : t.size ≤ 140737488351232) :
    Calls Tryz.prog 77 #[.int .i64 v, .int .i64 kind, .pointer (some ⟨g, 0, none⟩)] w (PropsOut g t (propsC v kind t a e) w) := by
  have H := Lib.hid h; have HT := Lib.hid ht
  obtain ⟨⟨c0, c1, c2⟩, f0, f1, f2⟩ := h.cells
  have HLE := Lib.hid h.2.1
  clear h
  by_cases h4 : v = 4
  · have HX : Hid (propsC v kind t a e = ([], a, e)) := Lib.hid (if_pos (.inl h4))
    have e4 : (v == 4) = true := beq_iff_eq.2 h4
    clear h4
    go_enter Tryz.func77, Tryz.ntmps77
    go_wp2
    go_ret
    exact ⟨none, 0, by rw [HX.out]; rfl, by rw [HX.out]; exact Nat.le_refl _, by rw [HX.out]; exact Rd.nil _ _ _ _, by rw [HX.out]; exact H.out, mod_refl _ _⟩
  have e4 : (v == 4) = false := beq_eq_false_iff_ne.2 h4
  by_cases he : e = 0
  rotate_left
  · have HX : Hid (propsC v kind t a e = ([], a, e)) := Lib.hid (if_pos (.inr he))
    have e0 : (e != 0) = true := bne_iff_ne.2 he
    clear h4 he
    go_enter Tryz.func77, Tryz.ntmps77
    go_wp2
    go_ret
    exact ⟨none, 0, by rw [HX.out]; rfl, by rw [HX.out]; exact Nat.le_refl _, by rw [HX.out]; exact Rd.nil _ _ _ _, by rw [HX.out]; exact H.out, mod_refl _ _⟩
  subst he
  have HX : Hid (propsC v kind t a 0 = ((readP kind (t.extract a t.size)).1, a + (readP kind (t.extract a t.size)).2.1, (readP kind (t.extract a t.size)).2.2)) := Lib.hid (if_neg (by simpa using h4))
  have hz : (t.extract a t.size).size = t.size - a := by rw [ByteArray.size_extract]; omega
  have HZ : Hid ((t.extract a t.size).size ≤ 140737488351232) := Lib.hid (by omega)
  have HAT : Hid (a + (readP kind (t.extract a t.size)).2.1 ≤ t.size) := Lib.hid (by have := readP_at kind (t.extract a t.size); have := HLE.out; omega)
  clear h4 hz
  go_enter Tryz.func77, Tryz.ntmps77
  go_wp2_with fail
  refine (refRest_any g a t 0 _ H.out).mono ?_
  rintro e w1 ⟨rfl, hb⟩
  have HB := Lib.hid hb; have H1 := Lib.hid (H.out.below hb)
  clear hb
  go_wp2_with fail
  refine (refReadP_any kind _ _ HZ.out).mono ?_
  rintro e w2 ⟨A, c, rfl, hk, hr, hb⟩
  have HK := Lib.hid hk; have HR := Lib.hid hr
  have HB2 := Lib.hid (HB.out.trans (hb.mono HB.out.size)); have H2 := Lib.hid (H1.out.below hb)
  clear hk hr hb c0 c1 c2 f0 f1 f2
  generalize readP kind (t.extract a t.size) = R at *
  obtain ⟨q, n, E⟩ := R
  simp only at HX HK HR HAT ⊢
  obtain ⟨⟨c0, c1, c2⟩, f0, f1, f2⟩ := H2.out.cells
  have w9 : IntKind.i64.wrap ((a : Int) + (n : Int)) = (a : Int) + (n : Int) := by rw [IntKind.wrap_i64]; have := HAT.out; have := HT.out; omega
  have C3 := Lib.hid (show RCur ((w2.setCell ⟨g, 2, none⟩ (.int .i64 E)).setCell ⟨g, 1, none⟩ (.int .i64 ((a : Int) + (n : Int)))) g t (a + n) E from ⟨(H2.out.1.upd 2 (.int .i64 E) (cs' := curC t a E) (by simp [curC])).upd 1 _ (by simp [curC]), HAT.out, H2.out.2.2⟩)
  have G3 := Lib.hid ((mod_set w2 g 2 (.int .i64 E)).trans (mod_set _ g 1 (.int .i64 ((a : Int) + (n : Int)))))
  go_wp2
  go_ret
  refine ⟨A, c, by rw [HX.out]; rfl, by rw [HX.out]; exact HK.out, ?_, by rw [HX.out]; exact C3.out, (mod_below HB2.out (some g)).trans G3.out⟩
  rw [HX.out]
  exact (HR.out.other H2.out.1 (rcur_no32 _ _ _) G3.out (Nat.le_refl _)).wider G3.out.size
end Go.Proofs.YtmkkjiogokfnmaaGreatDoor

namespace Go.Proofs.YtmkkjiogokfnmaaGreatDoor
open Go.RowKit
attribute [local go_sem ↓] to_ldPk to_bxPk to_bdPk to_alPk to_stPk
attribute [local go_sem] run_bxPk run_bxPk_agg ld_fresh run_alPk run_bd0 run_bdK run_bdKI run_bdKIC run_bdKC run_bdKICP run_stPk_fresh pkC_0 pkC_1 pkC_2 pkC_3 pkC_4 pkC_5 pkC_6 pkC_7 pkC_8 pkC_9 pkC_10 pkC_11 pkC_12 pkC_13 pkC_14 pkC_15 pkC_16 pkC_17 pkC_18 pkC_19 pkC_20 pkC_21 pkC_22 pkC_23 pkC_24

theorem two_fresh (W : World) (t : TypeId) (a b : Array Value) : Bk ((W.alloc (.cells a t)).alloc (.cells b t)).drew W.heap.size t a ∧ Bk ((W.alloc (.cells a t)).alloc (.cells b t)).drew (W.heap.size + 1) t b ∧ Below W.heap.size W ((W.alloc (.cells a t)).alloc (.cells b t)).drew := by
  refine ⟨((Bk.fresh W t a).alloc _).drewN 1, ?_, below_drawn (((Below.refl _ _).alloc (Nat.le_refl _) _).alloc (by simp) _) 1⟩
  have h := (Bk.fresh (W.alloc (.cells a t)) t b).drewN 1
  rw [heap_alloc_sz] at h
  exact h
theorem wl_cells {w : World} {g : Nat} {x : Wl} {h : Hd} (b : Bk w g WlT (wlC x h)) : w.cell? ⟨g, 0, none⟩ = some (.string x.topic) ∧ w.cell? ⟨g, 1, none⟩ = some (.string x.payload) ∧ w.cell? ⟨g, 2, none⟩ = some (.int .i64 x.qos) ∧ w.cell? ⟨g, 3, none⟩ = some (.bool x.retain) ∧ w.cell? ⟨g, 4, none⟩ = some (.slice h.a x.props.length h.c) :=
  ⟨b.cell 0, b.cell 1, b.cell 2, b.cell 3, b.cell 4⟩
set_option maxHeartbeats 8000000 in
set_option maxRecDepth 100000 in
theorem refSamePk_any (p q : Pk) (h k : Hs) (w : World) (ip : PkIn w w.heap.size p h) (iq : PkIn w w.heap.size q k) (lp : PkLen p) (lq : PkLen q) :
    Calls Tryz.prog 82 #[pkV p h, pkV q k] w fun e w' => e = .returned (.bool (decide (p = q))) ∧ Below w.heap.size w w' := by
  have hb2 := below_two w (.cells (pkC p h) PkT) (.cells (pkC q k) PkT)
  have B1 : Bk ((w.alloc (.cells (pkC p h) PkT)).alloc (.cells (pkC q k) PkT)) w.heap.size PkT (pkC p h) := (Bk.fresh w PkT (pkC p h)).alloc _
  have B2 : Bk ((w.alloc (.cells (pkC p h) PkT)).alloc (.cells (pkC q k) PkT)) (w.heap.size + 1) PkT (pkC q k) := by
    simpa using Bk.fresh (w.alloc (.cells (pkC p h) PkT)) PkT (pkC q k)
  have HP := Lib.hid (And.intro ip (And.intro iq (And.intro lp lq)))
  have HB := Lib.hid hb2; have H1 := Lib.hid B1; have H2 := Lib.hid B2
  have HQ := Lib.hid (pk_eq_iff p q)
  clear ip iq lp lq hb2
  have k1 := fun i => B1.cell i
  have k2 := fun i => B2.cell i
  clear B1 B2
  go_enter Tryz.func82, Tryz.ntmps82
  go_wp2_with fail
  obtain ⟨W, hW⟩ : ∃ W, ((w.alloc (.cells (pkC p h) PkT)).alloc (.cells (pkC q k) PkT)) = W := ⟨_, rfl⟩
  have hWs : W.heap.size = w.heap.size + 2 := by rw [← hW]; simp
  rw [hW] at k1 k2 HB H1 H2 ⊢
  have HWS := Lib.hid hWs
  have l1 : w.heap.size < W.heap.size := by omega
  have l2 : w.heap.size + 1 < W.heap.size := by omega
  clear hW hWs
  go_cut [5, 6] (fun v5 v6 x => ∃ g5 g6, v5 = .pointer (some ⟨g5, 0, none⟩) ∧ v6 = .pointer (some ⟨g6, 0, none⟩) ∧ Bk x g5 WlT (wlC p.will h.wp) ∧ Bk x g6 WlT (wlC q.will k.wp) ∧ Below W.heap.size W x)
  case first =>
    have j1 := k1 15; have j2 := k1 16; have j3 := k1 17; have j4 := k1 18; have j5 := k1 19
    have m1 := k2 15; have m2 := k2 16; have m3 := k2 17; have m4 := k2 18; have m5 := k2 19
    rw [pkC_15] at j1 m1
    rw [pkC_16] at j2 m2
    rw [pkC_17] at j3 m3
    rw [pkC_18] at j4 m4
    rw [pkC_19] at j5 m5
    clear k1 k2
    go_region_law (fail)
    all_goals
      go_wp2
      go_meet
      case rel => first | exact ⟨_, _, rfl, rfl, (two_fresh W _ _ _).1, (two_fresh W _ _ _).2.1, (two_fresh W _ _ _).2.2⟩ | exact ⟨_, _, rfl, rfl, (two_fresh W _ _ _).2.1, (two_fresh W _ _ _).1, (two_fresh W _ _ _).2.2⟩
  case rest =>
    obtain ⟨g5, g6, rfl, rfl, b5, b6, hbx⟩ := hcut
    have HX := Lib.hid hbx
    have H1x := Lib.hid (H1.out.below hbx l1); have H2x := Lib.hid (H2.out.below hbx l2)
    have HBX := Lib.hid (HB.out.trans (hbx.mono HB.out.size))
    clear k1 k2 hbx l1 l2
    have k1 := fun i => H1x.out.cell i
    have k2 := fun i => H2x.out.cell i
    have C0 := Lib.hid (refSameP_any h.wp.a k.wp.a p.will.props.length q.will.props.length h.wp.c k.wp.c p.will.props q.will.props _ rfl rfl (HP.out.1.next HBX.out).wp (HP.out.2.1.next HBX.out).wp HP.out.2.2.1.1 HP.out.2.2.2.1)
    have D5 := Lib.hid b5; have D6 := Lib.hid b6
    clear b5 b6
    by_cases dtopic : p.will.topic = q.will.topic
    rotate_left
    · have HF : Hid (decide (p = q) = false) := Lib.hid (decide_eq_false (fun x => dtopic (by rw [x])))
      have x1 : ¬ (p.will.topic.toList = q.will.topic.toList) := fun x => dtopic ((toList_inj _ _).1 x)
      have x2 : (p.will.topic.toList == q.will.topic.toList) = false := beq_eq_false_iff_ne.2 x1
      have x3 : (p.will.topic.toList != q.will.topic.toList) = true := bne_iff_ne.2 x1
      obtain ⟨n0, n1, n2, n3, n4⟩ := wl_cells D5.out
      obtain ⟨o0, o1, o2, o3, o4⟩ := wl_cells D6.out
      clear dtopic
      go_wp2
      go_ret
      exact ⟨by rw [HF.out]; rfl, HBX.out⟩
    by_cases dpayload : p.will.payload = q.will.payload
    rotate_left
    · have HF : Hid (decide (p = q) = false) := Lib.hid (decide_eq_false (fun x => dpayload (by rw [x])))
      have x1 : ¬ (p.will.payload.toList = q.will.payload.toList) := fun x => dpayload ((toList_inj _ _).1 x)
      have x2 : (p.will.payload.toList == q.will.payload.toList) = false := beq_eq_false_iff_ne.2 x1
      have x3 : (p.will.payload.toList != q.will.payload.toList) = true := bne_iff_ne.2 x1
      obtain ⟨n0, n1, n2, n3, n4⟩ := wl_cells D5.out
      obtain ⟨o0, o1, o2, o3, o4⟩ := wl_cells D6.out
      rw [← dtopic] at o0
      clear dpayload dtopic
      go_wp2
      go_ret
      exact ⟨by rw [HF.out]; rfl, HBX.out⟩
    by_cases dqos : p.will.qos = q.will.qos
    rotate_left
    · have HF : Hid (decide (p = q) = false) := Lib.hid (decide_eq_false (fun x => dqos (by rw [x])))
      have x2 : (p.will.qos == q.will.qos) = false := beq_eq_false_iff_ne.2 dqos
      have x3 : (p.will.qos != q.will.qos) = true := bne_iff_ne.2 dqos
      obtain ⟨n0, n1, n2, n3, n4⟩ := wl_cells D5.out
      obtain ⟨o0, o1, o2, o3, o4⟩ := wl_cells D6.out
      rw [← dtopic] at o0
      rw [← dpayload] at o1
      clear dqos dtopic dpayload
      go_wp2
      go_ret
      exact ⟨by rw [HF.out]; rfl, HBX.out⟩
    by_cases dretain : p.will.retain = q.will.retain
    rotate_left
    · have HF : Hid (decide (p = q) = false) := Lib.hid (decide_eq_false (fun x => dretain (by rw [x])))
      have x2 : (p.will.retain == q.will.retain) = false := beq_eq_false_iff_ne.2 dretain
      have x3 : (p.will.retain != q.will.retain) = true := bne_iff_ne.2 dretain
      obtain ⟨n0, n1, n2, n3, n4⟩ := wl_cells D5.out
      obtain ⟨o0, o1, o2, o3, o4⟩ := wl_cells D6.out
      rw [← dtopic] at o0
      rw [← dpayload] at o1
      rw [← dqos] at o2
      clear dretain dtopic dpayload dqos
      go_wp2
      go_ret
      exact ⟨by rw [HF.out]; rfl, HBX.out⟩
    by_cases dprops : p.will.props = q.will.props
    rotate_left
    · have HF : Hid (decide (p = q) = false) := Lib.hid (decide_eq_false (fun x => dprops (by rw [x])))
      have DP := Lib.hid (decide_eq_false dprops)
      obtain ⟨n0, n1, n2, n3, n4⟩ := wl_cells D5.out
      obtain ⟨o0, o1, o2, o3, o4⟩ := wl_cells D6.out
      rw [← dtopic] at o0
      rw [← dpayload] at o1
      rw [← dqos] at o2
      rw [← dretain] at o3
      clear dprops dtopic dpayload dqos dretain
      go_wp2_with fail
      refine C0.out.mono ?_
      rintro e w3 ⟨rfl, hb⟩
      rw [DP.out]
      have HB3 := Lib.hid (HBX.out.trans (hb.mono HBX.out.size)); clear hb
      go_wp2
      go_ret
      exact ⟨by rw [HF.out]; rfl, HB3.out⟩
    have DP := Lib.hid (decide_eq_true dprops)
    have DW : Hid (p.will = q.will) := Lib.hid (wl_eq_iff _ _ |>.2 ⟨dtopic, dpayload, dqos, dretain, dprops⟩)
    obtain ⟨n0, n1, n2, n3, n4⟩ := wl_cells D5.out
    obtain ⟨o0, o1, o2, o3, o4⟩ := wl_cells D6.out
    rw [← dtopic] at o0
    rw [← dpayload] at o1
    rw [← dqos] at o2
    rw [← dretain] at o3
    clear dprops dtopic dpayload dqos dretain
    go_wp2_with fail
    refine C0.out.mono ?_
    rintro e w3 ⟨rfl, hb⟩
    rw [DP.out]
    have HB3 := Lib.hid (HBX.out.trans (hb.mono HBX.out.size)); have H13 := Lib.hid (H1x.out.below hb H1x.out.lt); have H23 := Lib.hid (H2x.out.below hb H2x.out.lt)
    clear hb k1 k2 n0 n1 n2 n3 n4 o0 o1 o2 o3 o4
    have k1 := fun i => H13.out.cell i
    have k2 := fun i => H23.out.cell i
    go_wp2_with (first
      | (go_at_call 133; refine (refInts_any h.codes.a k.codes.a p.codes.length q.codes.length h.codes.c k.codes.c p.codes q.codes _ (HP.out.1.next HB3.out).codes (HP.out.2.1.next HB3.out).codes (Nat.le_trans HP.out.2.2.1.2.1 (by decide)) (Nat.le_trans HP.out.2.2.2.2.1 (by decide))).mono ?_; rintro e w4 ⟨rfl, hb4⟩; have HB4 := Lib.hid (HB3.out.trans (hb4.mono HB3.out.size)); have H14 := Lib.hid (H13.out.below hb4 H13.out.lt); have H24 := Lib.hid (H23.out.below hb4 H23.out.lt); clear hb4 k1 k2; have k1 := fun i => H14.out.cell i; have k2 := fun i => H24.out.cell i)
      | (go_at_call 134; refine (refFilters_any h.filters.a k.filters.a p.filters.length q.filters.length h.filters.c k.filters.c p.filters q.filters _ rfl rfl (HP.out.1.next HB4.out).filters (HP.out.2.1.next HB4.out).filters HP.out.2.2.1.2.2.1 HP.out.2.2.2.2.2.1).mono ?_; rintro e w5 ⟨rfl, hb5⟩; have HB5 := Lib.hid (HB4.out.trans (hb5.mono HB4.out.size)); have H15 := Lib.hid (H14.out.below hb5 H14.out.lt); have H25 := Lib.hid (H24.out.below hb5 H24.out.lt); clear hb5 k1 k2; have k1 := fun i => H15.out.cell i; have k2 := fun i => H25.out.cell i)
      | (go_at_call 132; refine (refSameP_any h.props.a k.props.a p.props.length q.props.length h.props.c k.props.c p.props q.props _ rfl rfl (HP.out.1.next HB5.out).props (HP.out.2.1.next HB5.out).props HP.out.2.2.1.2.2.2 HP.out.2.2.2.2.2.2).mono ?_; rintro e w6 ⟨rfl, hb6⟩; have HB6 := Lib.hid (HB5.out.trans (hb6.mono HB5.out.size)); clear hb6))
    all_goals
      go_ret
      refine ⟨ret_bool ?_, by first | exact HB6.out | exact HB5.out | exact HB4.out | exact HB3.out⟩
      have DW := DW.out; have HQ := HQ.out
      clear HB HB3 k1 k2
      by_cases hpq : p = q
      · subst hpq
        simp_all
      · rw [decide_eq_false hpq]
        first | done | (rw [HQ] at hpq; clear HQ; simp_all [toList_inj])
end Go.Proofs.YtmkkjiogokfnmaaGreatDoor

