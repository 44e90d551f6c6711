/- publish: the walks of Alias, fields, named. -/
import Derived.Test.YtpcaffimahapjaaGreatHeaA
import Derived.Test.YtpcaffimahapjaaGreatPwA
namespace Go.Proofs.YtpcaffimahapjaaGreat
open Go.RowKit
attribute [local go_sem ↓] to_ldPk to_bxPk to_bdPk to_alPk to_stPk
attribute [local go_sem] run_bxPk run_bxPk_agg ld_fresh run_alPk run_bd0 run_bdK run_bdKI run_bdKIC run_bdKC run_bdKICP run_stPk_fresh pkC_0 pkC_1 pkC_2 pkC_3 pkC_4 pkC_5 pkC_6 pkC_7 pkC_8 pkC_9 pkC_10 pkC_11 pkC_12 pkC_13 pkC_14 pkC_15 pkC_16 pkC_17 pkC_18 pkC_19 pkC_20 pkC_21 pkC_22 pkC_23 pkC_24
/-- A packet with nothing but what a PUBLISH may have. -/
def pubQ (p : Pk) : Pk := { pk0 with kind := p.kind, dup := p.dup, retain := p.retain, qos := p.qos, id := p.id, topic := p.topic, payload := p.payload, props := p.props }
def pubF (v : Int) (p : Pk) : Bool := decide (p = pubQ p ∧ ¬ (v = 4 ∧ 0 < p.props.length) ∧ (p.qos = 0 → p.id = 0) ∧ (p.qos ≠ 0 → 0 < p.id ∧ p.id < 65536))
def aliasB (p : Pk) : Bool := (getP p.props 35).isSome
def pubN (v : Int) (p : Pk) : Bool := nameB p.topic || (decide (v = 5) && (aliasB p && decide (p.topic.size = 0)))
theorem getR_n (l : List Pr) (id : Int) (h : ∀ p ∈ l, prGood p) : (getR l id).n < 4294967296 := by
  unfold getR
  cases hg : getP l id with
  | none => simp
  | some q => exact (h q (List.mem_of_find?_eq_some hg)).1
set_option maxHeartbeats 1000000 in
set_option maxRecDepth 10000 in
theorem alias_any (p : Pk) (h : Hs) (w : World) (ip : PkIn w w.heap.size p h) (ok : PkOk p) :
    Calls Tryz.prog 60 #[pkV p h] w fun e w' => e = .returned (.tuple #[.int .i64 (getR p.props 35).n, .bool (aliasB p)]) ∧ Below w.heap.size w w' := by
  have hn := getR_n p.props 35 ok.props
  have OK := Lib.hid ok
  have S0 := Lib.hid ((St.start w).push ip)
  clear ip ok
  go_enter Tryz.func60, Tryz.ntmps60
  go_wp2_with fail
  refine (getP_any 35 p.props h.props.a h.props.c _ (S0.out.into 0 rfl).props OK.out.len.2.2.2).mono ?_
  rintro e w1 ⟨rfl, hb⟩
  have S1 := Lib.hid (S0.out.below hb); clear hb
  have HA : Hid (aliasB p = (getP p.props 35).isSome) := Lib.hid rfl
  generalize (getP p.props 35).isSome = al at *
  obtain ⟨q, hq⟩ : ∃ q, getR p.props 35 = q := ⟨_, rfl⟩
  rw [hq] at hn ⊢
  have HQ := Lib.hid hq
  clear hq
  obtain ⟨id, n, t, u⟩ := q
  simp only at hn
  have hw : IntKind.i64.wrap (n : Int) = (n : Int) := by rw [IntKind.wrap_i64]; omega
  simp only [Pr.val]
  have S2 := Lib.hid (S1.out.alloc (.cells #[.int .i64 id, .int .u32 n, .string t, .string u] 24))
  go_wp2
  go_ret2
  exact ⟨by rw [HA.out, HQ.out]; rfl, S2.out.kept⟩
set_option maxHeartbeats 1000000 in
set_option maxRecDepth 10000 in
theorem pubN_any (v : Int) (p : Pk) (h : Hs) (w : World) (ip : PkIn w w.heap.size p h) (ok : PkOk p) :
    Calls Tryz.prog 143 #[.int .i64 v, pkV p h] w fun e w' => e = .returned (.bool (pubN v p)) ∧ Below w.heap.size w w' := by
  have OK := Lib.hid ok
  have S0 := Lib.hid ((St.start w).push ip)
  have HE : Hid (pubN v p = (nameB p.topic || (decide (v = 5) && (aliasB p && decide (p.topic.size = 0))))) := Lib.hid rfl
  clear ip ok
  have hl := S0.out.ld 0 rfl
  go_enter Tryz.func143, Tryz.ntmps143
  go_wp2_with fail
  refine (alias_any p h _ (S0.out.into 0 rfl) OK.out).mono ?_
  rintro e w1 ⟨rfl, hb⟩
  have S1 := Lib.hid (S0.out.below hb); clear hb hl
  have k1 := S1.out.cell 0 rfl 5
  rw [pkC_5] at k1
  go_wp2_with fail
  refine (name_any p.topic _ (by have := OK.out.texts.1; omega)).mono ?_
  rintro e w2 ⟨rfl, hb⟩
  have S2 := Lib.hid (S1.out.below hb); clear hb k1
  have k2 := S2.out.cell 0 rfl 5
  rw [pkC_5] at k2
  have hem := emptyB_iff p.topic
  rw [← hem] at HE
  clear hem
  cases hn : nameB p.topic
  · rw [hn, Bool.false_or] at HE
    by_cases h5 : v = 5
    · have e5 : (v == 5) = true := beq_iff_eq.2 h5
      rw [decide_eq_true h5, Bool.true_and] at HE
      clear hn h5
      cases ha : aliasB p
      · rw [ha, Bool.false_and] at HE
        clear ha
        go_wp2
        go_ret
        exact ⟨by rw [HE.out]; rfl, S2.out.kept⟩
      · rw [ha, Bool.true_and] at HE
        clear ha
        go_wp2
        go_ret
        exact ⟨by rw [HE.out]; rfl, S2.out.kept⟩
    · have e5 : (v == 5) = false := beq_eq_false_iff_ne.2 h5
      rw [decide_eq_false h5, Bool.false_and] at HE
      clear hn h5
      go_wp2
      go_ret
      exact ⟨by rw [HE.out]; rfl, S2.out.kept⟩
  · rw [hn, Bool.true_or] at HE
    clear hn
    go_wp2
    go_ret
    exact ⟨by rw [HE.out]; rfl, S2.out.kept⟩

attribute [local go_sem ↓ high] to_stPk to_stWl to_ldWl
attribute [local go_sem ↓] to_stF
attribute [local go_sem] ld_pw pw_at pw_stwl pw_stwl0 pw_stwp pw_st0 pw_st1 pw_st2 pw_st3 pw_st4 pw_st5 pw_st6 pw_st7 pw_st8 pw_st9 pw_st10 pw_st11 pw_st12 pw_st13 pw_st14 pw_st15 pw_st16 pw_st17 pw_st18 pw_st20 pw_st21 pw_st22 pw_nil22 pw_st23 pw_nil23 pw_st24 pw_nil24
/-- A copy of the packet in a block of its own: what the walk needs of it. -/
structure PwIn (w : World) (p : Pk) (h : Hs) (W : World) : Prop where
  below : Below w.heap.size w W
  lt : w.heap.size + 1 < W.heap.size
  bk : Bk W w.heap.size PkT (pkC p h)
theorem PwIn.bk_pw {w W : World} {p : Pk} {h : Hs} (s : PwIn w p h W) (cs : Array Value) : Bk (pw W (w.heap.size + 1) cs) w.heap.size PkT (pkC p h) := (pw_other W (w.heap.size + 1) cs (by omega)).trans s.bk
theorem PwIn.kept {w W : World} {p : Pk} {h : Hs} (s : PwIn w p h W) (cs : Array Value) : Below w.heap.size w (pw W (w.heap.size + 1) cs) := pw_below W _ cs s.below (by omega)
theorem pwIn_start (w : World) (p q : Pk) (h k : Hs) : ∃ W, PwIn w p h W ∧ (stPk (.pointer (some ⟨w.heap.size + 1, 0, none⟩)) (pkV q k)).run Tryz.prog ((w.alloc (.cells (pkC p h) PkT)).alloc (.cells (pkC pk0 hs0) PkT)) = .ok () (pw W (w.heap.size + 1) (pkC q k)) := by
  have B0 := Bk.fresh (w.alloc (.cells (pkC p h) PkT)) PkT (pkC q k)
  have hst := run_stPk_fresh (w.alloc (.cells (pkC p h) PkT)) pk0 q hs0 k
  rw [heap_alloc_size] at hst B0
  have B1 : Below w.heap.size w (w.alloc (.cells (pkC p h) PkT)) := (Below.refl _ _).alloc (Nat.le_refl _) _
  refine ⟨(w.alloc (.cells (pkC p h) PkT)).alloc (.cells (pkC q k) PkT), ⟨B1.alloc B1.size _, by simp, (Bk.fresh w PkT (pkC p h)).alloc _⟩, ?_⟩
  rw [pw_self _ _ _ B0]
  exact hst
set_option maxHeartbeats 4000000 in
set_option maxRecDepth 10000 in
theorem pubF_any (v : Int) (p : Pk) (h : Hs) (w : World) (ip : PkIn w w.heap.size p h) (ok : PkOk p) :
    Calls Tryz.prog 141 #[.int .i64 v, pkV p h] w fun e w' => e = .returned (.bool (pubF v p)) ∧ Below w.heap.size w w' := by
  have OK := Lib.hid ok
  have IP := Lib.hid ip
  have hl := ld_bk (Bk.fresh w PkT (pkC p h))
  obtain ⟨W, hW, hst⟩ := pwIn_start w p p h h
  have HW := Lib.hid hW
  have hlt := hW.lt
  have hl0 := fun cs => ld_bk (hW.bk_pw cs)
  clear ip ok hW
  have HE : Hid (pubF v p = decide (p = pubQ p ∧ ¬ (v = 4 ∧ 0 < p.props.length) ∧ (p.qos = 0 → p.id = 0) ∧ (p.qos ≠ 0 → 0 < p.id ∧ p.id < 65536))) := Lib.hid rfl
  have HQI : Hid (∀ x, Below w.heap.size w x → PkIn x x.heap.size p h ∧ PkIn x x.heap.size (pubQ p) (ackH h)) := Lib.hid fun x hx => by
    have := (IP.out.below hx).wider hx.size
    exact ⟨this, Rd.nil _ _ _ _, Rd.nil _ _ _ _, Rd.nil _ _ _ _, this.props, Nat.zero_le _, Nat.zero_le _, Nat.zero_le _, this.caps.2.2.2⟩
  go_enter Tryz.func141, Tryz.ntmps141
  go_wp2_with fail
  refine (same_any p (pubQ p) h (ackH h) _ (HQI.out _ (HW.out.kept _)).1 (HQI.out _ (HW.out.kept _)).2 OK.out.len ⟨Nat.zero_le _, Nat.zero_le _, Nat.zero_le _, OK.out.len.2.2.2⟩).mono ?_
  rintro e w1 ⟨rfl, hb⟩
  have HB := Lib.hid ((HW.out.kept _).trans (hb.mono (HW.out.kept _).size))
  have HP := Lib.hid ((HW.out.bk_pw _).below hb (HW.out.bk_pw _).lt)
  clear hb hl hl0 hst hlt
  by_cases hs : p = pubQ p
  rotate_left
  · rw [decide_eq_false hs]
    have HX : Hid (pubF v p = false) := Lib.hid (by rw [HE.out]; exact decide_eq_false (fun y => hs y.1))
    clear hs
    go_wp2
    go_ret
    exact ⟨by rw [HX.out]; rfl, HB.out⟩
  rw [decide_eq_true hs]
  have k1 := HP.out.cell 24
  rw [pkC_24] at k1
  have k2 := HP.out.cell 3
  rw [pkC_3] at k2
  have k3 := HP.out.cell 4
  rw [pkC_4] at k3
  have HS := Lib.hid hs
  clear hs
  by_cases h4 : v = 4
  · have e4 : (v == 4) = true := beq_iff_eq.2 h4
    by_cases hp : 0 < p.props.length
    · have HX : Hid (pubF v p = false) := Lib.hid (by rw [HE.out]; exact decide_eq_false (fun y => y.2.1 ⟨h4, hp⟩))
      have d1 : (0 : Int) < (p.props.length : Int) := by omega
      clear h4 hp
      go_wp2
      go_ret
      exact ⟨by rw [HX.out]; rfl, HB.out⟩
    · have HE2 : Hid (pubF v p = decide ((p.qos = 0 → p.id = 0) ∧ (p.qos ≠ 0 → 0 < p.id ∧ p.id < 65536))) := Lib.hid (by rw [HE.out]; exact decide_eq_decide.2 ⟨fun y => y.2.2, fun y => ⟨HS.out, fun z => hp z.2, y⟩⟩)
      have d1 : (p.props.length : Int) ≤ 0 := by omega
      clear h4 hp
      by_cases hq : p.qos = 0
      · have eq : (p.qos == 0) = true := beq_iff_eq.2 hq
        have HX : Hid (pubF v p = (p.id == 0)) := Lib.hid (by
          rw [HE2.out]
          by_cases hi : p.id = 0
          · rw [beq_iff_eq.2 hi]; exact decide_eq_true ⟨fun _ => hi, fun y => absurd hq y⟩
          · rw [beq_eq_false_iff_ne.2 hi]; exact decide_eq_false (fun y => hi (y.1 hq)))
        clear hq
        go_wp2
        go_ret
        exact ⟨by rw [HX.out]; rfl, HB.out⟩
      · have eq : (p.qos == 0) = false := beq_eq_false_iff_ne.2 hq
        have HX : Hid (pubF v p = decide (0 < p.id ∧ p.id < 65536)) := Lib.hid (by rw [HE2.out]; exact decide_eq_decide.2 ⟨fun y => y.2 hq, fun y => ⟨fun z => absurd z hq, fun _ => y⟩⟩)
        clear hq
        by_cases h1 : 0 < p.id
        · have HZ : Hid (pubF v p = decide (p.id < 65536)) := Lib.hid (by rw [HX.out]; exact decide_eq_decide.2 ⟨fun y => y.2, fun y => ⟨h1, y⟩⟩)
          go_wp2
          go_ret
          exact ⟨by rw [HZ.out]; rfl, HB.out⟩
        · have HZ : Hid (pubF v p = false) := Lib.hid (by rw [HX.out]; exact decide_eq_false (fun y => h1 y.1))
          have h1' : p.id ≤ 0 := by omega
          clear h1
          go_wp2
          go_ret
          exact ⟨by rw [HZ.out]; rfl, HB.out⟩
  · have e4 : (v == 4) = false := beq_eq_false_iff_ne.2 h4
    have HE2 : Hid (pubF v p = decide ((p.qos = 0 → p.id = 0) ∧ (p.qos ≠ 0 → 0 < p.id ∧ p.id < 65536))) := Lib.hid (by rw [HE.out]; exact decide_eq_decide.2 ⟨fun y => y.2.2, fun y => ⟨HS.out, fun z => h4 z.1, y⟩⟩)
    clear h4
    by_cases hq : p.qos = 0
    · have eq : (p.qos == 0) = true := beq_iff_eq.2 hq
      have HX : Hid (pubF v p = (p.id == 0)) := Lib.hid (by
        rw [HE2.out]
        by_cases hi : p.id = 0
        · rw [beq_iff_eq.2 hi]; exact decide_eq_true ⟨fun _ => hi, fun y => absurd hq y⟩
        · rw [beq_eq_false_iff_ne.2 hi]; exact decide_eq_false (fun y => hi (y.1 hq)))
      clear hq
      go_wp2
      go_ret
      exact ⟨by rw [HX.out]; rfl, HB.out⟩
    · have eq : (p.qos == 0) = false := beq_eq_false_iff_ne.2 hq
      have HX : Hid (pubF v p = decide (0 < p.id ∧ p.id < 65536)) := Lib.hid (by rw [HE2.out]; exact decide_eq_decide.2 ⟨fun y => y.2 hq, fun y => ⟨fun z => absurd z hq, fun _ => y⟩⟩)
      clear hq
      by_cases h1 : 0 < p.id
      · have HZ : Hid (pubF v p = decide (p.id < 65536)) := Lib.hid (by rw [HX.out]; exact decide_eq_decide.2 ⟨fun y => y.2, fun y => ⟨h1, y⟩⟩)
        go_wp2
        go_ret
        exact ⟨by rw [HZ.out]; rfl, HB.out⟩
      · have HZ : Hid (pubF v p = false) := Lib.hid (by rw [HX.out]; exact decide_eq_false (fun y => h1 y.1))
        have h1' : p.id ≤ 0 := by omega
        clear h1
        go_wp2
        go_ret
        exact ⟨by rw [HZ.out]; rfl, HB.out⟩
end Go.Proofs.YtpcaffimahapjaaGreat
