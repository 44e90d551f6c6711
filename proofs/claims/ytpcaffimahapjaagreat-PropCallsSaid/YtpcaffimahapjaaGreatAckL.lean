/- ack: the walk of rest. -/
import Derived.Test.YtpcaffimahapjaaGreatAckK
import Derived.Test.YtpcaffimahapjaaGreatMPk
import Derived.Deep.RegionHeld3
import Derived.Deep.DrawnRows
namespace Go.Proofs.YtpcaffimahapjaaGreat
open Go.RowKit
attribute [local go_sem ↓] Go.wp_at_zero Go.wp_at_succ

theorem pk_code (k i c c' : Int) (l : List Pr) (h : Hs) : (pkC (ackR1 k i c l) h).setIfInBounds 21 (.int .i64 c') = pkC (ackR1 k i c' l) h := rfl
theorem pk_props (k i c : Int) (l l' : List Pr) (A : Option Addr) (n : Nat) (h : Hs) : (pkC (ackR1 k i c l) h).setIfInBounds 24 (.slice A l'.length n) = pkC (ackR1 k i c l') { h with props := ⟨A, n⟩ } := rfl
theorem pk_ne_cur {w : World} {gp gc a : Nat} {p : Pk} {h : Hs} {t : ByteArray} {e : Int} (hp : Bk w gp PkT (pkC p h)) (hc : Cur w gc t a e) : gp ≠ gc := by
  rintro rfl
  have h1 := hp
  have h2 := hc.1
  unfold Bk at h1 h2
  rw [h1] at h2
  simp only [Option.some.injEq, Obj.cells.injEq] at h2
  exact absurd h2.2.1 (by decide)
/-- A cell stands, and nothing that was there has turned. -/
abbrev SR (gp : Nat) (v : Value) (W x : World) : Prop := x.cell? ⟨gp, 0, none⟩ = some v ∧ Below W.heap.size W x
theorem SR.to {gp : Nat} {v : Value} {W x : World} (h : SR gp v W x) : Below W.heap.size W x := h.2
theorem SR.below {gp : Nat} {v : Value} {W x y : World} (h : SR gp v W x) (hb : Below x.heap.size x y) : SR gp v W y :=
  ⟨(hb.cell (p := ⟨gp, 0, none⟩) (World.block_lt_of_cell? x _ h.1)).trans h.1, h.2.trans (hb.mono h.2.size)⟩
theorem takeS_bad {t : ByteArray} {a : Nat} {e n : Int} (h : e ≠ 0) : takeS t a e n = (⟨#[]⟩, a, e) := by
  unfold takeS; rw [if_neg h]
/-- What rest leaves. -/
def RestOut (gp gc : Nat) (k i : Int) (t : ByteArray) (r : Int × List Pr × Nat × Int) (w : World) (e : Ending) (w' : World) : Prop :=
  e = .returned (.tuple #[]) ∧ ∃ A c, r.2.1.length ≤ c ∧ Rd w' w'.heap.size 4 A r.2.1.length (prs r.2.1) ∧ Bk w' gp PkT (pkC (ackR1 k i r.1 r.2.1) { hs0 with props := ⟨A, c⟩ }) ∧ Cur w' gc t r.2.2.1 r.2.2.2 ∧ Mods (two gp gc) w w'
theorem restOut_mk {gp gc : Nat} {k i : Int} {t : ByteArray} {r : Int × List Pr × Nat × Int} {w w' : World} {c : Int} {a : Nat} {e : Int} (hr : r = (c, [], a, e)) (hp : Bk w' gp PkT (pkC (ackR1 k i c []) hs0)) (hc : Cur w' gc t a e) (hm : Mods (two gp gc) w w') : RestOut gp gc k i t r w (.returned (.tuple #[])) w' := by
  subst hr
  exact ⟨rfl, none, 0, Nat.le_refl _, Rd.nil _ _ _ _, hp, hc, hm⟩

/-- Properties lie in no block without a number of 32 bits. -/
theorem Rd.other {w w' : World} {B g : Nat} {A : Option Addr} {l : List Pr} {t : TypeId} {cs : Array Value} (h : Rd w B 4 A l.length (prs l)) (hbk : Bk w g t cs) (hcs : ∀ (i : Nat) (n : Int), cs[i]? ≠ some (Value.int IntKind.u32 n)) (hm : w.grownBy w' (some g)) (hB : B ≤ w.heap.size) : Rd w' B 4 A l.length (prs l) := by
  refine h.grown hm hB fun b o hA hx hbg => ?_
  subst hbg
  have hl : 0 < l.length := by
    cases l with
    | nil => exact absurd rfl hx
    | cons => simp
  obtain ⟨b', o', he, _, _, c1, _⟩ := h.atP hl
  rw [hA] at he
  cases he
  rw [hbk.cell] at c1
  exact hcs _ _ c1
theorem cur_no32 (t : ByteArray) (a : Nat) (e : Int) : ∀ (i : Nat) (n : Int), (curC t a e)[i]? ≠ some (Value.int IntKind.u32 n) := by
  intro i n
  rcases i with _ | _ | _ | i <;> simp [curC]
theorem pk_no32 (p : Pk) (h : Hs) : ∀ (i : Nat) (n : Int), (pkC p h)[i]? ≠ some (Value.int IntKind.u32 n) := by
  intro i n
  rcases i with _ | _ | _ | _ | _ | _ | _ | _ | _ | _ | _ | _ | _ | _ | _ | _ | _ | _ | _ | _ | _ | _ | _ | _ | _ | i <;> simp [pkC]
/-- What stands behind the reading of the properties. -/
structure RJ (gp gc : Nat) (k i q : Int) (l : List Pr) (A : Option Addr) (t : ByteArray) (a : Nat) (e : Int) (w x : World) : Prop where
  pk : Bk x gp PkT (pkC (ackR1 k i q []) hs0)
  cur : Cur x gc t a e
  rd : Rd x x.heap.size 4 A l.length (prs l)
  mods : Mods (two gp gc) w x
  ne : gp ≠ gc
theorem RJ.turn {gp gc : Nat} {k i q : Int} {l : List Pr} {A : Option Addr} {t : ByteArray} {a a' : Nat} {e e' : Int} {w x y : World} (h : RJ gp gc k i q l A t a e w x) (hc : Cur y gc t a' e') (hm : x.grownBy y (some gc)) : RJ gp gc k i q l A t a' e' w y :=
  ⟨h.pk.mods (S := fun z => z = gc) (Mods.of_grown hm rfl) h.ne, hc, (h.rd.other h.cur.1 (cur_no32 _ _ _) hm (Nat.le_refl _)).wider hm.size, h.mods.trans (Mods.of_grown hm (.inr rfl)), h.ne⟩
theorem RJ.fin {gp gc : Nat} {k i q : Int} {l : List Pr} {A : Option Addr} {t : ByteArray} {a : Nat} {e : Int} {w x : World} {c : Nat} {r : Int × List Pr × Nat × Int} (h : RJ gp gc k i q l A t a e w x) (hr : r = (q, l, a, e)) (hc : l.length ≤ c) :
    RestOut gp gc k i t r w (.returned (.tuple #[])) (x.setCell ⟨gp, 24, none⟩ (.slice A l.length c)) := by
  subst hr
  exact ⟨rfl, A, c, hc, (h.rd.other h.pk (pk_no32 _ _) (mod_set x gp 24 _) (Nat.le_refl _)).wider (mod_set x gp 24 _).size, h.pk.upd 24 _ (pk_props k i q [] l A c hs0), ⟨h.cur.1.other (Ne.symm h.ne) _, h.cur.2⟩, h.mods.set gp 24 (.inl (.inl rfl)) _⟩

set_option maxHeartbeats 2000000 in
set_option maxRecDepth 10000 in
theorem ackRest_any (gp gc a : Nat) (t : ByteArray) (k i : Int) (w : World) (hp : Bk w gp PkT (pkC (ackR1 k i 0 []) hs0)) (hc : Cur w gc t a 0) (ht : t.size ≤ 140737488351232) :
    Calls Tryz.prog 109 #[.pointer (some ⟨gp, 0, none⟩), .pointer (some ⟨gc, 0, none⟩)] w (RestOut gp gc k i t (restS k t a) w) := by
  have hne := pk_ne_cur hp hc
  have hle := hc.2.1
  have HP := Lib.hid hp; have HC := Lib.hid hc; have HT := Lib.hid ht; have HN := Lib.hid hne
  clear hp hc ht hne
  by_cases h1 : t.size ≤ a
  · have HX : Hid (restS k t a = (0, [], a, 0)) := Lib.hid (by unfold restS; rw [if_pos h1])
    have z0 : (((t.size - a : Nat) : Int) == 0) = true := beq_iff_eq.2 (by omega)
    clear h1 hle
    go_enter Tryz.func109, Tryz.ntmps109
    go_wp2_with fail
    refine (left_any gc a t 0 _ HC.out).mono ?_
    rintro e w1 ⟨rfl, hb⟩
    have HB := Lib.hid hb; clear hb
    go_wp2
    go_end0
    exact restOut_mk HX.out (HP.out.below HB.out HP.out.lt) (HC.out.below HB.out) (Mods.of_below HB.out)
  · have HE : Hid (takeS t a 0 1 = (t.extract a (a + 1), a + 1, 0)) := Lib.hid (take_yes (k := 1) (by omega))
    have z0 : (((t.size - a : Nat) : Int) == 0) = false := beq_eq_false_iff_ne.2 (by omega)
    have HNB := Lib.hid (num_one_lt t a 0)
    by_cases h2 : t.size = a + 1
    · have HX : Hid (restS k t a = (((numS t a 0 1 : Nat) : Int), [], a + 1, if numS t a 0 1 = 0 then 5 else 0)) := Lib.hid (by unfold restS; rw [if_neg h1, if_pos h2])
      have z1 : (((t.size - (a + 1) : Nat) : Int) == 0) = true := beq_iff_eq.2 (by omega)
      clear h1 h2 hle
      go_enter Tryz.func109, Tryz.ntmps109
      go_wp2_with fail
      refine (left_any gc a t 0 _ HC.out).mono ?_
      rintro e w1 ⟨rfl, hb⟩
      have HC1 := Lib.hid (HC.out.below hb); have HP1 := Lib.hid (HP.out.below hb HP.out.lt); have M1 := Lib.hid (Mods.of_below (S := two gp gc) hb); clear hb
      go_wp2_with fail
      refine (number_any gc a t 0 1 _ HC1.out (by decide)).mono ?_
      rintro e w2 ⟨rfl, hc, hm⟩
      rw [HE.out] at hc
      have HP2 := Lib.hid (HP1.out.mods (S := fun x => x = gc) (Mods.of_grown hm rfl) HN.out)
      have HC2 := Lib.hid hc; have M2 := Lib.hid (M1.out.trans (Mods.of_grown hm (.inr rfl)))
      clear hc hm HE
      generalize numS t a 0 1 = q at *
      have hw : IntKind.i64.wrap (q : Int) = (q : Int) := by rw [IntKind.wrap_i64]; have := HNB.out; omega
      have k2 : w2.cell? ⟨gp, 21, none⟩ = some (.int .i64 0) := HP2.out.cell 21
      have f2 := HP2.out.free 21
      have HP3 := Lib.hid (HP2.out.upd 21 (.int .i64 q) (pk_code k i 0 q [] hs0))
      have HC3 : Hid (Cur (w2.setCell ⟨gp, 21, none⟩ (.int .i64 q)) gc t (a + 1) 0) := Lib.hid ⟨HC2.out.1.other (Ne.symm HN.out) _, HC2.out.2⟩
      have M3 := Lib.hid (M2.out.set gp 21 (.inl (.inl rfl)) (.int .i64 q))
      go_wp2_with fail
      refine (left_any gc (a + 1) t 0 _ HC3.out).mono ?_
      rintro e w3 ⟨rfl, hb⟩
      have HC4 := Lib.hid (HC3.out.below hb); have HP4 := Lib.hid (HP3.out.below hb HP3.out.lt); have M4 := Lib.hid (M3.out.trans (Mods.of_below hb)); clear hb k2 f2
      have k4 : w3.cell? ⟨gp, 21, none⟩ = some (.int .i64 q) := HP4.out.cell 21
      by_cases hq : q = 0
      · have z2 : ((q : Int) == 0) = true := beq_iff_eq.2 (by omega)
        have HY : Hid (restS k t a = ((q : Int), [], a + 1, 5)) := Lib.hid (by rw [HX.out, if_pos hq])
        clear hq
        go_wp2_with fail
        refine (fail_any gc (a + 1) t 0 5 _ HC4.out).mono ?_
        rintro e w4 ⟨rfl, hc, hm⟩
        rw [if_pos rfl] at hc
        have HP5 := Lib.hid (HP4.out.mods (S := fun x => x = gc) (Mods.of_grown hm rfl) HN.out)
        have HC5 := Lib.hid hc; have M5 := Lib.hid (M4.out.trans (Mods.of_grown hm (.inr rfl)))
        clear hc hm k4
        go_wp2
        go_end0
        exact restOut_mk HY.out HP5.out HC5.out M5.out
      · have z2 : ((q : Int) == 0) = false := beq_eq_false_iff_ne.2 (by omega)
        have HY : Hid (restS k t a = ((q : Int), [], a + 1, 0)) := Lib.hid (by rw [HX.out, if_neg hq])
        clear hq
        go_wp2
        go_end0
        exact restOut_mk HY.out HP4.out HC4.out M4.out
    · have HX : Hid (restS k t a = (((numS t a 0 1 : Nat) : Int), (readP k (t.extract (a + 1) t.size)).1, a + 1 + (readP k (t.extract (a + 1) t.size)).2.1,
        if (readP k (t.extract (a + 1) t.size)).2.2 ≠ 0 then (readP k (t.extract (a + 1) t.size)).2.2 else if (readP k (t.extract (a + 1) t.size)).1.length = 0 then 5 else 0)) := Lib.hid (by unfold restS; rw [if_neg h1, if_neg h2])
      have z1 : (((t.size - (a + 1) : Nat) : Int) == 0) = false := beq_eq_false_iff_ne.2 (by omega)
      have HZ : Hid ((t.extract (a + 1) t.size).size ≤ 140737488351232) := Lib.hid (by rw [rest_len]; have := HT.out; omega)
      have HZ1 : Hid (a + 1 + (t.extract (a + 1) t.size).size = t.size) := Lib.hid (by rw [rest_len]; omega)
      clear h1 h2 hle
      go_enter Tryz.func109, Tryz.ntmps109
      go_wp2_with fail
      refine (left_any gc a t 0 _ HC.out).mono ?_
      rintro e w1 ⟨rfl, hb⟩
      have HC1 := Lib.hid (HC.out.below hb); have HP1 := Lib.hid (HP.out.below hb HP.out.lt); have M1 := Lib.hid (Mods.of_below (S := two gp gc) hb); clear hb
      go_wp2_with fail
      refine (number_any gc a t 0 1 _ HC1.out (by decide)).mono ?_
      rintro e w2 ⟨rfl, hc, hm⟩
      rw [HE.out] at hc
      have HP2 := Lib.hid (HP1.out.mods (S := fun x => x = gc) (Mods.of_grown hm rfl) HN.out)
      have HC2 := Lib.hid hc; have M2 := Lib.hid (M1.out.trans (Mods.of_grown hm (.inr rfl)))
      clear hc hm HE
      generalize numS t a 0 1 = q at *
      have hw : IntKind.i64.wrap (q : Int) = (q : Int) := by rw [IntKind.wrap_i64]; have := HNB.out; omega
      have k2 : w2.cell? ⟨gp, 21, none⟩ = some (.int .i64 0) := HP2.out.cell 21
      have f2 := HP2.out.free 21
      have HP3 := Lib.hid (HP2.out.upd 21 (.int .i64 q) (pk_code k i 0 q [] hs0))
      have HC3 : Hid (Cur (w2.setCell ⟨gp, 21, none⟩ (.int .i64 q)) gc t (a + 1) 0) := Lib.hid ⟨HC2.out.1.other (Ne.symm HN.out) _, HC2.out.2⟩
      have M3 := Lib.hid (M2.out.set gp 21 (.inl (.inl rfl)) (.int .i64 q))
      go_wp2_with fail
      refine (left_any gc (a + 1) t 0 _ HC3.out).mono ?_
      rintro e w3 ⟨rfl, hb⟩
      have HC4 := Lib.hid (HC3.out.below hb); have HP4 := Lib.hid (HP3.out.below hb HP3.out.lt); have M4 := Lib.hid (M3.out.trans (Mods.of_below hb)); clear hb k2 f2
      have k4 : w3.cell? ⟨gp, 0, none⟩ = some (.int .i64 k) := HP4.out.cell 0
      go_wp2_with fail
      go_region_held3 (fun x => x.cell? ⟨gp, 0, none⟩ = some (.int .i64 k) ∧ Below w3.heap.size w3 x)
        (first | exact ⟨k4, below_drawn (Below.refl _ _) _⟩ | exact SR.below (by assumption) hbr | exact SR.below (by assumption) hbd | go_keep)
        (first | (go_at_call 187; refine (rest_any gc (a + 1) t 0 _ (HC4.out.below (SR.to (by assumption)))).mono ?_; rintro e x1 ⟨rfl, hbr⟩)
               | (go_at_call 18; refine (readP_any k _ _ HZ.out).mono ?_; rintro e x2 ⟨A, c, rfl, hcap, hrd, hbd⟩))
      have hSR : Below w3.heap.size w3 x2 := (SR.to (gp := gp) (v := .int .i64 k) (by assumption))
      have HC5 := Lib.hid (HC4.out.below hSR); have HP5 := Lib.hid (HP4.out.below hSR HP4.out.lt); have M5 := Lib.hid (M4.out.trans (Mods.of_below hSR))
      have HCAP := Lib.hid hcap; have HRD := Lib.hid hrd
      have HLB : Hid ((readP k (t.extract (a + 1) t.size)).2.2 = 0 → (readP k (t.extract (a + 1) t.size)).2.1 ≤ (t.extract (a + 1) t.size).size) := Lib.hid fun h0 =>
        (readP_back (kind := k) (s := t.extract (a + 1) t.size) (l := (readP k (t.extract (a + 1) t.size)).1) (n := (readP k (t.extract (a + 1) t.size)).2.1) (by rw [← h0])).2.2
      have HBAD : Hid ((readP k (t.extract (a + 1) t.size)).2.2 ≠ 0 → (readP k (t.extract (a + 1) t.size)).1 = [] ∧ (readP k (t.extract (a + 1) t.size)).2.1 = 0) := Lib.hid fun h0 => by rw [readP_bad h0]; exact ⟨rfl, rfl⟩
      clear hSR hcap hrd
      generalize readP k (t.extract (a + 1) t.size) = R at *
      obtain ⟨l, n, x⟩ := R
      simp only at HX HLB HBAD HCAP HRD
      have J5 : Hid (RJ gp gc k i q l A t (a + 1) 0 w x2) := Lib.hid ⟨HP5.out, HC5.out, HRD.out, M5.out, HN.out⟩
      clear HP5 HC5 HRD M5 HP4 HC4 M4 HP3 HC3 M3 HP2 HC2 M2 HP1 HC1 M1 HP HC
      simp only
      by_cases hx : x = 0
      · have HT5 : Hid (takeS t (a + 1) 0 n = (t.extract (a + 1) (a + 1 + n), a + 1 + n, 0)) := Lib.hid (take_yes (by have := HLB.out hx; have := HZ1.out; omega))
        subst hx
        have f5 : x2.cell? ⟨gp, 24, none⟩ = some (.slice none 0 0) := J5.out.pk.cell 24
        clear k4
        go_wp2_with fail
        refine (fail_any gc (a + 1) t 0 0 _ J5.out.cur).mono ?_
        rintro e w4 ⟨rfl, hc, hm⟩
        rw [if_pos rfl] at hc
        have J6 := Lib.hid (J5.out.turn hc hm); clear hc hm f5
        go_wp2_with fail
        refine (take_any gc (a + 1) t 0 n _ J6.out.cur).mono ?_
        rintro e w5 ⟨rfl, hc, hm⟩
        rw [HT5.out] at hc ⊢
        have J7 := Lib.hid (J6.out.turn hc hm); clear hc hm
        by_cases hl : l.length = 0
        · have z2 : ((l.length : Int) == 0) = true := beq_iff_eq.2 (by omega)
          have HY : Hid (restS k t a = ((q : Int), l, a + 1 + n, 5)) := Lib.hid (by rw [HX.out, if_neg (by decide), if_pos hl])
          clear hl
          go_wp2_with fail
          refine (fail_any gc (a + 1 + n) t 0 5 _ J7.out.cur).mono ?_
          rintro e w6 ⟨rfl, hc, hm⟩
          rw [if_pos rfl] at hc
          have J8 := Lib.hid (J7.out.turn hc hm); clear hc hm
          have f8 : w6.cell? ⟨gp, 24, none⟩ = some (.slice none 0 0) := J8.out.pk.cell 24
          have g8 := J8.out.pk.free 24
          go_wp2
          go_end0
          exact J8.out.fin HY.out HCAP.out
        · have z2 : ((l.length : Int) == 0) = false := beq_eq_false_iff_ne.2 (by omega)
          have HY : Hid (restS k t a = ((q : Int), l, a + 1 + n, 0)) := Lib.hid (by rw [HX.out, if_neg (by decide), if_neg hl])
          clear hl
          have f8 : w5.cell? ⟨gp, 24, none⟩ = some (.slice none 0 0) := J7.out.pk.cell 24
          have g8 := J7.out.pk.free 24
          go_wp2
          go_end0
          exact J7.out.fin HY.out HCAP.out
      · have hn0 := HBAD.out hx
        obtain ⟨rfl, rfl⟩ := hn0
        have HT5 := Lib.hid (takeS_bad (t := t) (a := a + 1) (n := ((0 : Nat) : Int)) hx)
        have HY : Hid (restS k t a = ((q : Int), [], a + 1, x)) := Lib.hid (by rw [HX.out, if_pos hx])
        have z2 : ((([] : List Pr).length : Int) == 0) = true := rfl
        have HXX := Lib.hid hx
        clear hx k4
        go_wp2_with fail
        refine (fail_any gc (a + 1) t 0 x _ J5.out.cur).mono ?_
        rintro e w4 ⟨rfl, hc, hm⟩
        rw [if_pos rfl] at hc
        have J6 := Lib.hid (J5.out.turn hc hm); clear hc hm
        go_wp2_with fail
        refine (take_any gc (a + 1) t x 0 _ J6.out.cur).mono ?_
        rintro e w5 ⟨rfl, hc, hm⟩
        have HT5' : Hid (takeS t (a + 1) x 0 = (⟨#[]⟩, a + 1, x)) := HT5
        rw [HT5'.out] at hc ⊢
        have J7 := Lib.hid (J6.out.turn hc hm); clear hc hm
        go_wp2_with fail
        refine (fail_any gc (a + 1) t x 5 _ J7.out.cur).mono ?_
        rintro e w6 ⟨rfl, hc, hm⟩
        have HF : Hid ((if x = 0 then 5 else x) = x) := Lib.hid (by by_cases h : x = 0; · subst h; exact absurd rfl HXX.out
                                                                    · rw [if_neg h])
        rw [HF.out] at hc
        have J8 := Lib.hid (J7.out.turn hc hm); clear hc hm
        have f8 : w6.cell? ⟨gp, 24, none⟩ = some (.slice none 0 0) := J8.out.pk.cell 24
        have g8 := J8.out.pk.free 24
        go_wp2
        go_end0
        exact J8.out.fin HY.out HCAP.out
end Go.Proofs.YtpcaffimahapjaaGreat
