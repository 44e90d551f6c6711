/-
  The registry's clients, walked: least.
-/
import Derived.Test.YtjbpafkdbfbdlaaRegY

namespace Go.Proofs.Ytjbpafkdbfbdlaa
open Go.RowKit Go.Maps Go.WideShapes
theorem ClIn.setF {w : World} {F F' : Nat → Prop} {g bi ba : Nat} {c : Cl} {v : Value} {D : DataW Nat} (h : ClI w F' g c bi ba v D) (hF : ∀ i, F' i ↔ F i) : ClI w F g c bi ba v D := by
  have : F' = F := funext fun i => propext (hF i)
  rw [this] at h
  exact h
/-- A client whose least id that was had has been taken. -/
theorem ClIn.popped {w w1 : World} {F : Nat → Prop} {g k m cp bi ba : Nat} {c : Cl} {D : DataW Nat} {l2 : List Nat} (h : ClI w F g c bi ba (.slice (some ⟨k, 0, none⟩) (m + 1) cp) D) (h3 : Fd w1 g k m cp (.map (some bi)) (.map (some ba)) (.int .i64 (c.next : Int)) l2) (hM : Mods (fun i => i = g ∨ i = k) w w1) :
    ClI w1 F g { c with back := l2 } bi ba (.slice (some ⟨k, 0, none⟩) m cp) D := by
  have hl := h3.hp.len
  refine ClIn.setF (h.back (b' := l2) h3.blk (by rw [hl]; exact h3.row) hM.size (fun j e => .inl e) fun i hi h1 h2 => hM.block i hi fun hs => ?_) fun i => ?_
  · rcases hs with rfl | rfl
    · exact h1 rfl
    · exact h2 rfl
  · constructor
    · rintro (hi | hi)
      · exact hi
      · exact h.fr i hi
    · exact .inl
/-- What a client's call of least finds by the world: how many ids that were had, the next one. -/
def lenAt (w : World) (g : Nat) : Nat := match w.cell? ⟨g, 2, none⟩ with | some (.slice _ n _) => n | _ => 0
def nextAt (w : World) (g : Nat) : Nat := match w.cell? ⟨g, 3, none⟩ with | some (.int _ z) => 65535 - z.toNat | _ => 0
/-- Between two rounds of least. -/
def LsR (w : World) (F : Nat → Prop) (g bi ba : Nat) (c : Cl) (v : Value) (D : DataW Nat) (wr : World) (c1 : Cl) (v1 : Value) : Prop :=
  c1.all = c.all ∧ ClOk c1 ∧ ClI wr F g c1 bi ba v1 D ∧ v1.ownBlock = v.ownBlock ∧ Mods (fun i => i = g ∨ v.ownBlock = some i) w wr ∧ c1.back.length ≤ c.back.length
theorem LsR.below {w wr w' : World} {F : Nat → Prop} {g bi ba : Nat} {c c1 : Cl} {v v1 : Value} {D : DataW Nat} (h : LsR w F g bi ba c v D wr c1 v1) (hb : Below wr.heap.size wr w') : LsR w F g bi ba c v D w' c1 v1 :=
  ⟨h.1, h.2.1, h.2.2.1.keep _ _ _ _ hb.size fun i hi => hb.block i (h.2.2.1.lt i hi), h.2.2.2.1, h.2.2.2.2.1.trans (Mods.of_below hb), h.2.2.2.2.2⟩
set_option maxRecDepth 10000 in
set_option maxHeartbeats 2000000 in
theorem least_any {w : World} {F : Nat → Prop} {g bi ba : Nat} {c : Cl} {v : Value} {D : DataW Nat} (h : ClI w F g c bi ba v D) (ok : ClOk c) (hK : c.back.length < 1000000000) :
    Calls Try.prog 29 #[.pointer (some ⟨g, 0, none⟩)] w fun e w' => ∃ (r : Nat) (c' : Cl) (v' : Value), e = .returned (.int .i64 (r : Int)) ∧ LeastOut c r c' ∧ ClI w' F g c' bi ba v' D ∧ v'.ownBlock = v.ownBlock ∧ Mods (fun i => i = g ∨ v.ownBlock = some i) w w' ∧ c'.back.length ≤ c.back.length := by
  have H0 : Hid (LsR w F g bi ba c v D w c v) := Lib.hid ⟨rfl, ok, h, rfl, Mods.refl w, Nat.le_refl _⟩
  clear h ok
  go_enter Try.func29, Try.ntmps29
  go_wp2
  go_loopw [3] (fun _ wr => ∃ c1 v1, Hid (LsR w F g bi ba c v D wr c1 v1)) (fun _ wr => lenAt wr g)
  case atStart => exact ⟨c, v, H0⟩
  case round =>
    obtain ⟨c1, v1, HR⟩ := hrel
    obtain ⟨A, cp, rfl, hcp⟩ := own_rd HR.out.2.2.1.row
    clear hcp
    have hc := HR.out.2.2.1.blk.client
    have HL : Hid (lenAt wr g = c1.back.length) := Lib.hid (by unfold lenAt; rw [hc.2.2.1])
    obtain ⟨n, HN⟩ : ∃ n, Hid (c1.back.length = n) := ⟨_, Lib.hid rfl⟩
    rw [HN.out] at HR hc HL
    cases n with
    | zero =>
      have HE : Hid (c1.back = []) := Lib.hid (List.length_eq_zero_iff.1 HN.out)
      clear H0 HL
      go_wp2
      go_loopw [5] (fun _ w2 => ∃ c2 v2, Hid (LsR w F g bi ba c v D w2 c2 v2) ∧ Hid (c2.back = [])) (fun _ w2 => nextAt w2 g)
      case atStart => exact ⟨c1, _, HR, HE⟩
      case round =>
        clear HR HE HN hc
        obtain ⟨c2, v2, HR, HE⟩ := hrel
        have hb := HR.out.2.2.1.blk.four
        have HX : Hid (nextAt wr g = 65535 - c2.next) := Lib.hid (by unfold nextAt; rw [hb.1.2.2.2]; simp)
        have hn1 := HR.out.2.1.n1
        have hn2 := HR.out.2.1.n2
        by_cases h5 : c2.next ≤ 65534
        · have h6 : (c2.next : Int) ≤ 65534 := by omega
          have hC3 := HR.out.2.2.1.next (c2.next + 1)
          rw [show ((c2.next + 1 : Nat) : Int) = (c2.next : Int) + 1 by omega] at hC3
          have ch := chas_any hC3 (c2.next : Int) (wf_id h5)
          have HM := Lib.hid (mod_set wr g 3 (.int .i64 ((c2.next : Int) + 1)))
          generalize hW : wr.setCell ⟨g, 3, none⟩ (.int .i64 ((c2.next : Int) + 1)) = w3 at hC3 ch HM
          have HC3 := Lib.hid hC3
          clear hC3
          by_cases hm : (tpAt c2.all (c2.next : Int)).isSome = true
          · rw [hm] at ch
            obtain ⟨t, ht⟩ := Option.isSome_iff_exists.1 hm
            have HO : Hid (ClOk { c2 with next := c2.next + 1 }) := Lib.hid (HR.out.2.1.over h5 ⟨t, (tpAt_some ht).1, Int.ofNat_inj.1 (tpAt_some ht).2⟩)
            clear hm ht
            go_wp2_with fail
            refine ch.mono ?_
            rintro e w4 ⟨rfl, hb4⟩
            have HB4 := Lib.hid hb4
            clear hb4
            go_wp2
            go_roundw
            case rel => exact ⟨{ c2 with next := c2.next + 1 }, v2, Lib.hid (LsR.below ⟨HR.out.1, HO.out, HC3.out, HR.out.2.2.2.1, HR.out.2.2.2.2.1.trans (Mods.of_grown HM.out (.inl rfl)), HR.out.2.2.2.2.2⟩ HB4.out), HE⟩
            case measure =>
              have h4 := (HC3.out.keep _ _ _ _ HB4.out.size fun i hi => HB4.out.block i (HC3.out.lt i hi)).blk.client
              rw [HX.out]
              unfold nextAt
              rw [h4.2.2.2]
              simp
              omega
          · rw [Bool.not_eq_true] at hm
            rw [hm] at ch
            have HO : Hid (LeastOut c c2.next { c2 with next := c2.next + 1 }) := Lib.hid (LeastOut.behind HR.out.1 (LeastOut.first HR.out.2.1 HE.out h5 fun t ht e => tpAt_none (by simpa using hm) t ht (by rw [e])))
            clear hm
            go_wp2_with fail
            refine ch.mono ?_
            rintro e w4 ⟨rfl, hb4⟩
            have HB4 := Lib.hid hb4
            clear hb4
            go_wp2
            go_ret
            exact ⟨c2.next, { c2 with next := c2.next + 1 }, v2, rfl, HO.out, HC3.out.keep _ _ _ _ HB4.out.size fun i hi => HB4.out.block i (HC3.out.lt i hi), HR.out.2.2.2.1, (HR.out.2.2.2.2.1.trans (Mods.of_grown HM.out (.inl rfl))).trans (Mods.of_below HB4.out), HR.out.2.2.2.2.2⟩
        · have h6 : ¬ (c2.next : Int) ≤ 65534 := by omega
          have HO : Hid (LeastOut c 0 c2) := Lib.hid (LeastOut.behind HR.out.1 (LeastOut.full HR.out.2.1 HE.out h5))
          go_wp2
          go_ret
          exact ⟨0, rfl, c2, HO.out, v2, HR.out.2.2.1, HR.out.2.2.2.1, HR.out.2.2.2.2.1, HR.out.2.2.2.2.2⟩
    | succ m =>
      clear H0
      have hlt : m + 1 < 1000000000 := by have := HR.out.2.2.2.2.2; have := HN.out; omega
      obtain ⟨k, rfl⟩ : ∃ k, A = some ⟨k, 0, none⟩ := by
        have hrow := HR.out.2.2.1.row
        rw [HN.out] at hrow
        rcases hrow.2 with ⟨_, h0⟩ | ⟨k, cap, cur, h1, _⟩
        · omega
        · cases h1; exact ⟨k, rfl⟩
      have F1 : Fd wr g k (m + 1) cp (.map (some bi)) (.map (some ba)) (.int .i64 (c1.next : Int)) c1.back := ⟨HR.out.2.2.1.blk, by have := HR.out.2.2.1.row; rw [HN.out] at this; exact this⟩
      have hp := hpop_any g k m cp _ _ _ c1.back wr F1 (by have := HR.out.2.1.heap; rw [HN.out] at this; exact this) hlt
      obtain ⟨y, HY⟩ : ∃ y : Nat, Hid (c1.back.getD 0 0 = y) := ⟨_, Lib.hid rfl⟩
      rw [show bk c1.back 0 = (y : Int) from congrArg Int.ofNat HY.out, HY.out] at hp
      have ta := fun W => assert_int (y : Int) W
      clear F1
      go_wp2_with fail
      refine hp.mono ?_
      rintro e w2 ⟨l2, rfl, hpd, F2, hM2⟩
      have hl2 := F2.hp.len
      have hC2 := HR.out.2.2.1.popped F2 hM2
      have HP := Lib.hid hpd
      have hyb := HR.out.2.1.had y hpd.here
      have hn2 := HR.out.2.1.n2
      have ch := chas_any hC2 (y : Int) (wf_id (by omega))
      have HC2 := Lib.hid hC2
      have HM2 : Hid (Mods (fun i => i = g ∨ v.ownBlock = some i) wr w2) := Lib.hid (hM2.mono fun i _ hs => by
        rcases hs with rfl | rfl
        · exact .inl rfl
        · exact .inr (by rw [← HR.out.2.2.2.1]; rfl))
      have HF2 := Lib.hid F2.blk.client
      have HL2 := Lib.hid hl2
      clear hC2 hM2 F2 hpd hl2 hyb hn2 hlt
      by_cases hm : (tpAt c1.all (y : Int)).isSome = true
      · have HO : Hid (ClOk { c1 with back := l2 }) := Lib.hid (by
          obtain ⟨t, ht⟩ := Option.isSome_iff_exists.1 hm
          exact HR.out.2.1.pop HP.out ⟨t, (tpAt_some ht).1, Int.ofNat_inj.1 (tpAt_some ht).2⟩)
        rw [show (tpAt ({ c1 with back := l2 } : Cl).all (y : Int)).isSome = true from hm] at ch
        clear hm
        go_wp2_with fail
        refine ch.mono ?_
        rintro e w4 ⟨rfl, hb4⟩
        have HB4 := Lib.hid hb4
        clear hb4
        go_wp2
        go_roundw
        case rel => exact ⟨{ c1 with back := l2 }, _, Lib.hid (LsR.below ⟨HR.out.1, HO.out, HC2.out, HR.out.2.2.2.1, HR.out.2.2.2.2.1.trans HM2.out, by have := HR.out.2.2.2.2.2; have := HN.out; have := HL2.out; show l2.length ≤ _; omega⟩ HB4.out)⟩
        case measure =>
          have h4 := (HC2.out.keep _ _ _ _ HB4.out.size fun i hi => HB4.out.block i (HC2.out.lt i hi)).blk.client
          rw [HL.out]
          unfold lenAt
          rw [h4.2.2.1]
          simp
      · have HO : Hid (LeastOut c y { c1 with back := l2 }) := Lib.hid (LeastOut.behind HR.out.1 (LeastOut.pop HR.out.2.1 HP.out fun t ht e => tpAt_none (by simpa using hm) t ht (by rw [e])))
        rw [Bool.not_eq_true] at hm
        rw [show (tpAt ({ c1 with back := l2 } : Cl).all (y : Int)).isSome = false from hm] at ch
        clear hm
        go_wp2_with fail
        refine ch.mono ?_
        rintro e w4 ⟨rfl, hb4⟩
        have HB4 := Lib.hid hb4
        clear hb4
        go_wp2
        go_ret
        exact ⟨y, { c1 with back := l2 }, _, rfl, HO.out, HC2.out.keep _ _ _ _ HB4.out.size fun i hi => HB4.out.block i (HC2.out.lt i hi), HR.out.2.2.2.1, (HR.out.2.2.2.2.1.trans HM2.out).trans (Mods.of_below HB4.out), by have := HR.out.2.2.2.2.2; have := HN.out; have := HL2.out; show l2.length ≤ _; omega⟩
end Go.Proofs.Ytjbpafkdbfbdlaa
