/-
  The registry's heap of ids, walked: down.
-/
import Derived.Test.YtjbpafkdbfbdlaaRegT
import Derived.IntWalk

namespace Go.Proofs.Ytjbpafkdbfbdlaa
open Go.RowKit
/-- A field of ids, in memory: the field's block, the row's block. -/
structure Hp (W : World) (g k n c : Nat) (l : List Nat) : Prop where
  cell : W.cell? ⟨g, 2, none⟩ = some (.slice (some ⟨k, 0, none⟩) n c)
  row : W.ownsRow 0 3 1 (.slice (some ⟨k, 0, none⟩) n c) n (idV l)
  ne : k ≠ g
theorem Hp.len {W : World} {g k n c : Nat} {l : List Nat} (h : Hp W g k n c l) : l.length = n := by
  have := h.row.1
  simpa [idV] using this
theorem idV_at {l : List Nat} {t : Nat} (h : t < l.length) : (idV l)[t]? = some (.int .i64 (bk l t)) := by
  simp [idV, bk, h]
theorem Hp.block {W : World} {g k n c : Nat} {l : List Nat} (h : Hp W g k n c l) : ∃ cur : Array Value, Bk W k 3 cur ∧ n ≤ c ∧ c ≤ maxLen ∧ cur.size = c * 1 ∧ cur.toList.take (n * 1) = idV l := by
  rcases h.row.2 with ⟨h1, _⟩ | ⟨g', cap, cur, h1, _, hb, h2, h3, h4, h5⟩
  · cases h1
  · cases h1
    exact ⟨cur, hb, h2, h3, h4, h5⟩
theorem Hp.cells {W : World} {g k n c : Nat} {l : List Nat} (h : Hp W g k n c l) : RowC W k n (bk l) := by
  intro t ht
  obtain ⟨cur, hb, h2, h3, h4, h5⟩ := h.block
  refine ⟨?_, hb.free t⟩
  rw [hb.cell t, ← idV_at (by rw [h.len]; exact ht), ← h5, List.getElem?_take, if_pos (by omega)]
  simp
theorem Hp.drewN {W : World} {g k n c : Nat} {l : List Nat} (h : Hp W g k n c l) (m : Nat) : Hp (W.drewN m) g k n c l := ⟨h.cell, h.row, h.ne⟩
theorem idV_set (l : List Nat) (i x : Nat) : idV (l.set i x) = (idV l).set i (.int .i64 (x : Int)) := by
  simp [idV, List.map_set]
theorem Hp.set {W : World} {g k n c : Nat} {l : List Nat} (h : Hp W g k n c l) (i x : Nat) : Hp (W.setCell ⟨k, i, none⟩ (.int .i64 (x : Int))) g k n c (l.set i x) := by
  obtain ⟨cur, hb, h2, h3, h4, h5⟩ := h.block
  refine ⟨?_, ⟨by simp [idV, h.len], .inr ⟨k, c, cur.setIfInBounds i (.int .i64 (x : Int)), rfl, Nat.zero_le _, hb.put i _, h2, h3, by simpa using h4, ?_⟩⟩, h.ne⟩
  · exact (World.cell?_setCell_other _ _ _ _ (fun e => h.ne (by injection e))).trans h.cell
  · rw [idV_set, ← h5]
    simp [List.take_set]
theorem Hp.swap {W : World} {g k n c : Nat} {l : List Nat} (h : Hp W g k n c l) (i j : Nat) : Hp ((W.setCell ⟨k, i, none⟩ (.int .i64 (bk l j))).setCell ⟨k, j, none⟩ (.int .i64 (bk l i))) g k n c (swpL l i j) :=
  (h.set i (l.getD j 0)).set j (l.getD i 0)
theorem grown_two (W : World) (k i j : Nat) (u v : Value) : W.grownBy ((W.setCell ⟨k, i, none⟩ u).setCell ⟨k, j, none⟩ v) (some k) := (mod_set W k i u).trans (mod_set _ k j v)
theorem grown_drewN {W W' : World} {r : Option Nat} (h : W.grownBy W' r) (q : Nat) : W.grownBy (W'.drewN q) r := ⟨h.os, h.tape, h.output, h.size, h.block⟩
theorem down_next {l l2 : List Nat} {n i j : Nat} (hm : Mix n l l2) (hd : HeapD (bk l2) n i) (hj : (j - 1) / 2 = i) (j0 : 0 < j) (jn : j < n) (hn : n ≤ l.length) (hlow : ∀ x, 0 < x → x < n → (x - 1) / 2 = i → bk l2 j ≤ bk l2 x) (hlt : bk l2 j < bk l2 i) :
    Mix n l (swpL l2 i j) ∧ HeapD (bk (swpL l2 i j)) n j := by
  have hl := hm.len
  refine ⟨hm.swp (by omega) jn hn, ?_⟩
  rw [bk_swpL (by omega) (by omega)]
  exact hd.step hj j0 jn hlow hlt
set_option maxRecDepth 10000 in
set_option maxHeartbeats 2000000 in
theorem hdown_any (g k n m c : Nat) (l : List Nat) (W : World) (hp : Hp W g k m c l) (hn : n ≤ m) (hd : HeapD (bk l) n 0) (hm : m < 1000000000) :
    Calls Try.prog 54 #[.iface 68 (.pointer (some ⟨g, 2, none⟩)), .int .i64 0, .int .i64 n] W fun e w' => (∃ b, e = .returned (.bool b)) ∧ ∃ l2, Mix n l l2 ∧ Heap (bk l2) n ∧ Hp w' g k m c l2 ∧ W.grownBy w' (some k) := by
  have hl := hp.len
  have HP0 := Lib.hid hp; clear hp
  have HD0 := Lib.hid hd; clear hd
  go_enter Try.func54, Try.ntmps54
  go_wp2
  go_loopw [7] (fun s7 wr => ∃ (i : Nat) (l2 : List Nat), s7 = .int .i64 (i : Int) ∧ i ≤ n ∧ Hid (Mix n l l2) ∧ Hid (HeapD (bk l2) n i) ∧ Hid (Hp wr g k m c l2) ∧ Hid (W.grownBy wr (some k))) (fun s7 _ => n - (intOf s7).toNat)
  case atStart => exact ⟨0, l, rfl, Nat.zero_le _, Lib.hid (Mix.refl n l), HD0, HP0, Lib.hid (mod_refl W k)⟩
  case round =>
    obtain ⟨i, l2, rfl, hi, HM, HD, HP, HG⟩ := hrel
    have hsl := HP.out.len
    have m0 := HP.out.cell
    have mL : ∀ (f : Nat) w, w.heap = wr.heap → Sem.run Try.prog (method (f + 1) 68 (.pointer (some ⟨g, 2, none⟩)) "Less") w = .ok (92, .slice (some ⟨k, 0, none⟩) m c) w := fun f w hw => meth_less f (by rw [← m0]; unfold World.cell?; rw [hw])
    have mS : ∀ (f : Nat) w, w.heap = wr.heap → Sem.run Try.prog (method (f + 1) 68 (.pointer (some ⟨g, 2, none⟩)) "Swap") w = .ok (93, .slice (some ⟨k, 0, none⟩) m c) w := fun f w hw => meth_swap f (by rw [← m0]; unfold World.cell?; rw [hw])
    have cL := fun (w : World) (hw : w.heap = wr.heap) (a b : Nat) (ha : a < m) (hb : b < m) => hless_any k c m w (bk l2) (fun t ht => by
      have := HP.out.cells t ht
      unfold World.cell? World.frozen? at this ⊢
      rw [hw]
      exact this) a b ha hb (by omega)
    have cS := fun (w : World) (hw : w.heap = wr.heap) (a b : Nat) (ha : a < m) (hb : b < m) => hswap_any k c m w (bk l2 a) (bk l2 b) a b ha hb (by omega)
      (by have := (HP.out.cells a ha).1; unfold World.cell? at this ⊢; rw [hw]; exact this) (by have := (HP.out.cells b hb).1; unfold World.cell? at this ⊢; rw [hw]; exact this)
      (by have := (HP.out.cells a ha).2; unfold World.frozen? at this ⊢; rw [hw]; exact this) (by have := (HP.out.cells b hb).2; unfold World.frozen? at this ⊢; rw [hw]; exact this)
    clear m0
    by_cases h1 : n ≤ 2 * i + 1
    · have c1 : (n : Int) ≤ 2 * (i : Int) + 1 := by omega
      clear mL cL mS cS
      go_wp2
      go_ret
      exact ⟨⟨_, rfl⟩, l2, HM.out, HD.out.done fun x x0 xn hx => by omega, HP.out, HG.out⟩
    · have c1 : ¬ (n : Int) ≤ 2 * (i : Int) + 1 := by omega
      have c2 : ¬ 2 * (i : Int) + 1 < 0 := by omega
      have e0 := fun f => mL f wr rfl
      by_cases h2 : 2 * i + 2 < n
      · have c3 : 2 * (i : Int) + 1 + 1 < (n : Int) := by omega
        have c4 := cL wr rfl (2 * i + 2) (2 * i + 1) (by omega) (by omega)
        have e1 := fun f q => mL f (wr.drewN q) rfl
        have e2 := fun f q => mS f (wr.drewN q) rfl
        rw [show ((2 * i + 2 : Nat) : Int) = 2 * (i : Int) + 1 + 1 by omega, show ((2 * i + 1 : Nat) : Int) = 2 * (i : Int) + 1 by omega] at c4
        by_cases h3 : bk l2 (2 * i + 2) < bk l2 (2 * i + 1)
        · rw [decide_eq_true h3] at c4
          have HL : ∀ x, 0 < x → x < n → (x - 1) / 2 = i → bk l2 (2 * i + 2) ≤ bk l2 x := fun x x0 xn hx => by
            have : x = 2 * i + 1 ∨ x = 2 * i + 2 := by omega
            rcases this with rfl | rfl <;> omega
          go_wp2_with fail
          refine c4.mono ?_
          rintro e w1 ⟨rfl, q1, rfl⟩
          by_cases h4 : bk l2 (2 * i + 2) < bk l2 i
          · have c6 := cL (wr.drewN q1) rfl (2 * i + 2) i (by omega) (by omega)
            rw [show ((2 * i + 2 : Nat) : Int) = 2 * (i : Int) + 1 + 1 by omega, decide_eq_true h4] at c6
            have c7 := fun q => cS (wr.drewN (q1 + q)) rfl i (2 * i + 2) (by omega) (by omega)
            rw [show ((2 * i + 2 : Nat) : Int) = 2 * (i : Int) + 1 + 1 by omega] at c7
            have HN := Lib.hid (down_next HM.out HD.out (j := 2 * i + 2) (by omega) (by omega) (by omega) (by omega) HL h4)
            clear h3 h4 h2 mL mS cL cS
            go_wp2_with fail
            refine c6.mono ?_
            rintro e w2 ⟨rfl, q2, rfl⟩
            go_wp2_with fail
            refine (c7 q2).mono ?_
            rintro e w3 ⟨rfl, q3, rfl⟩
            go_wp2
            go_roundw
            case rel => exact ⟨2 * i + 2, swpL l2 i (2 * i + 2), rfl, by omega, Lib.hid HN.out.1, Lib.hid HN.out.2, Lib.hid (((HP.out.drewN (q1 + q2)).swap _ _).drewN q3), Lib.hid (grown_drewN ((grown_drewN HG.out (q1 + q2)).trans (grown_two _ _ _ _ _ _)) q3)⟩
            case measure => simp [intOf]; omega
          · have c6 := cL (wr.drewN q1) rfl (2 * i + 2) i (by omega) (by omega)
            rw [show ((2 * i + 2 : Nat) : Int) = 2 * (i : Int) + 1 + 1 by omega, decide_eq_false h4] at c6
            have HN := Lib.hid (HD.out.done fun x x0 xn hx => by have := HL x x0 xn hx; omega)
            clear h3 h4 h2 mL mS cL cS
            go_wp2_with fail
            refine c6.mono ?_
            rintro e w2 ⟨rfl, q2, rfl⟩
            go_wp2
            go_ret
            exact ⟨⟨_, rfl⟩, l2, HM.out, HN.out, HP.out.drewN (q1 + q2), grown_drewN HG.out (q1 + q2)⟩
        · rw [decide_eq_false h3] at c4
          have HL : ∀ x, 0 < x → x < n → (x - 1) / 2 = i → bk l2 (2 * i + 1) ≤ bk l2 x := fun x x0 xn hx => by
            have : x = 2 * i + 1 ∨ x = 2 * i + 2 := by omega
            rcases this with rfl | rfl <;> omega
          go_wp2_with fail
          refine c4.mono ?_
          rintro e w1 ⟨rfl, q1, rfl⟩
          by_cases h4 : bk l2 (2 * i + 1) < bk l2 i
          · have c6 := cL (wr.drewN q1) rfl (2 * i + 1) i (by omega) (by omega)
            rw [show ((2 * i + 1 : Nat) : Int) = 2 * (i : Int) + 1 by omega, decide_eq_true h4] at c6
            have c7 := fun q => cS (wr.drewN (q1 + q)) rfl i (2 * i + 1) (by omega) (by omega)
            rw [show ((2 * i + 1 : Nat) : Int) = 2 * (i : Int) + 1 by omega] at c7
            have HN := Lib.hid (down_next HM.out HD.out (j := 2 * i + 1) (by omega) (by omega) (by omega) (by omega) HL h4)
            clear h3 h4 h2 mL mS cL cS
            go_wp2_with fail
            refine c6.mono ?_
            rintro e w2 ⟨rfl, q2, rfl⟩
            go_wp2_with fail
            refine (c7 q2).mono ?_
            rintro e w3 ⟨rfl, q3, rfl⟩
            go_wp2
            go_roundw
            case rel => exact ⟨2 * i + 1, swpL l2 i (2 * i + 1), rfl, by omega, Lib.hid HN.out.1, Lib.hid HN.out.2, Lib.hid (((HP.out.drewN (q1 + q2)).swap _ _).drewN q3), Lib.hid (grown_drewN ((grown_drewN HG.out (q1 + q2)).trans (grown_two _ _ _ _ _ _)) q3)⟩
            case measure => simp [intOf]; omega
          · have c6 := cL (wr.drewN q1) rfl (2 * i + 1) i (by omega) (by omega)
            rw [show ((2 * i + 1 : Nat) : Int) = 2 * (i : Int) + 1 by omega, decide_eq_false h4] at c6
            have HN := Lib.hid (HD.out.done fun x x0 xn hx => by have := HL x x0 xn hx; omega)
            clear h3 h4 h2 mL mS cL cS
            go_wp2_with fail
            refine c6.mono ?_
            rintro e w2 ⟨rfl, q2, rfl⟩
            go_wp2
            go_ret
            exact ⟨⟨_, rfl⟩, l2, HM.out, HN.out, HP.out.drewN (q1 + q2), grown_drewN HG.out (q1 + q2)⟩
      · have c3 : ¬ 2 * (i : Int) + 1 + 1 < (n : Int) := by omega
        have e2 := fun f q => mS f (wr.drewN q) rfl
        have HL : ∀ x, 0 < x → x < n → (x - 1) / 2 = i → bk l2 (2 * i + 1) ≤ bk l2 x := fun x x0 xn hx => by
          have : x = 2 * i + 1 := by omega
          rw [this]
          exact Int.le_refl _
        have h3 := h2
        by_cases h4 : bk l2 (2 * i + 1) < bk l2 i
        · have c6 := cL (wr) rfl (2 * i + 1) i (by omega) (by omega)
          rw [show ((2 * i + 1 : Nat) : Int) = 2 * (i : Int) + 1 by omega, decide_eq_true h4] at c6
          have c7 := fun q => cS (wr.drewN q) rfl i (2 * i + 1) (by omega) (by omega)
          rw [show ((2 * i + 1 : Nat) : Int) = 2 * (i : Int) + 1 by omega] at c7
          have HN := Lib.hid (down_next HM.out HD.out (j := 2 * i + 1) (by omega) (by omega) (by omega) (by omega) HL h4)
          clear h3 h4 h2 mL mS cL cS
          go_wp2_with fail
          refine c6.mono ?_
          rintro e w2 ⟨rfl, q2, rfl⟩
          go_wp2_with fail
          refine (c7 q2).mono ?_
          rintro e w3 ⟨rfl, q3, rfl⟩
          go_wp2
          go_roundw
          case rel => exact ⟨2 * i + 1, swpL l2 i (2 * i + 1), rfl, by omega, Lib.hid HN.out.1, Lib.hid HN.out.2, Lib.hid (((HP.out.drewN q2).swap _ _).drewN q3), Lib.hid (grown_drewN ((grown_drewN HG.out q2).trans (grown_two _ _ _ _ _ _)) q3)⟩
          case measure => simp [intOf]; omega
        · have c6 := cL (wr) rfl (2 * i + 1) i (by omega) (by omega)
          rw [show ((2 * i + 1 : Nat) : Int) = 2 * (i : Int) + 1 by omega, decide_eq_false h4] at c6
          have HN := Lib.hid (HD.out.done fun x x0 xn hx => by have := HL x x0 xn hx; omega)
          clear h3 h4 h2 mL mS cL cS
          go_wp2_with fail
          refine c6.mono ?_
          rintro e w2 ⟨rfl, q2, rfl⟩
          go_wp2
          go_ret
          exact ⟨⟨_, rfl⟩, l2, HM.out, HN.out, HP.out.drewN q2, grown_drewN HG.out q2⟩
end Go.Proofs.Ytjbpafkdbfbdlaa
