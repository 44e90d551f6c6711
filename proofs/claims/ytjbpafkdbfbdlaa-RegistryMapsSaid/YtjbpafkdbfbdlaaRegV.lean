/-
  The registry's heap of ids, walked: up.
-/
import Derived.Test.YtjbpafkdbfbdlaaRegU

namespace Go.Proofs.Ytjbpafkdbfbdlaa
open Go.RowKit
set_option maxRecDepth 10000 in
set_option maxHeartbeats 2000000 in
theorem hup_any (g k m c : Nat) (l : List Nat) (W : World) (hp : Hp W g k (m + 1) c l) (hd : HeapU (bk l) (m + 1) m) (hm : m < 1000000000) :
    Calls Try.prog 39 #[.iface 68 (.pointer (some ⟨g, 2, none⟩)), .int .i64 m] W fun e w' => e = .returned (.tuple #[]) ∧ ∃ l2, Mix (m + 1) l l2 ∧ Heap (bk l2) (m + 1) ∧ Hp w' g k (m + 1) c l2 ∧ W.grownBy w' (some k) := by
  have hl := hp.len
  have HP0 := Lib.hid hp; clear hp
  have HD0 := Lib.hid hd; clear hd
  go_enter Try.func39, Try.ntmps39
  go_wp2
  go_loopw [1] (fun s1 wr => ∃ (j : Nat) (l2 : List Nat), s1 = .int .i64 (j : Int) ∧ j < m + 1 ∧ Hid (Mix (m + 1) l l2) ∧ Hid (HeapU (bk l2) (m + 1) j) ∧ Hid (Hp wr g k (m + 1) c l2) ∧ Hid (W.grownBy wr (some k))) (fun s1 _ => (intOf s1).toNat)
  case atStart => exact ⟨m, l, rfl, Nat.lt_succ_self _, Lib.hid (Mix.refl _ l), HD0, HP0, Lib.hid (mod_refl W k)⟩
  case round =>
    obtain ⟨j, l2, rfl, hj, HM, HD, HP, HG⟩ := hrel
    have hsl := HP.out.len
    have m0 := HP.out.cell
    have mL : ∀ (f : Nat) w, w.heap = wr.heap → Sem.run Try.prog (method (f + 1) 68 (.pointer (some ⟨g, 2, none⟩)) "Less") w = .ok (92, .slice (some ⟨k, 0, none⟩) (m + 1) c) w := fun f w hw => meth_less f (by rw [← m0]; unfold World.cell?; rw [hw])
    have mS : ∀ (f : Nat) w, w.heap = wr.heap → Sem.run Try.prog (method (f + 1) 68 (.pointer (some ⟨g, 2, none⟩)) "Swap") w = .ok (93, .slice (some ⟨k, 0, none⟩) (m + 1) c) w := fun f w hw => meth_swap f (by rw [← m0]; unfold World.cell?; rw [hw])
    have cL := fun (w : World) (hw : w.heap = wr.heap) (a b : Nat) (ha : a < m + 1) (hb : b < m + 1) => hless_any k c (m + 1) w (bk l2) (fun t ht => by
      have := HP.out.cells t ht
      unfold World.cell? World.frozen? at this ⊢
      rw [hw]
      exact this) a b ha hb (by omega)
    have cS := fun (w : World) (hw : w.heap = wr.heap) (a b : Nat) (ha : a < m + 1) (hb : b < m + 1) => hswap_any k c (m + 1) w (bk l2 a) (bk l2 b) a b ha hb (by omega)
      (by have := (HP.out.cells a ha).1; unfold World.cell? at this ⊢; rw [hw]; exact this) (by have := (HP.out.cells b hb).1; unfold World.cell? at this ⊢; rw [hw]; exact this)
      (by have := (HP.out.cells a ha).2; unfold World.frozen? at this ⊢; rw [hw]; exact this) (by have := (HP.out.cells b hb).2; unfold World.frozen? at this ⊢; rw [hw]; exact this)
    clear m0
    cases j with
    | zero =>
      clear mL cL mS cS
      go_wp2
      go_end0
      exact ⟨rfl, l2, HM.out, HD.out.done (fun h => absurd h (by omega)), HP.out, HG.out⟩
    | succ p =>
      have e0 := fun f => mL f wr rfl
      have e2 := fun f q => mS f (wr.drewN q) rfl
      have c6 := cL wr rfl (p + 1) (p / 2) (by omega) (by omega)
      have c7 := fun q => cS (wr.drewN q) rfl (p / 2) (p + 1) (by omega) (by omega)
      have i1 : ((p + 1 : Nat) : Int) = (p : Int) + 1 := by omega
      have i2 : ((p / 2 : Nat) : Int) = (p : Int) / 2 := by omega
      rw [i1, i2] at c6 c7
      clear i1 i2 mL mS cL cS
      by_cases h4 : bk l2 (p + 1) < bk l2 (p / 2)
      · rw [decide_eq_true h4] at c6
        have HN : Hid (Mix (m + 1) l (swpL l2 (p / 2) (p + 1)) ∧ HeapU (bk (swpL l2 (p / 2) (p + 1))) (m + 1) (p / 2)) := Lib.hid ⟨HM.out.swp (by omega) (by omega) (by omega), by
          rw [bk_swpL (by omega) (by omega)]
          exact HD.out.step (by omega) (by omega) h4⟩
        clear h4
        go_wp2_with fail
        refine c6.mono ?_
        rintro e w2 ⟨rfl, q2, rfl⟩
        go_wp2_with fail
        refine (c7 q2).mono ?_
        rintro e w3 ⟨rfl, q3, rfl⟩
        go_wp2
        go_roundw
        case rel => exact ⟨p / 2, swpL l2 (p / 2) (p + 1), rfl, by omega, Lib.hid HN.out.1, Lib.hid HN.out.2, Lib.hid (((HP.out.drewN q2).swap _ _).drewN q3), Lib.hid (grown_drewN ((grown_drewN HG.out q2).trans (grown_two _ _ _ _ _ _)) q3)⟩
        case measure => simp [intOf]; omega
      · rw [decide_eq_false h4] at c6
        have HN := Lib.hid (HD.out.done fun _ _ => show bk l2 (p / 2) ≤ bk l2 (p + 1) by omega)
        clear h4
        go_wp2_with fail
        refine c6.mono ?_
        rintro e w2 ⟨rfl, q2, rfl⟩
        go_wp2
        go_end0
        exact ⟨rfl, l2, HM.out, HN.out, HP.out.drewN q2, grown_drewN HG.out q2⟩
/-- The field in its struct's block. -/
structure Fd (W : World) (g k n c : Nat) (a b d : Value) (l : List Nat) : Prop where
  blk : Bk W g 60 #[a, b, .slice (some ⟨k, 0, none⟩) n c, d]
  row : W.ownsRow 0 3 1 (.slice (some ⟨k, 0, none⟩) n c) n (idV l)
theorem Fd.hp {W : World} {g k n c : Nat} {a b d : Value} {l : List Nat} (h : Fd W g k n c a b d l) : Hp W g k n c l :=
  ⟨h.blk.cell 2, h.row, fun e => by
    rcases h.row.2 with ⟨h1, _⟩ | ⟨g', cap, cur, h1, _, hb, h2, h3, h4, h5⟩
    · cases h1
    · cases h1
      have := h.blk
      unfold Bk at this
      rw [← e, hb] at this
      injection this with this
      injection this with _ this
      cases this⟩
set_option maxRecDepth 10000 in
theorem hlen_any (A : Option Addr) (n c : Nat) (W : World) : Calls Try.prog 91 #[.slice A n c] W fun e w' => e = .returned (.int .i64 n) ∧ W = w' := by
  go_enter Try.func91, Try.ntmps91
  go_wp2
  go_ret
  exact ⟨rfl, rfl⟩
set_option maxRecDepth 10000 in
theorem hpop1_any (g k n c : Nat) (a b d : Value) (l : List Nat) (W : World) (h : Fd W g k (n + 1) c a b d l) (hn : n < 1000000000) :
    Calls Try.prog 94 #[.pointer (some ⟨g, 2, none⟩)] W fun e w' => e = .returned (.iface 3 (.int .i64 (bk l n))) ∧ Fd w' g k n c a b d (l.take n) ∧ W.grownBy w' (some g) := by
  have HF := Lib.hid h
  have hc := (h.hp.cells n (by omega)).1
  have hb := h.blk.four
  obtain ⟨cur, hbk, h1, h2, h3, h4⟩ := h.hp.block
  have hx : n ≤ c := by omega
  have hy : (n : Int) ≤ (c : Int) := by omega
  clear h hbk h2 h3 h4
  go_enter Try.func94, Try.ntmps94
  go_wp2
  go_ret
  refine ⟨rfl, ⟨HF.out.blk.put 2 _, ?_⟩, mod_set _ _ _ _⟩
  obtain ⟨cur, hbk, h1, h2, h3, h4⟩ := HF.out.hp.block
  refine ⟨by simp [idV, HF.out.hp.len], .inr ⟨k, c, cur, rfl, Nat.zero_le _, hbk.other HF.out.hp.ne _, by omega, h2, h3, ?_⟩⟩
  have := congrArg (List.take n) h4
  rw [List.take_take, Nat.min_eq_left (by omega)] at this
  rw [Nat.mul_one, this]
  simp [idV, List.map_take]
theorem reg_info_int : (Try.prog.info? 3).map (fun i => (i.zero, i.size, i.bytes)) = some (some (.int .i64 0), 1, 8) := by kernel_rfl
theorem idV_one (l : List Nat) : ∀ u ∈ idV l, u.oneCell' = true := by
  intro u hu
  simp only [idV, List.mem_map] at hu
  obtain ⟨i, _, rfl⟩ := hu
  rfl
theorem assert_int (z : Int) (W : World) : Sem.run Try.prog (Instr.typeAssert (.iface 3 (.int .i64 z)) 20 3 true) W = .ok (.tuple #[.int .i64 z, .bool true]) W := by kernel_rfl
set_option maxRecDepth 10000 in
theorem hpush1_any (g n : Nat) (a b v d : Value) (l : List Nat) (x : Nat) (W : World) (hb : Bk W g 60 #[a, b, v, d]) (hr : W.ownsRow 0 3 1 v n (idV l)) (hn : n < 1000000000) :
    Calls Try.prog 95 #[.pointer (some ⟨g, 2, none⟩), .iface 3 (.int .i64 x)] W fun e w' => e = .returned (.tuple #[]) ∧ ∃ k c, Fd w' g k (n + 1) c a b d (l ++ [x]) ∧ (v.ownBlock = some k ∨ (W.heap.size ≤ k ∧ k < w'.heap.size)) ∧ Mods (fun i => i = g ∨ v.ownBlock = some i) W w' := by
  obtain ⟨A, c, rfl, hc, -⟩ := own_rd hr
  have HR := Lib.hid hr
  have HB := Lib.hid hb
  have hc4 := hb.four
  have ta := assert_int x W
  clear hr hb
  go_enter Try.func95, Try.ntmps95
  go_wp2_with (at_builtin; refine wpList_app _ rfl (.tmp 15) (.tmp 17) 58 rfl 0 3 (.int .i64 0) 1 8 Try.underlying58 reg_info_int rfl (by decide) (.slice A n c) n (idV l) rfl (HR.out.alloc _) (W.heap.size + 1) (some ⟨W.heap.size, 0, none⟩) 1 1 (idV [x]) rfl (Rd.lit _ _ _ rfl (Nat.lt_succ_self _) rfl) (idV_one [x]) (by unfold maxLen; omega) (by omega) (Nat.zero_le _) ?_; intro v' w3 hown3 hg3 hat3; obtain ⟨A2, c2, rfl, hz3⟩ := own_rd hown3; clear hz3; have hb3 := ((HB.out.alloc _).app hg3 (own_ne HR.out HB.out (by decide))).four)
  go_end0
  have hB3 := (HB.out.alloc (.cells #[.int .i64 (x : Int)] 3)).app hg3 (own_ne HR.out HB.out (by decide))
  have hne := own_ne hown3 hB3 (by decide)
  rw [show idV l ++ idV [x] = idV (l ++ [x]) by simp [idV]] at hown3
  have hsz := hg3.size
  simp only [World.size_alloc] at hsz
  have hM : Mods (fun i => i = g ∨ (Value.slice A n c).ownBlock = some i) W w3 := (Mods.refl W).alloc _ |>.trans ⟨hg3.os, hg3.tape, hg3.output, hg3.size, fun i hi hs => hg3.block i hi fun e => hs (.inr e.symm)⟩
  rcases hown3.2 with ⟨_, h0⟩ | ⟨k, cap, cur, hv, _, hk, r1, r2, r3, r4⟩
  · omega
  · cases hv
    have hkg : k ≠ g := fun e => hne (by rw [← e]; rfl)
    refine ⟨rfl, k, c2, ⟨hB3.put 2 _, hown3.kept (mod_set w3 g 2 _) (.inr fun e => hkg (by simpa [Value.ownBlock] using e))⟩, ?_, hM.set g 2 (.inl (.inl rfl)) _⟩
    rcases hat3 with h1 | h1
    · exact .inl (by rw [← h1]; rfl)
    · refine .inr ?_
      have h2 : k = W.heap.size + 1 := by simpa [Value.ownBlock] using h1
      have h3 := (mod_set w3 g 2 (.slice (some ⟨k, 0, none⟩) (n + 1) c2)).size
      have h4 := (Array.getElem?_eq_some_iff.1 hk).1
      exact ⟨by omega, by omega⟩
end Go.Proofs.Ytjbpafkdbfbdlaa
