/-
  The registry's heap of ids, walked: container/heap's Pop and Push.
-/
import Derived.Test.YtjbpafkdbfbdlaaRegV

namespace Go.Proofs.Ytjbpafkdbfbdlaa
open Go.RowKit
theorem Fd.of_hp {W W' : World} {g k n c : Nat} {a b d : Value} {l l2 : List Nat} (h : Fd W g k n c a b d l) (hg : W.grownBy W' (some k)) (h2 : Hp W' g k n c l2) : Fd W' g k n c a b d l2 :=
  ⟨(hg.block g h.blk.lt fun e => h2.ne (by injection e with e; exact e.symm)).trans h.blk, h2.row⟩
set_option maxRecDepth 10000 in
set_option maxHeartbeats 1000000 in
theorem hpop_any (g k n c : Nat) (a b d : Value) (l : List Nat) (W : World) (h : Fd W g k (n + 1) c a b d l) (hh : Heap (bk l) (n + 1)) (hn : n + 1 < 1000000000) :
    Calls Try.prog 40 #[.iface 68 (.pointer (some ⟨g, 2, none⟩))] W fun e w' => ∃ l2, e = .returned (.iface 3 (.int .i64 (bk l 0))) ∧ Popped l (l.getD 0 0) l2 ∧ Fd w' g k n c a b d l2 ∧ Mods (fun i => i = g ∨ i = k) W w' := by
  have HF := Lib.hid h
  have hl := h.hp.len
  have z1 : 0 < n + 1 := by omega
  have z2 : n < n + 1 := by omega
  have z3 : n + 1 < 4611686018427387904 := by omega
  have m1 := fun f => meth_len f h.hp.cell
  have m2 := fun f => meth_swap f h.hp.cell
  have c1 := hlen_any (some ⟨k, 0, none⟩) (n + 1) c W
  have c2 := hswap_any k c (n + 1) W (bk l 0) (bk l n) 0 n z1 z2 z3 (h.hp.cells 0 z1).1 (h.hp.cells n z2).1 (h.hp.cells 0 z1).2 (h.hp.cells n z2).2
  have hD := HeapD.of_heap hl hh
  have c3 := fun w1 hp => hdown_any g k n (n + 1) c (swpL l 0 n) w1 hp (by omega) hD (by omega)
  have HH := Lib.hid hh
  clear h hh hD z1 z2 z3
  go_enter Try.func40, Try.ntmps40
  go_wp2_with fail
  refine c1.mono ?_
  rintro e w1 ⟨rfl, rfl⟩
  go_wp2_with fail
  refine c2.mono ?_
  rintro e w1 ⟨rfl, q, rfl⟩
  have hp1 := (HF.out.hp.swap 0 n).drewN q
  have hg1 := grown_drewN (grown_two W k 0 n (.int .i64 (bk l n)) (.int .i64 (bk l 0))) q
  generalize ((W.setCell ⟨k, 0, none⟩ (.int .i64 (bk l n))).setCell ⟨k, n, none⟩ (.int .i64 (bk l 0))).drewN q = W1 at hp1 hg1 ⊢
  have HG1 := Lib.hid hg1
  have c3' := c3 W1 hp1
  clear c3 hp1 hg1
  go_wp2_with fail
  refine c3'.mono ?_
  rintro e w2 ⟨⟨bo, rfl⟩, l2, hm, h2, hp2, hg2⟩
  have F2 := HF.out.of_hp (HG1.out.trans hg2) hp2
  have HP := Lib.hid (Popped.of hl HH.out hm h2)
  have c4 := hpop1_any g k n c a b d l2 w2 F2 (by omega)
  rw [show bk l2 n = bk l 0 from congrArg Int.ofNat HP.out.2.1] at c4
  have HG2 := Lib.hid (HG1.out.trans hg2)
  have m3 := fun f => meth_pop f w2 (.pointer (some ⟨g, 2, none⟩))
  clear hm h2 hp2 hg2 F2 m1 m2
  go_wp2_with fail
  refine c4.mono ?_
  rintro e w3 ⟨rfl, F3, hg3⟩
  have HF3 := Lib.hid F3
  have HG3 := Lib.hid hg3
  clear F3 hg3
  go_wp2
  go_ret
  exact ⟨l2.take n, rfl, HP.out.2.2, HF3.out, (Mods.of_grown HG2.out (.inr rfl)).trans (Mods.of_grown HG3.out (.inl rfl))⟩
set_option maxRecDepth 10000 in
set_option maxHeartbeats 1000000 in
theorem hpush_any (g n : Nat) (a b v d : Value) (l : List Nat) (x : Nat) (W : World) (hb : Bk W g 60 #[a, b, v, d]) (hr : W.ownsRow 0 3 1 v n (idV l)) (hh : Heap (bk l) n) (hn : n < 1000000000) :
    Calls Try.prog 28 #[.iface 68 (.pointer (some ⟨g, 2, none⟩)), .iface 3 (.int .i64 x)] W fun e w' => e = .returned (.tuple #[]) ∧ ∃ k c l2, Fd w' g k (n + 1) c a b d l2 ∧ Pushed l x l2 ∧ (v.ownBlock = some k ∨ (W.heap.size ≤ k ∧ k < w'.heap.size)) ∧ Mods (fun i => i = g ∨ v.ownBlock = some i) W w' := by
  have hl : l.length = n := by simpa [idV] using hr.1
  have c1 := hpush1_any g n a b v d l x W hb hr hn
  have m1 := fun f => meth_push f W (.pointer (some ⟨g, 2, none⟩))
  have HU := Lib.hid (HeapU.of_heap (b := l) (x := x) (by rw [hl]; exact hh))
  clear hb hr hh
  go_enter Try.func28, Try.ntmps28
  go_wp2_with fail
  refine c1.mono ?_
  rintro e w1 ⟨rfl, k, c, F1, hk, hM⟩
  have m2 := fun f => meth_len f F1.hp.cell
  have c2 := hlen_any (some ⟨k, 0, none⟩) (n + 1) c w1
  have c3 := hup_any g k n c (l ++ [x]) w1 F1.hp (by have := HU.out; rw [hl] at this; exact this) hn
  have HF := Lib.hid F1
  have HK := Lib.hid hk
  have HM := Lib.hid hM
  clear m1 F1 hk hM
  go_wp2_with fail
  refine c2.mono ?_
  rintro e w2 ⟨rfl, rfl⟩
  go_wp2_with fail
  refine c3.mono ?_
  rintro e w2 ⟨rfl, l2, hm, h2, hp2, hg2⟩
  have F2 := Lib.hid (HF.out.of_hp hg2 hp2)
  have HP := Lib.hid (Pushed.of (by rw [hl]; exact hm) (by rw [hl]; exact h2))
  have HG := Lib.hid hg2
  clear hm h2 hp2 hg2
  go_wp2
  go_end0
  refine ⟨rfl, k, c, l2, F2.out, HP.out, ?_, ?_⟩
  · rcases HK.out with h | h
    · exact .inl h
    · exact .inr ⟨h.1, Nat.lt_of_lt_of_le h.2 HG.out.size⟩
  · rcases HK.out with h | h
    · exact HM.out.trans (Mods.of_grown HG.out (.inr h))
    · exact ⟨HG.out.os.trans HM.out.os, HG.out.tape.trans HM.out.tape, HG.out.output.trans HM.out.output, Nat.le_trans HM.out.size HG.out.size, fun i hi hs => (HG.out.block i (Nat.lt_of_lt_of_le hi HM.out.size) (fun e => by injection e with e; omega)).trans (HM.out.block i hi hs)⟩
end Go.Proofs.Ytjbpafkdbfbdlaa
