/- Walks of varint: the reader. -/
import Derived.Test.YtdpeljnoaiaplaaOctC
import Derived.RegionTactic
import Derived.BigRegion
namespace Go.Proofs.Ytdpeljnoaiaplaa
open Go.RowKit

abbrev RT : TypeId := 163
/-- A reader's block. -/
def Rdr (w : World) (g : Nat) (n k : Nat) (d b : Bool) : Prop := Bk w g RT #[.int .i64 n, .int .i64 k, .bool d, .bool b]

set_option maxHeartbeats 400000 in
theorem newRdr_any (w : World) :
    Calls Try.prog 141 #[] w fun e w' => e = .returned (.pointer (some ⟨w.heap.size, 0, none⟩)) ∧ Rdr w' w.heap.size 0 0 false false ∧ Below w.heap.size w w' := by
  go_enter Try.func141, Try.ntmps141
  go_wp2
  go_ret
  exact ⟨rfl, Bk.fresh _ _ _, (Below.refl _ _).alloc (Nat.le_refl _) _⟩

def pushN (n k : Nat) (b : UInt8) : Nat := n + b.toNat % 128 * 2 ^ (7 * k)
/-- What a pushing answers (d: whole, b: bad, e: the error), and the reader behind it. -/
def Pushed (g q k : Nat) (d b : Bool) (x : Int) (w : World) (e : Ending) (w' : World) : Prop := e = .returned (.tuple #[.bool d, .int .i64 x]) ∧ Rdr w' g q k d b ∧ w.grownBy w' (some g)
theorem rdr_of {w : World} {g n k : Nat} (h : Rdr w g n k false false) (q : Nat) (x y : Int) (hx : x = q) (hy : y = (k + 1 : Nat)) (i : Nat) (z d b : Bool) (hz : (#[.int .i64 (q : Int), .int .i64 ((k + 1 : Nat) : Int), .bool false, .bool false] : Array Value).setIfInBounds i (.bool z) = #[.int .i64 q, .int .i64 ((k + 1 : Nat) : Int), .bool d, .bool b]) :
    Rdr (((w.setCell ⟨g, 0, none⟩ (.int .i64 x)).setCell ⟨g, 1, none⟩ (.int .i64 y)).setCell ⟨g, i, none⟩ (.bool z)).drew g q (k + 1) d b := by
  subst hx hy
  exact ((Bk.upd h 0 _ rfl).upd 1 _ rfl).upd i _ hz
theorem rdr_mod (w : World) (g i j k : Nat) (x y z : Value) : w.grownBy (((w.setCell ⟨g, i, none⟩ x).setCell ⟨g, j, none⟩ y).setCell ⟨g, k, none⟩ z).drew (some g) :=
  mod_drawn (((mod_set _ _ _ _).trans (mod_set _ _ _ _)).trans (mod_set _ _ _ _)) 1
theorem u8_and (a b : UInt8) : bits BinOp.and IntKind.u8 (a.toNat : Int) (b.toNat : Int) = ((a &&& b).toNat : Int) := by
  have h : ∀ x : UInt8, (BitVec.ofInt 8 (x.toNat : Int)).toNat = x.toNat := fun x => by
    rw [BitVec.ofInt_natCast, BitVec.toNat_ofNat]
    exact Nat.mod_eq_of_lt x.toNat_lt
  show IntKind.u8.wrap ((BitVec.ofInt 8 (a.toNat : Int) &&& BitVec.ofInt 8 (b.toNat : Int)).toNat : Int) = _
  rw [BitVec.toNat_and, h, h, UInt8.toNat_and]
  have h2 := (a &&& b).toNat_lt
  rw [UInt8.toNat_and] at h2
  simp only [IntKind.wrap, IntKind.bits, IntKind.signed]
  simp
  omega
theorem low7 (b : UInt8) : bits BinOp.and IntKind.u8 (b.toNat : Int) 127 = ((b.toNat % 128 : Nat) : Int) := by
  have h := u8_and b 127
  rw [UInt8.toNat_and] at h
  rw [show (127 : UInt8).toNat = 2 ^ 7 - 1 by decide, Nat.and_two_pow_sub_one_eq_mod] at h
  exact h
theorem top1 (b : UInt8) : bits BinOp.and IntKind.u8 (b.toNat : Int) 128 = if 128 ≤ b.toNat then 128 else 0 := by
  have h : ∀ b : Fin 256, ((UInt8.ofNat b.1 &&& 128).toNat : Int) = if 128 ≤ (UInt8.ofNat b.1).toNat then 128 else 0 := by decide +kernel
  have h1 := u8_and b 128
  have h2 := h ⟨b.toNat, b.toNat_lt⟩
  simp only [UInt8.ofNat_toNat] at h2
  exact h1.trans h2

set_option maxHeartbeats 1000000 in
set_option maxRecDepth 10000 in
theorem push_more (g n k : Nat) (b : UInt8) (w : World) (h : Rdr w g n k false false) (hk : k ≤ 3) (hn : n < 2 ^ (7 * k)) (hb : 128 ≤ b.toNat) :
    Calls Try.prog 142 #[.pointer (some ⟨g, 0, none⟩), .int .u8 b.toNat] w (Pushed g (pushN n k b) (k + 1) false (k == 3) (if k = 3 then 5 else 0) w) := by
  obtain ⟨⟨c0, c1, c2, c3⟩, f0, f1, f2, f3⟩ := Bk.four h
  have HB := Lib.hid h
  have hand := low7 b
  have hand2 : bits BinOp.and IntKind.u8 (b.toNat : Int) 128 = 128 := by rw [top1, if_pos hb]
  have hm : b.toNat % 128 < 128 := Nat.mod_lt _ (by omega)
  have HP : Hid (pushN n k b = n + b.toNat % 128 * 2 ^ (7 * k)) := rfl
  generalize b.toNat % 128 = m at *
  generalize pushN n k b = q at *
  clear h
  obtain rfl | rfl | rfl | rfl : k = 0 ∨ k = 1 ∨ k = 2 ∨ k = 3 := by omega
  all_goals
    first
    | (exfalso; simp at *; done)
    | (simp only [Nat.reduceMul, Nat.reducePow] at hn HP
       go_enter Try.func142, Try.ntmps142
       go_wp2
       go_region
       all_goals
         go_wp2
         go_ret2
         have := HP.out
         refine ⟨rfl, ?_, rdr_mod _ _ _ _ _ _ _ _⟩
         exact rdr_of HB.out q _ _ (by omega) (by omega) 3 _ _ _ rfl)

set_option maxHeartbeats 1000000 in
set_option maxRecDepth 10000 in
theorem push_zero (g n k : Nat) (b : UInt8) (w : World) (h : Rdr w g n k false false) (hk : k ≤ 3) (hn : n < 2 ^ (7 * k)) (hb : b.toNat = 0) (hk0 : 0 < k) :
    Calls Try.prog 142 #[.pointer (some ⟨g, 0, none⟩), .int .u8 b.toNat] w (Pushed g (pushN n k b) (k + 1) false true 5 w) := by
  obtain ⟨⟨c0, c1, c2, c3⟩, f0, f1, f2, f3⟩ := Bk.four h
  have HB := Lib.hid h
  have hand := low7 b
  have hand2 : bits BinOp.and IntKind.u8 (b.toNat : Int) 128 = 0 := by rw [top1, if_neg (by omega)]
  have hz : ((b.toNat : Int) == 0) = true := by rw [hb]; rfl
  have hm : b.toNat % 128 < 128 := Nat.mod_lt _ (by omega)
  have HP : Hid (pushN n k b = n + b.toNat % 128 * 2 ^ (7 * k)) := rfl
  generalize b.toNat % 128 = m at *
  generalize pushN n k b = q at *
  clear h hb
  obtain rfl | rfl | rfl | rfl : k = 0 ∨ k = 1 ∨ k = 2 ∨ k = 3 := by omega
  all_goals
    first
    | (exfalso; simp at *; done)
    | (simp only [Nat.reduceMul, Nat.reducePow] at hn HP
       go_enter Try.func142, Try.ntmps142
       go_wp2
       go_region
       all_goals
         go_wp2
         go_ret2
         have := HP.out
         refine ⟨rfl, ?_, rdr_mod _ _ _ _ _ _ _ _⟩
         exact rdr_of HB.out q _ _ (by omega) (by omega) 3 _ _ _ rfl)

set_option maxHeartbeats 1000000 in
set_option maxRecDepth 10000 in
theorem push_done (g n k : Nat) (b : UInt8) (w : World) (h : Rdr w g n k false false) (hk : k ≤ 3) (hn : n < 2 ^ (7 * k)) (hb : b.toNat < 128) (hk0 : b.toNat = 0 → k = 0) :
    Calls Try.prog 142 #[.pointer (some ⟨g, 0, none⟩), .int .u8 b.toNat] w (Pushed g (pushN n k b) (k + 1) true false 0 w) := by
  obtain ⟨⟨c0, c1, c2, c3⟩, f0, f1, f2, f3⟩ := Bk.four h
  have HB := Lib.hid h
  have hand := low7 b
  have hand2 : bits BinOp.and IntKind.u8 (b.toNat : Int) 128 = 0 := by rw [top1, if_neg (by omega)]
  obtain ⟨z, hz⟩ : ∃ z, ((b.toNat : Int) == 0) = z := ⟨_, rfl⟩
  have hzk : z = true → k = 0 := fun h => hk0 (by rw [h] at hz; simpa using hz)
  have hm : b.toNat % 128 < 128 := Nat.mod_lt _ (by omega)
  have HP : Hid (pushN n k b = n + b.toNat % 128 * 2 ^ (7 * k)) := rfl
  generalize b.toNat % 128 = m at *
  generalize pushN n k b = q at *
  clear h hk0
  have hc : (z = true ∧ k = 0) ∨ (z = false ∧ (k = 0 ∨ k = 1 ∨ k = 2 ∨ k = 3)) := by cases z <;> simp_all <;> omega
  clear hzk
  obtain ⟨rfl, rfl⟩ | ⟨rfl, rfl | rfl | rfl | rfl⟩ := hc
  all_goals
    first
    | (exfalso; simp at *; done)
    | (simp only [Nat.reduceMul, Nat.reducePow] at hn HP
       go_enter Try.func142, Try.ntmps142
       go_wp2
       go_region
       all_goals
         go_wp2
         go_ret2
         have := HP.out
         refine ⟨rfl, ?_, rdr_mod _ _ _ _ _ _ _ _⟩
         exact rdr_of HB.out q _ _ (by omega) (by omega) 2 _ _ _ rfl)

end Go.Proofs.Ytdpeljnoaiaplaa
