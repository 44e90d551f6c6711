/- A part of what the laws stand on: MVar. -/
import Derived.Test.YtbahnolmlodcdaaGreatDoorMcMOct
import Derived.RegionTactic
import Derived.BigRegion
namespace Go.Proofs.YtbahnolmlodcdaaGreatDoor
open Go.RowKit

abbrev RT : TypeId := 174
/-- A reader's block. -/
def Rdr (w : World) (g : Nat) (n k : Nat) (d b : Bool) : Prop := Bk w g RT #[.int .i64 n, .int .i64 k, .bool d, .bool b]

set_option maxHeartbeats 400000 in
theorem newRdr_any (w : World) :
    Calls Tryz.prog 152 #[] w fun e w' => e = .returned (.pointer (some ⟨w.heap.size, 0, none⟩)) ∧ Rdr w' w.heap.size 0 0 false false ∧ Below w.heap.size w w' := by
  go_enter Tryz.func152, Tryz.ntmps152
  go_wp2
  go_ret
  exact ⟨rfl, Bk.fresh _ _ _, (Below.refl _ _).alloc (Nat.le_refl _) _⟩

def pushN (n k : Nat) (b : UInt8) : Nat := n + b.toNat % 128 * 2 ^ (7 * k)
/-- What a pushing answers (d: whole, b: bad, e: the error), and the reader behind it. -/
def Pushed (g q k : Nat) (d b : Bool) (x : Int) (w : World) (e : Ending) (w' : World) : Prop := e = .returned (.tuple #[.bool d, .int .i64 x]) ∧ Rdr w' g q k d b ∧ w.grownBy w' (some g)
theorem rdr_of {w : World} {g n k : Nat} (h : Rdr w g n k false false) (q : Nat) (x y : Int) (hx : x = q) (hy : y = (k + 1 : Nat)) (i : Nat) (z d b : Bool) (hz : (#[.int .i64 (q : Int), .int .i64 ((k + 1 : Nat) : Int), .bool false, .bool false] : Array Value).setIfInBounds i (.bool z) = #[.int .i64 q, .int .i64 ((k + 1 : Nat) : Int), .bool d, .bool b]) :
    Rdr (((w.setCell ⟨g, 0, none⟩ (.int .i64 x)).setCell ⟨g, 1, none⟩ (.int .i64 y)).setCell ⟨g, i, none⟩ (.bool z)).drew g q (k + 1) d b := by
  subst hx hy
  exact ((Bk.upd h 0 _ rfl).upd 1 _ rfl).upd i _ hz
theorem rdr_mod (w : World) (g i j k : Nat) (x y z : Value) : w.grownBy (((w.setCell ⟨g, i, none⟩ x).setCell ⟨g, j, none⟩ y).setCell ⟨g, k, none⟩ z).drew (some g) :=
  mod_drawn (((mod_set _ _ _ _).trans (mod_set _ _ _ _)).trans (mod_set _ _ _ _)) 1
theorem u8_and (a b : UInt8) : bits BinOp.and IntKind.u8 (a.toNat : Int) (b.toNat : Int) = ((a &&& b).toNat : Int) := by
  have h : ∀ x : UInt8, (BitVec.ofInt 8 (x.toNat : Int)).toNat = x.toNat := fun x => by
    rw [BitVec.ofInt_natCast, BitVec.toNat_ofNat]
    exact Nat.mod_eq_of_lt x.toNat_lt
  show IntKind.u8.wrap ((BitVec.ofInt 8 (a.toNat : Int) &&& BitVec.ofInt 8 (b.toNat : Int)).toNat : Int) = _
  rw [BitVec.toNat_and, h, h, UInt8.toNat_and]
  have h2 := (a &&& b).toNat_lt
  rw [UInt8.toNat_and] at h2
  simp only [IntKind.wrap, IntKind.bits, IntKind.signed]
  simp
  omega
theorem low7 (b : UInt8) : bits BinOp.and IntKind.u8 (b.toNat : Int) 127 = ((b.toNat % 128 : Nat) : Int) := by
  have h := u8_and b 127
  rw [UInt8.toNat_and] at h
  rw [show (127 : UInt8).toNat = 2 ^ 7 - 1 by decide, Nat.and_two_pow_sub_one_eq_mod] at h
  exact h
theorem top1 (b : UInt8) : bits BinOp.and IntKind.u8 (b.toNat : Int) 128 = if 128 ≤ b.toNat then 128 else 0 := by
  have h : ∀ b : Fin 256, ((UInt8.ofNat b.1 &&& 128).toNat : Int) = if 128 ≤ (UInt8.ofNat b.1).toNat then 128 else 0 := by decide +kernel
  have h1 := u8_and b 128
  have h2 := h ⟨b.toNat, b.toNat_lt⟩
  simp only [UInt8.ofNat_toNat] at h2
  exact h1.trans h2

set_option maxHeartbeats 1000000 in
set_option maxRecDepth 10000 in
theorem push_more (g n k : Nat) (b : UInt8) (w : World) (h : Rdr w g n k false false) (hk : k ≤ 3) (hn : n < 2 ^ (7 * k)) (hb : 128 ≤ b.toNat) :
    Calls Tryz.prog 153 #[.pointer (some ⟨g, 0, none⟩), .int .u8 b.toNat] w (Pushed g (pushN n k b) (k + 1) false (k == 3) (if k = 3 then 5 else 0) w) := by
  obtain ⟨⟨c0, c1, c2, c3⟩, f0, f1, f2, f3⟩ := Bk.four h
  have HB := Lib.hid h
  have hand := low7 b
  have hand2 : bits BinOp.and IntKind.u8 (b.toNat : Int) 128 = 128 := by rw [top1, if_pos hb]
  have hm : b.toNat % 128 < 128 := Nat.mod_lt _ (by omega)
  have HP : Hid (pushN n k b = n + b.toNat % 128 * 2 ^ (7 * k)) := rfl
  generalize b.toNat % 128 = m at *
  generalize pushN n k b = q at *
  clear h
  obtain rfl | rfl | rfl | rfl : k = 0 ∨ k = 1 ∨ k = 2 ∨ k = 3 := by omega
  all_goals
    first
    | (exfalso; simp at *; done)
    | (simp only [Nat.reduceMul, Nat.reducePow] at hn HP
       go_enter Tryz.func153, Tryz.ntmps153
       go_wp2
       go_region
       all_goals
         go_wp2
         go_ret2
         have := HP.out
         refine ⟨rfl, ?_, rdr_mod _ _ _ _ _ _ _ _⟩
         exact rdr_of HB.out q _ _ (by omega) (by omega) 3 _ _ _ rfl)

set_option maxHeartbeats 1000000 in
set_option maxRecDepth 10000 in
theorem push_zero (g n k : Nat) (b : UInt8) (w : World) (h : Rdr w g n k false false) (hk : k ≤ 3) (hn : n < 2 ^ (7 * k)) (hb : b.toNat = 0) (hk0 : 0 < k) :
    Calls Tryz.prog 153 #[.pointer (some ⟨g, 0, none⟩), .int .u8 b.toNat] w (Pushed g (pushN n k b) (k + 1) false true 5 w) := by
  obtain ⟨⟨c0, c1, c2, c3⟩, f0, f1, f2, f3⟩ := Bk.four h
  have HB := Lib.hid h
  have hand := low7 b
  have hand2 : bits BinOp.and IntKind.u8 (b.toNat : Int) 128 = 0 := by rw [top1, if_neg (by omega)]
  have hz : ((b.toNat : Int) == 0) = true := by rw [hb]; rfl
  have hm : b.toNat % 128 < 128 := Nat.mod_lt _ (by omega)
  have HP : Hid (pushN n k b = n + b.toNat % 128 * 2 ^ (7 * k)) := rfl
  generalize b.toNat % 128 = m at *
  generalize pushN n k b = q at *
  clear h hb
  obtain rfl | rfl | rfl | rfl : k = 0 ∨ k = 1 ∨ k = 2 ∨ k = 3 := by omega
  all_goals
    first
    | (exfalso; simp at *; done)
    | (simp only [Nat.reduceMul, Nat.reducePow] at hn HP
       go_enter Tryz.func153, Tryz.ntmps153
       go_wp2
       go_region
       all_goals
         go_wp2
         go_ret2
         have := HP.out
         refine ⟨rfl, ?_, rdr_mod _ _ _ _ _ _ _ _⟩
         exact rdr_of HB.out q _ _ (by omega) (by omega) 3 _ _ _ rfl)

set_option maxHeartbeats 1000000 in
set_option maxRecDepth 10000 in
theorem push_done (g n k : Nat) (b : UInt8) (w : World) (h : Rdr w g n k false false) (hk : k ≤ 3) (hn : n < 2 ^ (7 * k)) (hb : b.toNat < 128) (hk0 : b.toNat = 0 → k = 0) :
    Calls Tryz.prog 153 #[.pointer (some ⟨g, 0, none⟩), .int .u8 b.toNat] w (Pushed g (pushN n k b) (k + 1) true false 0 w) := by
  obtain ⟨⟨c0, c1, c2, c3⟩, f0, f1, f2, f3⟩ := Bk.four h
  have HB := Lib.hid h
  have hand := low7 b
  have hand2 : bits BinOp.and IntKind.u8 (b.toNat : Int) 128 = 0 := by rw [top1, if_neg (by omega)]
  obtain ⟨z, hz⟩ : ∃ z, ((b.toNat : Int) == 0) = z := ⟨_, rfl⟩
  have hzk : z = true → k = 0 := fun h => hk0 (by rw [h] at hz; simpa using hz)
  have hm : b.toNat % 128 < 128 := Nat.mod_lt _ (by omega)
  have HP : Hid (pushN n k b = n + b.toNat % 128 * 2 ^ (7 * k)) := rfl
  generalize b.toNat % 128 = m at *
  generalize pushN n k b = q at *
  clear h hk0
  have hc : (z = true ∧ k = 0) ∨ (z = false ∧ (k = 0 ∨ k = 1 ∨ k = 2 ∨ k = 3)) := by cases z <;> simp_all <;> omega
  clear hzk
  obtain ⟨rfl, rfl⟩ | ⟨rfl, rfl | rfl | rfl | rfl⟩ := hc
  all_goals
    first
    | (exfalso; simp at *; done)
    | (simp only [Nat.reduceMul, Nat.reducePow] at hn HP
       go_enter Tryz.func153, Tryz.ntmps153
       go_wp2
       go_region
       all_goals
         go_wp2
         go_ret2
         have := HP.out
         refine ⟨rfl, ?_, rdr_mod _ _ _ _ _ _ _ _⟩
         exact rdr_of HB.out q _ _ (by omega) (by omega) 2 _ _ _ rfl)

end Go.Proofs.YtbahnolmlodcdaaGreatDoor

namespace Go.Proofs.YtbahnolmlodcdaaGreatDoor
open Go.RowKit

/-- A number read on, n of k bytes read. -/
def rv : List UInt8 → Nat → Nat → Nat × Nat × Int
  | [], _, _ => (0, 0, 3)
  | b :: l, n, k =>
    if 128 ≤ b.toNat then (if k = 3 then (0, 0, 5) else rv l (pushN n k b) (k + 1))
    else if b.toNat = 0 ∧ 0 < k then (0, 0, 5) else (pushN n k b, k + 1, 0)
def readV (l : List UInt8) : Nat × Nat × Int := rv l 0 0
theorem pushN_lt {n k : Nat} (b : UInt8) (h : n < 2 ^ (7 * k)) : pushN n k b < 2 ^ (7 * (k + 1)) := by
  unfold pushN
  have h1 : b.toNat % 128 < 128 := Nat.mod_lt _ (by omega)
  have h2 : 2 ^ (7 * (k + 1)) = 128 * 2 ^ (7 * k) := by rw [Nat.mul_add, Nat.pow_add, Nat.mul_comm]
  rw [h2]
  have h3 : b.toNat % 128 * 2 ^ (7 * k) ≤ 127 * 2 ^ (7 * k) := Nat.mul_le_mul_right _ (by omega)
  omega
theorem rv_cons {s : ByteArray} {k : Nat} (h : k < s.size) (n : Nat) : rv ((ls s).drop k) n k = rv (s[k] :: (ls s).drop (k + 1)) n k := by
  rw [List.drop_eq_getElem_cons (by rw [ls_len]; exact h), ls_at s k h]

set_option maxHeartbeats 1000000 in
set_option maxRecDepth 10000 in
theorem readV_any (s : ByteArray) (w : World) (hs : s.size ≤ 4611686018427387904) :
    Calls Tryz.prog 104 #[.string s] w fun e w' => e = .returned (.tuple #[.int .i64 (readV (ls s)).1, .int .i64 (readV (ls s)).2.1, .int .i64 (readV (ls s)).2.2]) ∧ Below w.heap.size w w' := by
  go_enter Tryz.func104, Tryz.ntmps104
  go_wp2_with fail
  refine (newRdr_any _).mono ?_
  rintro e w1 ⟨rfl, hr0, hb1⟩
  have hlt1 : w.heap.size < w1.heap.size := Bk.lt hr0
  go_wp2
  go_loopw [12] (fun i wr => ∃ k n : Nat, k ≤ s.size ∧ k ≤ 3 ∧ i = .int .i64 k ∧ n < 2 ^ (7 * k) ∧ Rdr wr w.heap.size n k false false ∧ readV (ls s) = rv ((ls s).drop k) n k ∧ Below w.heap.size w wr) (fun i _ => s.size - (intOf i).toNat)
  case atStart => exact ⟨0, 0, by omega, by omega, rfl, by simp, hr0, rfl, hb1⟩
  case round =>
    obtain ⟨k, n, hk, hk3, rfl, hn, hr, hv, hbel⟩ := hrel
    have HR := Lib.hid hr; have HV := Lib.hid hv; have HN := Lib.hid hn
    have hz := Bk.lt hr
    clear hr hv hn hr0
    by_cases hlt : k < s.size
    · have HC := Lib.hid (rv_cons hlt n)
      have hidx : (k : Int) < (s.size : Int) := by omega
      obtain ⟨b, hb⟩ : ∃ b, b = s[k] := ⟨_, rfl⟩
      have HBb := Lib.hid hb
      rw [← hb] at HC
      clear hb
      by_cases h128 : 128 ≤ b.toNat
      · by_cases hk4 : k = 3
        · have hfin : readV (ls s) = (0, 0, 5) := by rw [HV.out, HC.out]; simp [rv, h128, hk4]
          have HF := Lib.hid hfin; have HK4 := Lib.hid hk4; clear hfin hk4
          go_wp2_with fail
          rw [← HBb.out]
          refine (push_more w.heap.size n k b _ HR.out hk3 HN.out h128).mono ?_
          rintro e w2 ⟨rfl, hr2, hm2⟩
          rw [if_pos HK4.out]
          go_wp2
          go_ret3
          exact ⟨by rw [HF.out]; rfl, below_mod hbel hm2 (by omega) (Nat.le_refl _)⟩
        · have hfin : readV (ls s) = rv ((ls s).drop (k + 1)) (pushN n k b) (k + 1) := by rw [HV.out, HC.out]; simp [rv, h128, hk4]
          have HF := Lib.hid hfin; clear hfin
          go_wp2_with fail
          rw [← HBb.out]
          refine (push_more w.heap.size n k b _ HR.out hk3 HN.out h128).mono ?_
          rintro e w2 ⟨rfl, hr2, hm2⟩
          rw [if_neg hk4]
          have hr2' : Rdr w2 w.heap.size (pushN n k b) (k + 1) false false := by
            have : (k == 3) = false := by simpa using hk4
            rwa [this] at hr2
          have R := Lib.hid (And.intro hr2' (below_mod hbel hm2 (by omega) (Nat.le_refl _)))
          clear hr2 hr2' hm2
          go_wp2
          go_roundw
          case rel => exact ⟨k + 1, pushN n k b, by omega, by omega, by go_num, pushN_lt b HN.out, R.out.1, HF.out, R.out.2⟩
          case measure => simp [intOf]; omega
      · by_cases h0 : b.toNat = 0 ∧ 0 < k
        · have hfin : readV (ls s) = (0, 0, 5) := by rw [HV.out, HC.out]; simp [rv, h0]
          have HF := Lib.hid hfin; clear hfin
          go_wp2_with fail
          rw [← HBb.out]
          refine (push_zero w.heap.size n k b _ HR.out hk3 HN.out h0.1 h0.2).mono ?_
          rintro e w2 ⟨rfl, hr2, hm2⟩
          go_wp2
          go_ret3
          exact ⟨by rw [HF.out]; rfl, below_mod hbel hm2 (by omega) (Nat.le_refl _)⟩
        · have hfin : readV (ls s) = (pushN n k b, k + 1, 0) := by rw [HV.out, HC.out]; simp [rv, h128, h0]
          have HF := Lib.hid hfin; clear hfin
          go_wp2_with fail
          rw [← HBb.out]
          refine (push_done w.heap.size n k b _ HR.out hk3 HN.out (by omega) (by omega)).mono ?_
          rintro e w2 ⟨rfl, hr2, hm2⟩
          obtain ⟨⟨c0, c1, c2, c3⟩, _⟩ := Bk.four hr2
          have hbel2 := below_mod hbel hm2 (by omega) (Nat.le_refl _)
          clear hr2 hm2
          go_wp2
          go_quiet (fail)
          go_wp2
          go_ret3
          exact ⟨by rw [HF.out]; rfl, below_drawn hbel2 _⟩
    · obtain rfl : k = s.size := by omega
      have hfin : readV (ls s) = (0, 0, 3) := by
        rw [HV.out, List.drop_of_length_le (by rw [ls_len]; exact Nat.le_refl _)]; rfl
      have HF := Lib.hid hfin; clear hfin
      go_wp2
      go_ret3
      exact ⟨by rw [HF.out]; rfl, hbel⟩

/-- A number may be told. -/
def mayV (n : Int) : Bool := decide (0 ≤ n) && decide (n ≤ 268435455)
set_option maxHeartbeats 400000 in
theorem mayV_any (n : Int) (w : World) :
    Calls Tryz.prog 150 #[.int .i64 n] w fun e w' => e = .returned (.bool (mayV n)) ∧ w = w' := by
  go_enter Tryz.func150, Tryz.ntmps150
  go_wp2
  all_goals
    go_ret
    refine ⟨?_, rfl⟩
    (try simp [mayV]) <;> omega

/-- A number's bytes, in at most f + 1 bytes. -/
def varF : Nat → Nat → List UInt8
  | 0, n => [UInt8.ofNat n]
  | f + 1, n => if n < 128 then [UInt8.ofNat n] else UInt8.ofNat (n % 128 + 128) :: varF f (n / 128)
def varL (n : Nat) : List UInt8 := varF 3 n

end Go.Proofs.YtbahnolmlodcdaaGreatDoor

namespace Go.Proofs.YtbahnolmlodcdaaGreatDoor
open Go.RowKit

theorem bys_one (l : List UInt8) : ∀ u ∈ bys l, u.oneCell' = true := by
  intro u hu
  obtain ⟨c, _, rfl⟩ := List.mem_map.1 hu
  rfl
theorem bys_len (l : List UInt8) : (bys l).length = l.length := by simp [bys]
theorem varF_len : ∀ (f n : Nat), (varF f n).length ≤ f + 1
  | 0, n => by simp [varF]
  | f + 1, n => by
    unfold varF
    split
    · simp
    · have := varF_len f (n / 128)
      simp; omega
theorem or_top (n : Nat) (h : n < 128) : bits BinOp.or IntKind.u8 (n : Int) 128 = ((n + 128 : Nat) : Int) := by
  have : ∀ i : Fin 128, bits BinOp.or IntKind.u8 ((i.1 : Nat) : Int) 128 = ((i.1 + 128 : Nat) : Int) := by decide +kernel
  exact this ⟨n, h⟩

set_option maxHeartbeats 1000000 in
set_option maxRecDepth 10000 in
theorem varBytes_any (n : Nat) (w : World) (hn : n ≤ 268435455) :
    Calls Tryz.prog 100 #[.int .i64 n] w fun e w' => e = .returned (.tuple #[.string ⟨(varL n).toArray⟩, .int .i64 0]) ∧ Below w.heap.size w w' := by
  have hm : Hid (mayV n = true) := by show _ = _; simp [mayV]; omega
  go_enter Tryz.func100, Tryz.ntmps100
  go_wp2_with fail
  refine (mayV_any _ _).mono ?_
  rintro e w' ⟨rfl, rfl⟩
  rw [hm.out]
  go_wp2
  go_loopw [0, 4] (fun v o wr => ∃ (m f : Nat) (pre : List UInt8), f ≤ 3 ∧ m < 128 ^ (f + 1) ∧ pre.length + f = 3 ∧ v = .int .i64 m ∧ varL n = pre ++ varF f m ∧ wr.ownsRow w.heap.size 5 1 o pre.length (bys pre) ∧ Below w.heap.size w wr) (fun v _ _ => (intOf v).toNat)
  case atStart => exact ⟨n, 3, [], by omega, by simp; omega, rfl, rfl, rfl, World.ownsRow_nil _ _ _ _, Below.refl _ _⟩
  case round =>
    obtain ⟨m, f, pre, hf, hmf, hpf, rfl, hv, hown, hbel⟩ := hrel
    have HV := Lib.hid hv; have HO := Lib.hid hown; have HP := Lib.hid hpf; have HMF := Lib.hid hmf
    have hpl : pre.length ≤ 3 := by omega
    have hz := hbel.size
    have hm2 : m < 268435456 := by
      have : 128 ^ (f + 1) ≤ 128 ^ 4 := Nat.pow_le_pow_right (by omega) (by omega)
      have h4 : (128 : Nat) ^ 4 = 268435456 := by decide
      omega
    clear hv hown hpf hmf hm
    by_cases hge : 128 ≤ m
    · have hge' : (128 : Int) ≤ (m : Int) := by omega
      obtain ⟨c, hc⟩ : ∃ c, c = UInt8.ofNat (m % 128 + 128) := ⟨_, rfl⟩
      have hor : bits BinOp.or IntKind.u8 ((m : Int) % 128) 128 = (c.toNat : Int) := by
        have h1 := or_top (m % 128) (Nat.mod_lt _ (by omega))
        have h2 : (c.toNat : Int) = ((m % 128 + 128 : Nat) : Int) := by
          rw [hc, UInt8.toNat_ofNat']
          have := Nat.mod_lt m (show 0 < 128 by omega)
          omega
        rw [h2, ← h1]; simp
      have HCc := Lib.hid hc; clear hc
      have HF : Hid (∃ f', f = f' + 1) := by
        refine ⟨f - 1, ?_⟩
        rcases Nat.eq_zero_or_pos f with rfl | h
        · have := HMF.out; simp at this; omega
        · omega
      go_wp2_with (at_builtin; refine wpList_app _ rfl (.tmp 12) (.tmp 17) 82 rfl w.heap.size 5 (.int .u8 0) 1 1 Tryz.underlying82 info_byte rfl (by decide) u4 _ _ rfl (HO.out.alloc _) _ _ 1 1 (bys [c]) rfl (Rd.lit _ _ _ rfl (Nat.lt_succ_self _) rfl) (bys_one _) (by unfold maxLen; omega) (by omega) (by simp; omega) ?_; intro v' w3 hown3 hg3 hat3)
      have R : ∃ f', f = f' + 1 ∧ m / 128 < 128 ^ (f' + 1) ∧ (pre ++ [c]).length + f' = 3 ∧ varL n = (pre ++ [c]) ++ varF f' (m / 128) ∧ w3.ownsRow w.heap.size 5 1 v' (pre ++ [c]).length (bys (pre ++ [c])) ∧ Below w.heap.size w w3 := by
        obtain ⟨f', rfl⟩ := HF.out
        have h1 := HMF.out
        have h2 := HP.out
        refine ⟨f', rfl, ?_, by simp; omega, ?_, ?_, below_app (hbel.alloc (by omega) _) hg3 (by simp; omega) (fun g hg => (own_block HO.out g hg).1)⟩
        · rw [Nat.pow_succ] at h1
          exact Nat.div_lt_of_lt_mul (by rw [Nat.mul_comm]; exact h1)
        · rw [HV.out, varF, if_neg (by omega), HCc.out]
          simp
        · simpa [bys] using hown3
      have HR := Lib.hid R
      clear hown3 hg3 hat3 R
      go_wp2
      go_roundw
      case rel =>
        obtain ⟨f', _, h1, h2, h3, h4, h5⟩ := HR.out
        exact ⟨m / 128, f', pre ++ [c], by omega, h1, h2, by simp, h3, h4, h5⟩
      case measure => simp [intOf]; omega
    · have hlt : (m : Int) < 128 := by omega
      obtain ⟨c, hc⟩ : ∃ c, c = UInt8.ofNat m := ⟨_, rfl⟩
      have hcm : c.toNat = m := by rw [hc, UInt8.toNat_ofNat']; omega
      have hfin : varL n = pre ++ [c] := by
        rw [HV.out, hc]
        cases f with
        | zero => rfl
        | succ f => rw [varF, if_pos (by omega)]
      have HFi := Lib.hid hfin
      clear hc hfin HV HMF
      subst hcm
      go_wp2_with (at_builtin; refine wpList_app _ rfl (.tmp 19) (.tmp 22) 82 rfl w.heap.size 5 (.int .u8 0) 1 1 Tryz.underlying82 info_byte rfl (by decide) u4 _ _ rfl (HO.out.alloc _) _ _ 1 1 (bys [c]) rfl (Rd.lit _ _ _ rfl (Nat.lt_succ_self _) rfl) (bys_one _) (by unfold maxLen; omega) (by omega) (by simp; omega) ?_; intro v' w3 hown3 hg3 hat3; have hbel3 := below_app (hbel.alloc (by omega) _) hg3 (by simp; omega) (fun g hg => (own_block HO.out g hg).1); obtain ⟨A, cp, rfl, _, hrd⟩ := own_rd hown3; have hrd' : Rd w3 w3.heap.size 1 A (pre.length + 1) (bys (pre ++ [c])) := (by simpa [bys] using hrd); have hconv := conv_rd (P := Tryz.prog) 82 9 5 Tryz.underlying82 Tryz.underlying5 Tryz.underlying9 cp hrd')
      go_ret2
      exact ⟨by rw [HFi.out]; rfl, hbel3⟩

end Go.Proofs.YtbahnolmlodcdaaGreatDoor

namespace Go.Proofs.YtbahnolmlodcdaaGreatDoor
open Go.RowKit

theorem rv_varF : ∀ (f m n k : Nat) (rest : List UInt8), k + f ≤ 3 → m < 128 ^ (f + 1) → (0 < k → 0 < m) → rv (varF f m ++ rest) n k = (n + m * 2 ^ (7 * k), k + (varF f m).length, 0)
  | 0, m, n, k, rest, hk, hm, hp => by
    have h1 : m < 128 := by simpa using hm
    have h2 : (UInt8.ofNat m).toNat = m := by rw [UInt8.toNat_ofNat']; omega
    show rv (UInt8.ofNat m :: rest) n k = _
    rw [rv, h2, if_neg (by omega), if_neg (by omega)]
    unfold pushN
    rw [h2, Nat.mod_eq_of_lt h1]
    rfl
  | f + 1, m, n, k, rest, hk, hm, hp => by
    by_cases h1 : m < 128
    · have h2 : (UInt8.ofNat m).toNat = m := by rw [UInt8.toNat_ofNat']; omega
      rw [varF, if_pos h1]
      show rv (UInt8.ofNat m :: rest) n k = _
      rw [rv, h2, if_neg (by omega), if_neg (by omega)]
      unfold pushN
      rw [h2, Nat.mod_eq_of_lt h1]
      rfl
    · have h2 : (UInt8.ofNat (m % 128 + 128)).toNat = m % 128 + 128 := by rw [UInt8.toNat_ofNat']; omega
      rw [varF, if_neg h1]
      show rv (UInt8.ofNat (m % 128 + 128) :: (varF f (m / 128) ++ rest)) n k = _
      have hm' : m / 128 < 128 ^ (f + 1) := by
        rw [Nat.pow_succ] at hm
        exact Nat.div_lt_of_lt_mul (by rw [Nat.mul_comm]; exact hm)
      rw [rv, h2, if_pos (by omega), if_neg (by omega), rv_varF f (m / 128) _ (k + 1) rest (by omega) hm' (fun _ => by omega)]
      unfold pushN
      rw [h2, List.length_cons, show (m % 128 + 128) % 128 = m % 128 by omega, show 7 * (k + 1) = 7 * k + 7 by omega, Nat.pow_add]
      refine Prod.ext ?_ (Prod.ext ?_ rfl)
      · show n + m % 128 * 2 ^ (7 * k) + m / 128 * (2 ^ (7 * k) * 2 ^ 7) = n + m * 2 ^ (7 * k)
        have h3 := Nat.div_add_mod m 128
        generalize 2 ^ (7 * k) = X at *
        generalize m / 128 = q at *
        generalize m % 128 = r at *
        subst h3
        rw [Nat.add_mul, show (2 : Nat) ^ 7 = 128 by rfl, Nat.mul_comm X 128, ← Nat.mul_assoc, Nat.mul_comm q 128]
        omega
      · show k + 1 + _ = k + (_ + 1)
        omega
theorem readV_varL (n : Nat) (hn : n ≤ 268435455) (rest : List UInt8) : readV (varL n ++ rest) = (n, (varL n).length, 0) := by
  unfold readV varL
  rw [rv_varF 3 n 0 0 rest (by omega) (by simp; omega) (fun h => by omega)]
  simp
theorem rv_size : ∀ (l : List UInt8) (n k : Nat), (rv l n k).2.1 ≤ k + l.length
  | [], n, k => by simp [rv]
  | b :: l, n, k => by
    rw [rv]
    split
    · split
      · simp
      · have := rv_size l (pushN n k b) (k + 1)
        simp; omega
    · split
      · simp
      · simp <;> omega
theorem readV_size (l : List UInt8) : (readV l).2.1 ≤ l.length := by
  have := rv_size l 0 0
  unfold readV
  omega
end Go.Proofs.YtbahnolmlodcdaaGreatDoor

