/- A part of what the laws stand on: MReaA, MReaB, MAck. -/
import Derived.Test.YtbdgkkmbnahgiaaGreatDoorMsG0MPk
import Derived.Laws.ResultCell
namespace Go.Proofs.YtbdgkkmbnahgiaaGreatDoor
open Go.RowKit

@[reducible] def ints (l : List Nat) : List Value := l.map fun c : Nat => Value.int .i64 (c : Int)
def wcells (W : Nat → Nat) : Array Value := #[.int .u64 (W 0), .int .u64 (W 1), .int .u64 (W 2), .int .u64 (W 3)]
theorem wcells_def (W : Nat → Nat) : wcells W = #[.int .u64 (W 0), .int .u64 (W 1), .int .u64 (W 2), .int .u64 (W 3)] := rfl
def wput (W : Nat → Nat) (c : Nat) : Nat → Nat := fun i => if i = c / 64 then W i ||| 2 ^ (c % 64) else W i
theorem wcell_at (W : Nat → Nat) (c : Nat) (h : c < 256) : (wcells W)[c / 64]? = some (.int .u64 (W (c / 64))) := by
  obtain h | h | h | h : c / 64 = 0 ∨ c / 64 = 1 ∨ c / 64 = 2 ∨ c / 64 = 3 := by omega
  all_goals rw [h]; rfl



def Wok (W : Nat → Nat) : Prop := ∀ i, W i < 18446744073709551616
theorem wput_ok {W : Nat → Nat} (h : Wok W) (c : Nat) : Wok (wput W c) := by
  intro i
  unfold wput
  split
  · exact Nat.or_lt_two_pow (n := 64) (h i) (Nat.lt_of_lt_of_le (Nat.pow_lt_pow_right (by omega) (Nat.mod_lt c (by omega) : c % 64 < 64)) (Nat.le_refl _))
  · exact h i
theorem wput_cells (W : Nat → Nat) (c : Nat) (hc : c < 256) : (wcells W).setIfInBounds (c / 64) (.int .u64 ((W (c / 64) ||| 2 ^ (c % 64) : Nat) : Int)) = wcells (wput W c) := by
  obtain h | h | h | h : c / 64 = 0 ∨ c / 64 = 1 ∨ c / 64 = 2 ∨ c / 64 = 3 := by omega
  all_goals
    rw [h]
    simp [wcells, wput, h]
theorem foldl_ok (l : List Nat) : ∀ {W : Nat → Nat}, Wok W → Wok (l.foldl wput W) := by
  induction l with
  | nil => intro W h; exact h
  | cons c l ih => intro W h; exact ih (wput_ok h c)
theorem or_spells {W : Nat → Nat} (h : Wok W) (c : Nat) : bits BinOp.or IntKind.u64 (↑(W (c / 64))) (IntKind.u64.wrap (2 ^ (c % 64))) = ((W (c / 64) ||| 2 ^ (c % 64) : Nat) : Int) := by
  have h2 : (2 : Nat) ^ (c % 64) < 18446744073709551616 := Nat.lt_of_lt_of_le (Nat.pow_lt_pow_right (by omega) (Nat.mod_lt c (by omega) : c % 64 < 64)) (Nat.le_refl _)
  have e : IntKind.u64.wrap ((2 : Int) ^ (c % 64)) = ((2 ^ (c % 64) : Nat) : Int) := by
    rw [IntKind.wrap_u64]
    have : ((2 : Int) ^ (c % 64)) = ((2 ^ (c % 64) : Nat) : Int) := by simp
    rw [this]
    have h3 : ((2 ^ (c % 64) : Nat) : Int) < ((18446744073709551616 : Nat) : Int) := Int.ofNat_lt.2 h2
    have h4 : (0 : Int) ≤ ((2 ^ (c % 64) : Nat) : Int) := Int.natCast_nonneg _
    generalize ((2 ^ (c % 64) : Nat) : Int) = z at *
    omega
  rw [e, u64_or_nat _ _ (h _) h2]
theorem take_succ_foldl {l : List Nat} {k : Nat} (h : k < l.length) (W : Nat → Nat) : (l.take (k + 1)).foldl wput W = wput ((l.take k).foldl wput W) l[k] := by
  rw [List.take_succ_eq_append_getElem h, List.foldl_append]; rfl

set_option maxHeartbeats 400000 in
theorem with_any (W : Nat → Nat) (A : Option Addr) (l : List Nat) (cap : Nat) (w : World) (hW : Wok W) (hl : ∀ c ∈ l, c < 256) (hn : l.length ≤ 1000)
    (hr : Rd w w.heap.size 1 A l.length (ints l)) :
    Calls Tryz.prog 237 #[.agg (wcells W), .slice A l.length cap] w fun e w' => e = .returned (.agg (wcells (l.foldl wput W))) ∧ Below w.heap.size w w' := by
  have HW := Lib.hid hW; have Hl := Lib.hid hl; clear hW hl
  go_enter Tryz.func237, Tryz.ntmps237
  go_wp2
  go_loopw [9] (fun i wr => ∃ k : Nat, k ≤ l.length ∧ i = .int .i64 k ∧ Bk wr w.heap.size 195 (wcells ((l.take k).foldl wput W)) ∧ Bk wr (w.heap.size + 1) 195 #[.int .u64 0, .int .u64 0, .int .u64 0, .int .u64 0] ∧ Below w.heap.size w wr) (fun i _ => l.length - (intOf i).toNat)
  case atStart =>
    refine ⟨0, Nat.zero_le _, rfl, ?_, ?_, ?_⟩
    · simpa using (Bk.fresh w 195 (wcells W)).alloc _
    · simpa using Bk.fresh (w.alloc (.cells (wcells W) 195)) 195 _
    · exact ((Below.refl _ _).alloc (Nat.le_refl _) _).alloc (by simp) _
  case round =>
    obtain ⟨k, hk, rfl, hbk, hcs, hbel⟩ := hrel
    have Hbk := Lib.hid hbk; have Hcs := Lib.hid hcs
    by_cases hlt : k < l.length
    · obtain ⟨bA, oA, u, rfl, hadb, hu, hcell⟩ := (hr.below hbel).at1 hlt
      have hu' : u = .int .i64 (l[k] : Nat) := by simpa [hlt] using hu.symm
      subst hu'
      have hc256 : l[k] < 256 := Hl.out _ (List.getElem_mem hlt)
      have HW' := Lib.hid (foldl_ok (l.take k) HW.out)
      have HT := Lib.hid (take_succ_foldl hlt W)
      generalize (l.take k).foldl wput W = W' at *
      have hwc : wr.cell? ⟨w.heap.size, l[k] / 64, none⟩ = some (.int .u64 (W' (l[k] / 64))) := by
        rw [hbk.cell, wcell_at _ _ hc256]
      have hfr := hbk.free (l[k] / 64)
      generalize l[k] = c at *
      clear hbk hcs hr hu
      go_wp2
      go_roundw
      case rel =>
        rw [or_spells HW'.out]
        refine ⟨k + 1, by omega, by go_num, ?_, Hcs.out.other (by simp) _, hbel.setCell (by simp) _⟩
        rw [HT.out, ← wput_cells _ _ hc256]
        exact Hbk.out.put _ _
      case measure => simp [intOf]; omega
    · have : k = l.length := by omega
      subst this
      rw [List.take_length] at *
      have c0 := hbk.cell 0
      have c1 := hbk.cell 1
      have c2 := hbk.cell 2
      have c3 := hbk.cell 3
      have d0 := hcs.cell 0
      have d1 := hcs.cell 1
      have d2 := hcs.cell 2
      have d3 := hcs.cell 3
      have f0 := hcs.free 0
      have f1 := hcs.free 1
      have f2 := hcs.free 2
      have f3 := hcs.free 3
      simp [wcells] at c0 c1 c2 c3 d0 d1 d2 d3
      clear hbk hcs
      go_wp2
      exact bodyPost_ret (v := .agg (wcells (l.foldl wput W))) (by simp [results, Tryz.results237, go_sem, wcells, d0, d1, d2, d3]) rfl ⟨rfl, (((hbel.setCell (by simp) _).setCell (by simp) _).setCell (by simp) _).setCell (by simp) _⟩

def upto (W : Nat → Nat) (a n : Nat) : Nat → Nat := (List.range' a n).foldl wput W
theorem upto_succ (W : Nat → Nat) (a n : Nat) : upto W a (n + 1) = wput (upto W a n) (a + n) := by
  unfold upto
  rw [List.range'_concat, List.foldl_append]; simp
theorem upto_ok {W : Nat → Nat} (h : Wok W) (a n : Nat) : Wok (upto W a n) := foldl_ok _ h

set_option maxHeartbeats 400000 in
theorem upto_any (W : Nat → Nat) (a b : Int) (w : World) (hW : Wok W) (h0 : 0 ≤ a) (hab : a ≤ b) (hb : b < 256) :
    Calls Tryz.prog 238 #[.agg (wcells W), .int .i64 a, .int .i64 b] w fun e w' => e = .returned (.agg (wcells (upto W a.toNat (b + 1 - a).toNat))) ∧ Below w.heap.size w w' := by
  have HW := Lib.hid hW; clear hW
  go_enter Tryz.func238, Tryz.ntmps238
  go_wp2
  go_loopw [7] (fun i wr => ∃ k : Nat, a + k ≤ b + 1 ∧ i = .int .i64 (a + k) ∧ Bk wr w.heap.size 195 (wcells (upto W a.toNat k)) ∧ Bk wr (w.heap.size + 1) 195 #[.int .u64 0, .int .u64 0, .int .u64 0, .int .u64 0] ∧ Below w.heap.size w wr) (fun i _ => (b + 1 - intOf i).toNat)
  case atStart =>
    refine ⟨0, by omega, by simp, ?_, ?_, ?_⟩
    · simpa [upto] using (Bk.fresh w 195 (wcells W)).alloc _
    · simpa using Bk.fresh (w.alloc (.cells (wcells W) 195)) 195 _
    · exact ((Below.refl _ _).alloc (Nat.le_refl _) _).alloc (by simp) _
  case round =>
    obtain ⟨k, hk, rfl, hbk, hcs, hbel⟩ := hrel
    have Hbk := Lib.hid hbk; have Hcs := Lib.hid hcs
    obtain ⟨⟨c0, c1, c2, c3⟩, f0, f1, f2, f3⟩ := hbk.four
    obtain ⟨⟨d0, d1, d2, d3⟩, g0, g1, g2, g3⟩ := hcs.four
    have hz : w.heap.size + 1 < wr.heap.size := hcs.lt
    by_cases hlt : a + k ≤ b
    · clear hbk hcs
      go_wp2_with fail
      refine (with_any (upto W a.toNat k) (some ⟨wr.heap.size, 0, none⟩) [(a + k).toNat] 1 _ (upto_ok HW.out _ _) ?_ (by simp) ?_).mono ?_
      · intro c hc; simp at hc; omega
      · have e : ((a + k).toNat : Int) = a + k := by omega
        simp only [ints, List.map_cons, List.map_nil, e]
        simpa using Rd.fresh wr #[_] _
      rintro e w1 ⟨rfl, hb1⟩
      have HU : Hid ([(a + k).toNat].foldl wput (upto W a.toNat k) = upto W a.toNat (k + 1)) := Lib.hid (by rw [upto_succ]; simp [show (a + k).toNat = a.toNat + k by omega])
      have hbk1 := ((Hbk.out.alloc _).below hb1 (by simp; omega))
      have hcs1 := ((Hcs.out.alloc _).below hb1 (by simp; omega))
      have hbel1 := Lib.hid ((hbel.alloc (by omega) _).trans (hb1.mono (by simp; omega)))
      clear hb1 c0 c1 c2 c3 d0 d1 d2 d3 f0 f1 f2 f3 g0 g1 g2 g3 Hbk Hcs
      generalize [(a + k).toNat].foldl wput (upto W a.toNat k) = W2 at *
      obtain ⟨⟨c0, c1, c2, c3⟩, f0, f1, f2, f3⟩ := hbk1.four
      have Hbk := Lib.hid hbk1; have Hcs := Lib.hid hcs1
      rw [show wcells W2 = #[.int .u64 (W2 0), .int .u64 (W2 1), .int .u64 (W2 2), .int .u64 (W2 3)] from rfl]
      clear hbk1 hcs1
      go_wp2
      go_roundw
      case rel =>
        refine ⟨k + 1, by omega, by simp; omega, ?_, Hcs.out.put_other (by omega), below_four hbel1.out (by omega) _ _ _ _⟩
        rw [← HU.out]
        exact Hbk.out.put_four
      case measure => simp [intOf]; omega
    · go_wp2
      obtain rfl : k = (b + 1 - a).toNat := by omega
      exact bodyPost_ret (v := .agg (wcells (upto W a.toNat (b + 1 - a).toNat))) (by simp [results, Tryz.results238, go_sem, wcells, d0, d1, d2, d3]) rfl ⟨rfl, below_four hbel (by simp) _ _ _ _⟩

theorem upto_at (W : Nat → Nat) (a b : Int) (na n : Nat) (w : World) (hW : Wok W) (ha : a = na) (hn : b + 1 = a + n) (hab : a ≤ b) (hb : b < 256) :
    Calls Tryz.prog 238 #[.agg (wcells W), .int .i64 a, .int .i64 b] w fun e w' => e = .returned (.agg (wcells (upto W na n))) ∧ Below w.heap.size w w' := by
  have h := upto_any W a b w hW (by omega) hab hb
  rwa [show a.toNat = na by omega, show (b + 1 - a).toNat = n by omega] at h

def wzero : Nat → Nat := fun _ => 0
theorem wzero_ok : Wok wzero := fun _ => by unfold wzero; omega
def wl (l : List Nat) : Nat → Nat := l.foldl wput wzero
theorem wl_def (l : List Nat) : l.foldl wput wzero = wl l := rfl
theorem wl_ok (l : List Nat) : Wok (wl l) := foldl_ok _ wzero_ok
attribute [irreducible] upto wl
theorem with_zero (A : Option Addr) (l : List Nat) (cap : Nat) (w : World) (hl : ∀ c ∈ l, c < 256) (hn : l.length ≤ 1000) (hr : Rd w w.heap.size 1 A l.length (ints l)) :
    Calls Tryz.prog 237 #[.agg #[.int .u64 0, .int .u64 0, .int .u64 0, .int .u64 0], .slice A l.length cap] w fun e w' => e = .returned (.agg (wcells (wl l))) ∧ Below w.heap.size w w' :=
  by rw [← wl_def]; exact with_any wzero A l cap w wzero_ok hl hn hr
def codes (kind : Int) : Nat → Nat :=
  if kind = 2 then upto (upto (wl [0, 140, 144, 149, 151, 159]) 128 11) 153 5
  else if kind = 4 ∨ kind = 5 then wl [0, 16, 128, 131, 135, 144, 145, 151, 153]
  else if kind = 6 ∨ kind = 7 then wl [0, 146]
  else if kind = 9 then wl [0, 1, 2, 128, 131, 135, 143, 145, 151, 158, 161, 162]
  else if kind = 11 then wl [0, 17, 128, 131, 135, 143, 145]
  else if kind = 14 then upto (upto (wl [0, 4, 135, 137, 139, 141, 142, 143, 144]) 128 4) 147 16
  else if kind = 15 then wl [0, 24, 25]
  else wzero

end Go.Proofs.YtbdgkkmbnahgiaaGreatDoor

namespace Go.Proofs.YtbdgkkmbnahgiaaGreatDoor
open Go.RowKit

set_option maxHeartbeats 400000 in
set_option maxRecDepth 10000 in
theorem codes_2 (w : World) :
    Calls Tryz.prog 177 #[.int .i64 2] w fun e w' => e = .returned (.agg (wcells (codes 2))) ∧ Below w.heap.size w w' := by
  have Z0 := (Bk.fresh w 195 #[.int .u64 0, .int .u64 0, .int .u64 0, .int .u64 0]).alloc (.cells #[.int .u64 0, .int .u64 0, .int .u64 0, .int .u64 0] 195)
  have Z1 : Bk ((w.alloc (.cells #[.int .u64 0, .int .u64 0, .int .u64 0, .int .u64 0] 195)).alloc (.cells #[.int .u64 0, .int .u64 0, .int .u64 0, .int .u64 0] 195)) (w.heap.size + 1) 195 #[.int .u64 0, .int .u64 0, .int .u64 0, .int .u64 0] := by simpa using Bk.fresh (w.alloc (.cells #[.int .u64 0, .int .u64 0, .int .u64 0, .int .u64 0] 195)) 195 #[.int .u64 0, .int .u64 0, .int .u64 0, .int .u64 0]
  have hbel := ((Below.refl w.heap.size w).alloc (Nat.le_refl _) (.cells #[.int .u64 0, .int .u64 0, .int .u64 0, .int .u64 0] 195)).alloc (by simp) (.cells #[.int .u64 0, .int .u64 0, .int .u64 0, .int .u64 0] 195)
  have HZ0 := Lib.hid Z0; have HZ1 := Lib.hid Z1; have HL := Lib.hid hbel; clear Z0 Z1 hbel
  go_enter Tryz.func177, Tryz.ntmps177
  go_wp2_with fail
  refine (with_zero _ [0, 140, 144, 149, 151, 159] _ _ (by decide) (by decide) (Rd.lit _ _ _ (by simp) (by simp) rfl)).mono ?_
  rintro e w1 ⟨rfl, hb1⟩
  have hbk1 := (HZ0.out.alloc _).below hb1 (by simp; omega)
  have hcs1 := (HZ1.out.alloc _).below hb1 (by simp)
  have hbel1 := (HL.out.alloc (by simp; omega) _).trans (hb1.mono (by simp; omega))
  clear hb1
  have Hb := Lib.hid hbk1; have Hc := Lib.hid hcs1; have Hl := Lib.hid hbel1
  clear hbk1 hcs1 hbel1
  go_wp2_with fail
  refine (upto_at (wl [0, 140, 144, 149, 151, 159]) 128 138 128 11 _ (wl_ok _) (by omega) (by omega) (by omega) (by omega)).mono ?_
  rintro e w2 ⟨rfl, hb1⟩
  have hbk1 := Hb.out.below hb1 Hb.out.lt
  have hcs1 := Hc.out.below hb1 Hc.out.lt
  have hbel1 := Hl.out.trans (hb1.mono (by have := Hb.out.lt; omega))
  clear hb1 Hb Hc Hl
  have Hb := Lib.hid hbk1; have Hc := Lib.hid hcs1; have Hl := Lib.hid hbel1
  clear hbk1 hcs1 hbel1
  go_wp2_with fail
  refine (upto_at (upto (wl [0, 140, 144, 149, 151, 159]) 128 11) 153 157 153 5 _ (upto_ok (wl_ok _) _ _) (by omega) (by omega) (by omega) (by omega)).mono ?_
  rintro e w3 ⟨rfl, hb1⟩
  have hbk1 := Hb.out.below hb1 Hb.out.lt
  have hcs1 := Hc.out.below hb1 Hc.out.lt
  have hbel1 := Hl.out.trans (hb1.mono (by have := Hb.out.lt; omega))
  clear hb1 Hb Hc Hl
  obtain ⟨C, hG⟩ : ∃ C, C = codes 2 := ⟨_, rfl⟩
  rw [show upto (upto (wl [0, 140, 144, 149, 151, 159]) 128 11) 153 5 = C by rw [hG]; simp [codes], wcells_def C]
  have HG := Lib.hid hG; clear hG
  obtain ⟨⟨c0, c1, c2, c3⟩, f0, f1, f2, f3⟩ := hcs1.four
  obtain ⟨⟨d0, d1, d2, d3⟩, g0, g1, g2, g3⟩ := hbk1.four
  have hbel2 := Lib.hid (below_four (below_four hbel1 (g := w.heap.size + 1) (by omega) (.int .u64 (C 0)) (.int .u64 (C 1)) (.int .u64 (C 2)) (.int .u64 (C 3))) (g := w.heap.size) (by omega) (.int .u64 (C 0)) (.int .u64 (C 1)) (.int .u64 (C 2)) (.int .u64 (C 3)))
  clear hbel1 hbk1 hcs1
  go_wp2
  exact bodyPost_ret (v := .agg (wcells C)) (by simp [results, Tryz.results177, go_sem, wcells, d0, d1, d2, d3]) rfl ⟨by rw [HG.out], hbel2.out⟩
set_option maxHeartbeats 400000 in
set_option maxRecDepth 10000 in
theorem codes_4 (w : World) :
    Calls Tryz.prog 177 #[.int .i64 4] w fun e w' => e = .returned (.agg (wcells (codes 4))) ∧ Below w.heap.size w w' := by
  have Z0 := (Bk.fresh w 195 #[.int .u64 0, .int .u64 0, .int .u64 0, .int .u64 0]).alloc (.cells #[.int .u64 0, .int .u64 0, .int .u64 0, .int .u64 0] 195)
  have Z1 : Bk ((w.alloc (.cells #[.int .u64 0, .int .u64 0, .int .u64 0, .int .u64 0] 195)).alloc (.cells #[.int .u64 0, .int .u64 0, .int .u64 0, .int .u64 0] 195)) (w.heap.size + 1) 195 #[.int .u64 0, .int .u64 0, .int .u64 0, .int .u64 0] := by simpa using Bk.fresh (w.alloc (.cells #[.int .u64 0, .int .u64 0, .int .u64 0, .int .u64 0] 195)) 195 #[.int .u64 0, .int .u64 0, .int .u64 0, .int .u64 0]
  have hbel := ((Below.refl w.heap.size w).alloc (Nat.le_refl _) (.cells #[.int .u64 0, .int .u64 0, .int .u64 0, .int .u64 0] 195)).alloc (by simp) (.cells #[.int .u64 0, .int .u64 0, .int .u64 0, .int .u64 0] 195)
  have HZ0 := Lib.hid Z0; have HZ1 := Lib.hid Z1; have HL := Lib.hid hbel; clear Z0 Z1 hbel
  go_enter Tryz.func177, Tryz.ntmps177
  go_wp2_with fail
  refine (with_zero _ [0, 16, 128, 131, 135, 144, 145, 151, 153] _ _ (by decide) (by decide) (Rd.lit _ _ _ (by simp) (by simp) rfl)).mono ?_
  rintro e w1 ⟨rfl, hb1⟩
  have hbk1 := (HZ0.out.alloc _).below hb1 (by simp; omega)
  have hcs1 := (HZ1.out.alloc _).below hb1 (by simp)
  have hbel1 := (HL.out.alloc (by simp; omega) _).trans (hb1.mono (by simp; omega))
  clear hb1
  obtain ⟨C, hG⟩ : ∃ C, C = codes 4 := ⟨_, rfl⟩
  rw [show wl [0, 16, 128, 131, 135, 144, 145, 151, 153] = C by rw [hG]; simp [codes], wcells_def C]
  have HG := Lib.hid hG; clear hG
  obtain ⟨⟨c0, c1, c2, c3⟩, f0, f1, f2, f3⟩ := hcs1.four
  obtain ⟨⟨d0, d1, d2, d3⟩, g0, g1, g2, g3⟩ := hbk1.four
  have hbel2 := Lib.hid (below_four (below_four hbel1 (g := w.heap.size + 1) (by omega) (.int .u64 (C 0)) (.int .u64 (C 1)) (.int .u64 (C 2)) (.int .u64 (C 3))) (g := w.heap.size) (by omega) (.int .u64 (C 0)) (.int .u64 (C 1)) (.int .u64 (C 2)) (.int .u64 (C 3)))
  clear hbel1 hbk1 hcs1
  go_wp2
  exact bodyPost_ret (v := .agg (wcells C)) (by simp [results, Tryz.results177, go_sem, wcells, d0, d1, d2, d3]) rfl ⟨by rw [HG.out], hbel2.out⟩
set_option maxHeartbeats 400000 in
set_option maxRecDepth 10000 in
theorem codes_5 (w : World) :
    Calls Tryz.prog 177 #[.int .i64 5] w fun e w' => e = .returned (.agg (wcells (codes 5))) ∧ Below w.heap.size w w' := by
  have Z0 := (Bk.fresh w 195 #[.int .u64 0, .int .u64 0, .int .u64 0, .int .u64 0]).alloc (.cells #[.int .u64 0, .int .u64 0, .int .u64 0, .int .u64 0] 195)
  have Z1 : Bk ((w.alloc (.cells #[.int .u64 0, .int .u64 0, .int .u64 0, .int .u64 0] 195)).alloc (.cells #[.int .u64 0, .int .u64 0, .int .u64 0, .int .u64 0] 195)) (w.heap.size + 1) 195 #[.int .u64 0, .int .u64 0, .int .u64 0, .int .u64 0] := by simpa using Bk.fresh (w.alloc (.cells #[.int .u64 0, .int .u64 0, .int .u64 0, .int .u64 0] 195)) 195 #[.int .u64 0, .int .u64 0, .int .u64 0, .int .u64 0]
  have hbel := ((Below.refl w.heap.size w).alloc (Nat.le_refl _) (.cells #[.int .u64 0, .int .u64 0, .int .u64 0, .int .u64 0] 195)).alloc (by simp) (.cells #[.int .u64 0, .int .u64 0, .int .u64 0, .int .u64 0] 195)
  have HZ0 := Lib.hid Z0; have HZ1 := Lib.hid Z1; have HL := Lib.hid hbel; clear Z0 Z1 hbel
  go_enter Tryz.func177, Tryz.ntmps177
  go_wp2_with fail
  refine (with_zero _ [0, 16, 128, 131, 135, 144, 145, 151, 153] _ _ (by decide) (by decide) (Rd.lit _ _ _ (by simp) (by simp) rfl)).mono ?_
  rintro e w1 ⟨rfl, hb1⟩
  have hbk1 := (HZ0.out.alloc _).below hb1 (by simp; omega)
  have hcs1 := (HZ1.out.alloc _).below hb1 (by simp)
  have hbel1 := (HL.out.alloc (by simp; omega) _).trans (hb1.mono (by simp; omega))
  clear hb1
  obtain ⟨C, hG⟩ : ∃ C, C = codes 5 := ⟨_, rfl⟩
  rw [show wl [0, 16, 128, 131, 135, 144, 145, 151, 153] = C by rw [hG]; simp [codes], wcells_def C]
  have HG := Lib.hid hG; clear hG
  obtain ⟨⟨c0, c1, c2, c3⟩, f0, f1, f2, f3⟩ := hcs1.four
  obtain ⟨⟨d0, d1, d2, d3⟩, g0, g1, g2, g3⟩ := hbk1.four
  have hbel2 := Lib.hid (below_four (below_four hbel1 (g := w.heap.size + 1) (by omega) (.int .u64 (C 0)) (.int .u64 (C 1)) (.int .u64 (C 2)) (.int .u64 (C 3))) (g := w.heap.size) (by omega) (.int .u64 (C 0)) (.int .u64 (C 1)) (.int .u64 (C 2)) (.int .u64 (C 3)))
  clear hbel1 hbk1 hcs1
  go_wp2
  exact bodyPost_ret (v := .agg (wcells C)) (by simp [results, Tryz.results177, go_sem, wcells, d0, d1, d2, d3]) rfl ⟨by rw [HG.out], hbel2.out⟩
set_option maxHeartbeats 400000 in
set_option maxRecDepth 10000 in
theorem codes_6 (w : World) :
    Calls Tryz.prog 177 #[.int .i64 6] w fun e w' => e = .returned (.agg (wcells (codes 6))) ∧ Below w.heap.size w w' := by
  have Z0 := (Bk.fresh w 195 #[.int .u64 0, .int .u64 0, .int .u64 0, .int .u64 0]).alloc (.cells #[.int .u64 0, .int .u64 0, .int .u64 0, .int .u64 0] 195)
  have Z1 : Bk ((w.alloc (.cells #[.int .u64 0, .int .u64 0, .int .u64 0, .int .u64 0] 195)).alloc (.cells #[.int .u64 0, .int .u64 0, .int .u64 0, .int .u64 0] 195)) (w.heap.size + 1) 195 #[.int .u64 0, .int .u64 0, .int .u64 0, .int .u64 0] := by simpa using Bk.fresh (w.alloc (.cells #[.int .u64 0, .int .u64 0, .int .u64 0, .int .u64 0] 195)) 195 #[.int .u64 0, .int .u64 0, .int .u64 0, .int .u64 0]
  have hbel := ((Below.refl w.heap.size w).alloc (Nat.le_refl _) (.cells #[.int .u64 0, .int .u64 0, .int .u64 0, .int .u64 0] 195)).alloc (by simp) (.cells #[.int .u64 0, .int .u64 0, .int .u64 0, .int .u64 0] 195)
  have HZ0 := Lib.hid Z0; have HZ1 := Lib.hid Z1; have HL := Lib.hid hbel; clear Z0 Z1 hbel
  go_enter Tryz.func177, Tryz.ntmps177
  go_wp2_with fail
  refine (with_zero _ [0, 146] _ _ (by decide) (by decide) (Rd.lit _ _ _ (by simp) (by simp) rfl)).mono ?_
  rintro e w1 ⟨rfl, hb1⟩
  have hbk1 := (HZ0.out.alloc _).below hb1 (by simp; omega)
  have hcs1 := (HZ1.out.alloc _).below hb1 (by simp)
  have hbel1 := (HL.out.alloc (by simp; omega) _).trans (hb1.mono (by simp; omega))
  clear hb1
  obtain ⟨C, hG⟩ : ∃ C, C = codes 6 := ⟨_, rfl⟩
  rw [show wl [0, 146] = C by rw [hG]; simp [codes], wcells_def C]
  have HG := Lib.hid hG; clear hG
  obtain ⟨⟨c0, c1, c2, c3⟩, f0, f1, f2, f3⟩ := hcs1.four
  obtain ⟨⟨d0, d1, d2, d3⟩, g0, g1, g2, g3⟩ := hbk1.four
  have hbel2 := Lib.hid (below_four (below_four hbel1 (g := w.heap.size + 1) (by omega) (.int .u64 (C 0)) (.int .u64 (C 1)) (.int .u64 (C 2)) (.int .u64 (C 3))) (g := w.heap.size) (by omega) (.int .u64 (C 0)) (.int .u64 (C 1)) (.int .u64 (C 2)) (.int .u64 (C 3)))
  clear hbel1 hbk1 hcs1
  go_wp2
  exact bodyPost_ret (v := .agg (wcells C)) (by simp [results, Tryz.results177, go_sem, wcells, d0, d1, d2, d3]) rfl ⟨by rw [HG.out], hbel2.out⟩
set_option maxHeartbeats 400000 in
set_option maxRecDepth 10000 in
theorem codes_7 (w : World) :
    Calls Tryz.prog 177 #[.int .i64 7] w fun e w' => e = .returned (.agg (wcells (codes 7))) ∧ Below w.heap.size w w' := by
  have Z0 := (Bk.fresh w 195 #[.int .u64 0, .int .u64 0, .int .u64 0, .int .u64 0]).alloc (.cells #[.int .u64 0, .int .u64 0, .int .u64 0, .int .u64 0] 195)
  have Z1 : Bk ((w.alloc (.cells #[.int .u64 0, .int .u64 0, .int .u64 0, .int .u64 0] 195)).alloc (.cells #[.int .u64 0, .int .u64 0, .int .u64 0, .int .u64 0] 195)) (w.heap.size + 1) 195 #[.int .u64 0, .int .u64 0, .int .u64 0, .int .u64 0] := by simpa using Bk.fresh (w.alloc (.cells #[.int .u64 0, .int .u64 0, .int .u64 0, .int .u64 0] 195)) 195 #[.int .u64 0, .int .u64 0, .int .u64 0, .int .u64 0]
  have hbel := ((Below.refl w.heap.size w).alloc (Nat.le_refl _) (.cells #[.int .u64 0, .int .u64 0, .int .u64 0, .int .u64 0] 195)).alloc (by simp) (.cells #[.int .u64 0, .int .u64 0, .int .u64 0, .int .u64 0] 195)
  have HZ0 := Lib.hid Z0; have HZ1 := Lib.hid Z1; have HL := Lib.hid hbel; clear Z0 Z1 hbel
  go_enter Tryz.func177, Tryz.ntmps177
  go_wp2_with fail
  refine (with_zero _ [0, 146] _ _ (by decide) (by decide) (Rd.lit _ _ _ (by simp) (by simp) rfl)).mono ?_
  rintro e w1 ⟨rfl, hb1⟩
  have hbk1 := (HZ0.out.alloc _).below hb1 (by simp; omega)
  have hcs1 := (HZ1.out.alloc _).below hb1 (by simp)
  have hbel1 := (HL.out.alloc (by simp; omega) _).trans (hb1.mono (by simp; omega))
  clear hb1
  obtain ⟨C, hG⟩ : ∃ C, C = codes 7 := ⟨_, rfl⟩
  rw [show wl [0, 146] = C by rw [hG]; simp [codes], wcells_def C]
  have HG := Lib.hid hG; clear hG
  obtain ⟨⟨c0, c1, c2, c3⟩, f0, f1, f2, f3⟩ := hcs1.four
  obtain ⟨⟨d0, d1, d2, d3⟩, g0, g1, g2, g3⟩ := hbk1.four
  have hbel2 := Lib.hid (below_four (below_four hbel1 (g := w.heap.size + 1) (by omega) (.int .u64 (C 0)) (.int .u64 (C 1)) (.int .u64 (C 2)) (.int .u64 (C 3))) (g := w.heap.size) (by omega) (.int .u64 (C 0)) (.int .u64 (C 1)) (.int .u64 (C 2)) (.int .u64 (C 3)))
  clear hbel1 hbk1 hcs1
  go_wp2
  exact bodyPost_ret (v := .agg (wcells C)) (by simp [results, Tryz.results177, go_sem, wcells, d0, d1, d2, d3]) rfl ⟨by rw [HG.out], hbel2.out⟩
set_option maxHeartbeats 400000 in
set_option maxRecDepth 10000 in
theorem codes_9 (w : World) :
    Calls Tryz.prog 177 #[.int .i64 9] w fun e w' => e = .returned (.agg (wcells (codes 9))) ∧ Below w.heap.size w w' := by
  have Z0 := (Bk.fresh w 195 #[.int .u64 0, .int .u64 0, .int .u64 0, .int .u64 0]).alloc (.cells #[.int .u64 0, .int .u64 0, .int .u64 0, .int .u64 0] 195)
  have Z1 : Bk ((w.alloc (.cells #[.int .u64 0, .int .u64 0, .int .u64 0, .int .u64 0] 195)).alloc (.cells #[.int .u64 0, .int .u64 0, .int .u64 0, .int .u64 0] 195)) (w.heap.size + 1) 195 #[.int .u64 0, .int .u64 0, .int .u64 0, .int .u64 0] := by simpa using Bk.fresh (w.alloc (.cells #[.int .u64 0, .int .u64 0, .int .u64 0, .int .u64 0] 195)) 195 #[.int .u64 0, .int .u64 0, .int .u64 0, .int .u64 0]
  have hbel := ((Below.refl w.heap.size w).alloc (Nat.le_refl _) (.cells #[.int .u64 0, .int .u64 0, .int .u64 0, .int .u64 0] 195)).alloc (by simp) (.cells #[.int .u64 0, .int .u64 0, .int .u64 0, .int .u64 0] 195)
  have HZ0 := Lib.hid Z0; have HZ1 := Lib.hid Z1; have HL := Lib.hid hbel; clear Z0 Z1 hbel
  go_enter Tryz.func177, Tryz.ntmps177
  go_wp2_with fail
  refine (with_zero _ [0, 1, 2, 128, 131, 135, 143, 145, 151, 158, 161, 162] _ _ (by decide) (by decide) (Rd.lit _ _ _ (by simp) (by simp) rfl)).mono ?_
  rintro e w1 ⟨rfl, hb1⟩
  have hbk1 := (HZ0.out.alloc _).below hb1 (by simp; omega)
  have hcs1 := (HZ1.out.alloc _).below hb1 (by simp)
  have hbel1 := (HL.out.alloc (by simp; omega) _).trans (hb1.mono (by simp; omega))
  clear hb1
  obtain ⟨C, hG⟩ : ∃ C, C = codes 9 := ⟨_, rfl⟩
  rw [show wl [0, 1, 2, 128, 131, 135, 143, 145, 151, 158, 161, 162] = C by rw [hG]; simp [codes], wcells_def C]
  have HG := Lib.hid hG; clear hG
  obtain ⟨⟨c0, c1, c2, c3⟩, f0, f1, f2, f3⟩ := hcs1.four
  obtain ⟨⟨d0, d1, d2, d3⟩, g0, g1, g2, g3⟩ := hbk1.four
  have hbel2 := Lib.hid (below_four (below_four hbel1 (g := w.heap.size + 1) (by omega) (.int .u64 (C 0)) (.int .u64 (C 1)) (.int .u64 (C 2)) (.int .u64 (C 3))) (g := w.heap.size) (by omega) (.int .u64 (C 0)) (.int .u64 (C 1)) (.int .u64 (C 2)) (.int .u64 (C 3)))
  clear hbel1 hbk1 hcs1
  go_wp2
  exact bodyPost_ret (v := .agg (wcells C)) (by simp [results, Tryz.results177, go_sem, wcells, d0, d1, d2, d3]) rfl ⟨by rw [HG.out], hbel2.out⟩
set_option maxHeartbeats 400000 in
set_option maxRecDepth 10000 in
theorem codes_11 (w : World) :
    Calls Tryz.prog 177 #[.int .i64 11] w fun e w' => e = .returned (.agg (wcells (codes 11))) ∧ Below w.heap.size w w' := by
  have Z0 := (Bk.fresh w 195 #[.int .u64 0, .int .u64 0, .int .u64 0, .int .u64 0]).alloc (.cells #[.int .u64 0, .int .u64 0, .int .u64 0, .int .u64 0] 195)
  have Z1 : Bk ((w.alloc (.cells #[.int .u64 0, .int .u64 0, .int .u64 0, .int .u64 0] 195)).alloc (.cells #[.int .u64 0, .int .u64 0, .int .u64 0, .int .u64 0] 195)) (w.heap.size + 1) 195 #[.int .u64 0, .int .u64 0, .int .u64 0, .int .u64 0] := by simpa using Bk.fresh (w.alloc (.cells #[.int .u64 0, .int .u64 0, .int .u64 0, .int .u64 0] 195)) 195 #[.int .u64 0, .int .u64 0, .int .u64 0, .int .u64 0]
  have hbel := ((Below.refl w.heap.size w).alloc (Nat.le_refl _) (.cells #[.int .u64 0, .int .u64 0, .int .u64 0, .int .u64 0] 195)).alloc (by simp) (.cells #[.int .u64 0, .int .u64 0, .int .u64 0, .int .u64 0] 195)
  have HZ0 := Lib.hid Z0; have HZ1 := Lib.hid Z1; have HL := Lib.hid hbel; clear Z0 Z1 hbel
  go_enter Tryz.func177, Tryz.ntmps177
  go_wp2_with fail
  refine (with_zero _ [0, 17, 128, 131, 135, 143, 145] _ _ (by decide) (by decide) (Rd.lit _ _ _ (by simp) (by simp) rfl)).mono ?_
  rintro e w1 ⟨rfl, hb1⟩
  have hbk1 := (HZ0.out.alloc _).below hb1 (by simp; omega)
  have hcs1 := (HZ1.out.alloc _).below hb1 (by simp)
  have hbel1 := (HL.out.alloc (by simp; omega) _).trans (hb1.mono (by simp; omega))
  clear hb1
  obtain ⟨C, hG⟩ : ∃ C, C = codes 11 := ⟨_, rfl⟩
  rw [show wl [0, 17, 128, 131, 135, 143, 145] = C by rw [hG]; simp [codes], wcells_def C]
  have HG := Lib.hid hG; clear hG
  obtain ⟨⟨c0, c1, c2, c3⟩, f0, f1, f2, f3⟩ := hcs1.four
  obtain ⟨⟨d0, d1, d2, d3⟩, g0, g1, g2, g3⟩ := hbk1.four
  have hbel2 := Lib.hid (below_four (below_four hbel1 (g := w.heap.size + 1) (by omega) (.int .u64 (C 0)) (.int .u64 (C 1)) (.int .u64 (C 2)) (.int .u64 (C 3))) (g := w.heap.size) (by omega) (.int .u64 (C 0)) (.int .u64 (C 1)) (.int .u64 (C 2)) (.int .u64 (C 3)))
  clear hbel1 hbk1 hcs1
  go_wp2
  exact bodyPost_ret (v := .agg (wcells C)) (by simp [results, Tryz.results177, go_sem, wcells, d0, d1, d2, d3]) rfl ⟨by rw [HG.out], hbel2.out⟩
set_option maxHeartbeats 400000 in
set_option maxRecDepth 10000 in
theorem codes_14 (w : World) :
    Calls Tryz.prog 177 #[.int .i64 14] w fun e w' => e = .returned (.agg (wcells (codes 14))) ∧ Below w.heap.size w w' := by
  have Z0 := (Bk.fresh w 195 #[.int .u64 0, .int .u64 0, .int .u64 0, .int .u64 0]).alloc (.cells #[.int .u64 0, .int .u64 0, .int .u64 0, .int .u64 0] 195)
  have Z1 : Bk ((w.alloc (.cells #[.int .u64 0, .int .u64 0, .int .u64 0, .int .u64 0] 195)).alloc (.cells #[.int .u64 0, .int .u64 0, .int .u64 0, .int .u64 0] 195)) (w.heap.size + 1) 195 #[.int .u64 0, .int .u64 0, .int .u64 0, .int .u64 0] := by simpa using Bk.fresh (w.alloc (.cells #[.int .u64 0, .int .u64 0, .int .u64 0, .int .u64 0] 195)) 195 #[.int .u64 0, .int .u64 0, .int .u64 0, .int .u64 0]
  have hbel := ((Below.refl w.heap.size w).alloc (Nat.le_refl _) (.cells #[.int .u64 0, .int .u64 0, .int .u64 0, .int .u64 0] 195)).alloc (by simp) (.cells #[.int .u64 0, .int .u64 0, .int .u64 0, .int .u64 0] 195)
  have HZ0 := Lib.hid Z0; have HZ1 := Lib.hid Z1; have HL := Lib.hid hbel; clear Z0 Z1 hbel
  go_enter Tryz.func177, Tryz.ntmps177
  go_wp2_with fail
  refine (with_zero _ [0, 4, 135, 137, 139, 141, 142, 143, 144] _ _ (by decide) (by decide) (Rd.lit _ _ _ (by simp) (by simp) rfl)).mono ?_
  rintro e w1 ⟨rfl, hb1⟩
  have hbk1 := (HZ0.out.alloc _).below hb1 (by simp; omega)
  have hcs1 := (HZ1.out.alloc _).below hb1 (by simp)
  have hbel1 := (HL.out.alloc (by simp; omega) _).trans (hb1.mono (by simp; omega))
  clear hb1
  have Hb := Lib.hid hbk1; have Hc := Lib.hid hcs1; have Hl := Lib.hid hbel1
  clear hbk1 hcs1 hbel1
  go_wp2_with fail
  refine (upto_at (wl [0, 4, 135, 137, 139, 141, 142, 143, 144]) 128 131 128 4 _ (wl_ok _) (by omega) (by omega) (by omega) (by omega)).mono ?_
  rintro e w2 ⟨rfl, hb1⟩
  have hbk1 := Hb.out.below hb1 Hb.out.lt
  have hcs1 := Hc.out.below hb1 Hc.out.lt
  have hbel1 := Hl.out.trans (hb1.mono (by have := Hb.out.lt; omega))
  clear hb1 Hb Hc Hl
  have Hb := Lib.hid hbk1; have Hc := Lib.hid hcs1; have Hl := Lib.hid hbel1
  clear hbk1 hcs1 hbel1
  go_wp2_with fail
  refine (upto_at (upto (wl [0, 4, 135, 137, 139, 141, 142, 143, 144]) 128 4) 147 162 147 16 _ (upto_ok (wl_ok _) _ _) (by omega) (by omega) (by omega) (by omega)).mono ?_
  rintro e w3 ⟨rfl, hb1⟩
  have hbk1 := Hb.out.below hb1 Hb.out.lt
  have hcs1 := Hc.out.below hb1 Hc.out.lt
  have hbel1 := Hl.out.trans (hb1.mono (by have := Hb.out.lt; omega))
  clear hb1 Hb Hc Hl
  obtain ⟨C, hG⟩ : ∃ C, C = codes 14 := ⟨_, rfl⟩
  rw [show upto (upto (wl [0, 4, 135, 137, 139, 141, 142, 143, 144]) 128 4) 147 16 = C by rw [hG]; simp [codes], wcells_def C]
  have HG := Lib.hid hG; clear hG
  obtain ⟨⟨c0, c1, c2, c3⟩, f0, f1, f2, f3⟩ := hcs1.four
  obtain ⟨⟨d0, d1, d2, d3⟩, g0, g1, g2, g3⟩ := hbk1.four
  have hbel2 := Lib.hid (below_four (below_four hbel1 (g := w.heap.size + 1) (by omega) (.int .u64 (C 0)) (.int .u64 (C 1)) (.int .u64 (C 2)) (.int .u64 (C 3))) (g := w.heap.size) (by omega) (.int .u64 (C 0)) (.int .u64 (C 1)) (.int .u64 (C 2)) (.int .u64 (C 3)))
  clear hbel1 hbk1 hcs1
  go_wp2
  exact bodyPost_ret (v := .agg (wcells C)) (by simp [results, Tryz.results177, go_sem, wcells, d0, d1, d2, d3]) rfl ⟨by rw [HG.out], hbel2.out⟩
set_option maxHeartbeats 400000 in
set_option maxRecDepth 10000 in
theorem codes_15 (w : World) :
    Calls Tryz.prog 177 #[.int .i64 15] w fun e w' => e = .returned (.agg (wcells (codes 15))) ∧ Below w.heap.size w w' := by
  have Z0 := (Bk.fresh w 195 #[.int .u64 0, .int .u64 0, .int .u64 0, .int .u64 0]).alloc (.cells #[.int .u64 0, .int .u64 0, .int .u64 0, .int .u64 0] 195)
  have Z1 : Bk ((w.alloc (.cells #[.int .u64 0, .int .u64 0, .int .u64 0, .int .u64 0] 195)).alloc (.cells #[.int .u64 0, .int .u64 0, .int .u64 0, .int .u64 0] 195)) (w.heap.size + 1) 195 #[.int .u64 0, .int .u64 0, .int .u64 0, .int .u64 0] := by simpa using Bk.fresh (w.alloc (.cells #[.int .u64 0, .int .u64 0, .int .u64 0, .int .u64 0] 195)) 195 #[.int .u64 0, .int .u64 0, .int .u64 0, .int .u64 0]
  have hbel := ((Below.refl w.heap.size w).alloc (Nat.le_refl _) (.cells #[.int .u64 0, .int .u64 0, .int .u64 0, .int .u64 0] 195)).alloc (by simp) (.cells #[.int .u64 0, .int .u64 0, .int .u64 0, .int .u64 0] 195)
  have HZ0 := Lib.hid Z0; have HZ1 := Lib.hid Z1; have HL := Lib.hid hbel; clear Z0 Z1 hbel
  go_enter Tryz.func177, Tryz.ntmps177
  go_wp2_with fail
  refine (with_zero _ [0, 24, 25] _ _ (by decide) (by decide) (Rd.lit _ _ _ (by simp) (by simp) rfl)).mono ?_
  rintro e w1 ⟨rfl, hb1⟩
  have hbk1 := (HZ0.out.alloc _).below hb1 (by simp; omega)
  have hcs1 := (HZ1.out.alloc _).below hb1 (by simp)
  have hbel1 := (HL.out.alloc (by simp; omega) _).trans (hb1.mono (by simp; omega))
  clear hb1
  obtain ⟨C, hG⟩ : ∃ C, C = codes 15 := ⟨_, rfl⟩
  rw [show wl [0, 24, 25] = C by rw [hG]; simp [codes], wcells_def C]
  have HG := Lib.hid hG; clear hG
  obtain ⟨⟨c0, c1, c2, c3⟩, f0, f1, f2, f3⟩ := hcs1.four
  obtain ⟨⟨d0, d1, d2, d3⟩, g0, g1, g2, g3⟩ := hbk1.four
  have hbel2 := Lib.hid (below_four (below_four hbel1 (g := w.heap.size + 1) (by omega) (.int .u64 (C 0)) (.int .u64 (C 1)) (.int .u64 (C 2)) (.int .u64 (C 3))) (g := w.heap.size) (by omega) (.int .u64 (C 0)) (.int .u64 (C 1)) (.int .u64 (C 2)) (.int .u64 (C 3)))
  clear hbel1 hbk1 hcs1
  go_wp2
  exact bodyPost_ret (v := .agg (wcells C)) (by simp [results, Tryz.results177, go_sem, wcells, d0, d1, d2, d3]) rfl ⟨by rw [HG.out], hbel2.out⟩
set_option maxHeartbeats 400000 in
set_option maxRecDepth 10000 in
theorem codes_any (kind : Int) (w : World) :
    Calls Tryz.prog 177 #[.int .i64 kind] w fun e w' => e = .returned (.agg (wcells (codes kind))) ∧ Below w.heap.size w w' := by
  by_cases h2 : kind = 2
  · subst h2; exact codes_2 w
  by_cases h4 : kind = 4
  · subst h4; exact codes_4 w
  by_cases h5 : kind = 5
  · subst h5; exact codes_5 w
  by_cases h6 : kind = 6
  · subst h6; exact codes_6 w
  by_cases h7 : kind = 7
  · subst h7; exact codes_7 w
  by_cases h9 : kind = 9
  · subst h9; exact codes_9 w
  by_cases h11 : kind = 11
  · subst h11; exact codes_11 w
  by_cases h14 : kind = 14
  · subst h14; exact codes_14 w
  by_cases h15 : kind = 15
  · subst h15; exact codes_15 w
  go_enter Tryz.func177, Tryz.ntmps177
  go_wp2
  exact bodyPost_ret (v := .agg (wcells wzero)) (by simp [results, Tryz.results177, go_sem, wcells, wzero]) rfl ⟨by simp [codes, *], ((Below.refl w.heap.size w).alloc (Nat.le_refl _) _).alloc (by simp) _⟩

end Go.Proofs.YtbdgkkmbnahgiaaGreatDoor

namespace Go.Proofs.YtbdgkkmbnahgiaaGreatDoor
open Go.RowKit

def hasB (W : Nat → Nat) (c : Int) : Bool := decide (0 ≤ c) && decide (c < 256) && (W (c.toNat / 64)).testBit (c.toNat % 64)
theorem and_one_spells (x k : Nat) (hx : x < 18446744073709551616) : (bits BinOp.and IntKind.u64 (↑x / 2 ^ k) 1 == 1) = x.testBit k := by
  have e : ((x : Int) / 2 ^ k) = ((x / 2 ^ k : Nat) : Int) := by simp
  have h1 : x / 2 ^ k < 18446744073709551616 := Nat.lt_of_le_of_lt (Nat.div_le_self _ _) hx
  rw [e, show (1 : Int) = ((1 : Nat) : Int) from rfl, u64_and_nat _ _ h1 (by omega), Nat.and_one_is_mod, Nat.testBit_eq_decide_div_mod_eq]
  generalize x / 2 ^ k % 2 = z
  rw [Bool.eq_iff_iff, beq_iff_eq, decide_eq_true_iff]
  omega

set_option maxHeartbeats 400000 in
theorem has_any (W : Nat → Nat) (c : Int) (w : World) (hW : Wok W) :
    Calls Tryz.prog 178 #[.agg (wcells W), .int .i64 c] w fun e w' => e = .returned (.bool (hasB W c)) ∧ Below w.heap.size w w' := by
  have HW := Lib.hid hW; clear hW
  by_cases h0 : 0 ≤ c
  · by_cases h1 : c < 256
    · obtain ⟨n, rfl⟩ := Int.eq_ofNat_of_zero_le h0
      have hn : n < 256 := by omega
      have hbk := Bk.fresh w 195 (wcells W)
      have hcell : (w.alloc (.cells (wcells W) 195)).cell? ⟨w.heap.size, n / 64, none⟩ = some (.int .u64 (W (n / 64))) := by
        rw [hbk.cell, wcell_at _ _ hn]
      clear hbk
      have hfin : hasB W n = (bits BinOp.and IntKind.u64 (↑(W (n / 64)) / 2 ^ (n % 64)) 1 == 1) := by
        rw [and_one_spells _ _ (HW.out _)]; simp [hasB, h0, h1]
      have HF := Lib.hid hfin; clear hfin
      go_enter Tryz.func178, Tryz.ntmps178
      go_wp2
      go_ret
      exact ⟨by rw [HF.out]; rfl, (Below.refl _ _).alloc (Nat.le_refl _) _⟩
    · have hfin : hasB W c = false := by simp [hasB, h1]
      have HF := Lib.hid hfin; clear hfin
      go_enter Tryz.func178, Tryz.ntmps178
      go_wp2
      go_ret
      exact ⟨by rw [HF.out]; rfl, (Below.refl _ _).alloc (Nat.le_refl _) _⟩
  · have hfin : hasB W c = false := by simp [hasB, h0]
    have HF := Lib.hid hfin; clear hfin
    go_enter Tryz.func178, Tryz.ntmps178
    go_wp2
    go_ret
    exact ⟨by rw [HF.out]; rfl, (Below.refl _ _).alloc (Nat.le_refl _) _⟩

def may (kind c : Int) : Bool := hasB (codes kind) c
theorem codes_ok (kind : Int) : Wok (codes kind) := by
  unfold codes
  repeat' split
  all_goals first | exact wzero_ok | exact wl_ok _ | exact upto_ok (upto_ok (wl_ok _) _ _) _ _

set_option maxHeartbeats 400000 in
theorem may_any (kind c : Int) (w : World) :
    Calls Tryz.prog 124 #[.int .i64 kind, .int .i64 c] w fun e w' => e = .returned (.bool (may kind c)) ∧ Below w.heap.size w w' := by
  go_enter Tryz.func124, Tryz.ntmps124
  go_wp2_with fail
  refine (codes_any kind w).mono ?_
  rintro e w1 ⟨rfl, hb1⟩
  go_wp2_with fail
  refine (has_any (codes kind) c w1 (codes_ok kind)).mono ?_
  rintro e w2 ⟨rfl, hb2⟩
  go_wp2
  go_ret
  exact ⟨rfl, hb1.trans (hb2.mono hb1.size)⟩

def retB (c : Int) : Bool := decide (0 ≤ c) && decide (c ≤ 5)
set_option maxHeartbeats 400000 in
theorem return_any (c : Int) (w : World) :
    Calls Tryz.prog 367 #[.int .i64 c] w fun e w' => e = .returned (.bool (retB c)) ∧ w = w' := by
  go_enter Tryz.func367, Tryz.ntmps367
  go_wp2
  all_goals
    go_ret
    refine ⟨?_, rfl⟩
    (try simp [retB]) <;> omega

def grantB (c : Int) : Bool := (c == 0) || (c == 1) || (c == 2) || (c == 128)
set_option maxHeartbeats 400000 in
theorem grant_any (c : Int) (w : World) :
    Calls Tryz.prog 123 #[.int .i64 c] w fun e w' => e = .returned (.bool (grantB c)) ∧ w = w' := by
  go_enter Tryz.func123, Tryz.ntmps123
  go_wp2
  all_goals
    go_ret
    simp_all [grantB]

def to5 (c : Int) : Int × Bool :=
  if c = 0 then (0, true) else if c = 1 then (132, true) else if c = 2 then (133, true) else if c = 3 then (136, true)
  else if c = 4 then (134, true) else if c = 5 then (135, true) else (0, false)
/-- The first old code from k on whose new one is c. -/
def old (c : Int) : Option Nat := (List.range 6).find? fun k => (to5 k).1 == c
end Go.Proofs.YtbdgkkmbnahgiaaGreatDoor

namespace Go.Proofs.YtbdgkkmbnahgiaaGreatDoor
open Go.RowKit

theorem may_range {kind c : Int} (h : may kind c = true) : 0 ≤ c ∧ c < 256 := by
  unfold may hasB at h
  simp only [Bool.and_eq_true, decide_eq_true_iff] at h
  exact h.1
end Go.Proofs.YtbdgkkmbnahgiaaGreatDoor

namespace Go.Proofs.YtbdgkkmbnahgiaaGreatDoor
open Go.RowKit

theorem info_int : (Tryz.prog.info? 3).map (fun i => (i.zero, i.size, i.bytes)) = some (some (.int .i64 0), 1, 8) := by kernel_rfl
end Go.Proofs.YtbdgkkmbnahgiaaGreatDoor

namespace Go.Proofs.YtbdgkkmbnahgiaaGreatDoor
open Go.RowKit
attribute [local go_sem ↓] to_ldPk to_bxPk to_bdPk to_alPk to_stPk
attribute [local go_sem] run_bxPk run_bxPk_agg ld_fresh run_alPk run_bd0 run_bdK run_bdKI run_bdKIC run_bdKC run_bdKICP run_stPk_fresh pkC_0 pkC_1 pkC_2 pkC_3 pkC_4 pkC_5 pkC_6 pkC_7 pkC_8 pkC_9 pkC_10 pkC_11 pkC_12 pkC_13 pkC_14 pkC_15 pkC_16 pkC_17 pkC_18 pkC_19 pkC_20 pkC_21 pkC_22 pkC_23 pkC_24

/-- Such a version, such a kind. -/
def ackK (v k : Int) : Bool := decide ((v = 4 ∨ v = 5) ∧ 4 ≤ k ∧ k ≤ 7)
set_option maxHeartbeats 400000 in
set_option maxRecDepth 10000 in
theorem ackKnown_any (v k : Int) (w : World) : Calls Tryz.prog 270 #[.int .i64 v, .int .i64 k] w fun e w' => e = .returned (.bool (ackK v k)) ∧ w = w' := by
  go_enter Tryz.func270, Tryz.ntmps270
  go_wp2
  all_goals
    go_ret
    refine ⟨ret_bool ?_, rfl⟩
    unfold ackK
    simp_all <;> omega

/-- A packet with nothing but what an acknowledgement may have. -/
def ackP (p : Pk) : Pk := { pk0 with kind := p.kind, id := p.id, code := p.code, props := p.props }
def ackH (h : Hs) : Hs := { hs0 with props := h.props }
def ackE (v : Int) (p : Pk) : Int :=
  if ackK v p.kind = false ∨ p.id ≤ 0 ∨ 65536 ≤ p.id ∨ may p.kind p.code = false then 2
  else if v = 4 ∧ (p.code ≠ 0 ∨ p.props.length ≠ 0) then 2
  else if p ≠ ackP p then 2
  else (bytesS p.kind p.props).2
theorem ackIn {w : World} {B : Nat} {p : Pk} {h : Hs} (x : PkIn w B p h) : PkIn w B (ackP p) (ackH h) := ⟨Rd.nil _ _ _ _, Rd.nil _ _ _ _, Rd.nil _ _ _ _, x.props, Nat.zero_le _, Nat.zero_le _, Nat.zero_le _, x.caps.2.2.2⟩
theorem PkOk.len {p : Pk} (x : PkOk p) : PkLen p := by
  obtain ⟨h1, h2, h3, h4⟩ := x.lens
  exact ⟨by omega, by omega, by omega, by omega⟩
theorem ackLen {p : Pk} (x : PkLen p) : PkLen (ackP p) := ⟨Nat.zero_le _, Nat.zero_le _, Nat.zero_le _, x.2.2.2⟩

set_option maxHeartbeats 2000000 in
set_option maxRecDepth 10000 in
theorem ackValid_any (v : Int) (p : Pk) (h : Hs) (w : World) (ip : PkIn w w.heap.size p h) (ok : PkOk p) :
    Calls Tryz.prog 269 #[.int .i64 v, pkV p h] w fun e w' => e = .returned (.int .i64 (ackE v p)) ∧ Below w.heap.size w w' := by
  have IP := Lib.hid ip; have OK := Lib.hid ok; clear ip ok
  have HB := Lib.hid ((Below.refl w.heap.size w).alloc (Nat.le_refl _) (.cells (pkC p h) PkT))
  have HK := Lib.hid (Bk.fresh w PkT (pkC p h))
  have HE : Hid (ackE v p = if ackK v p.kind = false ∨ p.id ≤ 0 ∨ 65536 ≤ p.id ∨ may p.kind p.code = false then 2 else if v = 4 ∧ (p.code ≠ 0 ∨ p.props.length ≠ 0) then 2 else if p ≠ ackP p then 2 else (bytesS p.kind p.props).2) := Lib.hid rfl
  go_enter Tryz.func269, Tryz.ntmps269
  go_wp2_with fail
  refine (ackKnown_any v p.kind _).mono ?_
  rintro e w1 ⟨rfl, rfl⟩
  cases hk : ackK v p.kind
  · have HX : Hid (ackE v p = 2) := Lib.hid (by rw [HE.out, if_pos (.inl hk)])
    go_wp2
    go_ret
    exact ⟨by rw [HX.out]; rfl, HB.out⟩
  · by_cases h1 : p.id ≤ 0
    · have HX : Hid (ackE v p = 2) := Lib.hid (by rw [HE.out, if_pos (.inr (.inl h1))])
      go_wp2
      go_ret
      exact ⟨by rw [HX.out]; rfl, HB.out⟩
    · have d1 : decide (p.id ≤ 0) = false := decide_eq_false h1
      have d1' : 0 < p.id := by omega
      by_cases h2 : 65536 ≤ p.id
      · have HX : Hid (ackE v p = 2) := Lib.hid (by rw [HE.out, if_pos (.inr (.inr (.inl h2)))])
        clear h1
        go_wp2
        go_ret
        exact ⟨by rw [HX.out]; rfl, HB.out⟩
      · have d2 : decide (65536 ≤ p.id) = false := decide_eq_false h2
        have d2' : p.id < 65536 := by omega
        have H12 := Lib.hid (And.intro h1 h2)
        clear h1 h2
        go_wp2_with fail
        refine (may_any p.kind p.code _).mono ?_
        rintro e w1 ⟨rfl, hb⟩
        have HB1 := Lib.hid (HB.out.trans (hb.mono HB.out.size)); have HK1 := Lib.hid (HK.out.below hb HK.out.lt)
        clear hb
        have k1 := fun i => HK1.out.cell i
        cases hm : may p.kind p.code
        · have HX : Hid (ackE v p = 2) := Lib.hid (by rw [HE.out, if_pos (.inr (.inr (.inr hm)))])
          clear hm
          go_wp2
          go_ret
          exact ⟨by rw [HX.out]; rfl, HB1.out⟩
        · have HE2 : Hid (ackE v p = if v = 4 ∧ (p.code ≠ 0 ∨ p.props.length ≠ 0) then 2 else if p ≠ ackP p then 2 else (bytesS p.kind p.props).2) := Lib.hid (by
            rw [HE.out, if_neg]
            rintro (x | x | x | x)
            · rw [hk] at x; cases x
            · have := H12.out.1; omega
            · have := H12.out.2; omega
            · rw [hm] at x; cases x)
          clear hm hk HE
          by_cases h4 : v = 4 ∧ (p.code ≠ 0 ∨ p.props.length ≠ 0)
          · have HX : Hid (ackE v p = 2) := Lib.hid (by rw [HE2.out, if_pos h4])
            obtain ⟨rfl, h5⟩ := h4
            by_cases hc : p.code = 0
            · have e1 : (p.code != 0) = false := by simpa using hc
              have e2 : ((p.props.length : Int) != 0) = true := bne_iff_ne.2 (by omega)
              clear hc h5
              go_wp2
              go_ret
              exact ⟨by rw [HX.out]; rfl, HB1.out⟩
            · have e1 : (p.code != 0) = true := bne_iff_ne.2 hc
              clear hc h5
              go_wp2
              go_ret
              exact ⟨by rw [HX.out]; rfl, HB1.out⟩
          · have HE3 : Hid (ackE v p = if p ≠ ackP p then 2 else (bytesS p.kind p.props).2) := Lib.hid (by rw [HE2.out, if_neg h4])
            have HL := Lib.hid (ld_bk HK1.out)
            by_cases hv : v = 4
            · have hc : p.code = 0 := by
                rcases Decidable.em (p.code = 0) with x | x
                · exact x
                · exact absurd ⟨hv, .inl x⟩ h4
              have hn : p.props.length = 0 := by
                rcases Decidable.em (p.props.length = 0) with x | x
                · exact x
                · exact absurd ⟨hv, .inr x⟩ h4
              have e0 : (v == 4) = true := beq_iff_eq.2 hv
              have e1 : (p.code != 0) = false := by simpa using hc
              have e2 : ((p.props.length : Int) != 0) = false := by simpa using (show (p.props.length : Int) = 0 by omega)
              have hl := HL.out
              clear h4 hv hc hn HE2
              go_wp2_with fail
              refine (same_any p (ackP p) h (ackH h) _ ((IP.out.below HB1.out).wider HB1.out.size) (ackIn ((IP.out.below HB1.out).wider HB1.out.size)) OK.out.len (ackLen OK.out.len)).mono ?_
              rintro e w2 ⟨rfl, hb⟩
              have HB2 := Lib.hid (HB1.out.trans (hb.mono HB1.out.size)); have HK2 := Lib.hid (HK1.out.below hb HK1.out.lt)
              clear hb k1 hl
              have k2 := fun i => HK2.out.cell i
              by_cases hs : p = ackP p
              · rw [decide_eq_true hs]
                have HX : Hid (ackE v p = (bytesS p.kind p.props).2) := Lib.hid (by rw [HE3.out, if_neg (fun x => x hs)])
                clear hs
                go_wp2_with fail
                refine (validP_n p.kind p.props _ rfl OK.out.props h.props.a h.props.c _ ((IP.out.below HB2.out).wider HB2.out.size).props OK.out.len.2.2.2).mono ?_
                rintro e w3 ⟨rfl, hb⟩
                have HB3 := Lib.hid (HB2.out.trans (hb.mono HB2.out.size))
                clear hb k2
                go_wp2
                go_ret
                exact ⟨by rw [HX.out]; rfl, HB3.out⟩
              · rw [decide_eq_false hs]
                have HX : Hid (ackE v p = 2) := Lib.hid (by rw [HE3.out, if_pos hs])
                clear hs
                go_wp2
                go_ret
                exact ⟨by rw [HX.out]; rfl, HB2.out⟩
            · have e0 : (v == 4) = false := beq_eq_false_iff_ne.2 hv
              have hl := HL.out
              clear h4 hv HE2
              go_wp2_with fail
              refine (same_any p (ackP p) h (ackH h) _ ((IP.out.below HB1.out).wider HB1.out.size) (ackIn ((IP.out.below HB1.out).wider HB1.out.size)) OK.out.len (ackLen OK.out.len)).mono ?_
              rintro e w2 ⟨rfl, hb⟩
              have HB2 := Lib.hid (HB1.out.trans (hb.mono HB1.out.size)); have HK2 := Lib.hid (HK1.out.below hb HK1.out.lt)
              clear hb k1 hl
              have k2 := fun i => HK2.out.cell i
              by_cases hs : p = ackP p
              · rw [decide_eq_true hs]
                have HX : Hid (ackE v p = (bytesS p.kind p.props).2) := Lib.hid (by rw [HE3.out, if_neg (fun x => x hs)])
                clear hs
                go_wp2_with fail
                refine (validP_n p.kind p.props _ rfl OK.out.props h.props.a h.props.c _ ((IP.out.below HB2.out).wider HB2.out.size).props OK.out.len.2.2.2).mono ?_
                rintro e w3 ⟨rfl, hb⟩
                have HB3 := Lib.hid (HB2.out.trans (hb.mono HB2.out.size))
                clear hb k2
                go_wp2
                go_ret
                exact ⟨by rw [HX.out]; rfl, HB3.out⟩
              · rw [decide_eq_false hs]
                have HX : Hid (ackE v p = 2) := Lib.hid (by rw [HE3.out, if_pos hs])
                clear hs
                go_wp2
                go_ret
                exact ⟨by rw [HX.out]; rfl, HB2.out⟩
end Go.Proofs.YtbdgkkmbnahgiaaGreatDoor

namespace Go.Proofs.YtbdgkkmbnahgiaaGreatDoor
open Go.RowKit
attribute [local go_sem ↓] to_ldPk to_bxPk to_bdPk to_alPk to_stPk
attribute [local go_sem] run_bxPk run_bxPk_agg ld_fresh run_alPk run_bd0 run_bdK run_bdKI run_bdKIC run_bdKC run_bdKICP run_stPk_fresh pkC_0 pkC_1 pkC_2 pkC_3 pkC_4 pkC_5 pkC_6 pkC_7 pkC_8 pkC_9 pkC_10 pkC_11 pkC_12 pkC_13 pkC_14 pkC_15 pkC_16 pkC_17 pkC_18 pkC_19 pkC_20 pkC_21 pkC_22 pkC_23 pkC_24


structure AckGood (v : Int) (p : Pk) : Prop where
  k : ackK v p.kind = true
  id1 : 0 < p.id
  id2 : p.id < 65536
  may : may p.kind p.code = true
  c1 : 0 ≤ p.code
  c2 : p.code < 256
  old : v = 4 → p.code = 0 ∧ p.props = []
  same : p = ackP p
  bytes : (bytesS p.kind p.props).2 = 0
theorem ackE_good {v : Int} {p : Pk} (x : ackE v p = 0) : AckGood v p := by
  unfold ackE at x
  split at x
  · cases x
  · next h =>
    split at x
    · cases x
    · next h4 =>
      split at x
      · cases x
      · next hs =>
        have hm : Go.Proofs.YtbdgkkmbnahgiaaGreatDoor.may p.kind p.code = true := by
          cases e : Go.Proofs.YtbdgkkmbnahgiaaGreatDoor.may p.kind p.code
          · exact absurd (.inr (.inr (.inr e))) h
          · rfl
        have hr := may_range hm
        refine ⟨?_, ?_, ?_, hm, hr.1, hr.2, ?_, Decidable.not_not.1 hs, x⟩
        · cases e : ackK v p.kind
          · exact absurd (.inl e) h
          · rfl
        · exact Int.not_le.1 fun e => h (.inr (.inl e))
        · exact Int.not_le.1 fun e => h (.inr (.inr (.inl e)))
        · intro hv
          refine ⟨Decidable.not_not.1 fun e => h4 ⟨hv, .inl e⟩, ?_⟩
          have := Decidable.not_not.1 fun e => h4 ⟨hv, .inr e⟩
          exact List.eq_nil_of_length_eq_zero this
theorem AckGood.ok {v : Int} {p : Pk} (x : AckGood v p) : ackE v p = 0 := by
  unfold ackE
  rw [if_neg, if_neg, if_neg]
  · exact x.bytes
  · exact fun h => h x.same
  · rintro ⟨h1, h2⟩
    have := x.old h1
    rcases h2 with h2 | h2
    · exact h2 this.1
    · rw [this.2] at h2; exact h2 rfl
  · rintro (h | h | h | h)
    · rw [x.k] at h; cases h
    · have := x.id1; omega
    · have := x.id2; omega
    · rw [x.may] at h; cases h

/-- A body. -/
def ackT (p : Pk) : List UInt8 := if p.code = 0 ∧ p.props.length = 0 then [] else putL p.code.toNat 1 ++ (if p.props.length = 0 then [] else (bytesS p.kind p.props).1)
def ackB (v : Int) (p : Pk) : List UInt8 × Int := if ackE v p = 0 then (putL p.id.toNat 2 ++ ackT p, 0) else ([], ackE v p)
theorem ap2 (a b : List UInt8) : (⟨a.toArray⟩ : ByteArray) ++ ⟨b.toArray⟩ = ⟨(a ++ b).toArray⟩ := by
  apply ByteArray.ext
  simp
theorem ap3 (a b : List UInt8) (c : List UInt8) : (⟨(a ++ b).toArray⟩ : ByteArray) ++ ⟨c.toArray⟩ = ⟨(a ++ (b ++ c)).toArray⟩ := by
  rw [ap2, List.append_assoc]

set_option maxHeartbeats 2000000 in
set_option maxRecDepth 10000 in
theorem ackBody_any (v : Int) (p : Pk) (h : Hs) (w : World) (ip : PkIn w w.heap.size p h) (ok : PkOk p) :
    Calls Tryz.prog 195 #[.int .i64 v, pkV p h] w fun e w' => e = .returned (.tuple #[.string ⟨(ackB v p).1.toArray⟩, .int .i64 (ackB v p).2]) ∧ Below w.heap.size w w' := by
  have IP := Lib.hid ip; have OK := Lib.hid ok; clear ip ok
  have HB := Lib.hid ((Below.refl w.heap.size w).alloc (Nat.le_refl _) (.cells (pkC p h) PkT))
  have HK := Lib.hid (Bk.fresh w PkT (pkC p h))
  have HE : Hid (ackB v p = if ackE v p = 0 then (putL p.id.toNat 2 ++ ackT p, 0) else ([], ackE v p)) := Lib.hid rfl
  go_enter Tryz.func195, Tryz.ntmps195
  go_wp2_with fail
  refine (ackValid_any v p h _ ((IP.out.below HB.out).wider HB.out.size) OK.out).mono ?_
  rintro e w1 ⟨rfl, hb⟩
  have HB1 := Lib.hid (HB.out.trans (hb.mono HB.out.size)); have HK1 := Lib.hid (HK.out.below hb HK.out.lt)
  clear hb
  have k1 := fun i => HK1.out.cell i
  by_cases he : ackE v p = 0
  · have HG := Lib.hid (ackE_good he)
    obtain ⟨n, hn, hw1⟩ : ∃ n : Nat, Hid (p.id.toNat = n) ∧ IntKind.u64.wrap p.id = (n : Int) := ⟨_, Lib.hid rfl, by rw [IntKind.wrap_u64]; have := HG.out.id1; have := HG.out.id2; omega⟩
    obtain ⟨m, hm, hw2⟩ : ∃ m : Nat, Hid (p.code.toNat = m) ∧ IntKind.u64.wrap p.code = (m : Int) := ⟨_, Lib.hid rfl, by rw [IntKind.wrap_u64]; have := HG.out.c1; have := HG.out.c2; omega⟩
    have e0 : (ackE v p != 0) = false := by simpa using he
    have HX : Hid (ackB v p = (putL n 2 ++ ackT p, 0)) := Lib.hid (by rw [HE.out, if_pos he, hn.out])
    clear he
    go_wp2_with fail
    refine (put_any n 2 _ (by have := hn.out; have := HG.out.id2; have := HG.out.id1; omega) (by omega) (by omega)).mono ?_
    rintro e w2 ⟨rfl, hb⟩
    have HB2 := Lib.hid (HB1.out.trans (hb.mono HB1.out.size)); have HK2 := Lib.hid (HK1.out.below hb HK1.out.lt)
    clear hb k1 e0 hw1
    have k2 := fun i => HK2.out.cell i
    by_cases hz : p.code = 0 ∧ p.props.length = 0
    · have HT : Hid (ackT p = []) := Lib.hid (by rw [ackT, if_pos hz])
      have e1 : (p.code != 0) = false := by simpa using hz.1
      have e2 : ((p.props.length : Int) != 0) = false := by simpa using (show (p.props.length : Int) = 0 by omega)
      clear hz
      go_wp2
      go_ret2
      exact ⟨by (rw [HX.out, HT.out, List.append_nil]; first | done | rfl), HB2.out⟩
    · by_cases hp : p.props.length = 0
      · have HT : Hid (ackT p = putL m 1) := Lib.hid (by rw [← hm.out, ackT, if_neg hz, if_pos hp, List.append_nil])
        have e1 : (p.code != 0) = true := bne_iff_ne.2 fun x => hz ⟨x, hp⟩
        have e2 : ((p.props.length : Int) != 0) = false := by simpa using (show (p.props.length : Int) = 0 by omega)
        clear hz hp
        go_wp2_with fail
        refine (put_any m 1 _ (by have := hm.out; have := HG.out.c1; have := HG.out.c2; omega) (by omega) (by omega)).mono ?_
        rintro e w3 ⟨rfl, hb⟩
        have HB3 := Lib.hid (HB2.out.trans (hb.mono HB2.out.size)); have HK3 := Lib.hid (HK2.out.below hb HK2.out.lt)
        clear hb k2
        have k3 := fun i => HK3.out.cell i
        have hs1 : ¬ (9223372036854775807 < (putL n 2).length + (putL m 1).length) := by rw [putL_len, putL_len]; decide
        go_wp2
        go_ret2
        exact ⟨by (rw [HX.out, HT.out, ← ap2]; first | done | rfl), HB3.out⟩
      · have HT : Hid (ackT p = putL m 1 ++ (bytesS p.kind p.props).1) := Lib.hid (by rw [← hm.out, ackT, if_neg hz, if_neg hp])
        have e2 : ((p.props.length : Int) != 0) = true := bne_iff_ne.2 (by omega)
        have e1 : (p.code != 0) = true ∨ (p.code != 0) = false := by cases (p.code != 0) <;> simp
        clear hz hp
        rcases e1 with e1 | e1
        all_goals
          go_wp2_with fail
          refine (put_any m 1 _ (by have := hm.out; have := HG.out.c1; have := HG.out.c2; omega) (by omega) (by omega)).mono ?_
          rintro e w3 ⟨rfl, hb⟩
          have HB3 := Lib.hid (HB2.out.trans (hb.mono HB2.out.size)); have HK3 := Lib.hid (HK2.out.below hb HK2.out.lt)
          clear hb
          have k3 := fun i => HK3.out.cell i
          have hs1 : ¬ (9223372036854775807 < (putL n 2).length + (putL m 1).length) := by rw [putL_len, putL_len]; decide
          have hs2 : ¬ (9223372036854775807 < (putL n 2).length + (putL m 1).length + (bytesS p.kind p.props).fst.length) := by rw [putL_len, putL_len]; have := (bytesS_size p.kind p.props HG.out.bytes).2; omega
          go_wp2_with fail
          refine (bytesP_n p.kind p.props _ rfl OK.out.props h.props.a h.props.c _ ((IP.out.below HB3.out).wider HB3.out.size).props OK.out.len.2.2.2).mono ?_
          rintro e w4 ⟨rfl, hb⟩
          have HB4 := Lib.hid (HB3.out.trans (hb.mono HB3.out.size))
          clear hb
          go_wp2
          go_ret2
          exact ⟨by (rw [HX.out, HT.out, ← ap3, ← ap2]; first | done | rfl), HB4.out⟩
  · have e0 : (ackE v p != 0) = true := bne_iff_ne.2 he
    have HX : Hid (ackB v p = ([], ackE v p)) := Lib.hid (by rw [HE.out, if_neg he])
    clear he
    go_wp2
    go_ret2
    exact ⟨by rw [HX.out]; rfl, HB1.out⟩
end Go.Proofs.YtbdgkkmbnahgiaaGreatDoor

namespace Go.Proofs.YtbdgkkmbnahgiaaGreatDoor
open Go.RowKit
attribute [local go_sem ↓] to_ldPk to_bxPk to_bdPk to_alPk to_stPk
attribute [local go_sem] run_bxPk run_bxPk_agg ld_fresh run_alPk run_bd0 run_bdK run_bdKI run_bdKIC run_bdKC run_bdKICP run_stPk_fresh pkC_0 pkC_1 pkC_2 pkC_3 pkC_4 pkC_5 pkC_6 pkC_7 pkC_8 pkC_9 pkC_10 pkC_11 pkC_12 pkC_13 pkC_14 pkC_15 pkC_16 pkC_17 pkC_18 pkC_19 pkC_20 pkC_21 pkC_22 pkC_23 pkC_24


def ackQ (k i c : Int) : Pk := { pk0 with kind := k, id := i, code := c }
theorem PkIn.zero (w : World) (B : Nat) (k i c : Int) : PkIn w B (ackQ k i c) hs0 := ⟨Rd.nil _ _ _ _, Rd.nil _ _ _ _, Rd.nil _ _ _ _, Rd.nil _ _ _ _, Nat.zero_le _, Nat.zero_le _, Nat.zero_le _, Nat.zero_le _⟩
theorem PkOk.zero (k i c : Int) : PkOk (ackQ k i c) := by
  refine ⟨?_, ?_, ?_, ?_, ?_⟩
  · intro q hq; cases hq
  · intro q hq; cases hq
  · intro q hq; cases hq
  · exact ⟨Nat.zero_le _, Nat.zero_le _, Nat.zero_le _, Nat.zero_le _, Nat.zero_le _, Nat.zero_le _, Nat.zero_le _⟩
  · exact ⟨Nat.zero_le _, Nat.zero_le _, Nat.zero_le _, Nat.zero_le _⟩
theorem bytesS_none (k : Int) : bytesS k [] = ([0], 0) := by
  show bytesGo k [] (fun _ => 0) [] = _
  rfl
theorem put_one (i : Int) (h : 0 ≤ i) (h2 : i < 256) : ∃ a : UInt8, putL i.toNat 1 = [a] ∧ (a.toNat : Int) = i := by
  refine ⟨UInt8.ofNat (i.toNat / 2 ^ 0), rfl, ?_⟩
  have e2 : (UInt8.ofNat (i.toNat / 2 ^ 0)).toNat = i.toNat % 256 := by simp
  rw [e2]
  omega

end Go.Proofs.YtbdgkkmbnahgiaaGreatDoor

namespace Go.Proofs.YtbdgkkmbnahgiaaGreatDoor
open Go.RowKit
attribute [local go_sem ↓] to_ldPk to_bxPk to_bdPk to_alPk to_stPk
attribute [local go_sem] run_bxPk run_bxPk_agg ld_fresh run_alPk run_bd0 run_bdK run_bdKI run_bdKIC run_bdKC run_bdKICP run_stPk_fresh pkC_0 pkC_1 pkC_2 pkC_3 pkC_4 pkC_5 pkC_6 pkC_7 pkC_8 pkC_9 pkC_10 pkC_11 pkC_12 pkC_13 pkC_14 pkC_15 pkC_16 pkC_17 pkC_18 pkC_19 pkC_20 pkC_21 pkC_22 pkC_23 pkC_24


theorem lv_bk {w : World} {g : Nat} {p : Pk} {h : Hs} (hb : Bk w g PkT (pkC p h)) : (loadVar PkT ⟨g, 0, none⟩).run Tryz.prog w = .ok (pkV p h) w := by
  have hl := ld_bk hb
  unfold ldPk at hl
  generalize pkV p h = V at hl ⊢
  simpa only [Instr.loadAt, Instr.sureAddr, Sem.run_bind, Sem.run_pure, Result.andThen_ok] using hl
theorem then_ok {A B : Type} (r : Result A) (v : A) (w : World) (f : A → World → Result B) (h : r = .ok v w) : r.andThen f = f v w := by rw [h]; rfl
set_option maxRecDepth 100000 in
theorem results_pk {fn : Func} {p u : Tmp} (hr : fn.results = #[.cell p PkT, .tmp u]) (tmps : Array Value) {w : World} {g : Nat} {q : Pk} {h : Hs} (hp : tmps.getD p undef = .pointer (some ⟨g, 0, none⟩)) (hb : Bk w g PkT (pkC q h)) :
    (results fn tmps).run Tryz.prog w = .ok (.tuple #[pkV q h, tmps.getD u undef]) w := by
  rw [results_cell_tmp hr, hp]
  have hl := lv_bk hb
  generalize pkV q h = V at hl ⊢
  exact then_ok _ (⟨g, 0, none⟩ : Addr) w _ rfl |>.trans (then_ok _ V w _ hl)
theorem below_put {B g : Nat} {w w' : World} (x : Below B w w') (hB : B ≤ w'.heap.size) (hg : B ≤ g) (q : Pk) (k : Hs) : Below B w (putPk w' g q k) := x.grown (putPk_mods w' g q k) hB (fun y hy => by cases hy; exact hg)

end Go.Proofs.YtbdgkkmbnahgiaaGreatDoor

namespace Go.Proofs.YtbdgkkmbnahgiaaGreatDoor
open Go.RowKit
set_option maxHeartbeats 1000000 in
set_option maxRecDepth 10000 in
theorem kitWill_any (x y : Wl) (hx hy : Hd) (w : World) (rx : Rd w w.heap.size 4 hx.a x.props.length (prs x.props)) (ry : Rd w w.heap.size 4 hy.a y.props.length (prs y.props)) (lx : x.props.length ≤ 4611686018427387904) (ly : y.props.length ≤ 4611686018427387904) :
    Calls Tryz.prog 68 #[wlV x hx, wlV y hy] w fun e w' => e = .returned (.bool (decide (x = y))) ∧ Below w.heap.size w w' := by
  obtain ⟨t, l, q, r, ps⟩ := x
  obtain ⟨t', l', q', r', ps'⟩ := y
  simp only at rx ry lx ly
  simp only [wlV, wlC]
  have RX := Lib.hid rx; have RY := Lib.hid ry; clear rx ry
  go_enter Tryz.func68, Tryz.ntmps68
  go_wp2_with (first | (refine (sameKit_any _ _ _ _ _ _ ps ps' _ rfl rfl (RX.out.two _ _) (RY.out.two _ _) lx ly).mono ?_; rintro e w2 ⟨rfl, hb2⟩))
  all_goals
    go_ret
    refine ⟨ret_bool (by simp_all [wl_eq_iff, toList_inj]), ?_⟩
    first | exact below_two_then hb2 | exact below_two _ _ _
end Go.Proofs.YtbdgkkmbnahgiaaGreatDoor

namespace Go.Proofs.YtbdgkkmbnahgiaaGreatDoor
open Go.RowKit
attribute [local go_sem ↓] to_ldPk to_bxPk to_bdPk to_alPk to_stPk
attribute [local go_sem] run_bxPk run_bxPk_agg ld_fresh run_alPk run_bd0 run_bdK run_bdKI run_bdKIC run_bdKC run_bdKICP run_stPk_fresh pkC_0 pkC_1 pkC_2 pkC_3 pkC_4 pkC_5 pkC_6 pkC_7 pkC_8 pkC_9 pkC_10 pkC_11 pkC_12 pkC_13 pkC_14 pkC_15 pkC_16 pkC_17 pkC_18 pkC_19 pkC_20 pkC_21 pkC_22 pkC_23 pkC_24


set_option maxHeartbeats 4000000 in
set_option maxRecDepth 100000 in
theorem samePk_any (p q : Pk) (h k : Hs) (w : World) (ip : PkIn w w.heap.size p h) (iq : PkIn w w.heap.size q k) (lp : PkLen p) (lq : PkLen q) :
    Calls Tryz.prog 14 #[pkV p h, pkV q k] w fun e w' => e = .returned (.bool (decide (p = q))) ∧ Below w.heap.size w w' := by
  have hb2 := below_two w (.cells (pkC p h) PkT) (.cells (pkC q k) PkT)
  have B1 : Bk ((w.alloc (.cells (pkC p h) PkT)).alloc (.cells (pkC q k) PkT)) w.heap.size PkT (pkC p h) := (Bk.fresh w PkT (pkC p h)).alloc _
  have B2 : Bk ((w.alloc (.cells (pkC p h) PkT)).alloc (.cells (pkC q k) PkT)) (w.heap.size + 1) PkT (pkC q k) := by
    simpa using Bk.fresh (w.alloc (.cells (pkC p h) PkT)) PkT (pkC q k)
  have HP := Lib.hid (And.intro ip (And.intro iq (And.intro lp lq)))
  have HB := Lib.hid hb2; have H1 := Lib.hid B1; have H2 := Lib.hid B2
  have HQ := Lib.hid (pk_eq_iff p q)
  clear ip iq lp lq hb2
  have k1 := fun i => B1.cell i
  have k2 := fun i => B2.cell i
  have c0 := kitWill_any p.will q.will h.wp k.wp _ (HP.out.1.next HB.out).wp (HP.out.2.1.next HB.out).wp HP.out.2.2.1.1 HP.out.2.2.2.1
  simp only [wlV, wlC] at c0
  clear B1 B2
  have C0 := Lib.hid c0; clear c0
  go_enter Tryz.func14, Tryz.ntmps14
  go_wp2_with fail
  refine (C0.out).mono ?_
  rintro e w1 ⟨rfl, hb⟩
  have HB1 := Lib.hid (HB.out.trans (hb.mono HB.out.size)); have H11 := Lib.hid (H1.out.below hb H1.out.lt); have H21 := Lib.hid (H2.out.below hb H2.out.lt)
  clear hb k1 k2
  have k1 := fun i => H11.out.cell i
  have k2 := fun i => H21.out.cell i
  by_cases d0 : p.will = q.will
  rotate_left
  · have HF : Hid (decide (p = q) = false) := Lib.hid (decide_eq_false (fun x => d0 (by rw [x])))
    rw [decide_eq_false d0]
    clear d0
    go_wp2
    go_ret
    exact ⟨by (rw [HF.out]; first | done | rfl), HB1.out⟩
  rw [decide_eq_true d0]
  have D0 := Lib.hid d0; clear d0
  go_wp2_with fail
  refine (sameI_any h.codes.a k.codes.a p.codes.length q.codes.length h.codes.c k.codes.c p.codes q.codes _ (HP.out.1.next HB1.out).codes (HP.out.2.1.next HB1.out).codes (Nat.le_trans HP.out.2.2.1.2.1 (by decide)) (Nat.le_trans HP.out.2.2.2.2.1 (by decide))).mono ?_
  rintro e w2 ⟨rfl, hb⟩
  have HB2 := Lib.hid (HB1.out.trans (hb.mono HB1.out.size)); have H12 := Lib.hid (H11.out.below hb H11.out.lt); have H22 := Lib.hid (H21.out.below hb H21.out.lt)
  clear hb k1 k2
  have k1 := fun i => H12.out.cell i
  have k2 := fun i => H22.out.cell i
  by_cases d1 : p.codes = q.codes
  rotate_left
  · have HF : Hid (decide (p = q) = false) := Lib.hid (decide_eq_false (fun x => d1 (by rw [x])))
    rw [decide_eq_false d1]
    clear d1
    go_wp2
    go_ret
    exact ⟨by (rw [HF.out]; first | done | rfl), HB2.out⟩
  rw [decide_eq_true d1]
  have D1 := Lib.hid d1; clear d1
  go_wp2_with fail
  refine (sameF_any h.filters.a k.filters.a p.filters.length q.filters.length h.filters.c k.filters.c p.filters q.filters _ rfl rfl (HP.out.1.next HB2.out).filters (HP.out.2.1.next HB2.out).filters HP.out.2.2.1.2.2.1 HP.out.2.2.2.2.2.1).mono ?_
  rintro e w3 ⟨rfl, hb⟩
  have HB3 := Lib.hid (HB2.out.trans (hb.mono HB2.out.size)); have H13 := Lib.hid (H12.out.below hb H12.out.lt); have H23 := Lib.hid (H22.out.below hb H22.out.lt)
  clear hb k1 k2
  have k1 := fun i => H13.out.cell i
  have k2 := fun i => H23.out.cell i
  by_cases d2 : p.filters = q.filters
  rotate_left
  · have HF : Hid (decide (p = q) = false) := Lib.hid (decide_eq_false (fun x => d2 (by rw [x])))
    rw [decide_eq_false d2]
    clear d2
    go_wp2
    go_ret
    exact ⟨by (rw [HF.out]; first | done | rfl), HB3.out⟩
  rw [decide_eq_true d2]
  have D2 := Lib.hid d2; clear d2
  go_wp2_with fail
  refine (sameKit_any h.props.a k.props.a p.props.length q.props.length h.props.c k.props.c p.props q.props _ rfl rfl (HP.out.1.next HB3.out).props (HP.out.2.1.next HB3.out).props HP.out.2.2.1.2.2.2 HP.out.2.2.2.2.2.2).mono ?_
  rintro e w4 ⟨rfl, hb⟩
  have HB4 := Lib.hid (HB3.out.trans (hb.mono HB3.out.size)); have H14 := Lib.hid (H13.out.below hb H13.out.lt); have H24 := Lib.hid (H23.out.below hb H23.out.lt)
  clear hb k1 k2
  have k1 := fun i => H14.out.cell i
  have k2 := fun i => H24.out.cell i
  by_cases d3 : p.props = q.props
  rotate_left
  · have HF : Hid (decide (p = q) = false) := Lib.hid (decide_eq_false (fun x => d3 (by rw [x])))
    rw [decide_eq_false d3]
    clear d3
    go_wp2
    go_ret
    exact ⟨by (rw [HF.out]; first | done | rfl), HB4.out⟩
  rw [decide_eq_true d3]
  have D3 := Lib.hid d3; clear d3
  go_wp2
  all_goals
    go_ret
    refine ⟨ret_bool ?_, HB4.out⟩
    have D0 := D0.out; have D1 := D1.out; have D2 := D2.out; have D3 := D3.out; have HQ := HQ.out
    clear HB HB1 HB2 HB3 HB4 k1 k2
    by_cases hpq : p = q
    · subst hpq
      simp_all
    · rw [decide_eq_false hpq]
      first | done | (rw [HQ] at hpq; clear HQ; simp_all [toList_inj])
end Go.Proofs.YtbdgkkmbnahgiaaGreatDoor

namespace Go.Proofs.YtbdgkkmbnahgiaaGreatDoor
open Go.RowKit
attribute [local go_sem ↓] to_ldPk to_bxPk to_bdPk to_alPk to_stPk
attribute [local go_sem] run_bxPk run_bxPk_agg ld_fresh run_alPk run_bd0 run_bdK run_bdKI run_bdKIC run_bdKC run_bdKICP run_stPk_fresh pkC_0 pkC_1 pkC_2 pkC_3 pkC_4 pkC_5 pkC_6 pkC_7 pkC_8 pkC_9 pkC_10 pkC_11 pkC_12 pkC_13 pkC_14 pkC_15 pkC_16 pkC_17 pkC_18 pkC_19 pkC_20 pkC_21 pkC_22 pkC_23 pkC_24

/-- Nothing in a packet. -/
theorem pk0_in (w : World) (B : Nat) : PkIn w B pk0 hs0 := ⟨Rd.nil _ _ _ _, Rd.nil _ _ _ _, Rd.nil _ _ _ _, Rd.nil _ _ _ _, Nat.zero_le _, Nat.zero_le _, Nat.zero_le _, Nat.zero_le _⟩
end Go.Proofs.YtbdgkkmbnahgiaaGreatDoor

