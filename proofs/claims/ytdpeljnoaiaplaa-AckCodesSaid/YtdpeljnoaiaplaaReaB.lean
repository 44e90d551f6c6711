/- Walks of the reason functions (trial). -/
import Derived.Test.YtdpeljnoaiaplaaProg
import Derived.Test.YtdpeljnoaiaplaaKit
namespace Go.Proofs.Ytdpeljnoaiaplaa
open Go.RowKit

@[reducible] def ints (l : List Nat) : List Value := l.map fun c : Nat => Value.int .i64 (c : Int)
def wcells (W : Nat → Nat) : Array Value := #[.int .u64 (W 0), .int .u64 (W 1), .int .u64 (W 2), .int .u64 (W 3)]
theorem wcells_def (W : Nat → Nat) : wcells W = #[.int .u64 (W 0), .int .u64 (W 1), .int .u64 (W 2), .int .u64 (W 3)] := rfl
def wput (W : Nat → Nat) (c : Nat) : Nat → Nat := fun i => if i = c / 64 then W i ||| 2 ^ (c % 64) else W i
theorem wcell_at (W : Nat → Nat) (c : Nat) (h : c < 256) : (wcells W)[c / 64]? = some (.int .u64 (W (c / 64))) := by
  obtain h | h | h | h : c / 64 = 0 ∨ c / 64 = 1 ∨ c / 64 = 2 ∨ c / 64 = 3 := by omega
  all_goals rw [h]; rfl



def Wok (W : Nat → Nat) : Prop := ∀ i, W i < 18446744073709551616
theorem wput_ok {W : Nat → Nat} (h : Wok W) (c : Nat) : Wok (wput W c) := by
  intro i
  unfold wput
  split
  · exact Nat.or_lt_two_pow (n := 64) (h i) (Nat.lt_of_lt_of_le (Nat.pow_lt_pow_right (by omega) (Nat.mod_lt c (by omega) : c % 64 < 64)) (Nat.le_refl _))
  · exact h i
theorem wput_cells (W : Nat → Nat) (c : Nat) (hc : c < 256) : (wcells W).setIfInBounds (c / 64) (.int .u64 ((W (c / 64) ||| 2 ^ (c % 64) : Nat) : Int)) = wcells (wput W c) := by
  obtain h | h | h | h : c / 64 = 0 ∨ c / 64 = 1 ∨ c / 64 = 2 ∨ c / 64 = 3 := by omega
  all_goals
    rw [h]
    simp [wcells, wput, h]
theorem foldl_ok (l : List Nat) : ∀ {W : Nat → Nat}, Wok W → Wok (l.foldl wput W) := by
  induction l with
  | nil => intro W h; exact h
  | cons c l ih => intro W h; exact ih (wput_ok h c)
theorem or_spells {W : Nat → Nat} (h : Wok W) (c : Nat) : bits BinOp.or IntKind.u64 (↑(W (c / 64))) (IntKind.u64.wrap (2 ^ (c % 64))) = ((W (c / 64) ||| 2 ^ (c % 64) : Nat) : Int) := by
  have h2 : (2 : Nat) ^ (c % 64) < 18446744073709551616 := Nat.lt_of_lt_of_le (Nat.pow_lt_pow_right (by omega) (Nat.mod_lt c (by omega) : c % 64 < 64)) (Nat.le_refl _)
  have e : IntKind.u64.wrap ((2 : Int) ^ (c % 64)) = ((2 ^ (c % 64) : Nat) : Int) := by
    rw [IntKind.wrap_u64]
    have : ((2 : Int) ^ (c % 64)) = ((2 ^ (c % 64) : Nat) : Int) := by simp
    rw [this]
    have h3 : ((2 ^ (c % 64) : Nat) : Int) < ((18446744073709551616 : Nat) : Int) := Int.ofNat_lt.2 h2
    have h4 : (0 : Int) ≤ ((2 ^ (c % 64) : Nat) : Int) := Int.natCast_nonneg _
    generalize ((2 ^ (c % 64) : Nat) : Int) = z at *
    omega
  rw [e, u64_or_nat _ _ (h _) h2]
theorem take_succ_foldl {l : List Nat} {k : Nat} (h : k < l.length) (W : Nat → Nat) : (l.take (k + 1)).foldl wput W = wput ((l.take k).foldl wput W) l[k] := by
  rw [List.take_succ_eq_append_getElem h, List.foldl_append]; rfl

set_option maxHeartbeats 400000 in
theorem with_any (W : Nat → Nat) (A : Option Addr) (l : List Nat) (cap : Nat) (w : World) (hW : Wok W) (hl : ∀ c ∈ l, c < 256) (hn : l.length ≤ 1000)
    (hr : Rd w w.heap.size 1 A l.length (ints l)) :
    Calls Try.prog 117 #[.agg (wcells W), .slice A l.length cap] w fun e w' => e = .returned (.agg (wcells (l.foldl wput W))) ∧ Below w.heap.size w w' := by
  have HW := Lib.hid hW; have Hl := Lib.hid hl; clear hW hl
  go_enter Try.func117, Try.ntmps117
  go_wp2
  go_loopw [9] (fun i wr => ∃ k : Nat, k ≤ l.length ∧ i = .int .i64 k ∧ Bk wr w.heap.size 109 (wcells ((l.take k).foldl wput W)) ∧ Bk wr (w.heap.size + 1) 109 #[.int .u64 0, .int .u64 0, .int .u64 0, .int .u64 0] ∧ Below w.heap.size w wr) (fun i _ => l.length - (intOf i).toNat)
  case atStart =>
    refine ⟨0, Nat.zero_le _, rfl, ?_, ?_, ?_⟩
    · simpa using (Bk.fresh w 109 (wcells W)).alloc _
    · simpa using Bk.fresh (w.alloc (.cells (wcells W) 109)) 109 _
    · exact ((Below.refl _ _).alloc (Nat.le_refl _) _).alloc (by simp) _
  case round =>
    obtain ⟨k, hk, rfl, hbk, hcs, hbel⟩ := hrel
    have Hbk := Lib.hid hbk; have Hcs := Lib.hid hcs
    by_cases hlt : k < l.length
    · obtain ⟨bA, oA, u, rfl, hadb, hu, hcell⟩ := (hr.below hbel).at1 hlt
      have hu' : u = .int .i64 (l[k] : Nat) := by simpa [hlt] using hu.symm
      subst hu'
      have hc256 : l[k] < 256 := Hl.out _ (List.getElem_mem hlt)
      have HW' := Lib.hid (foldl_ok (l.take k) HW.out)
      have HT := Lib.hid (take_succ_foldl hlt W)
      generalize (l.take k).foldl wput W = W' at *
      have hwc : wr.cell? ⟨w.heap.size, l[k] / 64, none⟩ = some (.int .u64 (W' (l[k] / 64))) := by
        rw [hbk.cell, wcell_at _ _ hc256]
      have hfr := hbk.free (l[k] / 64)
      generalize l[k] = c at *
      clear hbk hcs hr hu
      go_wp2
      go_roundw
      case rel =>
        rw [or_spells HW'.out]
        refine ⟨k + 1, by omega, by go_num, ?_, Hcs.out.other (by simp) _, hbel.setCell (by simp) _⟩
        rw [HT.out, ← wput_cells _ _ hc256]
        exact Hbk.out.put _ _
      case measure => simp [intOf]; omega
    · have : k = l.length := by omega
      subst this
      rw [List.take_length] at *
      have c0 := hbk.cell 0
      have c1 := hbk.cell 1
      have c2 := hbk.cell 2
      have c3 := hbk.cell 3
      have d0 := hcs.cell 0
      have d1 := hcs.cell 1
      have d2 := hcs.cell 2
      have d3 := hcs.cell 3
      have f0 := hcs.free 0
      have f1 := hcs.free 1
      have f2 := hcs.free 2
      have f3 := hcs.free 3
      simp [wcells] at c0 c1 c2 c3 d0 d1 d2 d3
      clear hbk hcs
      go_wp2
      exact bodyPost_ret (v := .agg (wcells (l.foldl wput W))) (by simp [results, Try.results117, go_sem, wcells, d0, d1, d2, d3]) rfl ⟨rfl, (((hbel.setCell (by simp) _).setCell (by simp) _).setCell (by simp) _).setCell (by simp) _⟩

def upto (W : Nat → Nat) (a n : Nat) : Nat → Nat := (List.range' a n).foldl wput W
theorem upto_succ (W : Nat → Nat) (a n : Nat) : upto W a (n + 1) = wput (upto W a n) (a + n) := by
  unfold upto
  rw [List.range'_concat, List.foldl_append]; simp
theorem upto_ok {W : Nat → Nat} (h : Wok W) (a n : Nat) : Wok (upto W a n) := foldl_ok _ h

set_option maxHeartbeats 400000 in
theorem upto_any (W : Nat → Nat) (a b : Int) (w : World) (hW : Wok W) (h0 : 0 ≤ a) (hab : a ≤ b) (hb : b < 256) :
    Calls Try.prog 118 #[.agg (wcells W), .int .i64 a, .int .i64 b] w fun e w' => e = .returned (.agg (wcells (upto W a.toNat (b + 1 - a).toNat))) ∧ Below w.heap.size w w' := by
  have HW := Lib.hid hW; clear hW
  go_enter Try.func118, Try.ntmps118
  go_wp2
  go_loopw [7] (fun i wr => ∃ k : Nat, a + k ≤ b + 1 ∧ i = .int .i64 (a + k) ∧ Bk wr w.heap.size 109 (wcells (upto W a.toNat k)) ∧ Bk wr (w.heap.size + 1) 109 #[.int .u64 0, .int .u64 0, .int .u64 0, .int .u64 0] ∧ Below w.heap.size w wr) (fun i _ => (b + 1 - intOf i).toNat)
  case atStart =>
    refine ⟨0, by omega, by simp, ?_, ?_, ?_⟩
    · simpa [upto] using (Bk.fresh w 109 (wcells W)).alloc _
    · simpa using Bk.fresh (w.alloc (.cells (wcells W) 109)) 109 _
    · exact ((Below.refl _ _).alloc (Nat.le_refl _) _).alloc (by simp) _
  case round =>
    obtain ⟨k, hk, rfl, hbk, hcs, hbel⟩ := hrel
    have Hbk := Lib.hid hbk; have Hcs := Lib.hid hcs
    obtain ⟨⟨c0, c1, c2, c3⟩, f0, f1, f2, f3⟩ := hbk.four
    obtain ⟨⟨d0, d1, d2, d3⟩, g0, g1, g2, g3⟩ := hcs.four
    have hz : w.heap.size + 1 < wr.heap.size := hcs.lt
    by_cases hlt : a + k ≤ b
    · clear hbk hcs
      go_wp2_with fail
      refine (with_any (upto W a.toNat k) (some ⟨wr.heap.size, 0, none⟩) [(a + k).toNat] 1 _ (upto_ok HW.out _ _) ?_ (by simp) ?_).mono ?_
      · intro c hc; simp at hc; omega
      · have e : ((a + k).toNat : Int) = a + k := by omega
        simp only [ints, List.map_cons, List.map_nil, e]
        simpa using Rd.fresh wr #[_] _
      rintro e w1 ⟨rfl, hb1⟩
      have HU : Hid ([(a + k).toNat].foldl wput (upto W a.toNat k) = upto W a.toNat (k + 1)) := Lib.hid (by rw [upto_succ]; simp [show (a + k).toNat = a.toNat + k by omega])
      have hbk1 := ((Hbk.out.alloc _).below hb1 (by simp; omega))
      have hcs1 := ((Hcs.out.alloc _).below hb1 (by simp; omega))
      have hbel1 := Lib.hid ((hbel.alloc (by omega) _).trans (hb1.mono (by simp; omega)))
      clear hb1 c0 c1 c2 c3 d0 d1 d2 d3 f0 f1 f2 f3 g0 g1 g2 g3 Hbk Hcs
      generalize [(a + k).toNat].foldl wput (upto W a.toNat k) = W2 at *
      obtain ⟨⟨c0, c1, c2, c3⟩, f0, f1, f2, f3⟩ := hbk1.four
      have Hbk := Lib.hid hbk1; have Hcs := Lib.hid hcs1
      rw [show wcells W2 = #[.int .u64 (W2 0), .int .u64 (W2 1), .int .u64 (W2 2), .int .u64 (W2 3)] from rfl]
      clear hbk1 hcs1
      go_wp2
      go_roundw
      case rel =>
        refine ⟨k + 1, by omega, by simp; omega, ?_, Hcs.out.put_other (by omega), below_four hbel1.out (by omega) _ _ _ _⟩
        rw [← HU.out]
        exact Hbk.out.put_four
      case measure => simp [intOf]; omega
    · go_wp2
      obtain rfl : k = (b + 1 - a).toNat := by omega
      exact bodyPost_ret (v := .agg (wcells (upto W a.toNat (b + 1 - a).toNat))) (by simp [results, Try.results118, go_sem, wcells, d0, d1, d2, d3]) rfl ⟨rfl, below_four hbel (by simp) _ _ _ _⟩

theorem upto_at (W : Nat → Nat) (a b : Int) (na n : Nat) (w : World) (hW : Wok W) (ha : a = na) (hn : b + 1 = a + n) (hab : a ≤ b) (hb : b < 256) :
    Calls Try.prog 118 #[.agg (wcells W), .int .i64 a, .int .i64 b] w fun e w' => e = .returned (.agg (wcells (upto W na n))) ∧ Below w.heap.size w w' := by
  have h := upto_any W a b w hW (by omega) hab hb
  rwa [show a.toNat = na by omega, show (b + 1 - a).toNat = n by omega] at h

def wzero : Nat → Nat := fun _ => 0
theorem wzero_ok : Wok wzero := fun _ => by unfold wzero; omega
def wl (l : List Nat) : Nat → Nat := l.foldl wput wzero
theorem wl_def (l : List Nat) : l.foldl wput wzero = wl l := rfl
theorem wl_ok (l : List Nat) : Wok (wl l) := foldl_ok _ wzero_ok
attribute [irreducible] upto wl
theorem with_zero (A : Option Addr) (l : List Nat) (cap : Nat) (w : World) (hl : ∀ c ∈ l, c < 256) (hn : l.length ≤ 1000) (hr : Rd w w.heap.size 1 A l.length (ints l)) :
    Calls Try.prog 117 #[.agg #[.int .u64 0, .int .u64 0, .int .u64 0, .int .u64 0], .slice A l.length cap] w fun e w' => e = .returned (.agg (wcells (wl l))) ∧ Below w.heap.size w w' :=
  by rw [← wl_def]; exact with_any wzero A l cap w wzero_ok hl hn hr
def codes (kind : Int) : Nat → Nat :=
  if kind = 2 then upto (upto (wl [0, 140, 144, 149, 151, 159]) 128 11) 153 5
  else if kind = 4 ∨ kind = 5 then wl [0, 16, 128, 131, 135, 144, 145, 151, 153]
  else if kind = 6 ∨ kind = 7 then wl [0, 146]
  else if kind = 9 then wl [0, 1, 2, 128, 131, 135, 143, 145, 151, 158, 161, 162]
  else if kind = 11 then wl [0, 17, 128, 131, 135, 143, 145]
  else if kind = 14 then upto (upto (wl [0, 4, 135, 137, 139, 141, 142, 143, 144]) 128 4) 147 16
  else if kind = 15 then wl [0, 24, 25]
  else wzero

end Go.Proofs.Ytdpeljnoaiaplaa
