/- Lists of properties: the walks of Own, weight, LightProps, Get. -/
import Derived.Test.YtdpeljnoaiaplaaProJ
import Derived.Test.YtdpeljnoaiaplaaKit2
namespace Go.Proofs.Ytdpeljnoaiaplaa
open Go.RowKit

theorem info_prop : (Try.prog.info? 46).map (fun i => (i.zero, i.size, i.bytes)) = some (some (.agg #[.int .i64 0, .int .u32 0, .string ⟨#[]⟩, .string ⟨#[]⟩]), 4, 48) := by kernel_rfl
theorem size_prop (w : World) : (sizeOf 46).run Try.prog w = .ok 4 w := by kernel_rfl
theorem prs_one (l : List Pr) : ∀ u ∈ prs l, u.oneCell' = true := by
  intro u hu
  obtain ⟨p, _, hp⟩ := List.mem_flatMap.1 hu
  simp [prC] at hp
  rcases hp with rfl | rfl | rfl | rfl <;> rfl
theorem prs_drop (l : List Pr) (k : Nat) : (prs l).drop (k * 4) = prs (l.drop k) := by
  induction k generalizing l with
  | zero => simp
  | succ k ih =>
    cases l with
    | nil => simp [prs]
    | cons p l =>
      rw [show (k + 1) * 4 = 4 + k * 4 by omega, ← List.drop_drop]
      simpa [prs, prC] using ih l
theorem prs_take (l : List Pr) (k : Nat) : (prs l).take (k * 4) = prs (l.take k) := by
  induction k generalizing l with
  | zero => simp [prs]
  | succ k ih =>
    cases l with
    | nil => simp [prs]
    | cons p l =>
      rw [show (k + 1) * 4 = 4 + k * 4 by omega]
      have := ih l
      simp [prs, prC] at this ⊢
      rw [show 4 + k * 4 = k * 4 + 1 + 1 + 1 + 1 by omega]
      simpa using this
theorem prs_append (a b : List Pr) : prs (a ++ b) = prs a ++ prs b := by simp [prs]

/-- How many bytes the texts have. -/
def wt (l : List Pr) : Nat := (l.map fun p => p.text.size + p.value.size).sum
theorem wt_snoc (l : List Pr) (k : Nat) (h : k < l.length) : wt (l.take (k + 1)) = wt (l.take k) + l[k].text.size + l[k].value.size := by
  unfold wt
  rw [List.take_succ_eq_append_getElem h, List.map_append, List.sum_append]
  simp only [List.map_cons, List.map_nil, List.sum_cons, List.sum_nil]
  omega
/-- A property within the form's reach. -/
def prGood (p : Pr) : Prop := p.n < 4294967296 ∧ p.text.size ≤ 140737488351232 ∧ p.value.size ≤ 140737488351232
theorem prGood_ok {p : Pr} (h : prGood p) : p.Ok := ⟨h.1, by have := h.2.1; omega, by have := h.2.2; omega⟩
def small (l : List Pr) : Prop := ∀ p ∈ l, p.text.size ≤ 140737488351232 ∧ p.value.size ≤ 140737488351232
theorem small_of_good {l : List Pr} (h : ∀ p ∈ l, prGood p) : small l := fun p hp => (h p hp).2
theorem wt_le : ∀ (l : List Pr), small l → wt l ≤ l.length * 281474976702464
  | [], _ => by simp [wt]
  | p :: l, h => by
    have h1 := wt_le l (fun q hq => h q (List.mem_cons_of_mem _ hq))
    have h2 := h p (by simp)
    simp [wt] at h1 ⊢
    omega
theorem small_take {l : List Pr} (h : small l) (k : Nat) : small (l.take k) := fun p hp => h p (List.mem_of_mem_take hp)

set_option maxHeartbeats 400000 in
set_option maxRecDepth 10000 in
theorem weight_any (l : List Pr) (A : Option Addr) (c : Nat) (w : World) (h : Rd w w.heap.size 4 A l.length (prs l)) (hl : l.length ≤ 1010) (hs : small l) :
    Calls Try.prog 85 #[.slice A l.length c] w fun e w' => e = .returned (.int .i64 (wt l)) ∧ Below w.heap.size w w' := by
  have H := Lib.hid h; have HS := Lib.hid hs; clear h hs
  go_enter Try.func85, Try.ntmps85
  go_wp2
  go_loopw [3, 4] (fun n i wr => ∃ k : Nat, k ≤ l.length ∧ i = .int .i64 k ∧ n = .int .i64 (wt (l.take k)) ∧ Below w.heap.size w wr) (fun _ i _ => l.length - (intOf i).toNat)
  case atStart => exact ⟨0, by omega, rfl, rfl, Below.refl _ _⟩
  case round =>
    obtain ⟨k, hk, rfl, rfl, hbel⟩ := hrel
    by_cases hlt : k < l.length
    · obtain ⟨b, o, rfl, hb, c0, c1, c2, c3⟩ := (H.out.below hbel).atP hlt
      have h2 := HS.out l[k] (List.getElem_mem hlt)
      have h3 := wt_le (l.take k) (small_take HS.out k)
      rw [List.length_take] at h3
      have h3' : wt (l.take k) ≤ 284289726469488640 := by omega
      have HW := Lib.hid (wt_snoc l k hlt)
      clear h3 c0 c1
      generalize wt (l.take k) = q at *
      generalize l[k] = p at *
      obtain ⟨id, n, t, v⟩ := p
      simp only at h2 HW c2 c3
      obtain ⟨h4, h5⟩ := h2
      have w1 : IntKind.i64.wrap ((q : Int) + (t.size : Int)) = (q : Int) + (t.size : Int) := by rw [IntKind.wrap_i64]; omega
      have w2 : IntKind.i64.wrap ((q : Int) + (t.size : Int) + (v.size : Int)) = (q : Int) + (t.size : Int) + (v.size : Int) := by rw [IntKind.wrap_i64]; omega
      have b1 : (0 : Int) ≤ (k : Int) := by omega
      have b2 : (k : Int) < (l.length : Int) := by omega
      go_wp2
      go_quiet (fail)
      go_wp2
      go_roundw
      case rel => exact ⟨k + 1, by omega, by go_num, by rw [HW.out]; go_num, below_drawn hbel _⟩
      case measure => simp [intOf]; omega
    · obtain rfl : k = l.length := by omega
      go_wp2
      go_ret
      exact ⟨by rw [List.take_length]; rfl, hbel⟩

def lightB (l : List Pr) : Bool := decide (l.length ≤ 1010) && decide (wt l ≤ 140000)
set_option maxHeartbeats 400000 in
set_option maxRecDepth 10000 in
theorem lightP_any (l : List Pr) (A : Option Addr) (c : Nat) (w : World) (h : Rd w w.heap.size 4 A l.length (prs l)) (hl : l.length ≤ 4611686018427387904) (hs : small l) :
    Calls Try.prog 40 #[.slice A l.length c] w fun e w' => e = .returned (.bool (lightB l)) ∧ Below w.heap.size w w' := by
  have H := Lib.hid h; have HS := Lib.hid hs; clear h hs
  by_cases h1 : l.length ≤ 1010
  · have HF : Hid (lightB l = decide (wt l ≤ 140000)) := Lib.hid (by rw [lightB, decide_eq_true h1, Bool.true_and])
    have d1 : (l.length : Int) ≤ 1010 := by omega
    have HL := Lib.hid h1
    go_enter Try.func40, Try.ntmps40
    go_wp2_with fail
    refine (weight_any l A c _ H.out HL.out HS.out).mono ?_
    rintro e w1 ⟨rfl, hb⟩
    go_wp2
    go_ret
    exact ⟨by rw [HF.out]; congr 2; simp; omega, hb⟩
  · have HF : Hid (lightB l = false) := Lib.hid (by rw [lightB, decide_eq_false h1, Bool.false_and])
    have d1 : (1010 : Int) < (l.length : Int) := by omega
    clear h1
    go_enter Try.func40, Try.ntmps40
    go_wp2
    go_ret
    exact ⟨by rw [HF.out]; rfl, Below.refl _ _⟩

def getR (l : List Pr) (id : Int) : Pr := (getP l id).getD ⟨0, 0, ⟨#[]⟩, ⟨#[]⟩⟩
set_option maxHeartbeats 400000 in
set_option maxRecDepth 10000 in
theorem getP_any (id : Int) (l : List Pr) (A : Option Addr) (c : Nat) (w : World) (h : Rd w w.heap.size 4 A l.length (prs l)) (hl : l.length ≤ 4611686018427387904) :
    Calls Try.prog 59 #[.slice A l.length c, .int .i64 id] w fun e w' => e = .returned (.tuple #[(getR l id).val, .bool (getP l id).isSome]) ∧ Below w.heap.size w w' := by
  have H := Lib.hid h; clear h
  go_enter Try.func59, Try.ntmps59
  go_wp2
  go_loopw [10] (fun i wr => ∃ k : Nat, k ≤ l.length ∧ i = .int .i64 k ∧ getP l id = getP (l.drop k) id ∧ Bk wr w.heap.size 46 #[.int .i64 0, .int .u32 0, .string ⟨#[]⟩, .string ⟨#[]⟩] ∧ Below w.heap.size w wr) (fun i _ => l.length - (intOf i).toNat)
  case atStart => exact ⟨0, by omega, rfl, rfl, Bk.fresh _ _ _, (Below.refl _ _).alloc (Nat.le_refl _) _⟩
  case round =>
    obtain ⟨k, hk, rfl, hg, hbk, hbel⟩ := hrel
    have HG := Lib.hid hg; have HB := Lib.hid hbk
    have hz := hbel.size
    have hlw := hbk.lt
    clear hg hbk
    by_cases hlt : k < l.length
    · obtain ⟨b, o, rfl, hb, c0, c1, c2, c3⟩ := (H.out.below hbel).atP hlt
      have HD := Lib.hid (List.drop_eq_getElem_cons hlt)
      generalize l[k] = p at *
      obtain ⟨pid, n, t, v⟩ := p
      simp only at c0 c1 c2 c3
      have b1 : (0 : Int) ≤ (k : Int) := by omega
      have b2 : (k : Int) < (l.length : Int) := by omega
      have HB2 := Lib.hid (HB.out.alloc (.cells #[.int .i64 pid, .int .u32 n, .string t, .string v] 46))
      have HL2 := Lib.hid (hbel.alloc (by omega) (.cells #[.int .i64 pid, .int .u32 n, .string t, .string v] 46))
      by_cases he : pid = id
      · subst he
        obtain ⟨⟨d0, d1, d2, d3⟩, f0, f1, f2, f3⟩ := HB.out.four
        have HF : Hid (getP l pid = some ⟨pid, n, t, v⟩) := Lib.hid (by rw [HG.out, HD.out]; simp [getP])
        go_wp2
        have HX := Lib.hid ((below_four hbel (Nat.le_refl _) (.int .i64 pid) (.int .u32 n) (.string t) (.string v)).alloc (by simp; omega) (.cells #[.int .i64 pid, .int .u32 n, .string t, .string v] 46))
        exact bodyPost_ret (v := .tuple #[.agg #[.int .i64 pid, .int .u32 n, .string t, .string v], .bool true]) (by simp [results, Try.results59, go_sem, hlw, d0, d1, d2, d3]) rfl ⟨by unfold getR; rw [HF.out]; rfl, HX.out⟩
      · have e1 : (pid == id) = false := beq_eq_false_iff_ne.2 he
        have HF : Hid (getP l id = getP (l.drop (k + 1)) id) := Lib.hid (by rw [HG.out, HD.out]; simp [getP, e1])
        have HE := Lib.hid he; clear he
        go_wp2
        go_roundw
        case rel => exact ⟨k + 1, by omega, by go_num, HF.out, HB2.out, HL2.out⟩
        case measure => simp [intOf]; omega
    · obtain rfl : k = l.length := by omega
      have HF : Hid (getP l id = none) := Lib.hid (by rw [HG.out, List.drop_length]; rfl)
      obtain ⟨⟨d0, d1, d2, d3⟩, f0, f1, f2, f3⟩ := HB.out.four
      go_wp2
      have HX := Lib.hid (below_four hbel (Nat.le_refl _) (.int .i64 0) (.int .u32 0) (.string ⟨#[]⟩) (.string ⟨#[]⟩))
      exact bodyPost_ret (v := .tuple #[.agg #[.int .i64 0, .int .u32 0, .string ⟨#[]⟩, .string ⟨#[]⟩], .bool false]) (by simp [results, Try.results59, go_sem, hlw, d0, d1, d2, d3]) rfl ⟨by unfold getR; rw [HF.out]; rfl, HX.out⟩
end Go.Proofs.Ytdpeljnoaiaplaa
