/- Properties that are counted; a property's value's bytes: the walks of seen.again, seen.lone, value. -/
import Derived.Test.YtdpeljnoaiaplaaProD
import Derived.Test.YtdpeljnoaiaplaaVarC
import Derived.RegionTactic
import Derived.BigRegion
namespace Go.Proofs.Ytdpeljnoaiaplaa
open Go.RowKit
attribute [local go_sem ↓] Go.wp_at_zero Go.wp_at_succ

abbrev ST : TypeId := 100
def seenC (f : Nat → Nat) : Array Value := (Array.range 64).map fun i => .int .i64 (f i)
def upd (f : Nat → Nat) (k v : Nat) : Nat → Nat := fun i => if i = k then v else f i
theorem seenC_at (f : Nat → Nat) (k : Nat) (h : k < 64) : (seenC f)[k]? = some (.int .i64 (f k)) := by simp [seenC, h]
theorem seenC_put (f : Nat → Nat) (k v : Nat) : (seenC f).setIfInBounds k (.int .i64 v) = seenC (upd f k v) := by
  apply Array.ext
  · simp [seenC]
  · intro i h1 h2
    simp only [seenC, upd]
    by_cases h : k = i
    · subst h; simp
    · rw [Array.getElem_setIfInBounds_ne (by simp [seenC] at h1; simpa using h1) h]
      simp [Ne.symm h]

def againB (f : Nat → Nat) (kind : Int) (k : Nat) : Bool := decide (1 < f k + 1) && !oftenP kind k

set_option maxHeartbeats 1000000 in
set_option maxRecDepth 10000 in
theorem again_any (g : Nat) (f : Nat → Nat) (kind : Int) (k : Nat) (hk : k < 64) (hf : f k < 1000000) (w : World) (h : Bk w g ST (seenC f)) :
    Calls Try.prog 80 #[.pointer (some ⟨g, 0, none⟩), .int .i64 kind, .int .i64 k] w fun e w' =>
      e = .returned (.bool (againB f kind k)) ∧ Bk w' g ST (seenC (upd f k (f k + 1))) ∧ w.grownBy w' (some g) := by
  have h0 : (0 : Int) ≤ (k : Int) := Int.natCast_nonneg _
  have h64 : (k : Int) < 64 := by omega
  have hw : IntKind.i64.wrap ((f k : Int) + 1) = ((f k + 1 : Nat) : Int) := by rw [IntKind.wrap_i64]; omega
  have hc : w.cell? ⟨g, k, none⟩ = some (.int .i64 (f k)) := by rw [h.cell, seenC_at _ _ hk]
  have hfr := h.free k
  have H := Lib.hid h
  have HF : Hid (againB f kind k = (decide (1 < f k + 1) && !oftenP kind k)) := Lib.hid rfl
  have HU := Lib.hid (seenC_put f k (f k + 1))
  generalize hv : f k = v at *
  obtain ⟨o, ho⟩ : ∃ o, oftenP kind k = o := ⟨_, rfl⟩
  rw [ho] at HF
  have HO := Lib.hid ho; clear ho
  clear h hk hf hv
  go_enter Try.func80, Try.ntmps80
  go_wp2_with fail
  go_region
  have hz : Bk (w.setCell ⟨g, k, none⟩ (.int .i64 ((v : Int) + 1))).drew g ST (seenC (upd f k (v + 1))) := (H.out.upd k _ HU.out).drewN 1
  have hm : w.grownBy (w.setCell ⟨g, k, none⟩ (.int .i64 ((v : Int) + 1))).drew (some g) := mod_drawn (mod_set w g k _) 1
  have hc2 : (w.setCell ⟨g, k, none⟩ (.int .i64 ((v : Int) + 1))).drew.cell? ⟨g, k, none⟩ = some (.int .i64 ((v : Int) + 1)) := by
    rw [hz.cell, seenC_at _ _ (by omega)]
    simp [upd]
  have HZ := Lib.hid hz; have HM := Lib.hid hm
  clear hz hm hc hfr HU H
  generalize (w.setCell ⟨g, k, none⟩ (.int .i64 ((v : Int) + 1))).drew = w1 at *
  by_cases hv0 : v = 0
  · have d1 : decide ((1 : Int) < (v : Int) + 1) = false := decide_eq_false (by omega)
    have HE : Hid (againB f kind k = false) := Lib.hid (by rw [HF.out, hv0]; rfl)
    clear hv0
    go_wp2
    go_ret
    exact ⟨by rw [HE.out]; rfl, HZ.out, HM.out⟩
  · have d1 : decide ((1 : Int) < (v : Int) + 1) = true := decide_eq_true (by omega)
    have d0 : (0 : Int) < (v : Int) := by omega
    have HE : Hid (againB f kind k = !o) := Lib.hid (by rw [HF.out, decide_eq_true (by omega)]; rfl)
    clear hv0
    go_wp2_with fail
    refine (often_any kind k _).mono ?_
    rintro e w2 ⟨rfl, rfl⟩
    rw [HO.out]
    go_wp2
    go_ret
    exact ⟨by rw [HE.out]; rfl, HZ.out, HM.out⟩

set_option maxHeartbeats 400000 in
set_option maxRecDepth 10000 in
theorem lone_any (g : Nat) (f : Nat → Nat) (w : World) (h : Bk w g ST (seenC f)) :
    Calls Try.prog 82 #[.pointer (some ⟨g, 0, none⟩)] w fun e w' => e = .returned (.bool (decide (0 < f 22) && (f 21 == 0))) ∧ w' = w := by
  have hc1 : w.cell? ⟨g, 22, none⟩ = some (.int .i64 (f 22)) := by rw [h.cell, seenC_at _ _ (by omega)]
  have hc2 : w.cell? ⟨g, 21, none⟩ = some (.int .i64 (f 21)) := by rw [h.cell, seenC_at _ _ (by omega)]
  clear h
  generalize f 22 = a at *
  generalize f 21 = b at *
  by_cases ha : 0 < a
  · have d1 : decide ((0 : Int) < (a : Int)) = true := decide_eq_true (by omega)
    have d2 : decide (0 < a) = true := decide_eq_true (by omega)
    have HA := Lib.hid ha
    clear ha
    go_enter Try.func82, Try.ntmps82
    go_wp2
    go_ret
    exact ⟨by simp [HA.out]; rw [Bool.eq_iff_iff]; simp, rfl⟩
  · obtain rfl : a = 0 := by omega
    go_enter Try.func82, Try.ntmps82
    go_wp2
    go_ret
    exact ⟨rfl, rfl⟩

theorem framedS_size (s : ByteArray) : (framedS s).size = s.size + 2 := by
  unfold framedS
  rw [ByteArray.size_append]
  have : ((⟨(putL s.size 2).toArray⟩ : ByteArray)).size = 2 := by
    show (putL s.size 2).toArray.size = 2
    simp [putL_len]
  omega
def valueS (sh : Nat) (p : Pr) : ByteArray :=
  if sh = 1 ∨ sh = 2 then ⟨(putL p.n sh).toArray⟩
  else if sh = 3 then ⟨(putL p.n 4).toArray⟩
  else if sh = 4 then ⟨(varL p.n).toArray⟩
  else if sh = 7 then framedS p.text ++ framedS p.value
  else framedS p.text

set_option maxHeartbeats 1000000 in
set_option maxRecDepth 10000 in
theorem value_any (sh : Nat) (p : Pr) (h1 : 1 ≤ sh) (h7 : sh ≤ 7) (hn : p.n < 4294967296) (h4 : sh = 4 → p.n ≤ 268435455) (ht : 5 ≤ sh → p.text.size ≤ 65535) (hv : 5 ≤ sh → p.value.size ≤ 65535) (w : World) :
    Calls Try.prog 81 #[.int .i64 sh, p.val] w fun e w' => e = .returned (.string (valueS sh p)) ∧ Below w.heap.size w w' := by
  obtain ⟨id, n, t, v⟩ := p
  simp only [Pr.val]
  have HN : Hid (n < 4294967296) := Lib.hid hn
  have H := Lib.hid (And.intro hn (And.intro h4 (And.intro ht hv)))
  clear hn h4 ht hv
  have hw : IntKind.u64.wrap (n : Int) = n := by rw [IntKind.wrap_u64]; have := HN.out; omega
  have hw2 : IntKind.i64.wrap (n : Int) = n := by rw [IntKind.wrap_i64]; have := HN.out; omega
  have HL := Lib.hid ((Below.refl w.heap.size w).alloc (Nat.le_refl _) (.cells #[.int .i64 id, .int .u32 n, .string t, .string v] 46))
  have HZ := Lib.hid (Bk.fresh w 46 #[.int .i64 id, .int .u32 n, .string t, .string v])
  obtain rfl | rfl | rfl | rfl | hs : sh = 1 ∨ sh = 2 ∨ sh = 3 ∨ sh = 4 ∨ 5 ≤ sh := by omega
  · go_enter Try.func81, Try.ntmps81
    go_wp2_with fail
    refine (put_any n 1 _ (by have := HN.out; omega) (by omega) (by omega)).mono ?_
    rintro e w1 ⟨rfl, hb⟩
    have HL := Lib.hid (HL.out.trans (hb.mono HL.out.size)); clear hb
    go_wp2
    go_ret
    exact ⟨rfl, HL.out⟩
  · go_enter Try.func81, Try.ntmps81
    go_wp2_with fail
    refine (put_any n 2 _ (by have := HN.out; omega) (by omega) (by omega)).mono ?_
    rintro e w1 ⟨rfl, hb⟩
    have HL := Lib.hid (HL.out.trans (hb.mono HL.out.size)); clear hb
    go_wp2
    go_ret
    exact ⟨rfl, HL.out⟩
  · go_enter Try.func81, Try.ntmps81
    go_wp2_with fail
    refine (put_any n 4 _ (by have := HN.out; omega) (by omega) (by omega)).mono ?_
    rintro e w1 ⟨rfl, hb⟩
    have HL := Lib.hid (HL.out.trans (hb.mono HL.out.size)); clear hb
    go_wp2
    go_ret
    exact ⟨rfl, HL.out⟩
  · go_enter Try.func81, Try.ntmps81
    go_wp2_with fail
    refine (varBytes_any n _ (by simpa using H.out.2.1)).mono ?_
    rintro e w1 ⟨rfl, hb⟩
    have HL := Lib.hid (HL.out.trans (hb.mono HL.out.size)); clear hb
    go_wp2
    go_ret
    exact ⟨rfl, HL.out⟩
  · have s1 : ((sh : Int) == 1) = false := beq_eq_false_iff_ne.2 (by omega)
    have s2 : ((sh : Int) == 2) = false := beq_eq_false_iff_ne.2 (by omega)
    have s3 : ((sh : Int) == 3) = false := beq_eq_false_iff_ne.2 (by omega)
    have s4 : ((sh : Int) == 4) = false := beq_eq_false_iff_ne.2 (by omega)
    have T : Hid (t.size ≤ 65535) := Lib.hid (H.out.2.2.1 hs)
    have V : Hid (v.size ≤ 65535) := Lib.hid (H.out.2.2.2 hs)
    by_cases h7' : sh = 7
    · have s7 : ((sh : Int) != 7) = false := by subst h7'; rfl
      have HE : Hid (valueS sh ⟨id, n, t, v⟩ = framedS t ++ framedS v) := Lib.hid (by subst h7'; rfl)
      clear hs h1 h7 h7'
      go_enter Try.func81, Try.ntmps81
      go_wp2_with fail
      refine (binary_any t _ (by have := T.out; omega)).mono ?_
      rintro e w1 ⟨rfl, hb⟩
      rw [if_pos T.out, if_pos T.out]
      obtain ⟨⟨d0, d1, d2, d3⟩, g0, g1, g2, g3⟩ := (HZ.out.below hb HZ.out.lt).four
      have HL := Lib.hid (HL.out.trans (hb.mono HL.out.size)); clear hb g0 g1 g2 g3 d0 d1 d2
      go_wp2_with fail
      refine (binary_any v _ (by have := V.out; omega)).mono ?_
      rintro e w2 ⟨rfl, hb⟩
      rw [if_pos V.out, if_pos V.out]
      have HL := Lib.hid (HL.out.trans (hb.mono HL.out.size)); clear hb d3
      have hsum : ¬ (9223372036854775807 < (framedS t).size + (framedS v).size) := by have := T.out; have := V.out; rw [framedS_size, framedS_size]; omega
      go_wp2
      go_ret
      exact ⟨by rw [HE.out]; rfl, HL.out⟩
    · have s7 : ((sh : Int) != 7) = true := bne_iff_ne.2 (by omega)
      have HE : Hid (valueS sh ⟨id, n, t, v⟩ = framedS t) := Lib.hid (by
        unfold valueS
        rw [if_neg (by omega), if_neg (by omega), if_neg (by omega), if_neg h7'])
      clear hs h1 h7 h7'
      go_enter Try.func81, Try.ntmps81
      go_wp2_with fail
      refine (binary_any t _ (by have := T.out; omega)).mono ?_
      rintro e w1 ⟨rfl, hb⟩
      rw [if_pos T.out, if_pos T.out]
      have HL := Lib.hid (HL.out.trans (hb.mono HL.out.size)); clear hb
      go_wp2
      go_ret
      exact ⟨by rw [HE.out]; rfl, HL.out⟩
end Go.Proofs.Ytdpeljnoaiaplaa
