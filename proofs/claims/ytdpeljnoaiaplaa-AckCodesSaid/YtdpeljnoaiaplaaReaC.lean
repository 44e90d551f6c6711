/- The codes of a kind, as words of bits: the walk of reason.codes. -/
import Derived.Test.YtdpeljnoaiaplaaReaB
namespace Go.Proofs.Ytdpeljnoaiaplaa
open Go.RowKit

set_option maxHeartbeats 400000 in
set_option maxRecDepth 10000 in
theorem codes_2 (w : World) :
    Calls Try.prog 86 #[.int .i64 2] w fun e w' => e = .returned (.agg (wcells (codes 2))) ∧ Below w.heap.size w w' := by
  have Z0 := (Bk.fresh w 109 #[.int .u64 0, .int .u64 0, .int .u64 0, .int .u64 0]).alloc (.cells #[.int .u64 0, .int .u64 0, .int .u64 0, .int .u64 0] 109)
  have Z1 : Bk ((w.alloc (.cells #[.int .u64 0, .int .u64 0, .int .u64 0, .int .u64 0] 109)).alloc (.cells #[.int .u64 0, .int .u64 0, .int .u64 0, .int .u64 0] 109)) (w.heap.size + 1) 109 #[.int .u64 0, .int .u64 0, .int .u64 0, .int .u64 0] := by simpa using Bk.fresh (w.alloc (.cells #[.int .u64 0, .int .u64 0, .int .u64 0, .int .u64 0] 109)) 109 #[.int .u64 0, .int .u64 0, .int .u64 0, .int .u64 0]
  have hbel := ((Below.refl w.heap.size w).alloc (Nat.le_refl _) (.cells #[.int .u64 0, .int .u64 0, .int .u64 0, .int .u64 0] 109)).alloc (by simp) (.cells #[.int .u64 0, .int .u64 0, .int .u64 0, .int .u64 0] 109)
  have HZ0 := Lib.hid Z0; have HZ1 := Lib.hid Z1; have HL := Lib.hid hbel; clear Z0 Z1 hbel
  go_enter Try.func86, Try.ntmps86
  go_wp2_with fail
  refine (with_zero _ [0, 140, 144, 149, 151, 159] _ _ (by decide) (by decide) (Rd.lit _ _ _ (by simp) (by simp) rfl)).mono ?_
  rintro e w1 ⟨rfl, hb1⟩
  have hbk1 := (HZ0.out.alloc _).below hb1 (by simp; omega)
  have hcs1 := (HZ1.out.alloc _).below hb1 (by simp)
  have hbel1 := (HL.out.alloc (by simp; omega) _).trans (hb1.mono (by simp; omega))
  clear hb1
  have Hb := Lib.hid hbk1; have Hc := Lib.hid hcs1; have Hl := Lib.hid hbel1
  clear hbk1 hcs1 hbel1
  go_wp2_with fail
  refine (upto_at (wl [0, 140, 144, 149, 151, 159]) 128 138 128 11 _ (wl_ok _) (by omega) (by omega) (by omega) (by omega)).mono ?_
  rintro e w2 ⟨rfl, hb1⟩
  have hbk1 := Hb.out.below hb1 Hb.out.lt
  have hcs1 := Hc.out.below hb1 Hc.out.lt
  have hbel1 := Hl.out.trans (hb1.mono (by have := Hb.out.lt; omega))
  clear hb1 Hb Hc Hl
  have Hb := Lib.hid hbk1; have Hc := Lib.hid hcs1; have Hl := Lib.hid hbel1
  clear hbk1 hcs1 hbel1
  go_wp2_with fail
  refine (upto_at (upto (wl [0, 140, 144, 149, 151, 159]) 128 11) 153 157 153 5 _ (upto_ok (wl_ok _) _ _) (by omega) (by omega) (by omega) (by omega)).mono ?_
  rintro e w3 ⟨rfl, hb1⟩
  have hbk1 := Hb.out.below hb1 Hb.out.lt
  have hcs1 := Hc.out.below hb1 Hc.out.lt
  have hbel1 := Hl.out.trans (hb1.mono (by have := Hb.out.lt; omega))
  clear hb1 Hb Hc Hl
  obtain ⟨C, hG⟩ : ∃ C, C = codes 2 := ⟨_, rfl⟩
  rw [show upto (upto (wl [0, 140, 144, 149, 151, 159]) 128 11) 153 5 = C by rw [hG]; simp [codes], wcells_def C]
  have HG := Lib.hid hG; clear hG
  obtain ⟨⟨c0, c1, c2, c3⟩, f0, f1, f2, f3⟩ := hcs1.four
  obtain ⟨⟨d0, d1, d2, d3⟩, g0, g1, g2, g3⟩ := hbk1.four
  have hbel2 := Lib.hid (below_four (below_four hbel1 (g := w.heap.size + 1) (by omega) (.int .u64 (C 0)) (.int .u64 (C 1)) (.int .u64 (C 2)) (.int .u64 (C 3))) (g := w.heap.size) (by omega) (.int .u64 (C 0)) (.int .u64 (C 1)) (.int .u64 (C 2)) (.int .u64 (C 3)))
  clear hbel1 hbk1 hcs1
  go_wp2
  exact bodyPost_ret (v := .agg (wcells C)) (by simp [results, Try.results86, go_sem, wcells, d0, d1, d2, d3]) rfl ⟨by rw [HG.out], hbel2.out⟩
set_option maxHeartbeats 400000 in
set_option maxRecDepth 10000 in
theorem codes_4 (w : World) :
    Calls Try.prog 86 #[.int .i64 4] w fun e w' => e = .returned (.agg (wcells (codes 4))) ∧ Below w.heap.size w w' := by
  have Z0 := (Bk.fresh w 109 #[.int .u64 0, .int .u64 0, .int .u64 0, .int .u64 0]).alloc (.cells #[.int .u64 0, .int .u64 0, .int .u64 0, .int .u64 0] 109)
  have Z1 : Bk ((w.alloc (.cells #[.int .u64 0, .int .u64 0, .int .u64 0, .int .u64 0] 109)).alloc (.cells #[.int .u64 0, .int .u64 0, .int .u64 0, .int .u64 0] 109)) (w.heap.size + 1) 109 #[.int .u64 0, .int .u64 0, .int .u64 0, .int .u64 0] := by simpa using Bk.fresh (w.alloc (.cells #[.int .u64 0, .int .u64 0, .int .u64 0, .int .u64 0] 109)) 109 #[.int .u64 0, .int .u64 0, .int .u64 0, .int .u64 0]
  have hbel := ((Below.refl w.heap.size w).alloc (Nat.le_refl _) (.cells #[.int .u64 0, .int .u64 0, .int .u64 0, .int .u64 0] 109)).alloc (by simp) (.cells #[.int .u64 0, .int .u64 0, .int .u64 0, .int .u64 0] 109)
  have HZ0 := Lib.hid Z0; have HZ1 := Lib.hid Z1; have HL := Lib.hid hbel; clear Z0 Z1 hbel
  go_enter Try.func86, Try.ntmps86
  go_wp2_with fail
  refine (with_zero _ [0, 16, 128, 131, 135, 144, 145, 151, 153] _ _ (by decide) (by decide) (Rd.lit _ _ _ (by simp) (by simp) rfl)).mono ?_
  rintro e w1 ⟨rfl, hb1⟩
  have hbk1 := (HZ0.out.alloc _).below hb1 (by simp; omega)
  have hcs1 := (HZ1.out.alloc _).below hb1 (by simp)
  have hbel1 := (HL.out.alloc (by simp; omega) _).trans (hb1.mono (by simp; omega))
  clear hb1
  obtain ⟨C, hG⟩ : ∃ C, C = codes 4 := ⟨_, rfl⟩
  rw [show wl [0, 16, 128, 131, 135, 144, 145, 151, 153] = C by rw [hG]; simp [codes], wcells_def C]
  have HG := Lib.hid hG; clear hG
  obtain ⟨⟨c0, c1, c2, c3⟩, f0, f1, f2, f3⟩ := hcs1.four
  obtain ⟨⟨d0, d1, d2, d3⟩, g0, g1, g2, g3⟩ := hbk1.four
  have hbel2 := Lib.hid (below_four (below_four hbel1 (g := w.heap.size + 1) (by omega) (.int .u64 (C 0)) (.int .u64 (C 1)) (.int .u64 (C 2)) (.int .u64 (C 3))) (g := w.heap.size) (by omega) (.int .u64 (C 0)) (.int .u64 (C 1)) (.int .u64 (C 2)) (.int .u64 (C 3)))
  clear hbel1 hbk1 hcs1
  go_wp2
  exact bodyPost_ret (v := .agg (wcells C)) (by simp [results, Try.results86, go_sem, wcells, d0, d1, d2, d3]) rfl ⟨by rw [HG.out], hbel2.out⟩
set_option maxHeartbeats 400000 in
set_option maxRecDepth 10000 in
theorem codes_5 (w : World) :
    Calls Try.prog 86 #[.int .i64 5] w fun e w' => e = .returned (.agg (wcells (codes 5))) ∧ Below w.heap.size w w' := by
  have Z0 := (Bk.fresh w 109 #[.int .u64 0, .int .u64 0, .int .u64 0, .int .u64 0]).alloc (.cells #[.int .u64 0, .int .u64 0, .int .u64 0, .int .u64 0] 109)
  have Z1 : Bk ((w.alloc (.cells #[.int .u64 0, .int .u64 0, .int .u64 0, .int .u64 0] 109)).alloc (.cells #[.int .u64 0, .int .u64 0, .int .u64 0, .int .u64 0] 109)) (w.heap.size + 1) 109 #[.int .u64 0, .int .u64 0, .int .u64 0, .int .u64 0] := by simpa using Bk.fresh (w.alloc (.cells #[.int .u64 0, .int .u64 0, .int .u64 0, .int .u64 0] 109)) 109 #[.int .u64 0, .int .u64 0, .int .u64 0, .int .u64 0]
  have hbel := ((Below.refl w.heap.size w).alloc (Nat.le_refl _) (.cells #[.int .u64 0, .int .u64 0, .int .u64 0, .int .u64 0] 109)).alloc (by simp) (.cells #[.int .u64 0, .int .u64 0, .int .u64 0, .int .u64 0] 109)
  have HZ0 := Lib.hid Z0; have HZ1 := Lib.hid Z1; have HL := Lib.hid hbel; clear Z0 Z1 hbel
  go_enter Try.func86, Try.ntmps86
  go_wp2_with fail
  refine (with_zero _ [0, 16, 128, 131, 135, 144, 145, 151, 153] _ _ (by decide) (by decide) (Rd.lit _ _ _ (by simp) (by simp) rfl)).mono ?_
  rintro e w1 ⟨rfl, hb1⟩
  have hbk1 := (HZ0.out.alloc _).below hb1 (by simp; omega)
  have hcs1 := (HZ1.out.alloc _).below hb1 (by simp)
  have hbel1 := (HL.out.alloc (by simp; omega) _).trans (hb1.mono (by simp; omega))
  clear hb1
  obtain ⟨C, hG⟩ : ∃ C, C = codes 5 := ⟨_, rfl⟩
  rw [show wl [0, 16, 128, 131, 135, 144, 145, 151, 153] = C by rw [hG]; simp [codes], wcells_def C]
  have HG := Lib.hid hG; clear hG
  obtain ⟨⟨c0, c1, c2, c3⟩, f0, f1, f2, f3⟩ := hcs1.four
  obtain ⟨⟨d0, d1, d2, d3⟩, g0, g1, g2, g3⟩ := hbk1.four
  have hbel2 := Lib.hid (below_four (below_four hbel1 (g := w.heap.size + 1) (by omega) (.int .u64 (C 0)) (.int .u64 (C 1)) (.int .u64 (C 2)) (.int .u64 (C 3))) (g := w.heap.size) (by omega) (.int .u64 (C 0)) (.int .u64 (C 1)) (.int .u64 (C 2)) (.int .u64 (C 3)))
  clear hbel1 hbk1 hcs1
  go_wp2
  exact bodyPost_ret (v := .agg (wcells C)) (by simp [results, Try.results86, go_sem, wcells, d0, d1, d2, d3]) rfl ⟨by rw [HG.out], hbel2.out⟩
set_option maxHeartbeats 400000 in
set_option maxRecDepth 10000 in
theorem codes_6 (w : World) :
    Calls Try.prog 86 #[.int .i64 6] w fun e w' => e = .returned (.agg (wcells (codes 6))) ∧ Below w.heap.size w w' := by
  have Z0 := (Bk.fresh w 109 #[.int .u64 0, .int .u64 0, .int .u64 0, .int .u64 0]).alloc (.cells #[.int .u64 0, .int .u64 0, .int .u64 0, .int .u64 0] 109)
  have Z1 : Bk ((w.alloc (.cells #[.int .u64 0, .int .u64 0, .int .u64 0, .int .u64 0] 109)).alloc (.cells #[.int .u64 0, .int .u64 0, .int .u64 0, .int .u64 0] 109)) (w.heap.size + 1) 109 #[.int .u64 0, .int .u64 0, .int .u64 0, .int .u64 0] := by simpa using Bk.fresh (w.alloc (.cells #[.int .u64 0, .int .u64 0, .int .u64 0, .int .u64 0] 109)) 109 #[.int .u64 0, .int .u64 0, .int .u64 0, .int .u64 0]
  have hbel := ((Below.refl w.heap.size w).alloc (Nat.le_refl _) (.cells #[.int .u64 0, .int .u64 0, .int .u64 0, .int .u64 0] 109)).alloc (by simp) (.cells #[.int .u64 0, .int .u64 0, .int .u64 0, .int .u64 0] 109)
  have HZ0 := Lib.hid Z0; have HZ1 := Lib.hid Z1; have HL := Lib.hid hbel; clear Z0 Z1 hbel
  go_enter Try.func86, Try.ntmps86
  go_wp2_with fail
  refine (with_zero _ [0, 146] _ _ (by decide) (by decide) (Rd.lit _ _ _ (by simp) (by simp) rfl)).mono ?_
  rintro e w1 ⟨rfl, hb1⟩
  have hbk1 := (HZ0.out.alloc _).below hb1 (by simp; omega)
  have hcs1 := (HZ1.out.alloc _).below hb1 (by simp)
  have hbel1 := (HL.out.alloc (by simp; omega) _).trans (hb1.mono (by simp; omega))
  clear hb1
  obtain ⟨C, hG⟩ : ∃ C, C = codes 6 := ⟨_, rfl⟩
  rw [show wl [0, 146] = C by rw [hG]; simp [codes], wcells_def C]
  have HG := Lib.hid hG; clear hG
  obtain ⟨⟨c0, c1, c2, c3⟩, f0, f1, f2, f3⟩ := hcs1.four
  obtain ⟨⟨d0, d1, d2, d3⟩, g0, g1, g2, g3⟩ := hbk1.four
  have hbel2 := Lib.hid (below_four (below_four hbel1 (g := w.heap.size + 1) (by omega) (.int .u64 (C 0)) (.int .u64 (C 1)) (.int .u64 (C 2)) (.int .u64 (C 3))) (g := w.heap.size) (by omega) (.int .u64 (C 0)) (.int .u64 (C 1)) (.int .u64 (C 2)) (.int .u64 (C 3)))
  clear hbel1 hbk1 hcs1
  go_wp2
  exact bodyPost_ret (v := .agg (wcells C)) (by simp [results, Try.results86, go_sem, wcells, d0, d1, d2, d3]) rfl ⟨by rw [HG.out], hbel2.out⟩
set_option maxHeartbeats 400000 in
set_option maxRecDepth 10000 in
theorem codes_7 (w : World) :
    Calls Try.prog 86 #[.int .i64 7] w fun e w' => e = .returned (.agg (wcells (codes 7))) ∧ Below w.heap.size w w' := by
  have Z0 := (Bk.fresh w 109 #[.int .u64 0, .int .u64 0, .int .u64 0, .int .u64 0]).alloc (.cells #[.int .u64 0, .int .u64 0, .int .u64 0, .int .u64 0] 109)
  have Z1 : Bk ((w.alloc (.cells #[.int .u64 0, .int .u64 0, .int .u64 0, .int .u64 0] 109)).alloc (.cells #[.int .u64 0, .int .u64 0, .int .u64 0, .int .u64 0] 109)) (w.heap.size + 1) 109 #[.int .u64 0, .int .u64 0, .int .u64 0, .int .u64 0] := by simpa using Bk.fresh (w.alloc (.cells #[.int .u64 0, .int .u64 0, .int .u64 0, .int .u64 0] 109)) 109 #[.int .u64 0, .int .u64 0, .int .u64 0, .int .u64 0]
  have hbel := ((Below.refl w.heap.size w).alloc (Nat.le_refl _) (.cells #[.int .u64 0, .int .u64 0, .int .u64 0, .int .u64 0] 109)).alloc (by simp) (.cells #[.int .u64 0, .int .u64 0, .int .u64 0, .int .u64 0] 109)
  have HZ0 := Lib.hid Z0; have HZ1 := Lib.hid Z1; have HL := Lib.hid hbel; clear Z0 Z1 hbel
  go_enter Try.func86, Try.ntmps86
  go_wp2_with fail
  refine (with_zero _ [0, 146] _ _ (by decide) (by decide) (Rd.lit _ _ _ (by simp) (by simp) rfl)).mono ?_
  rintro e w1 ⟨rfl, hb1⟩
  have hbk1 := (HZ0.out.alloc _).below hb1 (by simp; omega)
  have hcs1 := (HZ1.out.alloc _).below hb1 (by simp)
  have hbel1 := (HL.out.alloc (by simp; omega) _).trans (hb1.mono (by simp; omega))
  clear hb1
  obtain ⟨C, hG⟩ : ∃ C, C = codes 7 := ⟨_, rfl⟩
  rw [show wl [0, 146] = C by rw [hG]; simp [codes], wcells_def C]
  have HG := Lib.hid hG; clear hG
  obtain ⟨⟨c0, c1, c2, c3⟩, f0, f1, f2, f3⟩ := hcs1.four
  obtain ⟨⟨d0, d1, d2, d3⟩, g0, g1, g2, g3⟩ := hbk1.four
  have hbel2 := Lib.hid (below_four (below_four hbel1 (g := w.heap.size + 1) (by omega) (.int .u64 (C 0)) (.int .u64 (C 1)) (.int .u64 (C 2)) (.int .u64 (C 3))) (g := w.heap.size) (by omega) (.int .u64 (C 0)) (.int .u64 (C 1)) (.int .u64 (C 2)) (.int .u64 (C 3)))
  clear hbel1 hbk1 hcs1
  go_wp2
  exact bodyPost_ret (v := .agg (wcells C)) (by simp [results, Try.results86, go_sem, wcells, d0, d1, d2, d3]) rfl ⟨by rw [HG.out], hbel2.out⟩
set_option maxHeartbeats 400000 in
set_option maxRecDepth 10000 in
theorem codes_9 (w : World) :
    Calls Try.prog 86 #[.int .i64 9] w fun e w' => e = .returned (.agg (wcells (codes 9))) ∧ Below w.heap.size w w' := by
  have Z0 := (Bk.fresh w 109 #[.int .u64 0, .int .u64 0, .int .u64 0, .int .u64 0]).alloc (.cells #[.int .u64 0, .int .u64 0, .int .u64 0, .int .u64 0] 109)
  have Z1 : Bk ((w.alloc (.cells #[.int .u64 0, .int .u64 0, .int .u64 0, .int .u64 0] 109)).alloc (.cells #[.int .u64 0, .int .u64 0, .int .u64 0, .int .u64 0] 109)) (w.heap.size + 1) 109 #[.int .u64 0, .int .u64 0, .int .u64 0, .int .u64 0] := by simpa using Bk.fresh (w.alloc (.cells #[.int .u64 0, .int .u64 0, .int .u64 0, .int .u64 0] 109)) 109 #[.int .u64 0, .int .u64 0, .int .u64 0, .int .u64 0]
  have hbel := ((Below.refl w.heap.size w).alloc (Nat.le_refl _) (.cells #[.int .u64 0, .int .u64 0, .int .u64 0, .int .u64 0] 109)).alloc (by simp) (.cells #[.int .u64 0, .int .u64 0, .int .u64 0, .int .u64 0] 109)
  have HZ0 := Lib.hid Z0; have HZ1 := Lib.hid Z1; have HL := Lib.hid hbel; clear Z0 Z1 hbel
  go_enter Try.func86, Try.ntmps86
  go_wp2_with fail
  refine (with_zero _ [0, 1, 2, 128, 131, 135, 143, 145, 151, 158, 161, 162] _ _ (by decide) (by decide) (Rd.lit _ _ _ (by simp) (by simp) rfl)).mono ?_
  rintro e w1 ⟨rfl, hb1⟩
  have hbk1 := (HZ0.out.alloc _).below hb1 (by simp; omega)
  have hcs1 := (HZ1.out.alloc _).below hb1 (by simp)
  have hbel1 := (HL.out.alloc (by simp; omega) _).trans (hb1.mono (by simp; omega))
  clear hb1
  obtain ⟨C, hG⟩ : ∃ C, C = codes 9 := ⟨_, rfl⟩
  rw [show wl [0, 1, 2, 128, 131, 135, 143, 145, 151, 158, 161, 162] = C by rw [hG]; simp [codes], wcells_def C]
  have HG := Lib.hid hG; clear hG
  obtain ⟨⟨c0, c1, c2, c3⟩, f0, f1, f2, f3⟩ := hcs1.four
  obtain ⟨⟨d0, d1, d2, d3⟩, g0, g1, g2, g3⟩ := hbk1.four
  have hbel2 := Lib.hid (below_four (below_four hbel1 (g := w.heap.size + 1) (by omega) (.int .u64 (C 0)) (.int .u64 (C 1)) (.int .u64 (C 2)) (.int .u64 (C 3))) (g := w.heap.size) (by omega) (.int .u64 (C 0)) (.int .u64 (C 1)) (.int .u64 (C 2)) (.int .u64 (C 3)))
  clear hbel1 hbk1 hcs1
  go_wp2
  exact bodyPost_ret (v := .agg (wcells C)) (by simp [results, Try.results86, go_sem, wcells, d0, d1, d2, d3]) rfl ⟨by rw [HG.out], hbel2.out⟩
set_option maxHeartbeats 400000 in
set_option maxRecDepth 10000 in
theorem codes_11 (w : World) :
    Calls Try.prog 86 #[.int .i64 11] w fun e w' => e = .returned (.agg (wcells (codes 11))) ∧ Below w.heap.size w w' := by
  have Z0 := (Bk.fresh w 109 #[.int .u64 0, .int .u64 0, .int .u64 0, .int .u64 0]).alloc (.cells #[.int .u64 0, .int .u64 0, .int .u64 0, .int .u64 0] 109)
  have Z1 : Bk ((w.alloc (.cells #[.int .u64 0, .int .u64 0, .int .u64 0, .int .u64 0] 109)).alloc (.cells #[.int .u64 0, .int .u64 0, .int .u64 0, .int .u64 0] 109)) (w.heap.size + 1) 109 #[.int .u64 0, .int .u64 0, .int .u64 0, .int .u64 0] := by simpa using Bk.fresh (w.alloc (.cells #[.int .u64 0, .int .u64 0, .int .u64 0, .int .u64 0] 109)) 109 #[.int .u64 0, .int .u64 0, .int .u64 0, .int .u64 0]
  have hbel := ((Below.refl w.heap.size w).alloc (Nat.le_refl _) (.cells #[.int .u64 0, .int .u64 0, .int .u64 0, .int .u64 0] 109)).alloc (by simp) (.cells #[.int .u64 0, .int .u64 0, .int .u64 0, .int .u64 0] 109)
  have HZ0 := Lib.hid Z0; have HZ1 := Lib.hid Z1; have HL := Lib.hid hbel; clear Z0 Z1 hbel
  go_enter Try.func86, Try.ntmps86
  go_wp2_with fail
  refine (with_zero _ [0, 17, 128, 131, 135, 143, 145] _ _ (by decide) (by decide) (Rd.lit _ _ _ (by simp) (by simp) rfl)).mono ?_
  rintro e w1 ⟨rfl, hb1⟩
  have hbk1 := (HZ0.out.alloc _).below hb1 (by simp; omega)
  have hcs1 := (HZ1.out.alloc _).below hb1 (by simp)
  have hbel1 := (HL.out.alloc (by simp; omega) _).trans (hb1.mono (by simp; omega))
  clear hb1
  obtain ⟨C, hG⟩ : ∃ C, C = codes 11 := ⟨_, rfl⟩
  rw [show wl [0, 17, 128, 131, 135, 143, 145] = C by rw [hG]; simp [codes], wcells_def C]
  have HG := Lib.hid hG; clear hG
  obtain ⟨⟨c0, c1, c2, c3⟩, f0, f1, f2, f3⟩ := hcs1.four
  obtain ⟨⟨d0, d1, d2, d3⟩, g0, g1, g2, g3⟩ := hbk1.four
  have hbel2 := Lib.hid (below_four (below_four hbel1 (g := w.heap.size + 1) (by omega) (.int .u64 (C 0)) (.int .u64 (C 1)) (.int .u64 (C 2)) (.int .u64 (C 3))) (g := w.heap.size) (by omega) (.int .u64 (C 0)) (.int .u64 (C 1)) (.int .u64 (C 2)) (.int .u64 (C 3)))
  clear hbel1 hbk1 hcs1
  go_wp2
  exact bodyPost_ret (v := .agg (wcells C)) (by simp [results, Try.results86, go_sem, wcells, d0, d1, d2, d3]) rfl ⟨by rw [HG.out], hbel2.out⟩
set_option maxHeartbeats 400000 in
set_option maxRecDepth 10000 in
theorem codes_14 (w : World) :
    Calls Try.prog 86 #[.int .i64 14] w fun e w' => e = .returned (.agg (wcells (codes 14))) ∧ Below w.heap.size w w' := by
  have Z0 := (Bk.fresh w 109 #[.int .u64 0, .int .u64 0, .int .u64 0, .int .u64 0]).alloc (.cells #[.int .u64 0, .int .u64 0, .int .u64 0, .int .u64 0] 109)
  have Z1 : Bk ((w.alloc (.cells #[.int .u64 0, .int .u64 0, .int .u64 0, .int .u64 0] 109)).alloc (.cells #[.int .u64 0, .int .u64 0, .int .u64 0, .int .u64 0] 109)) (w.heap.size + 1) 109 #[.int .u64 0, .int .u64 0, .int .u64 0, .int .u64 0] := by simpa using Bk.fresh (w.alloc (.cells #[.int .u64 0, .int .u64 0, .int .u64 0, .int .u64 0] 109)) 109 #[.int .u64 0, .int .u64 0, .int .u64 0, .int .u64 0]
  have hbel := ((Below.refl w.heap.size w).alloc (Nat.le_refl _) (.cells #[.int .u64 0, .int .u64 0, .int .u64 0, .int .u64 0] 109)).alloc (by simp) (.cells #[.int .u64 0, .int .u64 0, .int .u64 0, .int .u64 0] 109)
  have HZ0 := Lib.hid Z0; have HZ1 := Lib.hid Z1; have HL := Lib.hid hbel; clear Z0 Z1 hbel
  go_enter Try.func86, Try.ntmps86
  go_wp2_with fail
  refine (with_zero _ [0, 4, 135, 137, 139, 141, 142, 143, 144] _ _ (by decide) (by decide) (Rd.lit _ _ _ (by simp) (by simp) rfl)).mono ?_
  rintro e w1 ⟨rfl, hb1⟩
  have hbk1 := (HZ0.out.alloc _).below hb1 (by simp; omega)
  have hcs1 := (HZ1.out.alloc _).below hb1 (by simp)
  have hbel1 := (HL.out.alloc (by simp; omega) _).trans (hb1.mono (by simp; omega))
  clear hb1
  have Hb := Lib.hid hbk1; have Hc := Lib.hid hcs1; have Hl := Lib.hid hbel1
  clear hbk1 hcs1 hbel1
  go_wp2_with fail
  refine (upto_at (wl [0, 4, 135, 137, 139, 141, 142, 143, 144]) 128 131 128 4 _ (wl_ok _) (by omega) (by omega) (by omega) (by omega)).mono ?_
  rintro e w2 ⟨rfl, hb1⟩
  have hbk1 := Hb.out.below hb1 Hb.out.lt
  have hcs1 := Hc.out.below hb1 Hc.out.lt
  have hbel1 := Hl.out.trans (hb1.mono (by have := Hb.out.lt; omega))
  clear hb1 Hb Hc Hl
  have Hb := Lib.hid hbk1; have Hc := Lib.hid hcs1; have Hl := Lib.hid hbel1
  clear hbk1 hcs1 hbel1
  go_wp2_with fail
  refine (upto_at (upto (wl [0, 4, 135, 137, 139, 141, 142, 143, 144]) 128 4) 147 162 147 16 _ (upto_ok (wl_ok _) _ _) (by omega) (by omega) (by omega) (by omega)).mono ?_
  rintro e w3 ⟨rfl, hb1⟩
  have hbk1 := Hb.out.below hb1 Hb.out.lt
  have hcs1 := Hc.out.below hb1 Hc.out.lt
  have hbel1 := Hl.out.trans (hb1.mono (by have := Hb.out.lt; omega))
  clear hb1 Hb Hc Hl
  obtain ⟨C, hG⟩ : ∃ C, C = codes 14 := ⟨_, rfl⟩
  rw [show upto (upto (wl [0, 4, 135, 137, 139, 141, 142, 143, 144]) 128 4) 147 16 = C by rw [hG]; simp [codes], wcells_def C]
  have HG := Lib.hid hG; clear hG
  obtain ⟨⟨c0, c1, c2, c3⟩, f0, f1, f2, f3⟩ := hcs1.four
  obtain ⟨⟨d0, d1, d2, d3⟩, g0, g1, g2, g3⟩ := hbk1.four
  have hbel2 := Lib.hid (below_four (below_four hbel1 (g := w.heap.size + 1) (by omega) (.int .u64 (C 0)) (.int .u64 (C 1)) (.int .u64 (C 2)) (.int .u64 (C 3))) (g := w.heap.size) (by omega) (.int .u64 (C 0)) (.int .u64 (C 1)) (.int .u64 (C 2)) (.int .u64 (C 3)))
  clear hbel1 hbk1 hcs1
  go_wp2
  exact bodyPost_ret (v := .agg (wcells C)) (by simp [results, Try.results86, go_sem, wcells, d0, d1, d2, d3]) rfl ⟨by rw [HG.out], hbel2.out⟩
set_option maxHeartbeats 400000 in
set_option maxRecDepth 10000 in
theorem codes_15 (w : World) :
    Calls Try.prog 86 #[.int .i64 15] w fun e w' => e = .returned (.agg (wcells (codes 15))) ∧ Below w.heap.size w w' := by
  have Z0 := (Bk.fresh w 109 #[.int .u64 0, .int .u64 0, .int .u64 0, .int .u64 0]).alloc (.cells #[.int .u64 0, .int .u64 0, .int .u64 0, .int .u64 0] 109)
  have Z1 : Bk ((w.alloc (.cells #[.int .u64 0, .int .u64 0, .int .u64 0, .int .u64 0] 109)).alloc (.cells #[.int .u64 0, .int .u64 0, .int .u64 0, .int .u64 0] 109)) (w.heap.size + 1) 109 #[.int .u64 0, .int .u64 0, .int .u64 0, .int .u64 0] := by simpa using Bk.fresh (w.alloc (.cells #[.int .u64 0, .int .u64 0, .int .u64 0, .int .u64 0] 109)) 109 #[.int .u64 0, .int .u64 0, .int .u64 0, .int .u64 0]
  have hbel := ((Below.refl w.heap.size w).alloc (Nat.le_refl _) (.cells #[.int .u64 0, .int .u64 0, .int .u64 0, .int .u64 0] 109)).alloc (by simp) (.cells #[.int .u64 0, .int .u64 0, .int .u64 0, .int .u64 0] 109)
  have HZ0 := Lib.hid Z0; have HZ1 := Lib.hid Z1; have HL := Lib.hid hbel; clear Z0 Z1 hbel
  go_enter Try.func86, Try.ntmps86
  go_wp2_with fail
  refine (with_zero _ [0, 24, 25] _ _ (by decide) (by decide) (Rd.lit _ _ _ (by simp) (by simp) rfl)).mono ?_
  rintro e w1 ⟨rfl, hb1⟩
  have hbk1 := (HZ0.out.alloc _).below hb1 (by simp; omega)
  have hcs1 := (HZ1.out.alloc _).below hb1 (by simp)
  have hbel1 := (HL.out.alloc (by simp; omega) _).trans (hb1.mono (by simp; omega))
  clear hb1
  obtain ⟨C, hG⟩ : ∃ C, C = codes 15 := ⟨_, rfl⟩
  rw [show wl [0, 24, 25] = C by rw [hG]; simp [codes], wcells_def C]
  have HG := Lib.hid hG; clear hG
  obtain ⟨⟨c0, c1, c2, c3⟩, f0, f1, f2, f3⟩ := hcs1.four
  obtain ⟨⟨d0, d1, d2, d3⟩, g0, g1, g2, g3⟩ := hbk1.four
  have hbel2 := Lib.hid (below_four (below_four hbel1 (g := w.heap.size + 1) (by omega) (.int .u64 (C 0)) (.int .u64 (C 1)) (.int .u64 (C 2)) (.int .u64 (C 3))) (g := w.heap.size) (by omega) (.int .u64 (C 0)) (.int .u64 (C 1)) (.int .u64 (C 2)) (.int .u64 (C 3)))
  clear hbel1 hbk1 hcs1
  go_wp2
  exact bodyPost_ret (v := .agg (wcells C)) (by simp [results, Try.results86, go_sem, wcells, d0, d1, d2, d3]) rfl ⟨by rw [HG.out], hbel2.out⟩
set_option maxHeartbeats 400000 in
set_option maxRecDepth 10000 in
theorem codes_any (kind : Int) (w : World) :
    Calls Try.prog 86 #[.int .i64 kind] w fun e w' => e = .returned (.agg (wcells (codes kind))) ∧ Below w.heap.size w w' := by
  by_cases h2 : kind = 2
  · subst h2; exact codes_2 w
  by_cases h4 : kind = 4
  · subst h4; exact codes_4 w
  by_cases h5 : kind = 5
  · subst h5; exact codes_5 w
  by_cases h6 : kind = 6
  · subst h6; exact codes_6 w
  by_cases h7 : kind = 7
  · subst h7; exact codes_7 w
  by_cases h9 : kind = 9
  · subst h9; exact codes_9 w
  by_cases h11 : kind = 11
  · subst h11; exact codes_11 w
  by_cases h14 : kind = 14
  · subst h14; exact codes_14 w
  by_cases h15 : kind = 15
  · subst h15; exact codes_15 w
  go_enter Try.func86, Try.ntmps86
  go_wp2
  exact bodyPost_ret (v := .agg (wcells wzero)) (by simp [results, Try.results86, go_sem, wcells, wzero]) rfl ⟨by simp [codes, *], ((Below.refl w.heap.size w).alloc (Nat.le_refl _) _).alloc (by simp) _⟩

end Go.Proofs.Ytdpeljnoaiaplaa
