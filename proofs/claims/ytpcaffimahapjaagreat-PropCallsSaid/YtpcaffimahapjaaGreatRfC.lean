/- Reference 05: a property's row (look). -/
import Derived.Test.YtpcaffimahapjaaGreatRfB
namespace Go.Proofs.YtpcaffimahapjaaGreat
open Go.RowKit
theorem heap_alloc_sz (w : World) (o : Obj) : (w.alloc o).heap.size = w.heap.size + 1 := by simp
theorem Rd.of_bk {w : World} {g n : Nat} {t : TypeId} {cs : Array Value} {xs : List Value} (h : Bk w g t cs) (hx : cs.toList = xs) (hn : xs.length = n) : Rd w w.heap.size 1 (some ⟨g, 0, none⟩) n xs := by
  subst hx hn
  refine Rd.of_addr (by omega) h.lt fun j u hu => ?_
  have e : (⟨g, 0, none⟩ : Addr).add j = ⟨g, j, none⟩ := by simp [Addr.add]; intro e; exact e.symm
  rw [e, h.cell, ← hu]
  simp
theorem row_fin {w x : World} {id : Int} {cs : Array Value} {t : TypeId} {n : Nat} {sh le mo : Int} {a b c d : Value} {ks : List Int} (hk : kindsOf id = ks) (hc : cs.toList = iv ks) (hn : ks.length = n) (hr : ((ruleOf id).shape : Int) = sh ∧ ((ruleOf id).least : Int) = le ∧ ((ruleOf id).most : Int) = mo)
    (hs : Bk x (w.heap.size + 1) t cs) (hb : Below w.heap.size w x) :
    RowOut id w (.returned (.agg #[.int .i64 sh, .slice (some ⟨w.heap.size + 1, 0, none⟩) n n, .int .u32 le, .int .u32 mo])) ((((x.setCell ⟨w.heap.size, 0, none⟩ a).setCell ⟨w.heap.size, 1, none⟩ b).setCell ⟨w.heap.size, 2, none⟩ c).setCell ⟨w.heap.size, 3, none⟩ d) := by
  obtain ⟨rfl, rfl, rfl⟩ := hr
  subst hk hn
  exact ⟨_, _, rfl, Rd.of_bk (hs.put_other (by omega)) hc (iv_len _), below_four hb (Nat.le_refl _) _ _ _ _⟩
theorem results_row {fn : Func} {p : Tmp} (hr : fn.results = #[.cell p RwT]) (tmps : Array Value) {w : World} {g : Nat} {a b c d : Value} (hp : tmps.getD p undef = .pointer (some ⟨g, 0, none⟩)) (hb : Bk w g RwT #[a, b, c, d]) : (results fn tmps).run Tryz.prog w = .ok (.agg #[a, b, c, d]) w := by
  obtain ⟨⟨c0, c1, c2, c3⟩, -⟩ := hb.four
  rw [Array.getD_eq_getD_getElem?] at hp
  simp only [results, hr]
  simp [hp, go_sem, c0, c1, c2, c3]
set_option maxHeartbeats 1000000 in
set_option maxRecDepth 10000 in
theorem look_1 (w : World) : Calls Tryz.prog 95 #[.int .i64 1] w (RowOut 1 w) := by
  have HR := Lib.hid ((Bk.fresh w RwT #[.int .i64 0, .slice none 0 0, .int .u32 0, .int .u32 0]).alloc (.cells #[.int .i64 3, .int .i64 16] 3))
  have HS := Lib.hid (Bk.fresh (w.alloc (.cells #[.int .i64 0, .slice none 0 0, .int .u32 0, .int .u32 0] RwT)) 3 #[.int .i64 3, .int .i64 16])
  rw [heap_alloc_sz] at HS
  have HB := Lib.hid (((Below.refl w.heap.size w).alloc (Nat.le_refl _) (.cells #[.int .i64 0, .slice none 0 0, .int .u32 0, .int .u32 0] RwT)).alloc (by simp) (.cells #[.int .i64 3, .int .i64 16] 3))
  go_enter Tryz.func95, Tryz.ntmps95
  go_wp2_with fail
  refine (rone_any _ _ _ _).mono ?_
  rintro e w1 ⟨rfl, hb⟩
  have HR1 := Lib.hid (HR.out.below hb HR.out.lt); have HS1 := Lib.hid (HS.out.below hb HS.out.lt); have HB1 := Lib.hid (HB.out.trans (hb.mono HB.out.size)); clear hb
  obtain ⟨⟨c0, c1, c2, c3⟩, f0, f1, f2, f3⟩ := HR1.out.four
  go_wp2
  refine bodyPost_ret (results_row rfl _ rfl HR1.out.put_four) rfl (row_fin (ks := [3, 16]) (by decide +kernel) rfl rfl (by decide +kernel) HS1.out HB1.out)
set_option maxHeartbeats 1000000 in
set_option maxRecDepth 10000 in
theorem look_2 (w : World) : Calls Tryz.prog 95 #[.int .i64 2] w (RowOut 2 w) := by
  have HR := Lib.hid ((Bk.fresh w RwT #[.int .i64 0, .slice none 0 0, .int .u32 0, .int .u32 0]).alloc (.cells #[.int .i64 3, .int .i64 16] 3))
  have HS := Lib.hid (Bk.fresh (w.alloc (.cells #[.int .i64 0, .slice none 0 0, .int .u32 0, .int .u32 0] RwT)) 3 #[.int .i64 3, .int .i64 16])
  rw [heap_alloc_sz] at HS
  have HB := Lib.hid (((Below.refl w.heap.size w).alloc (Nat.le_refl _) (.cells #[.int .i64 0, .slice none 0 0, .int .u32 0, .int .u32 0] RwT)).alloc (by simp) (.cells #[.int .i64 3, .int .i64 16] 3))
  go_enter Tryz.func95, Tryz.ntmps95
  go_wp2_with fail
  refine (rfour_any _ _ _ 0 _).mono ?_
  rintro e w1 ⟨rfl, hb⟩
  have HR1 := Lib.hid (HR.out.below hb HR.out.lt); have HS1 := Lib.hid (HS.out.below hb HS.out.lt); have HB1 := Lib.hid (HB.out.trans (hb.mono HB.out.size)); clear hb
  obtain ⟨⟨c0, c1, c2, c3⟩, f0, f1, f2, f3⟩ := HR1.out.four
  go_wp2
  refine bodyPost_ret (results_row rfl _ rfl HR1.out.put_four) rfl (row_fin (ks := [3, 16]) (by decide +kernel) rfl rfl (by decide +kernel) HS1.out HB1.out)
set_option maxHeartbeats 1000000 in
set_option maxRecDepth 10000 in
theorem look_3 (w : World) : Calls Tryz.prog 95 #[.int .i64 3] w (RowOut 3 w) := by
  have HR := Lib.hid ((Bk.fresh w RwT #[.int .i64 0, .slice none 0 0, .int .u32 0, .int .u32 0]).alloc (.cells #[.int .i64 3, .int .i64 16] 3))
  have HS := Lib.hid (Bk.fresh (w.alloc (.cells #[.int .i64 0, .slice none 0 0, .int .u32 0, .int .u32 0] RwT)) 3 #[.int .i64 3, .int .i64 16])
  rw [heap_alloc_sz] at HS
  have HB := Lib.hid (((Below.refl w.heap.size w).alloc (Nat.le_refl _) (.cells #[.int .i64 0, .slice none 0 0, .int .u32 0, .int .u32 0] RwT)).alloc (by simp) (.cells #[.int .i64 3, .int .i64 16] 3))
  go_enter Tryz.func95, Tryz.ntmps95
  go_wp2_with fail
  refine (rof_any _ _ _ 5 _).mono ?_
  rintro e w1 ⟨rfl, hb⟩
  have HR1 := Lib.hid (HR.out.below hb HR.out.lt); have HS1 := Lib.hid (HS.out.below hb HS.out.lt); have HB1 := Lib.hid (HB.out.trans (hb.mono HB.out.size)); clear hb
  obtain ⟨⟨c0, c1, c2, c3⟩, f0, f1, f2, f3⟩ := HR1.out.four
  go_wp2
  refine bodyPost_ret (results_row rfl _ rfl HR1.out.put_four) rfl (row_fin (ks := [3, 16]) (by decide +kernel) rfl rfl (by decide +kernel) HS1.out HB1.out)
set_option maxHeartbeats 1000000 in
set_option maxRecDepth 10000 in
theorem look_8 (w : World) : Calls Tryz.prog 95 #[.int .i64 8] w (RowOut 8 w) := by
  have HR := Lib.hid ((Bk.fresh w RwT #[.int .i64 0, .slice none 0 0, .int .u32 0, .int .u32 0]).alloc (.cells #[.int .i64 3, .int .i64 16] 3))
  have HS := Lib.hid (Bk.fresh (w.alloc (.cells #[.int .i64 0, .slice none 0 0, .int .u32 0, .int .u32 0] RwT)) 3 #[.int .i64 3, .int .i64 16])
  rw [heap_alloc_sz] at HS
  have HB := Lib.hid (((Below.refl w.heap.size w).alloc (Nat.le_refl _) (.cells #[.int .i64 0, .slice none 0 0, .int .u32 0, .int .u32 0] RwT)).alloc (by simp) (.cells #[.int .i64 3, .int .i64 16] 3))
  go_enter Tryz.func95, Tryz.ntmps95
  go_wp2_with fail
  refine (rof_any _ _ _ 5 _).mono ?_
  rintro e w1 ⟨rfl, hb⟩
  have HR1 := Lib.hid (HR.out.below hb HR.out.lt); have HS1 := Lib.hid (HS.out.below hb HS.out.lt); have HB1 := Lib.hid (HB.out.trans (hb.mono HB.out.size)); clear hb
  obtain ⟨⟨c0, c1, c2, c3⟩, f0, f1, f2, f3⟩ := HR1.out.four
  go_wp2
  refine bodyPost_ret (results_row rfl _ rfl HR1.out.put_four) rfl (row_fin (ks := [3, 16]) (by decide +kernel) rfl rfl (by decide +kernel) HS1.out HB1.out)
set_option maxHeartbeats 1000000 in
set_option maxRecDepth 10000 in
theorem look_9 (w : World) : Calls Tryz.prog 95 #[.int .i64 9] w (RowOut 9 w) := by
  have HR := Lib.hid ((Bk.fresh w RwT #[.int .i64 0, .slice none 0 0, .int .u32 0, .int .u32 0]).alloc (.cells #[.int .i64 3, .int .i64 16] 3))
  have HS := Lib.hid (Bk.fresh (w.alloc (.cells #[.int .i64 0, .slice none 0 0, .int .u32 0, .int .u32 0] RwT)) 3 #[.int .i64 3, .int .i64 16])
  rw [heap_alloc_sz] at HS
  have HB := Lib.hid (((Below.refl w.heap.size w).alloc (Nat.le_refl _) (.cells #[.int .i64 0, .slice none 0 0, .int .u32 0, .int .u32 0] RwT)).alloc (by simp) (.cells #[.int .i64 3, .int .i64 16] 3))
  go_enter Tryz.func95, Tryz.ntmps95
  go_wp2_with fail
  refine (rof_any _ _ _ 6 _).mono ?_
  rintro e w1 ⟨rfl, hb⟩
  have HR1 := Lib.hid (HR.out.below hb HR.out.lt); have HS1 := Lib.hid (HS.out.below hb HS.out.lt); have HB1 := Lib.hid (HB.out.trans (hb.mono HB.out.size)); clear hb
  obtain ⟨⟨c0, c1, c2, c3⟩, f0, f1, f2, f3⟩ := HR1.out.four
  go_wp2
  refine bodyPost_ret (results_row rfl _ rfl HR1.out.put_four) rfl (row_fin (ks := [3, 16]) (by decide +kernel) rfl rfl (by decide +kernel) HS1.out HB1.out)
set_option maxHeartbeats 1000000 in
set_option maxRecDepth 10000 in
theorem look_11 (w : World) : Calls Tryz.prog 95 #[.int .i64 11] w (RowOut 11 w) := by
  have HR := Lib.hid ((Bk.fresh w RwT #[.int .i64 0, .slice none 0 0, .int .u32 0, .int .u32 0]).alloc (.cells #[.int .i64 3, .int .i64 8] 3))
  have HS := Lib.hid (Bk.fresh (w.alloc (.cells #[.int .i64 0, .slice none 0 0, .int .u32 0, .int .u32 0] RwT)) 3 #[.int .i64 3, .int .i64 8])
  rw [heap_alloc_sz] at HS
  have HB := Lib.hid (((Below.refl w.heap.size w).alloc (Nat.le_refl _) (.cells #[.int .i64 0, .slice none 0 0, .int .u32 0, .int .u32 0] RwT)).alloc (by simp) (.cells #[.int .i64 3, .int .i64 8] 3))
  go_enter Tryz.func95, Tryz.ntmps95
  have HR1 := HR; have HS1 := HS; have HB1 := HB
  go_wp2
  refine bodyPost_ret (v := .agg #[.int .i64 4, .slice (some ⟨w.heap.size + 1, 0, none⟩) 2 2, .int .u32 1, .int .u32 268435455]) (by simp [results, Tryz.results95, go_sem]) rfl ⟨_, _, rfl, ?_, ((Below.refl w.heap.size w).alloc (Nat.le_refl _) _).alloc (by simp) _⟩
  have hb := Bk.fresh (w.alloc (.cells #[.int .i64 4, .slice (some ⟨w.heap.size + 1, 0, none⟩) 2 2, .int .u32 1, .int .u32 268435455] RwT)) 3 #[.int .i64 3, .int .i64 8]
  rw [heap_alloc_sz] at hb
  exact Rd.of_bk hb rfl rfl
set_option maxHeartbeats 1000000 in
set_option maxRecDepth 10000 in
theorem look_17 (w : World) : Calls Tryz.prog 95 #[.int .i64 17] w (RowOut 17 w) := by
  have HR := Lib.hid ((Bk.fresh w RwT #[.int .i64 0, .slice none 0 0, .int .u32 0, .int .u32 0]).alloc (.cells #[.int .i64 1, .int .i64 2, .int .i64 14] 3))
  have HS := Lib.hid (Bk.fresh (w.alloc (.cells #[.int .i64 0, .slice none 0 0, .int .u32 0, .int .u32 0] RwT)) 3 #[.int .i64 1, .int .i64 2, .int .i64 14])
  rw [heap_alloc_sz] at HS
  have HB := Lib.hid (((Below.refl w.heap.size w).alloc (Nat.le_refl _) (.cells #[.int .i64 0, .slice none 0 0, .int .u32 0, .int .u32 0] RwT)).alloc (by simp) (.cells #[.int .i64 1, .int .i64 2, .int .i64 14] 3))
  go_enter Tryz.func95, Tryz.ntmps95
  go_wp2_with fail
  refine (rfour_any _ _ _ 0 _).mono ?_
  rintro e w1 ⟨rfl, hb⟩
  have HR1 := Lib.hid (HR.out.below hb HR.out.lt); have HS1 := Lib.hid (HS.out.below hb HS.out.lt); have HB1 := Lib.hid (HB.out.trans (hb.mono HB.out.size)); clear hb
  obtain ⟨⟨c0, c1, c2, c3⟩, f0, f1, f2, f3⟩ := HR1.out.four
  go_wp2
  refine bodyPost_ret (results_row rfl _ rfl HR1.out.put_four) rfl (row_fin (ks := [1, 2, 14]) (by decide +kernel) rfl rfl (by decide +kernel) HS1.out HB1.out)
set_option maxHeartbeats 1000000 in
set_option maxRecDepth 10000 in
theorem look_18 (w : World) : Calls Tryz.prog 95 #[.int .i64 18] w (RowOut 18 w) := by
  have HR := Lib.hid ((Bk.fresh w RwT #[.int .i64 0, .slice none 0 0, .int .u32 0, .int .u32 0]).alloc (.cells #[.int .i64 2] 3))
  have HS := Lib.hid (Bk.fresh (w.alloc (.cells #[.int .i64 0, .slice none 0 0, .int .u32 0, .int .u32 0] RwT)) 3 #[.int .i64 2])
  rw [heap_alloc_sz] at HS
  have HB := Lib.hid (((Below.refl w.heap.size w).alloc (Nat.le_refl _) (.cells #[.int .i64 0, .slice none 0 0, .int .u32 0, .int .u32 0] RwT)).alloc (by simp) (.cells #[.int .i64 2] 3))
  go_enter Tryz.func95, Tryz.ntmps95
  go_wp2_with fail
  refine (rof_any _ _ _ 5 _).mono ?_
  rintro e w1 ⟨rfl, hb⟩
  have HR1 := Lib.hid (HR.out.below hb HR.out.lt); have HS1 := Lib.hid (HS.out.below hb HS.out.lt); have HB1 := Lib.hid (HB.out.trans (hb.mono HB.out.size)); clear hb
  obtain ⟨⟨c0, c1, c2, c3⟩, f0, f1, f2, f3⟩ := HR1.out.four
  go_wp2
  refine bodyPost_ret (results_row rfl _ rfl HR1.out.put_four) rfl (row_fin (ks := [2]) (by decide +kernel) rfl rfl (by decide +kernel) HS1.out HB1.out)
set_option maxHeartbeats 1000000 in
set_option maxRecDepth 10000 in
theorem look_26 (w : World) : Calls Tryz.prog 95 #[.int .i64 26] w (RowOut 26 w) := by
  have HR := Lib.hid ((Bk.fresh w RwT #[.int .i64 0, .slice none 0 0, .int .u32 0, .int .u32 0]).alloc (.cells #[.int .i64 2] 3))
  have HS := Lib.hid (Bk.fresh (w.alloc (.cells #[.int .i64 0, .slice none 0 0, .int .u32 0, .int .u32 0] RwT)) 3 #[.int .i64 2])
  rw [heap_alloc_sz] at HS
  have HB := Lib.hid (((Below.refl w.heap.size w).alloc (Nat.le_refl _) (.cells #[.int .i64 0, .slice none 0 0, .int .u32 0, .int .u32 0] RwT)).alloc (by simp) (.cells #[.int .i64 2] 3))
  go_enter Tryz.func95, Tryz.ntmps95
  go_wp2_with fail
  refine (rof_any _ _ _ 5 _).mono ?_
  rintro e w1 ⟨rfl, hb⟩
  have HR1 := Lib.hid (HR.out.below hb HR.out.lt); have HS1 := Lib.hid (HS.out.below hb HS.out.lt); have HB1 := Lib.hid (HB.out.trans (hb.mono HB.out.size)); clear hb
  obtain ⟨⟨c0, c1, c2, c3⟩, f0, f1, f2, f3⟩ := HR1.out.four
  go_wp2
  refine bodyPost_ret (results_row rfl _ rfl HR1.out.put_four) rfl (row_fin (ks := [2]) (by decide +kernel) rfl rfl (by decide +kernel) HS1.out HB1.out)
set_option maxHeartbeats 1000000 in
set_option maxRecDepth 10000 in
theorem look_19 (w : World) : Calls Tryz.prog 95 #[.int .i64 19] w (RowOut 19 w) := by
  have HR := Lib.hid ((Bk.fresh w RwT #[.int .i64 0, .slice none 0 0, .int .u32 0, .int .u32 0]).alloc (.cells #[.int .i64 2] 3))
  have HS := Lib.hid (Bk.fresh (w.alloc (.cells #[.int .i64 0, .slice none 0 0, .int .u32 0, .int .u32 0] RwT)) 3 #[.int .i64 2])
  rw [heap_alloc_sz] at HS
  have HB := Lib.hid (((Below.refl w.heap.size w).alloc (Nat.le_refl _) (.cells #[.int .i64 0, .slice none 0 0, .int .u32 0, .int .u32 0] RwT)).alloc (by simp) (.cells #[.int .i64 2] 3))
  go_enter Tryz.func95, Tryz.ntmps95
  go_wp2_with fail
  refine (rtwo_any _ _ _ 0 _).mono ?_
  rintro e w1 ⟨rfl, hb⟩
  have HR1 := Lib.hid (HR.out.below hb HR.out.lt); have HS1 := Lib.hid (HS.out.below hb HS.out.lt); have HB1 := Lib.hid (HB.out.trans (hb.mono HB.out.size)); clear hb
  obtain ⟨⟨c0, c1, c2, c3⟩, f0, f1, f2, f3⟩ := HR1.out.four
  go_wp2
  refine bodyPost_ret (results_row rfl _ rfl HR1.out.put_four) rfl (row_fin (ks := [2]) (by decide +kernel) rfl rfl (by decide +kernel) HS1.out HB1.out)
set_option maxHeartbeats 1000000 in
set_option maxRecDepth 10000 in
theorem look_21 (w : World) : Calls Tryz.prog 95 #[.int .i64 21] w (RowOut 21 w) := by
  have HR := Lib.hid ((Bk.fresh w RwT #[.int .i64 0, .slice none 0 0, .int .u32 0, .int .u32 0]).alloc (.cells #[.int .i64 1, .int .i64 2, .int .i64 15] 3))
  have HS := Lib.hid (Bk.fresh (w.alloc (.cells #[.int .i64 0, .slice none 0 0, .int .u32 0, .int .u32 0] RwT)) 3 #[.int .i64 1, .int .i64 2, .int .i64 15])
  rw [heap_alloc_sz] at HS
  have HB := Lib.hid (((Below.refl w.heap.size w).alloc (Nat.le_refl _) (.cells #[.int .i64 0, .slice none 0 0, .int .u32 0, .int .u32 0] RwT)).alloc (by simp) (.cells #[.int .i64 1, .int .i64 2, .int .i64 15] 3))
  go_enter Tryz.func95, Tryz.ntmps95
  go_wp2_with fail
  refine (rof_any _ _ _ 5 _).mono ?_
  rintro e w1 ⟨rfl, hb⟩
  have HR1 := Lib.hid (HR.out.below hb HR.out.lt); have HS1 := Lib.hid (HS.out.below hb HS.out.lt); have HB1 := Lib.hid (HB.out.trans (hb.mono HB.out.size)); clear hb
  obtain ⟨⟨c0, c1, c2, c3⟩, f0, f1, f2, f3⟩ := HR1.out.four
  go_wp2
  refine bodyPost_ret (results_row rfl _ rfl HR1.out.put_four) rfl (row_fin (ks := [1, 2, 15]) (by decide +kernel) rfl rfl (by decide +kernel) HS1.out HB1.out)
set_option maxHeartbeats 1000000 in
set_option maxRecDepth 10000 in
theorem look_22 (w : World) : Calls Tryz.prog 95 #[.int .i64 22] w (RowOut 22 w) := by
  have HR := Lib.hid ((Bk.fresh w RwT #[.int .i64 0, .slice none 0 0, .int .u32 0, .int .u32 0]).alloc (.cells #[.int .i64 1, .int .i64 2, .int .i64 15] 3))
  have HS := Lib.hid (Bk.fresh (w.alloc (.cells #[.int .i64 0, .slice none 0 0, .int .u32 0, .int .u32 0] RwT)) 3 #[.int .i64 1, .int .i64 2, .int .i64 15])
  rw [heap_alloc_sz] at HS
  have HB := Lib.hid (((Below.refl w.heap.size w).alloc (Nat.le_refl _) (.cells #[.int .i64 0, .slice none 0 0, .int .u32 0, .int .u32 0] RwT)).alloc (by simp) (.cells #[.int .i64 1, .int .i64 2, .int .i64 15] 3))
  go_enter Tryz.func95, Tryz.ntmps95
  go_wp2_with fail
  refine (rof_any _ _ _ 6 _).mono ?_
  rintro e w1 ⟨rfl, hb⟩
  have HR1 := Lib.hid (HR.out.below hb HR.out.lt); have HS1 := Lib.hid (HS.out.below hb HS.out.lt); have HB1 := Lib.hid (HB.out.trans (hb.mono HB.out.size)); clear hb
  obtain ⟨⟨c0, c1, c2, c3⟩, f0, f1, f2, f3⟩ := HR1.out.four
  go_wp2
  refine bodyPost_ret (results_row rfl _ rfl HR1.out.put_four) rfl (row_fin (ks := [1, 2, 15]) (by decide +kernel) rfl rfl (by decide +kernel) HS1.out HB1.out)
set_option maxHeartbeats 1000000 in
set_option maxRecDepth 10000 in
theorem look_23 (w : World) : Calls Tryz.prog 95 #[.int .i64 23] w (RowOut 23 w) := by
  have HR := Lib.hid ((Bk.fresh w RwT #[.int .i64 0, .slice none 0 0, .int .u32 0, .int .u32 0]).alloc (.cells #[.int .i64 1] 3))
  have HS := Lib.hid (Bk.fresh (w.alloc (.cells #[.int .i64 0, .slice none 0 0, .int .u32 0, .int .u32 0] RwT)) 3 #[.int .i64 1])
  rw [heap_alloc_sz] at HS
  have HB := Lib.hid (((Below.refl w.heap.size w).alloc (Nat.le_refl _) (.cells #[.int .i64 0, .slice none 0 0, .int .u32 0, .int .u32 0] RwT)).alloc (by simp) (.cells #[.int .i64 1] 3))
  go_enter Tryz.func95, Tryz.ntmps95
  go_wp2_with fail
  refine (rone_any _ _ _ _).mono ?_
  rintro e w1 ⟨rfl, hb⟩
  have HR1 := Lib.hid (HR.out.below hb HR.out.lt); have HS1 := Lib.hid (HS.out.below hb HS.out.lt); have HB1 := Lib.hid (HB.out.trans (hb.mono HB.out.size)); clear hb
  obtain ⟨⟨c0, c1, c2, c3⟩, f0, f1, f2, f3⟩ := HR1.out.four
  go_wp2
  refine bodyPost_ret (results_row rfl _ rfl HR1.out.put_four) rfl (row_fin (ks := [1]) (by decide +kernel) rfl rfl (by decide +kernel) HS1.out HB1.out)
set_option maxHeartbeats 1000000 in
set_option maxRecDepth 10000 in
theorem look_25 (w : World) : Calls Tryz.prog 95 #[.int .i64 25] w (RowOut 25 w) := by
  have HR := Lib.hid ((Bk.fresh w RwT #[.int .i64 0, .slice none 0 0, .int .u32 0, .int .u32 0]).alloc (.cells #[.int .i64 1] 3))
  have HS := Lib.hid (Bk.fresh (w.alloc (.cells #[.int .i64 0, .slice none 0 0, .int .u32 0, .int .u32 0] RwT)) 3 #[.int .i64 1])
  rw [heap_alloc_sz] at HS
  have HB := Lib.hid (((Below.refl w.heap.size w).alloc (Nat.le_refl _) (.cells #[.int .i64 0, .slice none 0 0, .int .u32 0, .int .u32 0] RwT)).alloc (by simp) (.cells #[.int .i64 1] 3))
  go_enter Tryz.func95, Tryz.ntmps95
  go_wp2_with fail
  refine (rone_any _ _ _ _).mono ?_
  rintro e w1 ⟨rfl, hb⟩
  have HR1 := Lib.hid (HR.out.below hb HR.out.lt); have HS1 := Lib.hid (HS.out.below hb HS.out.lt); have HB1 := Lib.hid (HB.out.trans (hb.mono HB.out.size)); clear hb
  obtain ⟨⟨c0, c1, c2, c3⟩, f0, f1, f2, f3⟩ := HR1.out.four
  go_wp2
  refine bodyPost_ret (results_row rfl _ rfl HR1.out.put_four) rfl (row_fin (ks := [1]) (by decide +kernel) rfl rfl (by decide +kernel) HS1.out HB1.out)
set_option maxHeartbeats 1000000 in
set_option maxRecDepth 10000 in
theorem look_24 (w : World) : Calls Tryz.prog 95 #[.int .i64 24] w (RowOut 24 w) := by
  have HR := Lib.hid ((Bk.fresh w RwT #[.int .i64 0, .slice none 0 0, .int .u32 0, .int .u32 0]).alloc (.cells #[.int .i64 16] 3))
  have HS := Lib.hid (Bk.fresh (w.alloc (.cells #[.int .i64 0, .slice none 0 0, .int .u32 0, .int .u32 0] RwT)) 3 #[.int .i64 16])
  rw [heap_alloc_sz] at HS
  have HB := Lib.hid (((Below.refl w.heap.size w).alloc (Nat.le_refl _) (.cells #[.int .i64 0, .slice none 0 0, .int .u32 0, .int .u32 0] RwT)).alloc (by simp) (.cells #[.int .i64 16] 3))
  go_enter Tryz.func95, Tryz.ntmps95
  go_wp2_with fail
  refine (rfour_any _ _ _ 0 _).mono ?_
  rintro e w1 ⟨rfl, hb⟩
  have HR1 := Lib.hid (HR.out.below hb HR.out.lt); have HS1 := Lib.hid (HS.out.below hb HS.out.lt); have HB1 := Lib.hid (HB.out.trans (hb.mono HB.out.size)); clear hb
  obtain ⟨⟨c0, c1, c2, c3⟩, f0, f1, f2, f3⟩ := HR1.out.four
  go_wp2
  refine bodyPost_ret (results_row rfl _ rfl HR1.out.put_four) rfl (row_fin (ks := [16]) (by decide +kernel) rfl rfl (by decide +kernel) HS1.out HB1.out)
set_option maxHeartbeats 1000000 in
set_option maxRecDepth 10000 in
theorem look_28 (w : World) : Calls Tryz.prog 95 #[.int .i64 28] w (RowOut 28 w) := by
  have HR := Lib.hid ((Bk.fresh w RwT #[.int .i64 0, .slice none 0 0, .int .u32 0, .int .u32 0]).alloc (.cells #[.int .i64 2, .int .i64 14] 3))
  have HS := Lib.hid (Bk.fresh (w.alloc (.cells #[.int .i64 0, .slice none 0 0, .int .u32 0, .int .u32 0] RwT)) 3 #[.int .i64 2, .int .i64 14])
  rw [heap_alloc_sz] at HS
  have HB := Lib.hid (((Below.refl w.heap.size w).alloc (Nat.le_refl _) (.cells #[.int .i64 0, .slice none 0 0, .int .u32 0, .int .u32 0] RwT)).alloc (by simp) (.cells #[.int .i64 2, .int .i64 14] 3))
  go_enter Tryz.func95, Tryz.ntmps95
  go_wp2_with fail
  refine (rof_any _ _ _ 5 _).mono ?_
  rintro e w1 ⟨rfl, hb⟩
  have HR1 := Lib.hid (HR.out.below hb HR.out.lt); have HS1 := Lib.hid (HS.out.below hb HS.out.lt); have HB1 := Lib.hid (HB.out.trans (hb.mono HB.out.size)); clear hb
  obtain ⟨⟨c0, c1, c2, c3⟩, f0, f1, f2, f3⟩ := HR1.out.four
  go_wp2
  refine bodyPost_ret (results_row rfl _ rfl HR1.out.put_four) rfl (row_fin (ks := [2, 14]) (by decide +kernel) rfl rfl (by decide +kernel) HS1.out HB1.out)
set_option maxHeartbeats 1000000 in
set_option maxRecDepth 10000 in
theorem look_31 (w : World) : Calls Tryz.prog 95 #[.int .i64 31] w (RowOut 31 w) := by
  have HR := Lib.hid ((Bk.fresh w RwT #[.int .i64 0, .slice none 0 0, .int .u32 0, .int .u32 0]).alloc (.cells #[.int .i64 2, .int .i64 4, .int .i64 5, .int .i64 6, .int .i64 7, .int .i64 9, .int .i64 11, .int .i64 14, .int .i64 15] 3))
  have HS := Lib.hid (Bk.fresh (w.alloc (.cells #[.int .i64 0, .slice none 0 0, .int .u32 0, .int .u32 0] RwT)) 3 #[.int .i64 2, .int .i64 4, .int .i64 5, .int .i64 6, .int .i64 7, .int .i64 9, .int .i64 11, .int .i64 14, .int .i64 15])
  rw [heap_alloc_sz] at HS
  have HB := Lib.hid (((Below.refl w.heap.size w).alloc (Nat.le_refl _) (.cells #[.int .i64 0, .slice none 0 0, .int .u32 0, .int .u32 0] RwT)).alloc (by simp) (.cells #[.int .i64 2, .int .i64 4, .int .i64 5, .int .i64 6, .int .i64 7, .int .i64 9, .int .i64 11, .int .i64 14, .int .i64 15] 3))
  go_enter Tryz.func95, Tryz.ntmps95
  go_wp2_with fail
  refine (rof_any _ _ _ 5 _).mono ?_
  rintro e w1 ⟨rfl, hb⟩
  have HR1 := Lib.hid (HR.out.below hb HR.out.lt); have HS1 := Lib.hid (HS.out.below hb HS.out.lt); have HB1 := Lib.hid (HB.out.trans (hb.mono HB.out.size)); clear hb
  obtain ⟨⟨c0, c1, c2, c3⟩, f0, f1, f2, f3⟩ := HR1.out.four
  go_wp2
  refine bodyPost_ret (results_row rfl _ rfl HR1.out.put_four) rfl (row_fin (ks := [2, 4, 5, 6, 7, 9, 11, 14, 15]) (by decide +kernel) rfl rfl (by decide +kernel) HS1.out HB1.out)
set_option maxHeartbeats 1000000 in
set_option maxRecDepth 10000 in
theorem look_33 (w : World) : Calls Tryz.prog 95 #[.int .i64 33] w (RowOut 33 w) := by
  have HR := Lib.hid ((Bk.fresh w RwT #[.int .i64 0, .slice none 0 0, .int .u32 0, .int .u32 0]).alloc (.cells #[.int .i64 1, .int .i64 2] 3))
  have HS := Lib.hid (Bk.fresh (w.alloc (.cells #[.int .i64 0, .slice none 0 0, .int .u32 0, .int .u32 0] RwT)) 3 #[.int .i64 1, .int .i64 2])
  rw [heap_alloc_sz] at HS
  have HB := Lib.hid (((Below.refl w.heap.size w).alloc (Nat.le_refl _) (.cells #[.int .i64 0, .slice none 0 0, .int .u32 0, .int .u32 0] RwT)).alloc (by simp) (.cells #[.int .i64 1, .int .i64 2] 3))
  go_enter Tryz.func95, Tryz.ntmps95
  go_wp2_with fail
  refine (rtwo_any _ _ _ 1 _).mono ?_
  rintro e w1 ⟨rfl, hb⟩
  have HR1 := Lib.hid (HR.out.below hb HR.out.lt); have HS1 := Lib.hid (HS.out.below hb HS.out.lt); have HB1 := Lib.hid (HB.out.trans (hb.mono HB.out.size)); clear hb
  obtain ⟨⟨c0, c1, c2, c3⟩, f0, f1, f2, f3⟩ := HR1.out.four
  go_wp2
  refine bodyPost_ret (results_row rfl _ rfl HR1.out.put_four) rfl (row_fin (ks := [1, 2]) (by decide +kernel) rfl rfl (by decide +kernel) HS1.out HB1.out)
set_option maxHeartbeats 1000000 in
set_option maxRecDepth 10000 in
theorem look_34 (w : World) : Calls Tryz.prog 95 #[.int .i64 34] w (RowOut 34 w) := by
  have HR := Lib.hid ((Bk.fresh w RwT #[.int .i64 0, .slice none 0 0, .int .u32 0, .int .u32 0]).alloc (.cells #[.int .i64 1, .int .i64 2] 3))
  have HS := Lib.hid (Bk.fresh (w.alloc (.cells #[.int .i64 0, .slice none 0 0, .int .u32 0, .int .u32 0] RwT)) 3 #[.int .i64 1, .int .i64 2])
  rw [heap_alloc_sz] at HS
  have HB := Lib.hid (((Below.refl w.heap.size w).alloc (Nat.le_refl _) (.cells #[.int .i64 0, .slice none 0 0, .int .u32 0, .int .u32 0] RwT)).alloc (by simp) (.cells #[.int .i64 1, .int .i64 2] 3))
  go_enter Tryz.func95, Tryz.ntmps95
  go_wp2_with fail
  refine (rtwo_any _ _ _ 0 _).mono ?_
  rintro e w1 ⟨rfl, hb⟩
  have HR1 := Lib.hid (HR.out.below hb HR.out.lt); have HS1 := Lib.hid (HS.out.below hb HS.out.lt); have HB1 := Lib.hid (HB.out.trans (hb.mono HB.out.size)); clear hb
  obtain ⟨⟨c0, c1, c2, c3⟩, f0, f1, f2, f3⟩ := HR1.out.four
  go_wp2
  refine bodyPost_ret (results_row rfl _ rfl HR1.out.put_four) rfl (row_fin (ks := [1, 2]) (by decide +kernel) rfl rfl (by decide +kernel) HS1.out HB1.out)
set_option maxHeartbeats 1000000 in
set_option maxRecDepth 10000 in
theorem look_35 (w : World) : Calls Tryz.prog 95 #[.int .i64 35] w (RowOut 35 w) := by
  have HR := Lib.hid ((Bk.fresh w RwT #[.int .i64 0, .slice none 0 0, .int .u32 0, .int .u32 0]).alloc (.cells #[.int .i64 3] 3))
  have HS := Lib.hid (Bk.fresh (w.alloc (.cells #[.int .i64 0, .slice none 0 0, .int .u32 0, .int .u32 0] RwT)) 3 #[.int .i64 3])
  rw [heap_alloc_sz] at HS
  have HB := Lib.hid (((Below.refl w.heap.size w).alloc (Nat.le_refl _) (.cells #[.int .i64 0, .slice none 0 0, .int .u32 0, .int .u32 0] RwT)).alloc (by simp) (.cells #[.int .i64 3] 3))
  go_enter Tryz.func95, Tryz.ntmps95
  go_wp2_with fail
  refine (rtwo_any _ _ _ 1 _).mono ?_
  rintro e w1 ⟨rfl, hb⟩
  have HR1 := Lib.hid (HR.out.below hb HR.out.lt); have HS1 := Lib.hid (HS.out.below hb HS.out.lt); have HB1 := Lib.hid (HB.out.trans (hb.mono HB.out.size)); clear hb
  obtain ⟨⟨c0, c1, c2, c3⟩, f0, f1, f2, f3⟩ := HR1.out.four
  go_wp2
  refine bodyPost_ret (results_row rfl _ rfl HR1.out.put_four) rfl (row_fin (ks := [3]) (by decide +kernel) rfl rfl (by decide +kernel) HS1.out HB1.out)
set_option maxHeartbeats 1000000 in
set_option maxRecDepth 10000 in
theorem look_36 (w : World) : Calls Tryz.prog 95 #[.int .i64 36] w (RowOut 36 w) := by
  have HR := Lib.hid ((Bk.fresh w RwT #[.int .i64 0, .slice none 0 0, .int .u32 0, .int .u32 0]).alloc (.cells #[.int .i64 2] 3))
  have HS := Lib.hid (Bk.fresh (w.alloc (.cells #[.int .i64 0, .slice none 0 0, .int .u32 0, .int .u32 0] RwT)) 3 #[.int .i64 2])
  rw [heap_alloc_sz] at HS
  have HB := Lib.hid (((Below.refl w.heap.size w).alloc (Nat.le_refl _) (.cells #[.int .i64 0, .slice none 0 0, .int .u32 0, .int .u32 0] RwT)).alloc (by simp) (.cells #[.int .i64 2] 3))
  go_enter Tryz.func95, Tryz.ntmps95
  go_wp2_with fail
  refine (rone_any _ _ _ _).mono ?_
  rintro e w1 ⟨rfl, hb⟩
  have HR1 := Lib.hid (HR.out.below hb HR.out.lt); have HS1 := Lib.hid (HS.out.below hb HS.out.lt); have HB1 := Lib.hid (HB.out.trans (hb.mono HB.out.size)); clear hb
  obtain ⟨⟨c0, c1, c2, c3⟩, f0, f1, f2, f3⟩ := HR1.out.four
  go_wp2
  refine bodyPost_ret (results_row rfl _ rfl HR1.out.put_four) rfl (row_fin (ks := [2]) (by decide +kernel) rfl rfl (by decide +kernel) HS1.out HB1.out)
set_option maxHeartbeats 1000000 in
set_option maxRecDepth 10000 in
theorem look_37 (w : World) : Calls Tryz.prog 95 #[.int .i64 37] w (RowOut 37 w) := by
  have HR := Lib.hid ((Bk.fresh w RwT #[.int .i64 0, .slice none 0 0, .int .u32 0, .int .u32 0]).alloc (.cells #[.int .i64 2] 3))
  have HS := Lib.hid (Bk.fresh (w.alloc (.cells #[.int .i64 0, .slice none 0 0, .int .u32 0, .int .u32 0] RwT)) 3 #[.int .i64 2])
  rw [heap_alloc_sz] at HS
  have HB := Lib.hid (((Below.refl w.heap.size w).alloc (Nat.le_refl _) (.cells #[.int .i64 0, .slice none 0 0, .int .u32 0, .int .u32 0] RwT)).alloc (by simp) (.cells #[.int .i64 2] 3))
  go_enter Tryz.func95, Tryz.ntmps95
  go_wp2_with fail
  refine (rone_any _ _ _ _).mono ?_
  rintro e w1 ⟨rfl, hb⟩
  have HR1 := Lib.hid (HR.out.below hb HR.out.lt); have HS1 := Lib.hid (HS.out.below hb HS.out.lt); have HB1 := Lib.hid (HB.out.trans (hb.mono HB.out.size)); clear hb
  obtain ⟨⟨c0, c1, c2, c3⟩, f0, f1, f2, f3⟩ := HR1.out.four
  go_wp2
  refine bodyPost_ret (results_row rfl _ rfl HR1.out.put_four) rfl (row_fin (ks := [2]) (by decide +kernel) rfl rfl (by decide +kernel) HS1.out HB1.out)
set_option maxHeartbeats 1000000 in
set_option maxRecDepth 10000 in
theorem look_40 (w : World) : Calls Tryz.prog 95 #[.int .i64 40] w (RowOut 40 w) := by
  have HR := Lib.hid ((Bk.fresh w RwT #[.int .i64 0, .slice none 0 0, .int .u32 0, .int .u32 0]).alloc (.cells #[.int .i64 2] 3))
  have HS := Lib.hid (Bk.fresh (w.alloc (.cells #[.int .i64 0, .slice none 0 0, .int .u32 0, .int .u32 0] RwT)) 3 #[.int .i64 2])
  rw [heap_alloc_sz] at HS
  have HB := Lib.hid (((Below.refl w.heap.size w).alloc (Nat.le_refl _) (.cells #[.int .i64 0, .slice none 0 0, .int .u32 0, .int .u32 0] RwT)).alloc (by simp) (.cells #[.int .i64 2] 3))
  go_enter Tryz.func95, Tryz.ntmps95
  go_wp2_with fail
  refine (rone_any _ _ _ _).mono ?_
  rintro e w1 ⟨rfl, hb⟩
  have HR1 := Lib.hid (HR.out.below hb HR.out.lt); have HS1 := Lib.hid (HS.out.below hb HS.out.lt); have HB1 := Lib.hid (HB.out.trans (hb.mono HB.out.size)); clear hb
  obtain ⟨⟨c0, c1, c2, c3⟩, f0, f1, f2, f3⟩ := HR1.out.four
  go_wp2
  refine bodyPost_ret (results_row rfl _ rfl HR1.out.put_four) rfl (row_fin (ks := [2]) (by decide +kernel) rfl rfl (by decide +kernel) HS1.out HB1.out)
set_option maxHeartbeats 1000000 in
set_option maxRecDepth 10000 in
theorem look_41 (w : World) : Calls Tryz.prog 95 #[.int .i64 41] w (RowOut 41 w) := by
  have HR := Lib.hid ((Bk.fresh w RwT #[.int .i64 0, .slice none 0 0, .int .u32 0, .int .u32 0]).alloc (.cells #[.int .i64 2] 3))
  have HS := Lib.hid (Bk.fresh (w.alloc (.cells #[.int .i64 0, .slice none 0 0, .int .u32 0, .int .u32 0] RwT)) 3 #[.int .i64 2])
  rw [heap_alloc_sz] at HS
  have HB := Lib.hid (((Below.refl w.heap.size w).alloc (Nat.le_refl _) (.cells #[.int .i64 0, .slice none 0 0, .int .u32 0, .int .u32 0] RwT)).alloc (by simp) (.cells #[.int .i64 2] 3))
  go_enter Tryz.func95, Tryz.ntmps95
  go_wp2_with fail
  refine (rone_any _ _ _ _).mono ?_
  rintro e w1 ⟨rfl, hb⟩
  have HR1 := Lib.hid (HR.out.below hb HR.out.lt); have HS1 := Lib.hid (HS.out.below hb HS.out.lt); have HB1 := Lib.hid (HB.out.trans (hb.mono HB.out.size)); clear hb
  obtain ⟨⟨c0, c1, c2, c3⟩, f0, f1, f2, f3⟩ := HR1.out.four
  go_wp2
  refine bodyPost_ret (results_row rfl _ rfl HR1.out.put_four) rfl (row_fin (ks := [2]) (by decide +kernel) rfl rfl (by decide +kernel) HS1.out HB1.out)
set_option maxHeartbeats 1000000 in
set_option maxRecDepth 10000 in
theorem look_42 (w : World) : Calls Tryz.prog 95 #[.int .i64 42] w (RowOut 42 w) := by
  have HR := Lib.hid ((Bk.fresh w RwT #[.int .i64 0, .slice none 0 0, .int .u32 0, .int .u32 0]).alloc (.cells #[.int .i64 2] 3))
  have HS := Lib.hid (Bk.fresh (w.alloc (.cells #[.int .i64 0, .slice none 0 0, .int .u32 0, .int .u32 0] RwT)) 3 #[.int .i64 2])
  rw [heap_alloc_sz] at HS
  have HB := Lib.hid (((Below.refl w.heap.size w).alloc (Nat.le_refl _) (.cells #[.int .i64 0, .slice none 0 0, .int .u32 0, .int .u32 0] RwT)).alloc (by simp) (.cells #[.int .i64 2] 3))
  go_enter Tryz.func95, Tryz.ntmps95
  go_wp2_with fail
  refine (rone_any _ _ _ _).mono ?_
  rintro e w1 ⟨rfl, hb⟩
  have HR1 := Lib.hid (HR.out.below hb HR.out.lt); have HS1 := Lib.hid (HS.out.below hb HS.out.lt); have HB1 := Lib.hid (HB.out.trans (hb.mono HB.out.size)); clear hb
  obtain ⟨⟨c0, c1, c2, c3⟩, f0, f1, f2, f3⟩ := HR1.out.four
  go_wp2
  refine bodyPost_ret (results_row rfl _ rfl HR1.out.put_four) rfl (row_fin (ks := [2]) (by decide +kernel) rfl rfl (by decide +kernel) HS1.out HB1.out)
set_option maxHeartbeats 1000000 in
set_option maxRecDepth 10000 in
theorem look_38 (w : World) : Calls Tryz.prog 95 #[.int .i64 38] w (RowOut 38 w) := by
  have HR := Lib.hid ((Bk.fresh w RwT #[.int .i64 0, .slice none 0 0, .int .u32 0, .int .u32 0]).alloc (.cells #[.int .i64 1, .int .i64 2, .int .i64 3, .int .i64 4, .int .i64 5, .int .i64 6, .int .i64 7, .int .i64 8, .int .i64 9, .int .i64 10, .int .i64 11, .int .i64 14, .int .i64 15, .int .i64 16] 3))
  have HS := Lib.hid (Bk.fresh (w.alloc (.cells #[.int .i64 0, .slice none 0 0, .int .u32 0, .int .u32 0] RwT)) 3 #[.int .i64 1, .int .i64 2, .int .i64 3, .int .i64 4, .int .i64 5, .int .i64 6, .int .i64 7, .int .i64 8, .int .i64 9, .int .i64 10, .int .i64 11, .int .i64 14, .int .i64 15, .int .i64 16])
  rw [heap_alloc_sz] at HS
  have HB := Lib.hid (((Below.refl w.heap.size w).alloc (Nat.le_refl _) (.cells #[.int .i64 0, .slice none 0 0, .int .u32 0, .int .u32 0] RwT)).alloc (by simp) (.cells #[.int .i64 1, .int .i64 2, .int .i64 3, .int .i64 4, .int .i64 5, .int .i64 6, .int .i64 7, .int .i64 8, .int .i64 9, .int .i64 10, .int .i64 11, .int .i64 14, .int .i64 15, .int .i64 16] 3))
  go_enter Tryz.func95, Tryz.ntmps95
  go_wp2_with fail
  refine (rof_any _ _ _ 7 _).mono ?_
  rintro e w1 ⟨rfl, hb⟩
  have HR1 := Lib.hid (HR.out.below hb HR.out.lt); have HS1 := Lib.hid (HS.out.below hb HS.out.lt); have HB1 := Lib.hid (HB.out.trans (hb.mono HB.out.size)); clear hb
  obtain ⟨⟨c0, c1, c2, c3⟩, f0, f1, f2, f3⟩ := HR1.out.four
  go_wp2
  refine bodyPost_ret (results_row rfl _ rfl HR1.out.put_four) rfl (row_fin (ks := [1, 2, 3, 4, 5, 6, 7, 8, 9, 10, 11, 14, 15, 16]) (by decide +kernel) rfl rfl (by decide +kernel) HS1.out HB1.out)
set_option maxHeartbeats 1000000 in
set_option maxRecDepth 10000 in
theorem look_39 (w : World) : Calls Tryz.prog 95 #[.int .i64 39] w (RowOut 39 w) := by
  have HR := Lib.hid ((Bk.fresh w RwT #[.int .i64 0, .slice none 0 0, .int .u32 0, .int .u32 0]).alloc (.cells #[.int .i64 1, .int .i64 2] 3))
  have HS := Lib.hid (Bk.fresh (w.alloc (.cells #[.int .i64 0, .slice none 0 0, .int .u32 0, .int .u32 0] RwT)) 3 #[.int .i64 1, .int .i64 2])
  rw [heap_alloc_sz] at HS
  have HB := Lib.hid (((Below.refl w.heap.size w).alloc (Nat.le_refl _) (.cells #[.int .i64 0, .slice none 0 0, .int .u32 0, .int .u32 0] RwT)).alloc (by simp) (.cells #[.int .i64 1, .int .i64 2] 3))
  go_enter Tryz.func95, Tryz.ntmps95
  go_wp2_with fail
  refine (rfour_any _ _ _ 1 _).mono ?_
  rintro e w1 ⟨rfl, hb⟩
  have HR1 := Lib.hid (HR.out.below hb HR.out.lt); have HS1 := Lib.hid (HS.out.below hb HS.out.lt); have HB1 := Lib.hid (HB.out.trans (hb.mono HB.out.size)); clear hb
  obtain ⟨⟨c0, c1, c2, c3⟩, f0, f1, f2, f3⟩ := HR1.out.four
  go_wp2
  refine bodyPost_ret (results_row rfl _ rfl HR1.out.put_four) rfl (row_fin (ks := [1, 2]) (by decide +kernel) rfl rfl (by decide +kernel) HS1.out HB1.out)
theorem find_absent {X : Type} {id : Int} {l : List (Nat × X)} (h : ∀ k : Nat, k ∈ l.map (·.1) → id ≠ (k : Int)) : (l.find? fun p => (p.1 : Int) == id) = none := by
  rw [List.find?_eq_none]
  intro p hp
  have := h p.1 (List.mem_map_of_mem hp)
  simp
  exact fun e => this e.symm
set_option maxHeartbeats 4000000 in
set_option maxRecDepth 10000 in
theorem look_no {id : Int} (h : ∀ k : Nat, k ∈ kindTab.map (·.1) → id ≠ (k : Int)) (w : World) : Calls Tryz.prog 95 #[.int .i64 id] w (RowOut id w) := by
  have hk : kindsOf id = [] := by unfold kindsOf; rw [find_absent h]; rfl
  have hr : ruleOf id = ⟨0, 0, 0, 0⟩ := by
    unfold ruleOf
    rw [find_absent (fun k hk => h k ?_)]
    · rfl
    · have e : ∀ k ∈ ruleTab.map (·.1), k ∈ kindTab.map (·.1) := by decide +kernel
      exact e k hk
  have HK := Lib.hid hk; have HRR := Lib.hid hr; clear hk hr
  have n1 : (id == 1) = false := beq_eq_false_iff_ne.2 (h 1 (by decide +kernel))
  have n2 : (id == 2) = false := beq_eq_false_iff_ne.2 (h 2 (by decide +kernel))
  have n3 : (id == 3) = false := beq_eq_false_iff_ne.2 (h 3 (by decide +kernel))
  have n8 : (id == 8) = false := beq_eq_false_iff_ne.2 (h 8 (by decide +kernel))
  have n9 : (id == 9) = false := beq_eq_false_iff_ne.2 (h 9 (by decide +kernel))
  have n11 : (id == 11) = false := beq_eq_false_iff_ne.2 (h 11 (by decide +kernel))
  have n17 : (id == 17) = false := beq_eq_false_iff_ne.2 (h 17 (by decide +kernel))
  have n18 : (id == 18) = false := beq_eq_false_iff_ne.2 (h 18 (by decide +kernel))
  have n26 : (id == 26) = false := beq_eq_false_iff_ne.2 (h 26 (by decide +kernel))
  have n19 : (id == 19) = false := beq_eq_false_iff_ne.2 (h 19 (by decide +kernel))
  have n21 : (id == 21) = false := beq_eq_false_iff_ne.2 (h 21 (by decide +kernel))
  have n22 : (id == 22) = false := beq_eq_false_iff_ne.2 (h 22 (by decide +kernel))
  have n23 : (id == 23) = false := beq_eq_false_iff_ne.2 (h 23 (by decide +kernel))
  have n25 : (id == 25) = false := beq_eq_false_iff_ne.2 (h 25 (by decide +kernel))
  have n24 : (id == 24) = false := beq_eq_false_iff_ne.2 (h 24 (by decide +kernel))
  have n28 : (id == 28) = false := beq_eq_false_iff_ne.2 (h 28 (by decide +kernel))
  have n31 : (id == 31) = false := beq_eq_false_iff_ne.2 (h 31 (by decide +kernel))
  have n33 : (id == 33) = false := beq_eq_false_iff_ne.2 (h 33 (by decide +kernel))
  have n34 : (id == 34) = false := beq_eq_false_iff_ne.2 (h 34 (by decide +kernel))
  have n35 : (id == 35) = false := beq_eq_false_iff_ne.2 (h 35 (by decide +kernel))
  have n36 : (id == 36) = false := beq_eq_false_iff_ne.2 (h 36 (by decide +kernel))
  have n37 : (id == 37) = false := beq_eq_false_iff_ne.2 (h 37 (by decide +kernel))
  have n40 : (id == 40) = false := beq_eq_false_iff_ne.2 (h 40 (by decide +kernel))
  have n41 : (id == 41) = false := beq_eq_false_iff_ne.2 (h 41 (by decide +kernel))
  have n42 : (id == 42) = false := beq_eq_false_iff_ne.2 (h 42 (by decide +kernel))
  have n38 : (id == 38) = false := beq_eq_false_iff_ne.2 (h 38 (by decide +kernel))
  have n39 : (id == 39) = false := beq_eq_false_iff_ne.2 (h 39 (by decide +kernel))
  have HR := Lib.hid (Bk.fresh w RwT #[.int .i64 0, .slice none 0 0, .int .u32 0, .int .u32 0])
  have HB := Lib.hid ((Below.refl w.heap.size w).alloc (Nat.le_refl _) (.cells #[.int .i64 0, .slice none 0 0, .int .u32 0, .int .u32 0] RwT))
  clear h
  go_enter Tryz.func95, Tryz.ntmps95
  go_wp2
  refine bodyPost_ret (v := .agg #[.int .i64 0, .slice none 0 0, .int .u32 0, .int .u32 0]) (by simp [results, Tryz.results95, go_sem]) rfl ⟨none, 0, ?_, ?_, HB.out⟩
  · unfold rowV
    rw [HK.out, HRR.out]
    rfl
  · rw [HK.out]; exact Rd.nil _ _ _ _
theorem look_any (id : Int) (w : World) : Calls Tryz.prog 95 #[.int .i64 id] w (RowOut id w) := by
  by_cases h : ∀ k : Nat, k ∈ kindTab.map (·.1) → id ≠ (k : Int)
  · exact look_no h w
  · have h' : ∃ k : Nat, k ∈ kindTab.map (·.1) ∧ id = (k : Int) := by
      by_cases hx : ∃ k : Nat, k ∈ kindTab.map (·.1) ∧ id = (k : Int)
      · exact hx
      · exact absurd (fun k hk e => hx ⟨k, hk, e⟩) h
    obtain ⟨k, hk, rfl⟩ := h'
    have hk' : k = 1 ∨ k = 2 ∨ k = 3 ∨ k = 8 ∨ k = 9 ∨ k = 11 ∨ k = 17 ∨ k = 18 ∨ k = 26 ∨ k = 19 ∨ k = 21 ∨ k = 22 ∨ k = 23 ∨ k = 25 ∨ k = 24 ∨ k = 28 ∨ k = 31 ∨ k = 33 ∨ k = 34 ∨ k = 35 ∨ k = 36 ∨ k = 37 ∨ k = 40 ∨ k = 41 ∨ k = 42 ∨ k = 38 ∨ k = 39 := by simpa [kindTab] using hk
    obtain rfl | rfl | rfl | rfl | rfl | rfl | rfl | rfl | rfl | rfl | rfl | rfl | rfl | rfl | rfl | rfl | rfl | rfl | rfl | rfl | rfl | rfl | rfl | rfl | rfl | rfl | rfl := hk'
    · exact look_1 w
    · exact look_2 w
    · exact look_3 w
    · exact look_8 w
    · exact look_9 w
    · exact look_11 w
    · exact look_17 w
    · exact look_18 w
    · exact look_26 w
    · exact look_19 w
    · exact look_21 w
    · exact look_22 w
    · exact look_23 w
    · exact look_25 w
    · exact look_24 w
    · exact look_28 w
    · exact look_31 w
    · exact look_33 w
    · exact look_34 w
    · exact look_35 w
    · exact look_36 w
    · exact look_37 w
    · exact look_40 w
    · exact look_41 w
    · exact look_42 w
    · exact look_38 w
    · exact look_39 w
end Go.Proofs.YtpcaffimahapjaaGreat
