/- publish: the walks of Valid's looks, of Valid. -/
import Derived.Test.YtpcaffimahapjaaGreatPubA
namespace Go.Proofs.YtpcaffimahapjaaGreat
open Go.RowKit
attribute [local go_sem ↓] to_ldPk to_bxPk to_bdPk to_alPk to_stPk
attribute [local go_sem] run_bxPk run_bxPk_agg ld_fresh run_alPk run_bd0 run_bdK run_bdKI run_bdKIC run_bdKC run_bdKICP run_stPk_fresh pkC_0 pkC_1 pkC_2 pkC_3 pkC_4 pkC_5 pkC_6 pkC_7 pkC_8 pkC_9 pkC_10 pkC_11 pkC_12 pkC_13 pkC_14 pkC_15 pkC_16 pkC_17 pkC_18 pkC_19 pkC_20 pkC_21 pkC_22 pkC_23 pkC_24
/-- What the looks answer. -/
def pubL (v : Int) (p : Pk) (k : Nat) : Int :=
  if k = 0 then (if hdKnown v = true ∧ p.kind = 3 then 0 else 2) else if k = 1 then (hdFlags v p).2 else if k = 2 then (if pubF v p = true then 0 else 2) else if k = 3 then (if pubN v p = true then 0 else 10) else (bytesS 3 p.props).2
def pubE (v : Int) (p : Pk) : Int :=
  if pubL v p 0 ≠ 0 then pubL v p 0 else if pubL v p 1 ≠ 0 then pubL v p 1 else if pubL v p 2 ≠ 0 then pubL v p 2 else if pubL v p 3 ≠ 0 then pubL v p 3 else pubL v p 4
theorem pubE_at {v : Int} {p : Pk} {k : Nat} (hk : k < 5) (h0 : ∀ j, j < k → pubL v p j = 0) (h : pubL v p k ≠ 0) : pubE v p = pubL v p k := by
  unfold pubE
  obtain rfl | rfl | rfl | rfl | rfl : k = 0 ∨ k = 1 ∨ k = 2 ∨ k = 3 ∨ k = 4 := by omega
  · rw [if_pos h]
  · rw [if_neg (fun x => x (h0 0 (by omega))), if_pos h]
  · rw [if_neg (fun x => x (h0 0 (by omega))), if_neg (fun x => x (h0 1 (by omega))), if_pos h]
  · rw [if_neg (fun x => x (h0 0 (by omega))), if_neg (fun x => x (h0 1 (by omega))), if_neg (fun x => x (h0 2 (by omega))), if_pos h]
  · rw [if_neg (fun x => x (h0 0 (by omega))), if_neg (fun x => x (h0 1 (by omega))), if_neg (fun x => x (h0 2 (by omega))), if_neg (fun x => x (h0 3 (by omega)))]
theorem pubE_all {v : Int} {p : Pk} (h0 : ∀ j, j < 5 → pubL v p j = 0) : pubE v p = 0 := by
  unfold pubE
  rw [if_neg (fun x => x (h0 0 (by omega))), if_neg (fun x => x (h0 1 (by omega))), if_neg (fun x => x (h0 2 (by omega))), if_neg (fun x => x (h0 3 (by omega)))]
  exact h0 4 (by omega)

/-- What stands while a packet is looked at: the version's block, the packet's. -/
structure PV (w : World) (gv gp : Nat) (v : Int) (p : Pk) (h : Hs) (x : World) : Prop where
  kept : Below w.heap.size w x
  vb : Bk x gv 3 #[.int .i64 v]
  pk : Bk x gp PkT (pkC p h)
  inn : PkIn x x.heap.size p h
theorem PV.below {w x y : World} {gv gp : Nat} {v : Int} {p : Pk} {h : Hs} (s : PV w gv gp v p h x) (hb : Below x.heap.size x y) : PV w gv gp v p h y :=
  ⟨s.kept.trans (hb.mono s.kept.size), s.vb.below hb s.vb.lt, s.pk.below hb s.pk.lt, s.inn.next hb⟩
/-- What a look leaves. -/
def LookOut (v : Int) (p : Pk) (k : Nat) (x : World) (e : Ending) (y : World) : Prop := e = .returned (.int .i64 (pubL v p k)) ∧ Below x.heap.size x y

set_option maxHeartbeats 1000000 in
set_option maxRecDepth 10000 in
theorem look0_any (w : World) (gv gp : Nat) (v : Int) (p : Pk) (h : Hs) (x : World) (s : PV w gv gp v p h x) :
    Calls Tryz.prog 136 #[.pointer (some ⟨gv, 0, none⟩), .pointer (some ⟨gp, 0, none⟩)] x (LookOut v p 0 x) := by
  have HE : Hid (pubL v p 0 = if hdKnown v = true ∧ p.kind = 3 then 0 else 2) := Lib.hid rfl
  have k1 : x.cell? ⟨gv, 0, none⟩ = some (.int .i64 v) := s.vb.cell 0
  have k2 : x.cell? ⟨gp, 0, none⟩ = some (.int .i64 p.kind) := s.pk.cell 0
  clear s
  go_enter Tryz.func136, Tryz.ntmps136
  go_wp2_with fail
  refine (pubKnown_any v _).mono ?_
  rintro e w1 ⟨rfl, rfl⟩
  cases hk : hdKnown v
  · have HX : Hid (pubL v p 0 = 2) := Lib.hid (by rw [HE.out, if_neg (fun y => by rw [hk] at y; cases y.1)])
    clear hk
    go_wp2_with fail
    refine (when_any true 2 _).mono ?_
    rintro e w1 ⟨rfl, rfl⟩
    go_wp2
    go_ret
    exact ⟨by rw [HX.out]; rfl, Below.refl _ _⟩
  · by_cases h3 : p.kind = 3
    · have HX : Hid (pubL v p 0 = 0) := Lib.hid (by rw [HE.out, if_pos ⟨hk, h3⟩])
      have e3 : (p.kind != 3) = false := by simpa using h3
      clear hk h3
      go_wp2_with fail
      refine (when_any false 2 _).mono ?_
      rintro e w1 ⟨rfl, rfl⟩
      go_wp2
      go_ret
      exact ⟨by rw [HX.out]; rfl, Below.refl _ _⟩
    · have HX : Hid (pubL v p 0 = 2) := Lib.hid (by rw [HE.out, if_neg (fun y => h3 y.2)])
      have e3 : (p.kind != 3) = true := bne_iff_ne.2 h3
      clear hk h3
      go_wp2_with fail
      refine (when_any true 2 _).mono ?_
      rintro e w1 ⟨rfl, rfl⟩
      go_wp2
      go_ret
      exact ⟨by rw [HX.out]; rfl, Below.refl _ _⟩
set_option maxHeartbeats 1000000 in
set_option maxRecDepth 10000 in
theorem look1_any (w : World) (gv gp : Nat) (v : Int) (p : Pk) (h : Hs) (x : World) (s : PV w gv gp v p h x) :
    Calls Tryz.prog 138 #[.pointer (some ⟨gv, 0, none⟩), .pointer (some ⟨gp, 0, none⟩)] x (LookOut v p 1 x) := by
  have HE : Hid (pubL v p 1 = (hdFlags v p).2) := Lib.hid rfl
  have k1 : x.cell? ⟨gv, 0, none⟩ = some (.int .i64 v) := s.vb.cell 0
  have hl := ld_bk s.pk
  clear s
  go_enter Tryz.func138, Tryz.ntmps138
  go_wp2_with fail
  refine (hdFlags_any v p h _).mono ?_
  rintro e w1 ⟨rfl, hb⟩
  have HB := Lib.hid hb; clear hb
  go_wp2
  go_ret
  exact ⟨by rw [HE.out]; rfl, HB.out⟩
set_option maxHeartbeats 1000000 in
set_option maxRecDepth 10000 in
theorem look2_any (w : World) (gv gp : Nat) (v : Int) (p : Pk) (h : Hs) (ok : PkOk p) (x : World) (s : PV w gv gp v p h x) :
    Calls Tryz.prog 140 #[.pointer (some ⟨gv, 0, none⟩), .pointer (some ⟨gp, 0, none⟩)] x (LookOut v p 2 x) := by
  have HE : Hid (pubL v p 2 = if pubF v p = true then 0 else 2) := Lib.hid rfl
  have k1 : x.cell? ⟨gv, 0, none⟩ = some (.int .i64 v) := s.vb.cell 0
  have hl := ld_bk s.pk
  have SS := Lib.hid s; have OK := Lib.hid ok
  clear s ok
  go_enter Tryz.func140, Tryz.ntmps140
  go_wp2_with fail
  refine (pubF_any v p h _ SS.out.inn OK.out).mono ?_
  rintro e w1 ⟨rfl, hb⟩
  have HB := Lib.hid hb; clear hb hl k1
  cases hf : pubF v p
  · have HX : Hid (pubL v p 2 = 2) := Lib.hid (by rw [HE.out, hf]; rfl)
    clear hf
    go_wp2_with fail
    refine (when_any true 2 _).mono ?_
    rintro e w2 ⟨rfl, rfl⟩
    go_wp2
    go_ret
    exact ⟨by rw [HX.out]; rfl, HB.out⟩
  · have HX : Hid (pubL v p 2 = 0) := Lib.hid (by rw [HE.out, hf]; rfl)
    clear hf
    go_wp2_with fail
    refine (when_any false 2 _).mono ?_
    rintro e w2 ⟨rfl, rfl⟩
    go_wp2
    go_ret
    exact ⟨by rw [HX.out]; rfl, HB.out⟩
set_option maxHeartbeats 1000000 in
set_option maxRecDepth 10000 in
theorem look3_any (w : World) (gv gp : Nat) (v : Int) (p : Pk) (h : Hs) (ok : PkOk p) (x : World) (s : PV w gv gp v p h x) :
    Calls Tryz.prog 142 #[.pointer (some ⟨gv, 0, none⟩), .pointer (some ⟨gp, 0, none⟩)] x (LookOut v p 3 x) := by
  have HE : Hid (pubL v p 3 = if pubN v p = true then 0 else 10) := Lib.hid rfl
  have k1 : x.cell? ⟨gv, 0, none⟩ = some (.int .i64 v) := s.vb.cell 0
  have hl := ld_bk s.pk
  have SS := Lib.hid s; have OK := Lib.hid ok
  clear s ok
  go_enter Tryz.func142, Tryz.ntmps142
  go_wp2_with fail
  refine (pubN_any v p h _ SS.out.inn OK.out).mono ?_
  rintro e w1 ⟨rfl, hb⟩
  have HB := Lib.hid hb; clear hb hl k1
  cases hf : pubN v p
  · have HX : Hid (pubL v p 3 = 10) := Lib.hid (by rw [HE.out, hf]; rfl)
    clear hf
    go_wp2_with fail
    refine (when_any true 10 _).mono ?_
    rintro e w2 ⟨rfl, rfl⟩
    go_wp2
    go_ret
    exact ⟨by rw [HX.out]; rfl, HB.out⟩
  · have HX : Hid (pubL v p 3 = 0) := Lib.hid (by rw [HE.out, hf]; rfl)
    clear hf
    go_wp2_with fail
    refine (when_any false 10 _).mono ?_
    rintro e w2 ⟨rfl, rfl⟩
    go_wp2
    go_ret
    exact ⟨by rw [HX.out]; rfl, HB.out⟩
set_option maxHeartbeats 1000000 in
set_option maxRecDepth 10000 in
theorem look4_any (w : World) (gv gp : Nat) (v : Int) (p : Pk) (h : Hs) (ok : PkOk p) (x : World) (s : PV w gv gp v p h x) :
    Calls Tryz.prog 144 #[.pointer (some ⟨gp, 0, none⟩)] x (LookOut v p 4 x) := by
  have HE : Hid (pubL v p 4 = (bytesS 3 p.props).2) := Lib.hid rfl
  have k1 : x.cell? ⟨gp, 24, none⟩ = some (.slice h.props.a p.props.length h.props.c) := s.pk.cell 24
  have SS := Lib.hid s; have OK := Lib.hid ok
  clear s ok
  go_enter Tryz.func144, Tryz.ntmps144
  go_wp2_with fail
  refine (validP_n 3 p.props _ rfl OK.out.props h.props.a h.props.c _ SS.out.inn.props OK.out.len.2.2.2).mono ?_
  rintro e w1 ⟨rfl, hb⟩
  have HB := Lib.hid hb; clear hb k1
  go_wp2
  go_ret
  exact ⟨by rw [HE.out]; rfl, HB.out⟩

theorem enter_k0 (args : Array Value) (w : World) : (callFunc 136 args).run Tryz.prog w = .ok (.enter 136 args) w := run_enter Tryz.func136 (by kernel_rfl) rfl args w
theorem enter_k1 (args : Array Value) (w : World) : (callFunc 138 args).run Tryz.prog w = .ok (.enter 138 args) w := run_enter Tryz.func138 (by kernel_rfl) rfl args w
theorem enter_k2 (args : Array Value) (w : World) : (callFunc 140 args).run Tryz.prog w = .ok (.enter 140 args) w := run_enter Tryz.func140 (by kernel_rfl) rfl args w
theorem enter_k3 (args : Array Value) (w : World) : (callFunc 142 args).run Tryz.prog w = .ok (.enter 142 args) w := run_enter Tryz.func142 (by kernel_rfl) rfl args w
theorem enter_k4 (args : Array Value) (w : World) : (callFunc 144 args).run Tryz.prog w = .ok (.enter 144 args) w := run_enter Tryz.func144 (by kernel_rfl) rfl args w
/-- The five looks, as values. -/
def lookC (gv gp : Nat) : Array Value := #[.func (.func 136) #[] #[.pointer (some ⟨gv, 0, none⟩), .pointer (some ⟨gp, 0, none⟩)], .func (.func 138) #[] #[.pointer (some ⟨gv, 0, none⟩), .pointer (some ⟨gp, 0, none⟩)],
  .func (.func 140) #[] #[.pointer (some ⟨gv, 0, none⟩), .pointer (some ⟨gp, 0, none⟩)], .func (.func 142) #[] #[.pointer (some ⟨gv, 0, none⟩), .pointer (some ⟨gp, 0, none⟩)], .func (.func 144) #[] #[.pointer (some ⟨gp, 0, none⟩)]]

set_option maxHeartbeats 4000000 in
set_option maxRecDepth 10000 in
theorem pubValid_any (v : Int) (p : Pk) (h : Hs) (w : World) (ip : PkIn w w.heap.size p h) (ok : PkOk p) :
    Calls Tryz.prog 61 #[.int .i64 v, pkV p h] w fun e w' => e = .returned (.int .i64 (pubE v p)) ∧ Below w.heap.size w w' := by
  have OK := Lib.hid ok
  have B1 := (Below.refl w.heap.size w).alloc (Nat.le_refl _) (.cells #[.int .i64 v] 3)
  have S2 : Hid (PV w w.heap.size (w.heap.size + 1) v p h ((w.alloc (.cells #[.int .i64 v] 3)).alloc (.cells (pkC p h) PkT))) := Lib.hid (by
    refine ⟨B1.alloc B1.size _, (Bk.fresh _ _ _).alloc _, ?_, ((ip.below B1).wider B1.size).next ((Below.refl _ _).alloc (Nat.le_refl _) _)⟩
    have := Bk.fresh (w.alloc (.cells #[.int .i64 v] 3)) PkT (pkC p h)
    rwa [heap_alloc_size] at this)
  clear ip ok B1
  go_enter Tryz.func61, Tryz.ntmps61
  go_wp2_with fail
  have GS : Hid (Bk (((w.alloc (.cells #[.int .i64 v] 3)).alloc (.cells (pkC p h) PkT)).alloc (.cells (lookC w.heap.size (w.heap.size + 1)) 100)) (w.heap.size + 2) 100 (lookC w.heap.size (w.heap.size + 1))) := Lib.hid (by
    have := Bk.fresh ((w.alloc (.cells #[.int .i64 v] 3)).alloc (.cells (pkC p h) PkT)) 100 (lookC w.heap.size (w.heap.size + 1))
    rwa [heap_alloc_size, heap_alloc_size] at this)
  have S3 := Lib.hid (S2.out.below ((Below.refl _ _).alloc (Nat.le_refl _) (.cells (lookC w.heap.size (w.heap.size + 1)) 100)))
  go_loopw [17] (fun i wr => ∃ k : Nat, k ≤ 5 ∧ i = .int .i64 k ∧ (∀ j, j < k → pubL v p j = 0) ∧ PV w w.heap.size (w.heap.size + 1) v p h wr ∧ Bk wr (w.heap.size + 2) 100 (lookC w.heap.size (w.heap.size + 1))) (fun i _ => 5 - (intOf i).toNat)
  case atStart => exact ⟨0, by omega, rfl, fun j hj => by omega, S3.out, GS.out⟩
  case round =>
    obtain ⟨k, hk, rfl, h0, hs, hg⟩ := hrel
    have H0 := Lib.hid h0; have SR := Lib.hid hs; have GR := Lib.hid hg
    clear h0 hs hg
    obtain rfl | rfl | rfl | rfl | rfl | rfl : k = 0 ∨ k = 1 ∨ k = 2 ∨ k = 3 ∨ k = 4 ∨ k = 5 := by omega
    · have HX : Hid (pubL v p 0 ≠ 0 → pubE v p = pubL v p 0) := Lib.hid (pubE_at (by omega) H0.out)
      have c1 : wr.cell? ⟨w.heap.size + 2, 0, none⟩ = some (.func (.func 136) #[] #[.pointer (some ⟨w.heap.size, 0, none⟩), .pointer (some ⟨w.heap.size + 1, 0, none⟩)]) := GR.out.cell 0
      have en := enter_k0
      go_wp2_with fail
      refine (look0_any w w.heap.size (w.heap.size + 1) v p h _ SR.out).mono ?_
      rintro e w2 ⟨rfl, hb⟩
      have S2 := Lib.hid (SR.out.below hb); have G2 := Lib.hid (GR.out.below hb GR.out.lt)
      clear hb c1 en
      by_cases hz : pubL v p 0 = 0
      · have HN : Hid (∀ j, j < 0 + 1 → pubL v p j = 0) := Lib.hid (fun j hj => by
          by_cases hjk : j = 0
          · rw [hjk]; exact hz
          · exact H0.out j (by omega))
        rw [hz]
        clear hz HX
        go_wp2
        go_roundw
        case rel => exact ⟨0 + 1, by omega, by go_num, HN.out, S2.out, G2.out⟩
        case measure => simp [intOf]
      · have e0 : (pubL v p 0 != 0) = true := bne_iff_ne.2 hz
        have HY := Lib.hid (HX.out hz)
        clear hz HX
        go_wp2
        go_ret
        exact ⟨by rw [HY.out]; rfl, S2.out.kept⟩
    · have HX : Hid (pubL v p 1 ≠ 0 → pubE v p = pubL v p 1) := Lib.hid (pubE_at (by omega) H0.out)
      have c1 : wr.cell? ⟨w.heap.size + 2, 1, none⟩ = some (.func (.func 138) #[] #[.pointer (some ⟨w.heap.size, 0, none⟩), .pointer (some ⟨w.heap.size + 1, 0, none⟩)]) := GR.out.cell 1
      have en := enter_k1
      go_wp2_with fail
      refine (look1_any w w.heap.size (w.heap.size + 1) v p h _ SR.out).mono ?_
      rintro e w2 ⟨rfl, hb⟩
      have S2 := Lib.hid (SR.out.below hb); have G2 := Lib.hid (GR.out.below hb GR.out.lt)
      clear hb c1 en
      by_cases hz : pubL v p 1 = 0
      · have HN : Hid (∀ j, j < 1 + 1 → pubL v p j = 0) := Lib.hid (fun j hj => by
          by_cases hjk : j = 1
          · rw [hjk]; exact hz
          · exact H0.out j (by omega))
        rw [hz]
        clear hz HX
        go_wp2
        go_roundw
        case rel => exact ⟨1 + 1, by omega, by go_num, HN.out, S2.out, G2.out⟩
        case measure => simp [intOf]
      · have e0 : (pubL v p 1 != 0) = true := bne_iff_ne.2 hz
        have HY := Lib.hid (HX.out hz)
        clear hz HX
        go_wp2
        go_ret
        exact ⟨by rw [HY.out]; rfl, S2.out.kept⟩
    · have HX : Hid (pubL v p 2 ≠ 0 → pubE v p = pubL v p 2) := Lib.hid (pubE_at (by omega) H0.out)
      have c1 : wr.cell? ⟨w.heap.size + 2, 2, none⟩ = some (.func (.func 140) #[] #[.pointer (some ⟨w.heap.size, 0, none⟩), .pointer (some ⟨w.heap.size + 1, 0, none⟩)]) := GR.out.cell 2
      have en := enter_k2
      go_wp2_with fail
      refine (look2_any w w.heap.size (w.heap.size + 1) v p h OK.out _ SR.out).mono ?_
      rintro e w2 ⟨rfl, hb⟩
      have S2 := Lib.hid (SR.out.below hb); have G2 := Lib.hid (GR.out.below hb GR.out.lt)
      clear hb c1 en
      by_cases hz : pubL v p 2 = 0
      · have HN : Hid (∀ j, j < 2 + 1 → pubL v p j = 0) := Lib.hid (fun j hj => by
          by_cases hjk : j = 2
          · rw [hjk]; exact hz
          · exact H0.out j (by omega))
        rw [hz]
        clear hz HX
        go_wp2
        go_roundw
        case rel => exact ⟨2 + 1, by omega, by go_num, HN.out, S2.out, G2.out⟩
        case measure => simp [intOf]
      · have e0 : (pubL v p 2 != 0) = true := bne_iff_ne.2 hz
        have HY := Lib.hid (HX.out hz)
        clear hz HX
        go_wp2
        go_ret
        exact ⟨by rw [HY.out]; rfl, S2.out.kept⟩
    · have HX : Hid (pubL v p 3 ≠ 0 → pubE v p = pubL v p 3) := Lib.hid (pubE_at (by omega) H0.out)
      have c1 : wr.cell? ⟨w.heap.size + 2, 3, none⟩ = some (.func (.func 142) #[] #[.pointer (some ⟨w.heap.size, 0, none⟩), .pointer (some ⟨w.heap.size + 1, 0, none⟩)]) := GR.out.cell 3
      have en := enter_k3
      go_wp2_with fail
      refine (look3_any w w.heap.size (w.heap.size + 1) v p h OK.out _ SR.out).mono ?_
      rintro e w2 ⟨rfl, hb⟩
      have S2 := Lib.hid (SR.out.below hb); have G2 := Lib.hid (GR.out.below hb GR.out.lt)
      clear hb c1 en
      by_cases hz : pubL v p 3 = 0
      · have HN : Hid (∀ j, j < 3 + 1 → pubL v p j = 0) := Lib.hid (fun j hj => by
          by_cases hjk : j = 3
          · rw [hjk]; exact hz
          · exact H0.out j (by omega))
        rw [hz]
        clear hz HX
        go_wp2
        go_roundw
        case rel => exact ⟨3 + 1, by omega, by go_num, HN.out, S2.out, G2.out⟩
        case measure => simp [intOf]
      · have e0 : (pubL v p 3 != 0) = true := bne_iff_ne.2 hz
        have HY := Lib.hid (HX.out hz)
        clear hz HX
        go_wp2
        go_ret
        exact ⟨by rw [HY.out]; rfl, S2.out.kept⟩
    · have HX : Hid (pubL v p 4 ≠ 0 → pubE v p = pubL v p 4) := Lib.hid (pubE_at (by omega) H0.out)
      have c1 : wr.cell? ⟨w.heap.size + 2, 4, none⟩ = some (.func (.func 144) #[] #[.pointer (some ⟨w.heap.size + 1, 0, none⟩)]) := GR.out.cell 4
      have en := enter_k4
      go_wp2_with fail
      refine (look4_any w w.heap.size (w.heap.size + 1) v p h OK.out _ SR.out).mono ?_
      rintro e w2 ⟨rfl, hb⟩
      have S2 := Lib.hid (SR.out.below hb); have G2 := Lib.hid (GR.out.below hb GR.out.lt)
      clear hb c1 en
      by_cases hz : pubL v p 4 = 0
      · have HN : Hid (∀ j, j < 4 + 1 → pubL v p j = 0) := Lib.hid (fun j hj => by
          by_cases hjk : j = 4
          · rw [hjk]; exact hz
          · exact H0.out j (by omega))
        rw [hz]
        clear hz HX
        go_wp2
        go_roundw
        case rel => exact ⟨4 + 1, by omega, by go_num, HN.out, S2.out, G2.out⟩
        case measure => simp [intOf]
      · have e0 : (pubL v p 4 != 0) = true := bne_iff_ne.2 hz
        have HY := Lib.hid (HX.out hz)
        clear hz HX
        go_wp2
        go_ret
        exact ⟨by rw [HY.out]; rfl, S2.out.kept⟩
    · have HX := Lib.hid (pubE_all H0.out)
      go_wp2
      go_ret
      exact ⟨by rw [HX.out]; rfl, SR.out.kept⟩
end Go.Proofs.YtpcaffimahapjaaGreat
