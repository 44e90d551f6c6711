/- A part of what the laws stand on: MsG, MsH, Laid, MsI, MsQ, MsJ. -/
import Derived.Test.YtpcleamaieaefaaGreatDoorMzG0MsC
import Derived.Test.YtpcleamaieaefaaGreatDoorCards
import Derived.Test.YtpcleamaieaefaaGreatDoorTie
import Derived.ChangeVars
import Derived.LaidLaws
import Derived.LaidHandle
import Derived.SevenTiedAt
namespace Go.Proofs.YtpcleamaieaefaaGreatDoor
open Go.RowKit
attribute [local go_sem ↓] to_ldPk to_bxPk to_bdPk to_alPk to_stPk
attribute [local go_sem] run_bxPk run_bxPk_agg ld_fresh run_alPk run_bd0 run_bdK run_bdKI run_bdKIC run_bdKC run_bdKICP run_stPk_fresh pkC_0 pkC_1 pkC_2 pkC_3 pkC_4 pkC_5 pkC_6 pkC_7 pkC_8 pkC_9 pkC_10 pkC_11 pkC_12 pkC_13 pkC_14 pkC_15 pkC_16 pkC_17 pkC_18 pkC_19 pkC_20 pkC_21 pkC_22 pkC_23 pkC_24
theorem Mods.split {g : Nat} {o : Option Nat} {w w' : World} (h : Mods (FS g o) w w') (hg : g < w.heap.size) : ∃ z, w.grownBy z (some g) ∧ z.grownBy w' o := by
  have hg' : g < w'.heap.size := Nat.lt_of_lt_of_le hg h.size
  refine ⟨{ w with heap := w.heap.set g (w'.heap[g]) hg }, ⟨rfl, rfl, rfl, ?_, fun i hi e => ?_⟩, ⟨h.os, h.tape, h.output, ?_, fun i hi e => ?_⟩⟩
  · show w.heap.size ≤ (w.heap.set g (w'.heap[g]) hg).size
    rw [Array.size_set]
    exact Nat.le_refl _
  · show (w.heap.set g (w'.heap[g]) hg)[i]? = w.heap[i]?
    rw [Array.getElem?_set_ne hg (fun x => e (by rw [x]))]
  · show (w.heap.set g (w'.heap[g]) hg).size ≤ w'.heap.size
    rw [Array.size_set]
    exact h.size
  · show w'.heap[i]? = (w.heap.set g (w'.heap[g]) hg)[i]?
    have hi' : i < w.heap.size := by
      have : i < (w.heap.set g (w'.heap[g]) hg).size := hi
      rwa [Array.size_set] at this
    by_cases x : g = i
    · subst x
      rw [Array.getElem?_set_self hg, Array.getElem?_eq_getElem hg']
    · rw [Array.getElem?_set_ne hg x]
      exact h.block i hi' (fun y => y.elim (fun a => x a.symm) (fun b => e b.symm))
/-- The block that is kept is of bytes. -/
theorem Kp.not {w0 w : World} {K : Option Addr} {n c : Nat} {t : List UInt8} (h : Kp w0 w K n c t) {g : Nat} {ty : TypeId} {cs : Array Value} (hb : Bk w g ty cs) (hne : ty ≠ U8) : (Value.slice K n c).ownBlock ≠ some g := by
  intro e
  rcases h.lies with ⟨rfl, -⟩ | ⟨g', o, M, rfl, -, h3, -⟩
  · cases e
  · simp only [Value.ownBlock, Option.some.injEq] at e
    subst e
    unfold Bk at hb h3
    rw [hb] at h3
    simp only [Option.some.injEq, Obj.cells.injEq] at h3
    exact hne h3.2.1
theorem RowI.kept {wf w0 w y : World} {A : Option Addr} {n c : Nat} {L : List (Pk × Hs)} (h : RowI wf w A n c L) {K : Option Addr} {m d : Nat} {t : List UInt8} (hk : Kp w0 w K m d t) (hm : w.grownBy y (Value.slice K m d).ownBlock) : RowI wf y A n c L := by
  refine ⟨h.row.other hm fun q hq e => ?_, fun x hx => hk.keep hm (h.ins x hx), h.apart⟩
  rcases h.row.lies with ⟨h1, -⟩ | ⟨g2, M2, h1, -, h4, -⟩
  · rw [h1] at hq; cases hq
  · rw [h1] at hq; cases hq
    exact hk.not h4 (by decide) e
/-- A row of packets stands behind a feed. -/
theorem RowI.fed {wf w0 w y : World} {A : Option Addr} {n c : Nat} {L : List (Pk × Hs)} (h : RowI wf w A n c L) {g : Nat} {v most : Int} {K : Option Addr} {m d a k : Nat} {e : Int} {t : List UInt8} (hb : Bk w g SmT (smC v most K m d a k e)) (hk : Kp w0 w K m d t) (hm : Mods (FS g (Value.slice K m d).ownBlock) w y) (ha : ∀ x ∈ L, Apart g x) : RowI wf y A n c L := by
  obtain ⟨z, h1, h2⟩ := hm.split hb.lt
  exact (h.stream hb h1 ha).kept (hk.apart hb (by decide) h1) h2
/-- What lies below a bound that the stream's blocks do not reach is kept. -/
theorem fed_below {B : Nat} {w0 wk w y : World} (h0 : Below B w0 w) {g : Nat} {K : Option Addr} {m d : Nat} {t : List UInt8} (hg : B ≤ g) (hB : B ≤ w.heap.size) (hk : Kp wk w K m d t) (hw : B ≤ wk.heap.size) (hm : Mods (FS g (Value.slice K m d).ownBlock) w y) : Below B w0 y :=
  hm.below h0 hB fun i hi => hi.elim (fun e => by omega) (fun e => Nat.le_trans hw (hk.own e).1)
/-- A row's first packet. -/
theorem RowK.first {w0 w : World} {A : Option Addr} {n c : Nat} {p : Pk} {h : Hs} {L : List (Pk × Hs)} (hr : RowK w0 w A n c ((p, h) :: L)) : ∃ g M, A = some ⟨g, 0, none⟩ ∧ Bk w g PkT (pks ((p, h) :: M)).toArray := by
  rcases hr.lies with ⟨-, h1, -⟩ | ⟨g, M, h1, -, h3, h4, h5, -, h7⟩
  · have := hr.len
    simp at this
    omega
  · match M, n, h3, h7 with
    | [], _, _, h7 => simp at h7
    | _ :: _, 0, _, h7 => simp at h7
    | x :: M, n + 1, h3, h7 =>
      rw [List.take_succ_cons, List.cons.injEq] at h7
      rw [h7.1] at h3
      exact ⟨g, M, h1, h3⟩
theorem Bk.first {w : World} {g : Nat} {p : Pk} {h : Hs} {M : List (Pk × Hs)} (hb : Bk w g PkT (pks ((p, h) :: M)).toArray) {r : Nat} (hr : r < 25) : w.cell? ⟨g, r, none⟩ = (pkC p h)[r]? := by
  rw [hb.cell, List.getElem?_toArray]
  have := pks_at ((p, h) :: M) 0 r (Nat.succ_pos _) hr
  rwa [Nat.zero_mul, Nat.zero_add] at this
/-- Another block stands behind a feed. -/
theorem Bk.fed {w0 w y : World} {q : Nat} {ty : TypeId} {cs : Array Value} (h : Bk w q ty cs) (h1 : ty ≠ U8) {g : Nat} {K : Option Addr} {m d : Nat} {t : List UInt8} (hq : q ≠ g) (hk : Kp w0 w K m d t) (hm : Mods (FS g (Value.slice K m d).ownBlock) w y) : Bk y q ty cs :=
  h.mods hm fun x => x.elim hq (hk.not h h1)
theorem Bk.ne {w : World} {q g : Nat} {ty tz : TypeId} {cs ds : Array Value} (h : Bk w q ty cs) (h' : Bk w g tz ds) (hne : ty ≠ tz) : q ≠ g := by
  rintro rfl
  unfold Bk at h h'
  rw [h] at h'
  simp only [Option.some.injEq, Obj.cells.injEq] at h'
  exact hne h'.2.1
/-- What another stream keeps stands behind a feed. -/
theorem Kp.fed {w0 w1 w y : World} {K K' : Option Addr} {n c m d : Nat} {t u : List UInt8} (h : Kp w0 w K n c t) {g : Nat} {cs : Array Value} (hb : Bk w g SmT cs) (hx : ∀ i, (Value.slice K n c).ownBlock = some i → (Value.slice K' m d).ownBlock ≠ some i) (hm : Mods (FS g (Value.slice K' m d).ownBlock) w y) (_hk : Kp w1 w K' m d u) : Kp w0 y K n c t := by
  refine ⟨h.len, h.cap, ?_⟩
  rcases h.lies with h1 | ⟨q, o, M, rfl, h2, h3, h4⟩
  · exact .inl h1
  · exact .inr ⟨q, o, M, rfl, h2, h3.mods hm (fun x => x.elim (fun e => h3.ne hb (by decide) e) (hx q rfl)), h4⟩
set_option maxHeartbeats 1000000 in
set_option maxRecDepth 10000 in
theorem smFeed_err (v most : Int) (g : Nat) (K : Option Addr) (n c a k : Nat) (e : Int) (he : e ≠ 0) (s : ByteArray) (w : World) (hb : Bk w g SmT (smC v most K n c a k e)) :
    Calls Tryz.prog 34 #[.pointer (some ⟨g, 0, none⟩), .string s] w fun e' w' => e' = .returned (.tuple #[.slice none 0 0, .int .i64 e]) ∧ Below w.heap.size w w' := by
  have HB := Lib.hid (Below.refl w.heap.size w)
  have c5 : w.cell? ⟨g, 5, none⟩ = some (.int .i64 e) := hb.cell 5
  have e0 : (e != 0) = true := bne_iff_ne.2 he
  clear hb he
  go_enter Tryz.func34, Tryz.ntmps34
  go_wp2
  go_quiet (fail)
  go_wp2
  go_ret2
  exact ⟨rfl, below_drawn HB.out _⟩
set_option maxHeartbeats 1000000 in
set_option maxRecDepth 10000 in
theorem smNeed_err (v most : Int) (g : Nat) (K : Option Addr) (n c a k : Nat) (e : Int) (he : e ≠ 0) (w : World) (hb : Bk w g SmT (smC v most K n c a k e)) :
    Calls Tryz.prog 35 #[.pointer (some ⟨g, 0, none⟩)] w fun e' w' => e' = .returned (.int .i64 0) ∧ w = w' := by
  have c5 : w.cell? ⟨g, 5, none⟩ = some (.int .i64 e) := hb.cell 5
  have e0 : (e != 0) = true := bne_iff_ne.2 he
  clear hb he
  go_enter Tryz.func35, Tryz.ntmps35
  go_wp2
  go_ret
  exact ⟨rfl, rfl⟩
theorem results_lim {fn : Func} {p : Tmp} (hr : fn.results = #[.cell p 57]) (tmps : Array Value) {w : World} {g : Nat} {a b : Value} (hp : tmps.getD p undef = .pointer (some ⟨g, 0, none⟩)) (hb : Bk w g 57 #[a, b]) : (results fn tmps).run Tryz.prog w = .ok (.agg #[a, b]) w := by
  obtain ⟨⟨c0, c1⟩, -⟩ := hb.two
  rw [Array.getD_eq_getD_getElem?] at hp
  simp only [results, hr]
  simp [hp, go_sem, c0, c1]
theorem limits14_any (w : World) : Calls Tryz.prog 39 #[] w fun e w' => e = .returned (limV 64 0) ∧ Below w.heap.size w w' := by
  have HK := Lib.hid (Bk.fresh w 57 #[.int .i64 64, .int .i64 0])
  have HB := Lib.hid ((Below.refl w.heap.size w).alloc (Nat.le_refl _) (.cells #[.int .i64 64, .int .i64 0] 57))
  unfold limV
  go_enter Tryz.func39, Tryz.ntmps39
  go_wp2
  refine bodyPost_ret (results_lim rfl _ rfl HK.out) rfl ?_
  exact ⟨rfl, HB.out⟩
theorem ex14_1 : smG 4 64 (⟨#[]⟩ ++ ⟨#[192]⟩) 0 0 [] = ([], ⟨#[192]⟩, 0, 0, 0) := by decide +kernel
theorem ex14_2 : smG 4 64 (⟨#[192]⟩ ++ ⟨#[0, 208]⟩) 0 0 [] = ([{ pk0 with kind := 12 }], ⟨#[208]⟩, 2, 1, 0) := by decide +kernel
theorem ex14_3 : smG 4 64 (⟨#[208]⟩ ++ ⟨#[0]⟩) 2 1 [] = ([{ pk0 with kind := 13 }], ⟨#[]⟩, 4, 2, 0) := by decide +kernel
theorem FO.len {w0 w w' : World} {g : Nat} {o : Option Nat} {v most : Int} {r : List Pk × ByteArray × Nat × Nat × Int} {A : Option Addr} {m cm : Nat} {L : List (Pk × Hs)} {K : Option Addr} {n c : Nat} (h : FO w0 w g o v most r w' A m cm L K n c) : m = r.1.length := by
  rw [← h.map, List.length_map, h.row.row.len]
theorem map_one {L : List (Pk × Hs)} {p : Pk} (h : L.map Prod.fst = [p]) : ∃ k, L = [(p, k)] := by
  match L, h with
  | [], h => cases h
  | [(q, k)], h =>
    simp only [List.map_cons, List.map_nil, List.cons.injEq, and_true] at h
    exact ⟨k, by rw [h]⟩
  | _ :: _ :: _, h => simp at h
set_option maxHeartbeats 4000000 in
set_option maxRecDepth 10000 in
theorem lives14_any (w : World) : Calls Tryz.prog 32 #[] w fun e w' => e = .returned (.bool true) ∧ Below w.heap.size w w' := by
  have HC1 := Lib.hid (fun (g : Nat) W hb => smFeed_any 4 64 g none 0 0 0 0 ⟨#[]⟩ ⟨#[192]⟩ w W hb (Kp.none w W))
  have HC2 := Lib.hid (fun (g : Nat) (K : Option Addr) (n c : Nat) W hb hk => smFeed_any 4 64 g K n c 0 0 ⟨#[192]⟩ ⟨#[0, 208]⟩ w W hb hk)
  have HC3 := Lib.hid (fun (g : Nat) (K : Option Addr) (n c : Nat) W hb hk => smFeed_any 4 64 g K n c 2 1 ⟨#[208]⟩ ⟨#[0]⟩ w W hb hk)
  rw [ex14_1] at HC1
  rw [ex14_2] at HC2
  rw [ex14_3] at HC3
  go_enter Tryz.func32, Tryz.ntmps32
  go_wp2_with fail
  refine (limits14_any _).mono ?_
  rintro e w0 ⟨rfl, hb0⟩
  have HB0 := Lib.hid hb0; clear hb0
  go_wp2_with fail
  refine (smNew_any 4 64 0 _).mono ?_
  rintro e w1 ⟨hb, h⟩
  rw [if_pos (by decide)] at h
  obtain ⟨g, rfl, hg, bk⟩ := h
  have HB1 := Lib.hid (HB0.out.trans (hb.mono HB0.out.size)); have HG := Lib.hid (Nat.le_trans HB0.out.size hg); have BK1 := Lib.hid bk
  clear hb hg bk
  go_wp2_with fail
  refine (HC1.out g _ BK1.out HB1.out.size (by decide) (by decide)).mono ?_
  rintro e w2 ⟨A1, m1, cm1, L1, K1, n1, c1, rfl, F⟩
  have F1 := Lib.hid F; have M1 := F.len
  have HB2 := Lib.hid (fed_below HB1.out HG.out HB1.out.size (Kp.none w w1) (Nat.le_refl _) F.mods)
  have N1 : Hid (n1 = 1) := Lib.hid F.kp.len.symm
  clear F HC1
  dsimp only [List.length_nil] at M1 ⊢
  subst M1
  go_wp2_with fail
  refine (HC2.out g K1 n1 c1 _ F1.out.bk F1.out.kp HB2.out.size (by rw [N1.out]; decide) (by decide)).mono ?_
  rintro e w3 ⟨A2, m2, cm2, L2, K2, n2, c2, rfl, F⟩
  have F2 := Lib.hid F; have M2 := F.len
  have HB3 := Lib.hid (fed_below HB2.out HG.out HB2.out.size F1.out.kp (Nat.le_refl _) F.mods)
  have N2 : Hid (n2 = 1) := Lib.hid F.kp.len.symm
  clear F HC2
  dsimp only [List.length_cons, List.length_nil] at M2 ⊢
  subst M2
  go_wp2_with fail
  refine (HC3.out g K2 n2 c2 _ F2.out.bk F2.out.kp HB3.out.size (by rw [N2.out]; decide) (by decide)).mono ?_
  rintro e w4 ⟨A3, m3, cm3, L3, K3, n3, c3, rfl, F⟩
  have F3 := Lib.hid F; have M3 := F.len
  have HB4 := Lib.hid (fed_below HB3.out HG.out HB3.out.size F2.out.kp (Nat.le_refl _) F.mods)
  have R2 := F2.out.row.fed F2.out.bk F2.out.kp F.mods (fun x hx => F2.out.fresh x hx g F1.out.bk.lt)
  obtain ⟨k2, e2⟩ := map_one F2.out.map
  obtain ⟨k3, e3⟩ := map_one F.map
  have R3 := F.row
  rw [e2] at R2
  rw [e3] at R3
  obtain ⟨g2, Q2, rfl, x2⟩ := R2.row.first
  obtain ⟨g3, Q3, rfl, x3⟩ := R3.row.first
  have y2 : w4.cell? ⟨g2, 0, none⟩ = some (.int .i64 12) := x2.first (r := 0) (by decide)
  have y3 : w4.cell? ⟨g3, 0, none⟩ = some (.int .i64 13) := x3.first (r := 0) (by decide)
  clear F HC3 R2 R3 e2 e3 x2 x3
  dsimp only [List.length_cons, List.length_nil] at M3 ⊢
  subst M3
  go_wp2
  go_ret
  exact ⟨rfl, HB4.out⟩
end Go.Proofs.YtpcleamaieaefaaGreatDoor

namespace Go.Proofs.YtpcleamaieaefaaGreatDoor
open Go.RowKit
attribute [local go_sem ↓] to_ldPk to_bxPk to_bdPk to_alPk to_stPk
attribute [local go_sem] run_bxPk run_bxPk_agg ld_fresh run_alPk run_bd0 run_bdK run_bdKI run_bdKIC run_bdKC run_bdKICP run_stPk_fresh pkC_0 pkC_1 pkC_2 pkC_3 pkC_4 pkC_5 pkC_6 pkC_7 pkC_8 pkC_9 pkC_10 pkC_11 pkC_12 pkC_13 pkC_14 pkC_15 pkC_16 pkC_17 pkC_18 pkC_19 pkC_20 pkC_21 pkC_22 pkC_23 pkC_24
theorem nil_feed (s : ByteArray) (w : World) : Calls Tryz.prog 34 #[.pointer none, .string s] w fun e' w' => e' = .returned (.tuple #[.slice none 0 0, .int .i64 1]) ∧ w = w' := by
  go_enter Tryz.func34, Tryz.ntmps34
  go_wp2
  go_ret2
  exact ⟨rfl, rfl⟩
theorem nil_err (w : World) : Calls Tryz.prog 38 #[.pointer none] w fun e' w' => e' = .returned (.int .i64 1) ∧ w = w' := by
  go_enter Tryz.func38, Tryz.ntmps38
  go_wp2
  go_ret
  exact ⟨rfl, rfl⟩
theorem nil_at (w : World) : Calls Tryz.prog 40 #[.pointer none] w fun e' w' => e' = .returned (.int .i64 0) ∧ w = w' := by
  go_enter Tryz.func40, Tryz.ntmps40
  go_wp2
  go_ret
  exact ⟨rfl, rfl⟩
theorem nil_kept (w : World) : Calls Tryz.prog 37 #[.pointer none] w fun e' w' => e' = .returned (.int .i64 0) ∧ w = w' := by
  go_enter Tryz.func37, Tryz.ntmps37
  go_wp2
  go_ret
  exact ⟨rfl, rfl⟩
theorem nil_told (w : World) : Calls Tryz.prog 36 #[.pointer none] w fun e' w' => e' = .returned (.int .i64 0) ∧ w = w' := by
  go_enter Tryz.func36, Tryz.ntmps36
  go_wp2
  go_ret
  exact ⟨rfl, rfl⟩
theorem nil_need (w : World) : Calls Tryz.prog 35 #[.pointer none] w fun e' w' => e' = .returned (.int .i64 0) ∧ w = w' := by
  go_enter Tryz.func35, Tryz.ntmps35
  go_wp2
  go_ret
  exact ⟨rfl, rfl⟩
def pub14 : Pk := { pk0 with kind := 3, topic := ⟨#[97]⟩, payload := ⟨#[120]⟩ }
theorem ex14_4 : smG 5 64 (⟨#[]⟩ ++ ⟨#[192, 0, 48, 5, 0, 1]⟩) 0 0 [] = ([{ pk0 with kind := 12 }], ⟨#[48, 5, 0, 1]⟩, 2, 1, 0) := by decide +kernel
theorem ex14_5 : smG 5 64 (⟨#[48, 5, 0, 1]⟩ ++ ⟨#[97, 0, 120, 193]⟩) 2 1 [] = ([pub14], ⟨#[]⟩, 9, 2, 7) := by decide +kernel
theorem ex14_6 : smG 5 64 (⟨#[]⟩ ++ ⟨#[48, 62]⟩) 0 0 [] = ([], ⟨#[48, 62]⟩, 0, 0, 0) := by decide +kernel
theorem ex14_7 : smG 5 64 (⟨#[48, 62]⟩ ++ ⟨#[]⟩) 0 0 [] = ([], ⟨#[48, 62]⟩, 0, 0, 0) := by decide +kernel
theorem ex14_8 : smG 5 64 (⟨#[]⟩ ++ ⟨#[48, 63]⟩) 0 0 [] = ([], ⟨#[]⟩, 0, 0, 4) := by decide +kernel
theorem need14_1 : smNeed 5 ⟨#[]⟩ 0 = 1 := by decide +kernel
theorem need14_2 : smNeed 5 ⟨#[48, 5, 0, 1]⟩ 0 = 3 := by decide +kernel
set_option maxHeartbeats 8000000 in
set_option maxRecDepth 10000 in
theorem mstreamNames_any (w : World) : Calls Tryz.prog 7 #[] w fun e w' => e = .returned (.bool true) ∧ Below w.heap.size w w' := by
  have HC1 := Lib.hid (fun (g : Nat) W hb => smFeed_any 5 64 g none 0 0 0 0 ⟨#[]⟩ ⟨#[192, 0, 48, 5, 0, 1]⟩ w W hb (Kp.none w W))
  have HC2 := Lib.hid (fun (g : Nat) (K : Option Addr) (n c : Nat) W hb hk => smFeed_any 5 64 g K n c 2 1 ⟨#[48, 5, 0, 1]⟩ ⟨#[97, 0, 120, 193]⟩ w W hb hk)
  have HC3 := Lib.hid (fun (g : Nat) W hb => smFeed_any 5 64 g none 0 0 0 0 ⟨#[]⟩ ⟨#[48, 62]⟩ w W hb (Kp.none w W))
  have HC4 := Lib.hid (fun (g : Nat) (K : Option Addr) (n c : Nat) W hb hk => smFeed_any 5 64 g K n c 0 0 ⟨#[48, 62]⟩ ⟨#[]⟩ w W hb hk)
  have HC5 := Lib.hid (fun (g : Nat) W hb => smFeed_any 5 64 g none 0 0 0 0 ⟨#[]⟩ ⟨#[48, 63]⟩ w W hb (Kp.none w W))
  rw [ex14_4] at HC1
  rw [ex14_5] at HC2
  rw [ex14_6] at HC3
  rw [ex14_7] at HC4
  rw [ex14_8] at HC5
  go_enter Tryz.func7, Tryz.ntmps7
  go_wp2_with fail
  refine (lives14_any _).mono ?_
  rintro e w0 ⟨rfl, hb⟩
  have HB0 := Lib.hid hb; clear hb
  go_wp2_with fail
  refine (limits14_any _).mono ?_
  rintro e w0' ⟨rfl, hb⟩
  have HB0 := Lib.hid (HB0.out.trans (hb.mono HB0.out.size)); clear hb
  go_wp2_with fail
  refine (smNew_any 3 64 0 _).mono ?_
  rintro e w1 ⟨hb, h⟩
  rw [if_neg (by decide)] at h
  subst h
  have HB1 := Lib.hid (HB0.out.trans (hb.mono HB0.out.size)); clear hb HB0
  go_wp2_with fail
  refine (smNew_any 5 15 0 _).mono ?_
  rintro e w2 ⟨hb, h⟩
  rw [if_neg (by decide)] at h
  subst h
  have HB2 := Lib.hid (HB1.out.trans (hb.mono HB1.out.size)); clear hb HB1
  go_wp2_with fail
  refine (smNew_any 5 16 33 _).mono ?_
  rintro e w3 ⟨hb, h⟩
  rw [if_neg (by decide)] at h
  subst h
  have HB3 := Lib.hid (HB2.out.trans (hb.mono HB2.out.size)); clear hb HB2
  go_wp2_with fail
  refine (limits14_any _).mono ?_
  rintro e w3' ⟨rfl, hb⟩
  have HB3 := Lib.hid (HB3.out.trans (hb.mono HB3.out.size)); clear hb
  go_wp2_with fail
  refine (smNew_any 5 64 0 _).mono ?_
  rintro e w4 ⟨hb, h⟩
  rw [if_pos (by decide)] at h
  obtain ⟨g, rfl, hg, bk⟩ := h
  have HB4 := Lib.hid (HB3.out.trans (hb.mono HB3.out.size)); have HG := Lib.hid (Nat.le_trans HB3.out.size hg); have BK4 := Lib.hid bk
  clear hb hg bk HB3
  have HNE := Lib.hid (smNeed_any 5 64 g none 0 0 0 0 0 ⟨#[]⟩ w w4 BK4.out (Kp.none _ _) (by decide))
  rw [need14_1] at HNE
  go_wp2_with fail
  refine HNE.out.mono ?_
  rintro e w5 ⟨rfl, hb⟩
  have HB5 := Lib.hid (HB4.out.trans (hb.mono HB4.out.size)); have BK5 := Lib.hid (BK4.out.below hb BK4.out.lt)
  clear hb HNE HB4 BK4
  go_wp2_with fail
  refine (HC1.out g _ BK5.out HB5.out.size (by decide) (by decide)).mono ?_
  rintro e w6 ⟨A1, m1, cm1, L1, K1, n1, c1, rfl, F⟩
  have F1 := Lib.hid F
  have HB6 := Lib.hid (fed_below HB5.out HG.out HB5.out.size (Kp.none w w5) (Nat.le_refl _) F.mods)
  have N1 : n1 = 4 := F.kp.len.symm
  clear F HC1
  subst N1
  have HBK : Hid (Bk w6 g SmT (smC 5 64 K1 4 c1 2 1 0)) := Lib.hid F1.out.bk
  have HKP : Hid (Kp w w6 K1 4 c1 (ls ⟨#[48, 5, 0, 1]⟩)) := Lib.hid F1.out.kp
  dsimp only
  go_wp2_with fail
  have HN2 := Lib.hid (smNeed_any 5 64 g K1 4 c1 2 1 0 ⟨#[48, 5, 0, 1]⟩ w w6 HBK.out HKP.out (by decide))
  rw [need14_2] at HN2
  refine HN2.out.mono ?_
  rintro e w7 ⟨rfl, hb⟩
  have KF := Lib.hid hb
  clear hb HN2
  have BK7 := Lib.hid (HBK.out.below KF.out HBK.out.lt); have KP7 := Lib.hid (HKP.out.below KF.out)
  have HB7 := Lib.hid (HB6.out.trans (KF.out.mono HB6.out.size))
  clear HBK HKP HB6 HB5 BK5
  go_wp2_with fail
  refine (smAt_any 5 64 g K1 4 c1 2 1 0 _ BK7.out).mono ?_
  rintro e w7' ⟨rfl, rfl⟩
  go_wp2_with fail
  refine (smKept_any 5 64 g K1 4 c1 2 1 0 _ BK7.out).mono ?_
  rintro e w7' ⟨rfl, rfl⟩
  go_wp2_with fail
  refine (smTold_any 5 64 g K1 4 c1 2 1 0 _ BK7.out).mono ?_
  rintro e w7' ⟨rfl, rfl⟩
  go_wp2_with fail
  refine (HC2.out g K1 4 c1 _ BK7.out KP7.out HB7.out.size (by decide) (by decide)).mono ?_
  rintro e w8 ⟨A2, m2, cm2, L2, K2, n2, c2, rfl, F⟩
  have HB8 := Lib.hid (fed_below HB7.out HG.out HB7.out.size KP7.out (Nat.le_refl _) F.mods)
  have M2 := F.len
  obtain ⟨k2, e2⟩ := map_one F.map
  have R2 := F.row
  rw [e2] at R2
  obtain ⟨gl, Q2, rfl, x2⟩ := R2.row.first
  have X8 := Lib.hid x2
  have BK8 : Hid (Bk w8 g SmT (smC 5 64 K2 n2 c2 9 2 7)) := Lib.hid F.bk
  have N2 : n2 = 0 := F.kp.len.symm
  clear F HC2 R2 e2 x2 KP7 BK7 HB7 KF F1
  dsimp only [List.length_cons, List.length_nil] at M2 ⊢
  subst M2 N2
  go_wp2_with fail
  refine (smFeed_err 5 64 g K2 0 c2 9 2 7 (by decide) _ _ BK8.out).mono ?_
  rintro e w8' ⟨rfl, hb⟩
  have HB8 := Lib.hid (HB8.out.trans (hb.mono HB8.out.size)); have BK8 := Lib.hid (BK8.out.below hb BK8.out.lt); have X8 := Lib.hid (X8.out.below hb X8.out.lt); clear hb
  go_wp2_with fail
  refine (limits14_any _).mono ?_
  rintro e w8' ⟨rfl, hb⟩
  have HB8 := Lib.hid (HB8.out.trans (hb.mono HB8.out.size)); have BK8 := Lib.hid (BK8.out.below hb BK8.out.lt); have X8 := Lib.hid (X8.out.below hb X8.out.lt); clear hb
  go_wp2_with fail
  refine (smNew_any 5 64 0 _).mono ?_
  rintro e w9 ⟨hb, h⟩
  rw [if_pos (by decide)] at h
  obtain ⟨g', rfl, hg, bk⟩ := h
  have HB9 := Lib.hid (HB8.out.trans (hb.mono HB8.out.size)); have HG' := Lib.hid (Nat.le_trans HB8.out.size hg); have BL9 := Lib.hid bk
  have BK9 := Lib.hid (BK8.out.below hb BK8.out.lt); have X9 := Lib.hid (X8.out.below hb X8.out.lt)
  have HNG : Hid (g ≠ g') := Lib.hid (by have := BK8.out.lt; omega)
  clear hb hg bk HB8 BK8 X8
  go_wp2_with fail
  refine (HC3.out g' _ BL9.out HB9.out.size (by decide) (by decide)).mono ?_
  rintro e w10 ⟨A3, m3, cm3, L3, K3, n3, c3, rfl, F⟩
  have HB10 := Lib.hid (fed_below HB9.out HG'.out HB9.out.size (Kp.none w w9) (Nat.le_refl _) F.mods)
  have BK10 := Lib.hid (BK9.out.fed (by decide) HNG.out (Kp.none w w9) F.mods)
  have X10 := Lib.hid (X9.out.fed (by decide) (X9.out.ne BL9.out (by decide)) (Kp.none w w9) F.mods)
  have N3 : n3 = 2 := F.kp.len.symm
  subst N3
  have BL10 : Hid (Bk w10 g' SmT (smC 5 64 K3 2 c3 0 0 0)) := Lib.hid F.bk
  have KL10 : Hid (Kp w w10 K3 2 c3 (ls ⟨#[48, 62]⟩)) := Lib.hid F.kp
  clear F HC3 HB9 BK9 X9 BL9
  dsimp only
  go_wp2_with fail
  refine (HC4.out g' K3 2 c3 _ BL10.out KL10.out HB10.out.size (by decide) (by decide)).mono ?_
  rintro e w11 ⟨A4, m4, cm4, L4, K4, n4, c4, rfl, F⟩
  have HB11 := Lib.hid (fed_below HB10.out HG'.out HB10.out.size KL10.out (Nat.le_refl _) F.mods)
  have BK11 := Lib.hid (BK10.out.fed (by decide) HNG.out KL10.out F.mods)
  have X11 := Lib.hid (X10.out.fed (by decide) (X10.out.ne BL10.out (by decide)) KL10.out F.mods)
  have N4 : n4 = 2 := F.kp.len.symm
  subst N4
  have BL11 : Hid (Bk w11 g' SmT (smC 5 64 K4 2 c4 0 0 0)) := Lib.hid F.bk
  clear F HC4 HB10 BK10 X10 BL10 KL10
  dsimp only
  go_wp2_with fail
  refine (limits14_any _).mono ?_
  rintro e w11' ⟨rfl, hb⟩
  have HB11 := Lib.hid (HB11.out.trans (hb.mono HB11.out.size)); have BK11 := Lib.hid (BK11.out.below hb BK11.out.lt); have X11 := Lib.hid (X11.out.below hb X11.out.lt); have BL11 := Lib.hid (BL11.out.below hb BL11.out.lt); clear hb
  go_wp2_with fail
  refine (smNew_any 5 64 0 _).mono ?_
  rintro e w12 ⟨hb, h⟩
  rw [if_pos (by decide)] at h
  obtain ⟨g'', rfl, hg, bk⟩ := h
  have HB12 := Lib.hid (HB11.out.trans (hb.mono HB11.out.size)); have HG'' := Lib.hid (Nat.le_trans HB11.out.size hg); have BM12 := Lib.hid bk
  have BK12 := Lib.hid (BK11.out.below hb BK11.out.lt); have X12 := Lib.hid (X11.out.below hb X11.out.lt); have BL12 := Lib.hid (BL11.out.below hb BL11.out.lt)
  have HN1 : Hid (g ≠ g'') := Lib.hid (by have := BK11.out.lt; omega)
  have HN2 : Hid (g' ≠ g'') := Lib.hid (by have := BL11.out.lt; omega)
  clear hb hg bk HB11 BK11 X11 BL11
  go_wp2_with fail
  refine (HC5.out g'' _ BM12.out HB12.out.size (by decide) (by decide)).mono ?_
  rintro e w13 ⟨A5, m5, cm5, L5, K5, n5, c5, rfl, F⟩
  have HB13 := Lib.hid (fed_below HB12.out HG''.out HB12.out.size (Kp.none w w12) (Nat.le_refl _) F.mods)
  have BK13 := Lib.hid (BK12.out.fed (by decide) HN1.out (Kp.none w w12) F.mods)
  have BL13 := Lib.hid (BL12.out.fed (by decide) HN2.out (Kp.none w w12) F.mods)
  have X13 := Lib.hid (X12.out.fed (by decide) (X12.out.ne BM12.out (by decide)) (Kp.none w w12) F.mods)
  have N5 : n5 = 0 := F.kp.len.symm
  subst N5
  have BM13 : Hid (Bk w13 g'' SmT (smC 5 64 K5 0 c5 0 0 4)) := Lib.hid F.bk
  clear F HC5 HB12 BK12 X12 BL12 BM12
  dsimp only
  have k0 : w13.cell? ⟨gl, 6, none⟩ = some (.string ⟨#[120]⟩) := X13.out.first (r := 6) (by decide)
  go_wp2_with fail
  refine (nil_feed _ _).mono ?_
  rintro e w13' ⟨rfl, rfl⟩
  go_wp2_with fail
  refine (smErr_any 5 64 g K2 0 c2 9 2 7 _ BK13.out).mono ?_
  rintro e w13' ⟨rfl, rfl⟩
  go_wp2_with fail
  refine (smAt_any 5 64 g K2 0 c2 9 2 7 _ BK13.out).mono ?_
  rintro e w13' ⟨rfl, rfl⟩
  go_wp2_with fail
  refine (smKept_any 5 64 g K2 0 c2 9 2 7 _ BK13.out).mono ?_
  rintro e w13' ⟨rfl, rfl⟩
  go_wp2_with fail
  refine (smTold_any 5 64 g K2 0 c2 9 2 7 _ BK13.out).mono ?_
  rintro e w13' ⟨rfl, rfl⟩
  go_wp2_with fail
  refine (smNeed_err 5 64 g K2 0 c2 9 2 7 (by decide) _ BK13.out).mono ?_
  rintro e w13' ⟨rfl, rfl⟩
  go_wp2_with fail
  refine (smKept_any 5 64 g' K4 2 c4 0 0 0 _ BL13.out).mono ?_
  rintro e w13' ⟨rfl, rfl⟩
  go_wp2_with fail
  refine (smKept_any 5 64 g'' K5 0 c5 0 0 4 _ BM13.out).mono ?_
  rintro e w13' ⟨rfl, rfl⟩
  go_wp2_with fail
  refine (nil_err _).mono ?_
  rintro e w13' ⟨rfl, rfl⟩
  go_wp2_with fail
  refine (nil_at _).mono ?_
  rintro e w13' ⟨rfl, rfl⟩
  go_wp2_with fail
  refine (nil_kept _).mono ?_
  rintro e w13' ⟨rfl, rfl⟩
  go_wp2_with fail
  refine (nil_told _).mono ?_
  rintro e w13' ⟨rfl, rfl⟩
  go_wp2_with fail
  refine (nil_need _).mono ?_
  rintro e w13' ⟨rfl, rfl⟩
  go_wp2
  go_ret
  exact ⟨rfl, HB13.out⟩
end Go.Proofs.YtpcleamaieaefaaGreatDoor

namespace Go.Proofs.YtpcleamaieaefaaGreatDoor
open Go.ChangeShapes Go.WideShapes Go.ChangeAt Go.RowKit
def layCells (c : Array Value) : Obj → Obj
  | .cells _ t frozen => .cells c t frozen
  | o => o
def firstCells : Array Value := (Go.Pinned.utf8FirstZ.map fun (n : Nat) => Value.int .u8 n).toArray
def rangeCells : Array Value := #[.int .u8 128, .int .u8 191, .int .u8 160, .int .u8 191, .int .u8 128, .int .u8 159, .int .u8 144, .int .u8 191, .int .u8 128, .int .u8 143,
  .int .u8 0, .int .u8 0, .int .u8 0, .int .u8 0, .int .u8 0, .int .u8 0, .int .u8 0, .int .u8 0, .int .u8 0, .int .u8 0, .int .u8 0, .int .u8 0, .int .u8 0, .int .u8 0, .int .u8 0, .int .u8 0, .int .u8 0, .int .u8 0, .int .u8 0, .int .u8 0, .int .u8 0, .int .u8 0]
noncomputable def laidWorld (os : Os) : World :=
  { World.holding Tryz.prog os ⟨#[], #[], []⟩ with heap := ((World.holding Tryz.prog os ⟨#[], #[], []⟩).heap.modify 1 (layCells firstCells)).modify 2 (layCells rangeCells) }
theorem laid_met (os : Os) (args : Array Value) : laidMetH Tryz.prog [("unicode/utf8.acceptRanges", Rows.laid_unicode_utf8_acceptRanges), ("unicode/utf8.first", Rows.laid_unicode_utf8_first)] ((laidWorld os).forCall (fun _ _ => 0) ⟨#[], args, []⟩).memory :=
  laidMetH_of_parts (laidMet_of_run' 8 (by kernel_rfl) (by kernel_rfl)) (by kernel_rfl)
end Go.Proofs.YtpcleamaieaefaaGreatDoor

namespace Go.Proofs.YtpcleamaieaefaaGreatDoor
open Go.RowKit
attribute [local go_sem ↓] to_ldPk to_bxPk to_bdPk to_alPk to_stPk
attribute [local go_sem] run_bxPk run_bxPk_agg ld_fresh run_alPk run_bd0 run_bdK run_bdKI run_bdKIC run_bdKC run_bdKICP run_stPk_fresh pkC_0 pkC_1 pkC_2 pkC_3 pkC_4 pkC_5 pkC_6 pkC_7 pkC_8 pkC_9 pkC_10 pkC_11 pkC_12 pkC_13 pkC_14 pkC_15 pkC_16 pkC_17 pkC_18 pkC_19 pkC_20 pkC_21 pkC_22 pkC_23 pkC_24
theorem smOk_ver {v mp md : Int} (h : smOk v mp md = true) : hdKnown v = true := by
  unfold smOk at h
  simp only [Bool.and_eq_true] at h
  exact h.1
set_option maxHeartbeats 8000000 in
set_option maxRecDepth 10000 in
theorem mstreamNeeds_any (v : Int) (s y : ByteArray) (w : World) : Calls Tryz.prog 5 #[.int .i64 v, .string s, .string y] w fun e w' => e = .returned (.bool true) ∧ Below w.heap.size w w' := by
  go_enter Tryz.func5, Tryz.ntmps5
  go_wp2_with fail
  refine (lives14_any _).mono ?_
  rintro e w0 ⟨rfl, hb⟩
  have HB0 := Lib.hid hb; clear hb
  by_cases h1 : 600 < s.size
  · have d1 : (600 : Int) < (s.size : Int) := by omega
    clear h1
    go_wp2
    go_ret
    exact ⟨rfl, HB0.out⟩
  have d1 : (s.size : Int) ≤ 600 := by omega
  have HS : Hid (s.size ≤ 600) := Lib.hid (by omega)
  clear h1
  by_cases h1 : 600 < y.size
  · have d2 : (600 : Int) < (y.size : Int) := by omega
    clear h1
    go_wp2
    go_ret
    exact ⟨rfl, HB0.out⟩
  have d2 : (y.size : Int) ≤ 600 := by omega
  have HY : Hid (y.size ≤ 600) := Lib.hid (by omega)
  clear h1
  go_wp2_with fail
  refine (smNew_any v 512 0 _).mono ?_
  rintro e w1 ⟨hb, h⟩
  have HB1 := Lib.hid (HB0.out.trans (hb.mono HB0.out.size))
  by_cases hok : smOk v 512 0 = true
  rotate_left
  · rw [if_neg hok] at h
    subst h
    clear hok hb HB0
    go_wp2
    go_ret
    exact ⟨rfl, HB1.out⟩
  rw [if_pos hok] at h
  obtain ⟨g, rfl, hg, bk⟩ := h
  have HV := Lib.hid (smOk_ver hok)
  have HG := Lib.hid (Nat.le_trans HB0.out.size hg); have BK1 := Lib.hid bk
  clear hb hg bk hok HB0
  go_wp2_with fail
  refine (smFeed_any v 512 g none 0 0 0 0 ⟨#[]⟩ s w _ BK1.out (Kp.none _ _) HB1.out.size (by have := HS.out; omega) (by decide)).mono ?_
  rintro e w2 ⟨A1, m1, cm1, L1, K1, n1, c1, rfl, F⟩
  have HB2 := Lib.hid (fed_below HB1.out HG.out HB1.out.size (Kp.none w w1) (Nat.le_refl _) F.mods)
  have HE := Lib.hid (smG_end v 512 _ (⟨#[]⟩ ++ s) 0 0 [] (Nat.le_refl _))
  have HZ : Hid ((⟨#[]⟩ ++ s : ByteArray).size ≤ 600) := Lib.hid (by rw [ByteArray.size_append]; have := HS.out; show 0 + s.size ≤ 600; omega)
  have BK2 := Lib.hid F.bk; have KP2 := Lib.hid F.kp
  obtain ⟨⟨l, t, a, k, E⟩, hR⟩ : ∃ r, smG v 512 (⟨#[]⟩ ++ s) 0 0 [] = r := ⟨_, rfl⟩
  rw [hR] at BK2 KP2 HE ⊢
  dsimp only at BK2 KP2 HE ⊢
  clear F hR HB1 BK1
  by_cases hE : E = 0
  rotate_left
  · have e0 : (E != 0) = true := bne_iff_ne.2 hE
    have HX := Lib.hid hE
    clear hE
    go_wp2_with fail
    refine (smNeed_err v 512 g K1 n1 c1 a k E HX.out _ BK2.out).mono ?_
    rintro e w2' ⟨rfl, rfl⟩
    go_wp2
    go_ret
    exact ⟨rfl, HB2.out⟩
  subst hE
  have H3 := Lib.hid (HE.out.1 rfl)
  have HA : Hid (a ≤ 600 ∧ t.size ≤ 600 ∧ k ≤ 600) := Lib.hid (by have := HE.out.2.2.2.1; have := HE.out.2.2.2.2.1; have := HZ.out; omega)
  clear HE HZ
  go_wp2_with fail
  refine (smNeed_any v 512 g K1 n1 c1 a k 0 t w _ BK2.out KP2.out (by have := HA.out; omega)).mono ?_
  rintro e w3 ⟨rfl, hb⟩
  have HB3 := Lib.hid (HB2.out.trans (hb.mono HB2.out.size)); have BK3 := Lib.hid (BK2.out.below hb BK2.out.lt); have KP3 := Lib.hid (KP2.out.below hb)
  clear hb HB2 BK2 KP2
  have HR := Lib.hid (smNeed_range H3.out (by decide))
  obtain ⟨q, hq⟩ : ∃ q : Nat, smNeed v t 0 = (q : Int) := ⟨(smNeed v t 0).toNat, by have := HR.out; omega⟩
  have HQ := Lib.hid hq
  rw [hq]
  have r1 : (1 : Int) ≤ (q : Int) := by have := HR.out; have := HQ.out; omega
  have r2 : (q : Int) ≤ 512 := by have := HR.out; have := HQ.out; omega
  have HNN : Hid (n1 = t.size) := Lib.hid (by rw [← KP3.out.len, ls_len])
  clear hq
  by_cases hy : y.size < q
  · have d3 : (y.size : Int) < (q : Int) := by omega
    clear hy
    go_wp2
    go_ret
    exact ⟨rfl, HB3.out⟩
  have d3 : (q : Int) ≤ (y.size : Int) := by omega
  have HYQ : Hid (q ≤ y.size) := Lib.hid (by omega)
  clear hy
  have hsub : wrap64 ((q : Int) - 1) = ((q - 1 : Nat) : Int) := by unfold wrap64; omega
  have HM1 : Hid ((y.extract 0 (q - 1)).size = q - 1) := Lib.hid (by rw [ByteArray.size_extract]; have := HYQ.out; omega)
  have HM2 : Hid ((y.extract (q - 1) q).size = 1) := Lib.hid (by rw [ByteArray.size_extract]; have := HYQ.out; omega)
  obtain ⟨NL3, NL1⟩ := need_less (m := y.extract 0 (q - 1)) H3.out (by rw [HM1.out, HQ.out]; omega)
  have N3 := Lib.hid NL3; have N1 := Lib.hid NL1
  clear NL3 NL1
  have C2 := Lib.hid (smFeed_any v 512 g K1 n1 c1 a k t (y.extract 0 (q - 1)) w w3 BK3.out KP3.out HB3.out.size (by have := HNN.out; have := HM1.out; have := HA.out; omega) (by have := HA.out; omega))
  rw [smG_wait N3.out] at C2
  go_wp2_with fail
  refine C2.out.mono ?_
  rintro e w4 ⟨A2, m2, cm2, L2, K2, n2, c2, rfl, F⟩
  have HB4 := Lib.hid (fed_below HB3.out HG.out HB3.out.size KP3.out (Nat.le_refl _) F.mods)
  have BK4 := Lib.hid F.bk; have KP4 := Lib.hid F.kp
  have M2 := F.len
  dsimp only [List.length_nil] at BK4 KP4 M2 ⊢
  subst M2
  clear F C2 BK3 KP3 HB3
  have HN4 : Hid (n2 = t.size + (q - 1)) := Lib.hid (by rw [← KP4.out.len, ls_len, ByteArray.size_append, HM1.out])
  have HJ : Hid (t ++ y.extract 0 (q - 1) ++ y.extract (q - 1) q = t ++ y.extract 0 q) := Lib.hid (ls_ext (by
    have h0 : q - 1 + 1 = q := by have := HQ.out; omega
    have h1 := extract_ls y (q - 1) 1
    rw [h0] at h1
    rw [ls_app, ls_app, ls_app, ls_front, ls_front, h1, List.append_assoc, ← List.take_add, h0]))
  have C3 := fun W hb hk h0 => smFeed_any v 512 g K2 n2 c2 a k (t ++ y.extract 0 (q - 1)) (y.extract (q - 1) q) w W hb hk h0 (by have := HN4.out; have := HM2.out; have := HA.out; omega) (by have := HA.out; omega)
  rw [HJ.out] at C3
  have HC3 := Lib.hid C3
  clear C3 HJ
  by_cases hq1 : q = 1
  · have d4 : (q : Int) ≤ 1 := by omega
    have e1 : ((q : Int) == 1) = true := beq_iff_eq.2 (by omega)
    clear hq1
    go_wp2_with fail
    refine (smTold_any v 512 g K2 n2 c2 a k 0 _ BK4.out).mono ?_
    rintro e w5 ⟨rfl, rfl⟩
    go_wp2_with fail
    refine (HC3.out _ BK4.out KP4.out HB4.out.size).mono ?_
    rintro e w6 ⟨A3, m3, cm3, L3, K3, n3, c3, rfl, F⟩
    have HB6 := Lib.hid (fed_below HB4.out HG.out HB4.out.size KP4.out (Nat.le_refl _) F.mods)
    clear F HC3 BK4 KP4
    go_wp2
    go_ret
    exact ⟨rfl, HB6.out⟩
  have d4 : (1 : Int) < (q : Int) := by omega
  have e1 : ((q : Int) == 1) = false := beq_eq_false_iff_ne.2 (by omega)
  have NJ := Lib.hid (need_just HV.out (m := y.extract 0 q) H3.out (by rw [HQ.out, ByteArray.size_extract]; have := HYQ.out; omega) (by rw [HQ.out]; omega) a k)
  clear hq1
  go_wp2_with fail
  have HND := Lib.hid (smNeed_any v 512 g K2 n2 c2 a k 0 (t ++ y.extract 0 (q - 1)) w _ BK4.out KP4.out (by rw [ByteArray.size_append, HM1.out]; have := HA.out; omega))
  rw [N1.out] at HND
  refine HND.out.mono ?_
  rintro e w5 ⟨rfl, hb⟩
  have HB5 := Lib.hid (HB4.out.trans (hb.mono HB4.out.size)); have BK5 := Lib.hid (BK4.out.below hb BK4.out.lt); have KP5 := Lib.hid (KP4.out.below hb)
  clear hb HND BK4 KP4 HB4
  go_wp2_with fail
  refine (smTold_any v 512 g K2 n2 c2 a k 0 _ BK5.out).mono ?_
  rintro e w6 ⟨rfl, rfl⟩
  go_wp2_with fail
  refine (HC3.out _ BK5.out KP5.out HB5.out.size).mono ?_
  rintro e w6 ⟨A3, m3, cm3, L3, K3, n3, c3, rfl, F⟩
  have HB6 := Lib.hid (fed_below HB5.out HG.out HB5.out.size KP5.out (Nat.le_refl _) F.mods)
  have BK6 := Lib.hid F.bk
  have M3 := F.len
  obtain ⟨⟨l3, t3, a3, k3, E3⟩, hR3⟩ : ∃ r, smG v 512 (t ++ y.extract 0 q) a k [] = r := ⟨_, rfl⟩
  rw [hR3] at NJ BK6 M3 ⊢
  dsimp only at NJ BK6 M3 ⊢
  clear F HC3 BK5 KP5 HB5 hR3
  by_cases hE : E3 = 0
  rotate_left
  · have e0 : (E3 != 0) = true := bne_iff_ne.2 hE
    clear hE
    go_wp2
    go_ret
    exact ⟨rfl, HB6.out⟩
  obtain ⟨J1, J2⟩ := NJ.out.resolve_left (fun x => x hE)
  subst hE
  rw [J1] at M3
  subst M3
  subst J2
  have HAK : wrap64 ((k : Int) + 1) = ((k + 1 : Nat) : Int) := by have := HA.out; unfold wrap64; omega
  clear J1 NJ
  go_wp2_with fail
  refine (smTold_any v 512 g K3 n3 c3 a3 (k + 1) 0 _ BK6.out).mono ?_
  rintro e w7 ⟨rfl, rfl⟩
  go_wp2
  go_ret
  exact ⟨by simp, HB6.out⟩
end Go.Proofs.YtpcleamaieaefaaGreatDoor

namespace Go.Proofs.YtpcleamaieaefaaGreatDoor
open Go.RowKit

/-- Where the next cut is. -/
def cutK (s : ByteArray) (z : Int) : Nat := (pickN z ((s.size + 1 : Nat) : Int)).toNat
def cutF (st : List ByteArray × ByteArray) (z : Int) : List ByteArray × ByteArray := (st.1 ++ [st.2.extract 0 (cutK st.2 z)], st.2.extract (cutK st.2 z) st.2.size)
/-- What is cut by so many lengths, and what is left. -/
def cutT (s : ByteArray) (l : List Int) : List ByteArray × ByteArray := l.foldl cutF ([], s)
def cutL (s : ByteArray) (l : List Int) : List ByteArray := (cutT s l).1 ++ [(cutT s l).2]
theorem pickN_nat (n : Int) (m : Nat) : ∃ q : Nat, pickN n ((m + 1 : Nat) : Int) = q ∧ q ≤ m := by
  have h5 := Int.emod_nonneg n (show ((m + 1 : Nat) : Int) ≠ 0 by omega)
  have h6 := Int.emod_lt_of_pos n (show 0 < ((m + 1 : Nat) : Int) by omega)
  unfold pickN
  rw [if_neg (by omega)]
  exact ⟨(n % ((m + 1 : Nat) : Int)).toNat, by omega, by omega⟩
theorem cutK_of (s : ByteArray) (z : Int) : pickN z ((s.size + 1 : Nat) : Int) = (cutK s z : Int) ∧ cutK s z ≤ s.size := by
  obtain ⟨q, h1, h2⟩ := pickN_nat z s.size
  unfold cutK
  rw [h1]
  exact ⟨by simp, by simpa using h2⟩
theorem cutT_step (s : ByteArray) {l : List Int} {k : Nat} (h : k < l.length) : cutT s (l.take (k + 1)) = cutF (cutT s (l.take k)) l[k] := by
  unfold cutT
  rw [List.take_succ_eq_append_getElem h, List.foldl_append]
  rfl
theorem cutT_len (s : ByteArray) : ∀ (l : List Int) (st : List ByteArray × ByteArray), (l.foldl cutF st).1.length = st.1.length + l.length
  | [], _ => rfl
  | z :: l, st => by
    rw [List.foldl_cons, cutT_len s l]
    simp [cutF]
    omega
theorem cutF_join (l : List Int) : ∀ (st : List ByteArray × ByteArray), (l.foldl cutF st).1.flatMap ls ++ ls (l.foldl cutF st).2 = st.1.flatMap ls ++ ls st.2 := by
  induction l with
  | nil => intro st; rfl
  | cons z l ih =>
    intro st
    rw [List.foldl_cons, ih]
    unfold cutF
    simp only [List.flatMap_append, List.flatMap_cons, List.flatMap_nil, List.append_nil, List.append_assoc]
    rw [ls_front, ls_back, List.take_append_drop]
theorem cutL_join (s : ByteArray) (l : List Int) : (cutL s l).flatMap ls = ls s := by
  unfold cutL
  rw [List.flatMap_append]
  have := cutF_join l ([], s)
  simpa [cutT] using this
theorem cutL_len (s : ByteArray) (l : List Int) : (cutL s l).length = l.length + 1 := by
  unfold cutL cutT
  rw [List.length_append, cutT_len s l]
  simp
theorem cutT_short (l : List Int) : ∀ (st : List ByteArray × ByteArray), (l.foldl cutF st).2.size ≤ st.2.size := by
  induction l with
  | nil => intro st; exact Nat.le_refl _
  | cons z l ih =>
    intro st
    rw [List.foldl_cons]
    refine Nat.le_trans (ih _) ?_
    unfold cutF
    dsimp only
    rw [ByteArray.size_extract]
    omega
/-- Texts one after the other. -/
def joinT (l : List ByteArray) : ByteArray := ⟨(l.flatMap ls).toArray⟩
theorem joinT_ls (l : List ByteArray) : ls (joinT l) = l.flatMap ls := ls_mk _
theorem joinT_snoc (l : List ByteArray) (x : ByteArray) : joinT (l ++ [x]) = joinT l ++ x := ls_ext (by
  rw [ls_app, joinT_ls, joinT_ls, List.flatMap_append]
  simp)
theorem joinT_cut (s : ByteArray) (l : List Int) : joinT (cutL s l) = s := ls_ext (by rw [joinT_ls, cutL_join])
theorem joinT_take_le (l : List ByteArray) (k : Nat) : (joinT (l.take k)).size ≤ (joinT l).size := by
  rw [← ls_len, ← ls_len, joinT_ls, joinT_ls]
  conv => rhs; rw [← List.take_append_drop k l, List.flatMap_append, List.length_append]
  exact Nat.le_add_right _ _
/-- What a stream that has told some packets tells of the next chunk: if it is well. -/
theorem fed_well {v most : Int} {T u t : ByteArray} {a k : Nat} {l : List Pk} (h : smG v most T 0 0 [] = (l, t, a, k, 0)) :
    smG v most (T ++ u) 0 0 [] = (l ++ (smG v most (t ++ u) a k []).1, (smG v most (t ++ u) a k []).2.1, (smG v most (t ++ u) a k []).2.2.1, (smG v most (t ++ u) a k []).2.2.2.1, (smG v most (t ++ u) a k []).2.2.2.2) := by
  rw [smG_app v most u _ T 0 0 [] (Nat.le_refl _), h]
  dsimp only
  rw [if_pos rfl, smG_acc v most _ (t ++ u) a k l (Nat.le_refl _), smG_acc v most _ (t ++ u) a k [] (Nat.le_refl _)]
  simp only [List.nil_append]
/-- And if it is not. -/
theorem fed_ill {v most : Int} {T u t : ByteArray} {a k : Nat} {l : List Pk} {e : Int} (h : smG v most T 0 0 [] = (l, t, a, k, e)) (he : e ≠ 0) : smG v most (T ++ u) 0 0 [] = (l, t, a, k, e) := by
  rw [smG_app v most u _ T 0 0 [] (Nat.le_refl _), h]
  exact if_neg he
end Go.Proofs.YtpcleamaieaefaaGreatDoor

namespace Go.Proofs.YtpcleamaieaefaaGreatDoor
open Go.RowKit
def sxv (l : List ByteArray) : List Value := l.map Value.string
theorem sxv_snoc (l : List ByteArray) (x : ByteArray) : sxv (l ++ [x]) = sxv l ++ [.string x] := by simp [sxv]
theorem sxv_one (l : List ByteArray) : ∀ u ∈ sxv l, u.oneCell' = true := by
  intro u hu
  obtain ⟨c, _, rfl⟩ := List.mem_map.1 hu
  rfl
theorem Rd.atS {w : World} {B n : Nat} {A : Option Addr} {l : List ByteArray} (h : Rd w B 1 A n (sxv l)) {i : Nat} (hi : i < n) : ∃ b o z, A = some ⟨b, o, none⟩ ∧ b < B ∧ l[i]? = some z ∧ w.cell? ⟨b, o + i, none⟩ = some (.string z) := by
  obtain ⟨b, o, u, e, hb, hu, hc⟩ := h.at1 hi
  have hl : i < l.length := by have := h.len; simp [sxv] at this; omega
  refine ⟨b, o, l[i], e, hb, List.getElem?_eq_getElem hl, ?_⟩
  have : u = .string l[i] := by simpa [sxv, hl] using hu.symm
  rw [← this]; exact hc
theorem cut_info : (Tryz.prog.info? 9).map (fun i => (i.zero, i.size, i.bytes)) = some (some (.string ⟨#[]⟩), 1, 16) := by kernel_rfl
theorem cut_step_app {P : Program} {w : World} {ops : Array Oper} {o : Oper} {a : Act} {K : Act → World → Prop} {Q : Exit → Act → World → Prop} {E : Prop} (hgd : o.guard = none) (s x : Operand) (t : TypeId)
    (ho : o.op = .call { callee := .builtin .append, args := #[s, x], argTypes := #[t, t] })
    (base : Nat) (e : TypeId) (z : Value) (size bytes : Nat) (ht : P.underlying t = some (.slice e)) (hinfo : (P.info? e).map (fun i => (i.zero, i.size, i.bytes)) = some (some z, size, bytes))
    (hzs : z.cells.size = size) (hsz : 0 < size) (v : Value) (n : Nat) (xs : List Value) (hs : a.eval s = v) (hown : w.ownsRow base e size v n xs)
    (B : Nat) (A : Option Addr) (m c : Nat) (news : List Value) (hx : a.eval x = .slice A m c) (hr : Rd w B size A m news) (h1 : ∀ u ∈ news, u.oneCell' = true)
    (h63 : n + m ≤ maxLen) (hbytes : (n + m) * bytes ≤ 140737488355328) (hbase : base ≤ w.heap.size)
    (h : ∀ v' w', w'.ownsRow base e size v' (n + m) (xs ++ news) → w.grownBy w' v.ownBlock → (v'.ownBlock = v.ownBlock ∨ v'.ownBlock = some w.heap.size) → K (a.put o.dst v') w') :
    if Region.wanted o (yielded ops a.tmps) = true then Oper.wp P o a w K Q else E := by
  have hw : Region.wanted o (yielded ops a.tmps) = true := by simp [Region.wanted, hgd]
  rw [if_pos hw]
  exact wp_app w s x t ho base e z size bytes ht hinfo hzs hsz v n xs hs hown B A m c news hx hr h1 h63 hbytes hbase h
set_option maxHeartbeats 4000000 in
set_option maxRecDepth 10000 in
theorem kitCut_any (s : ByteArray) (A : Option Addr) (l : List Int) (c : Nat) (w : World) (hr : Rd w w.heap.size 1 A l.length (iv l)) (hl : l.length ≤ 1000000) (hs : s.size ≤ 1000000000000) :
    Calls Tryz.prog 44 #[.string s, .slice A l.length c] w fun e w' => ∃ v, e = .returned v ∧ w'.ownsRow w.heap.size 9 1 v (l.length + 1) (sxv (cutL s l)) ∧ Below w.heap.size w w' := by
  have HR := Lib.hid hr; have HS := Lib.hid hs; have HL := Lib.hid hl
  clear hr hs hl
  go_enter Tryz.func44, Tryz.ntmps44
  go_wp2
  go_loopw [0, 5, 6] (fun sv o i wr => ∃ k : Nat, k ≤ l.length ∧ i = .int .i64 k ∧ sv = .string (cutT s (l.take k)).2 ∧ wr.ownsRow w.heap.size 9 1 o k (sxv (cutT s (l.take k)).1) ∧ Below w.heap.size w wr) (fun _ _ i _ => l.length - (intOf i).toNat)
  case atStart => exact ⟨0, by omega, rfl, rfl, World.ownsRow_nil _ _ _ _, Below.refl _ _⟩
  case round =>
    obtain ⟨k, hk, rfl, rfl, hown, hbel⟩ := hrel
    have HO := Lib.hid hown; have HB := Lib.hid hbel
    have HT : Hid ((cutT s (l.take k)).2.size ≤ 1000000000000) := Lib.hid (Nat.le_trans (cutT_short (l.take k) ([], s)) HS.out)
    clear hown
    by_cases hlt : k < l.length
    · obtain ⟨bA, oA, z, rfl, hb, hz, hc⟩ := (HR.out.below hbel).atI hlt
      have hzL : l[k] = z := by rw [List.getElem?_eq_getElem hlt] at hz; exact Option.some.inj hz
      have HST : Hid (cutT s (l.take (k + 1)) = cutF (cutT s (l.take k)) z) := Lib.hid (by rw [cutT_step s hlt, hzL])
      obtain ⟨⟨L, t⟩, hT⟩ : ∃ r, cutT s (l.take k) = r := ⟨_, rfl⟩
      rw [hT] at HO HT HST ⊢
      obtain ⟨p1, p2⟩ := cutK_of t z
      have HCF : Hid (cutF (L, t) z = (L ++ [t.extract 0 (cutK t z)], t.extract (cutK t z) t.size)) := Lib.hid rfl
      have HPK := Lib.hid (fun W => pick_any z ((t.size : Int) + 1) W (by have := HT.out; dsimp only at this; omega))
      rw [show pickN z ((t.size : Int) + 1) = (cutK t z : Int) from p1] at HPK
      dsimp only at HO HT ⊢
      obtain ⟨q, hq⟩ : ∃ q, cutK t z = q := ⟨_, rfl⟩
      rw [hq] at p2 HPK HCF
      have b1 : (0 : Int) ≤ (k : Int) := by omega
      have b2 : (k : Int) < (l.length : Int) := by omega
      have hk1 : wrap64 ((k : Int) + 1) = ((k + 1 : Nat) : Int) := by have := HL.out; unfold wrap64; omega
      have c1 : (0 : Int) ≤ (q : Int) := by omega
      have c2 : (q : Int) ≤ (t.size : Int) := by omega
      have c3 : (t.size : Int) + 1 ≤ 9223372036854775807 := by have := HT.out; omega
      have HX : Hid (sxv (L ++ [t.extract 0 q]) = sxv L ++ [.string (t.extract 0 q)]) := Lib.hid (sxv_snoc _ _)
      clear hz hzL hq p1 p2 hT
      go_wp2_with fail
      refine (HPK.out _).mono ?_
      rintro e w2 ⟨rfl, rfl⟩
      clear HPK hc hb
      go_wp2_with fail
      go_region_law (refine cut_step_app (by rfl) _ _ 65 (by rfl) w.heap.size 9 (.string ⟨#[]⟩) 1 16 Tryz.underlying65 cut_info rfl (by decide) _ k _ (by rfl) (by first | exact HO.out.alloc _ | exact own_drewN (HO.out.alloc _) 1) _ _ 1 1 [.string (t.extract 0 q)] (by rfl) (by first | exact Rd.lit _ _ _ rfl (Nat.lt_succ_self _) rfl) (sxv_one [t.extract 0 q]) (by have := HL.out; unfold maxLen; omega) (by have := HL.out; omega) (by have := HB.out.size; simp; omega) ?_; intro v3 w3 hown3 hg3 hat3)
      all_goals
        have R : w3.ownsRow w.heap.size 9 1 v3 (k + 1) (sxv (L ++ [t.extract 0 q])) ∧ Below w.heap.size w w3 := ⟨by rw [HX.out]; exact hown3, below_app (by first | exact HB.out.alloc HB.out.size _ | exact below_drawn (HB.out.alloc HB.out.size _) 1) hg3 (by have := HB.out.size; simp; omega) (fun g hg => (own_block HO.out g hg).1)⟩
        clear hown3 hg3 hat3
        go_wp2
        go_roundw
        case rel => exact ⟨k + 1, by omega, by rw [hk1], by rw [HST.out, HCF.out], by rw [HST.out, HCF.out]; exact R.1, R.2⟩
        case measure => rw [hk1]; simp only [intOf, Int.toNat_natCast]; omega
    · obtain rfl : k = l.length := by omega
      rw [List.take_length] at HO HT ⊢
      have HCL : Hid (cutL s l = (cutT s l).1 ++ [(cutT s l).2]) := Lib.hid rfl
      obtain ⟨⟨L, t⟩, hT⟩ : ∃ r, cutT s l = r := ⟨_, rfl⟩
      rw [hT] at HO HT HCL ⊢
      dsimp only at HO HT HCL ⊢
      have HX : Hid (sxv (cutL s l) = sxv L ++ [.string t]) := Lib.hid (by rw [HCL.out]; exact sxv_snoc _ _)
      have b2 : (l.length : Int) ≤ (l.length : Int) := Int.le_refl _
      clear hT hlt hk
      go_wp2_with (at_builtin; refine wpList_app _ rfl (.tmp 31) (.tmp 33) 65 rfl w.heap.size 9 (.string ⟨#[]⟩) 1 16 Tryz.underlying65 cut_info rfl (by decide) _ l.length _ rfl (HO.out.alloc _) _ _ 1 1 [.string t] rfl (Rd.lit _ _ _ rfl (Nat.lt_succ_self _) rfl) (sxv_one [t]) (by have := HL.out; unfold maxLen; omega) (by have := HL.out; omega) (by have := HB.out.size; simp; omega) ?_; intro v3 w3 hown3 hg3 hat3)
      have R : w3.ownsRow w.heap.size 9 1 v3 (l.length + 1) (sxv (cutL s l)) ∧ Below w.heap.size w w3 := ⟨by rw [HX.out]; exact hown3, below_app (HB.out.alloc HB.out.size _) hg3 (by have := HB.out.size; simp; omega) (fun g hg => (own_block HO.out g hg).1)⟩
      clear hown3 hg3 hat3
      go_wp2
      go_ret
      exact ⟨v3, rfl, R.1, R.2⟩
end Go.Proofs.YtpcleamaieaefaaGreatDoor

