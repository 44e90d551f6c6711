/- A part of what the laws stand on: MsK, LimP, OpenI, OpenL. -/
import Derived.Test.YtpcleamaieaefaaGreatDoorMzG0MsG
namespace Go.Proofs.YtpcleamaieaefaaGreatDoor
open Go.RowKit
attribute [local go_sem ↓] to_ldPk to_bxPk to_bdPk to_alPk to_stPk
attribute [local go_sem] run_bxPk run_bxPk_agg ld_fresh run_alPk run_bd0 run_bdK run_bdKI run_bdKIC run_bdKC run_bdKICP run_stPk_fresh pkC_0 pkC_1 pkC_2 pkC_3 pkC_4 pkC_5 pkC_6 pkC_7 pkC_8 pkC_9 pkC_10 pkC_11 pkC_12 pkC_13 pkC_14 pkC_15 pkC_16 pkC_17 pkC_18 pkC_19 pkC_20 pkC_21 pkC_22 pkC_23 pkC_24
theorem smG_okP {v most : Int} : ∀ (N : Nat) (t : ByteArray) (a k : Nat) (l : List Pk), t.size ≤ N → N ≤ 1000000000000 → (∀ p ∈ l, PkOk p) → ∀ p ∈ (smG v most t a k l).1, PkOk p
  | N, t, a, k, l, hN, hb, hl => by
    rw [smG_step]
    split
    · rename_i h0
      have h1 := smN_step h0
      have hx : (t.extract (smN v most t).2.1 t.size).size = t.size - (smN v most t).2.1 := by rw [ByteArray.size_extract]; omega
      match N, hN, hb with
      | 0, hN, _ => omega
      | N + 1, hN, hb =>
        refine smG_okP N _ _ _ _ (by omega) (by omega) ?_
        intro p hp
        rcases List.mem_append.1 hp with hp | hp
        · exact hl p hp
        · rw [List.mem_singleton.1 hp]
          exact smN_ok (by omega)
    · split
      · exact hl
      · exact hl
theorem run_appK0 (A : Option Addr) (n c : Nat) (hn : n ≤ c) (X : Option Addr) (cx : Nat) (ty : TypeId) (w : World) :
    (Builtin.append_ #[48, 48] ty #[.slice A n c, .slice X 0 cx]).run Tryz.prog w = .ok (.slice A n c) w := by
  obtain ⟨i, hi, hz, hsize, hby⟩ := info_parts info_row
  have ht := Tryz.underlying48
  cases X <;> cases A <;> simp [Builtin.append_, run_underlying ht, sizeOf, typeInfo, hi, Builtin.lenOf, Builtin.firstCells, hn, loadCells, loadCellsFrom, storeCells]
theorem wpList_appR {w : World} {ops : Array Oper} {rest : List Oper} {o : Oper} {a : Act} {Q : Exit → Act → World → Prop} (hgd : o.guard = none) (s x : Operand)
    (ho : o.op = .call { callee := .builtin .append, args := #[s, x], argTypes := #[48, 48] })
    {w0 : World} {A : Option Addr} {n c : Nat} {L : List (Pk × Hs)} (hs : a.eval s = .slice A n c) (hr : RowI w0 w A n c L) (h0 : w0.heap.size ≤ w.heap.size) (X : Option Addr) (N : List (Pk × Hs)) (m cx : Nat) (hx : a.eval x = .slice X m cx) (hsr : RdK w X m N) (hap : ∀ y ∈ N, ∀ g o, A = some ⟨g, o, none⟩ → Apart g y) (hb : n + m ≤ 100000000000)
    (h : ∀ A' c' w', RowI w0 w' A' (n + m) c' (L ++ N) → w.grownBy w' (Value.slice A n c).ownBlock → wpList Tryz.prog ops Q rest (a.put o.dst (.slice A' (n + m) c')) w') : wpList Tryz.prog ops Q (o :: rest) a w := by
  rcases Nat.eq_zero_or_pos m with rfl | hm
  · obtain rfl : N = [] := List.eq_nil_of_length_eq_zero hsr.len
    refine wpList_plain hgd fun _ hK => ?_
    unfold Oper.wp execOp
    simp only [ho, resolve, invoke, builtin, Sem.run_bind, Sem.run_pure, Result.andThen_ok, List.map_toArray, List.map_cons, List.map_nil, hs, hx, run_appK0 A n c hr.row.cap X cx]
    exact hK _ _ (h A c w (by rw [List.append_nil]; exact hr) (World.grownBy.refl w _))
  · obtain ⟨X', rfl, -⟩ := hsr.rd.addr (by
      intro e
      have h1 := pks_len N
      have h2 := hsr.len
      rw [e] at h1
      simp at h1
      omega)
    exact wpList_appK hgd s x ho hs hr.row h0 X' N m cx _ hx hsr.len hm hsr.rd hb fun g c' w' h1 h2 h3 _ => h _ _ _ (hr.more h1 h2 h3 hsr.ins hap) h2
/-- What stands while a text's parts are fed to a stream, another one having been fed the whole: all but the row of all packets. -/
structure SCut (w wb : World) (v most md : Int) (ga gb gl : Nat) (R : List Pk × ByteArray × Nat × Nat × Int) (A1 : Option Addr) (m1 cm1 : Nat) (L1 : List (Pk × Hs)) (cv : Value) (C : List ByteArray) (t : ByteArray) (a k : Nat) (e : Int) (x : World) : Prop where
  sa : ∃ K n c, Bk x ga SmT (smC v most K n c R.2.2.1 R.2.2.2.1 R.2.2.2.2) ∧ Kp w x K n c (ls R.2.1) ∧ (∀ i, (Value.slice K n c).ownBlock = some i → i < wb.heap.size)
  one : RowI w x A1 m1 cm1 L1
  onelt : ∀ g o, A1 = some ⟨g, o, none⟩ → g < wb.heap.size
  ap0 : ∀ y ∈ L1, ∀ g, wb.heap.size ≤ g → Apart g y
  ap1 : ∀ y ∈ L1, Apart gb y
  sb : ∃ K n c, Bk x gb SmT (smC v most K n c a k e) ∧ Kp wb x K n c (ls t)
  lim : Bk x gl 57 #[.int .i64 most, .int .i64 md]
  chunks : x.ownsRow w.heap.size 9 1 cv C.length (sxv C)
  low : Below w.heap.size w x
  base : w.heap.size ≤ wb.heap.size ∧ wb.heap.size ≤ x.heap.size ∧ w.heap.size ≤ gb ∧ ga < wb.heap.size ∧ ga ≠ gb
section
variable {w wb : World} {v most md : Int} {ga gb gl : Nat} {R : List Pk × ByteArray × Nat × Nat × Int} {A1 : Option Addr} {m1 cm1 : Nat} {L1 : List (Pk × Hs)} {cv : Value} {C : List ByteArray} {t : ByteArray} {a k : Nat} {e : Int} {x y : World}
theorem SCut.below (s : SCut w wb v most md ga gb gl R A1 m1 cm1 L1 cv C t a k e x) (hb : Below x.heap.size x y) : SCut w wb v most md ga gb gl R A1 m1 cm1 L1 cv C t a k e y := by
  obtain ⟨K, n, c, h1, h2, h3⟩ := s.sa
  obtain ⟨K', n', c', h4, h5⟩ := s.sb
  obtain ⟨b1, b2, b3⟩ := s.base
  exact ⟨⟨K, n, c, h1.below hb h1.lt, h2.below hb, h3⟩, s.one.below hb, s.onelt, s.ap0, s.ap1, ⟨K', n', c', h4.below hb h4.lt, h5.below hb⟩, s.lim.below hb s.lim.lt, own_below s.chunks hb, s.low.trans (hb.mono s.low.size), b1, Nat.le_trans b2 hb.size, b3⟩
theorem own_fed (h : x.ownsRow w.heap.size 9 1 cv C.length (sxv C)) {K : Option Addr} {n c : Nat} {u : List UInt8} {cs : Array Value} (h4 : Bk x gb SmT cs) (h5 : Kp wb x K n c u) (hm : Mods (FS gb (Value.slice K n c).ownBlock) x y) : y.ownsRow w.heap.size 9 1 cv C.length (sxv C) := by
  refine own_mods h hm fun g hg hf => hf.elim (fun e => own_ne h h4 (by decide) (by rw [hg, e])) (fun e => ?_)
  rcases h5.lies with ⟨rfl, -⟩ | ⟨q, o, M, rfl, -, h6, -⟩
  · cases e
  · simp only [Value.ownBlock, Option.some.injEq] at e
    subst e
    exact own_ne h h6 (by decide) hg
/-- A chunk is fed. -/
theorem SCut.fed (s : SCut w wb v most md ga gb gl R A1 m1 cm1 L1 cv C t a k e x) {K' : Option Addr} {n' c' : Nat} (h4 : Bk x gb SmT (smC v most K' n' c' a k e)) (h5 : Kp wb x K' n' c' (ls t)) {r : List Pk × ByteArray × Nat × Nat × Int} {A2 : Option Addr} {m2 cm2 : Nat} {L2 : List (Pk × Hs)} {K2 : Option Addr} {n2 c2 : Nat}
    (F : FO wb x gb (Value.slice K' n' c').ownBlock v most r y A2 m2 cm2 L2 K2 n2 c2) : SCut w wb v most md ga gb gl R A1 m1 cm1 L1 cv C r.2.1 r.2.2.1 r.2.2.2.1 r.2.2.2.2 y := by
  obtain ⟨K, n, c, h1, h2, h3⟩ := s.sa
  obtain ⟨b1, b2, b3, b4, b5⟩ := s.base
  refine ⟨⟨K, n, c, h1.fed (by decide) b5 h5 F.mods, h2.fed h4 (fun i hi e => ?_) F.mods h5, h3⟩, s.one.fed h4 h5 F.mods s.ap1, s.onelt, s.ap0, s.ap1, ⟨K2, n2, c2, F.bk, F.kp⟩, s.lim.fed (by decide) (s.lim.ne h4 (by decide)) h5 F.mods, own_fed s.chunks h4 h5 F.mods, fed_below s.low b3 s.low.size h5 b1 F.mods, b1, Nat.le_trans b2 F.mods.size, b3, b4, b5⟩
  have := (h5.own e).1
  have := h3 i hi
  omega
/-- The row of all packets grows. -/
theorem SCut.app (s : SCut w wb v most md ga gb gl R A1 m1 cm1 L1 cv C t a k e x) {A : Option Addr} {m cm : Nat} {L : List (Pk × Hs)} (hr : RowI wb x A m cm L) (hm : x.grownBy y (Value.slice A m cm).ownBlock) : SCut w wb v most md ga gb gl R A1 m1 cm1 L1 cv C t a k e y := by
  obtain ⟨K, n, c, h1, h2, h3⟩ := s.sa
  obtain ⟨K', n', c', h4, h5⟩ := s.sb
  obtain ⟨b1, b2, b3⟩ := s.base
  have hM : Mods (fun i => (Value.slice A m cm).ownBlock = some i) x y := (Mods.refl x).app hm (fun i e => .inl e)
  refine ⟨⟨K, n, c, hr.row.bk hm h1 (by decide), h2.row hr.row hm, h3⟩, ⟨s.one.row.other hm fun g hg e => ?_, fun z hz => hr.row.keep hm (s.one.ins z hz) fun g o e => s.ap0 z hz g (hr.row.block e).1, s.one.apart⟩, s.onelt, s.ap0, s.ap1, ⟨K', n', c', hr.row.bk hm h4 (by decide), h5.row hr.row hm⟩, hr.row.bk hm s.lim (by decide), own_mods s.chunks hM fun g hg e => ?_, below_app s.low hm s.low.size (fun q hq => Nat.le_trans b1 (hr.row.own hq).1), b1, Nat.le_trans b2 hm.size, b3⟩
  · have := s.onelt g 0 hg
    have := (hr.row.own e).1
    omega
  · rcases hr.row.lies with ⟨rfl, -⟩ | ⟨q, M, rfl, -, h6, -⟩
    · cases e
    · simp only [Value.ownBlock, Option.some.injEq] at e
      subst e
      exact own_ne s.chunks h6 (by decide) hg
end
theorem RowI.wider {w0 w' x : World} {A : Option Addr} {n c : Nat} {L : List (Pk × Hs)} (h : RowI w0 x A n c L) (hb : w'.heap.size ≤ w0.heap.size) : RowI w' x A n c L := by
  refine ⟨⟨h.row.len, ?_⟩, h.ins, h.apart⟩
  rcases h.row.lies with h1 | ⟨g, M, h1, h2, h3⟩
  · exact .inl h1
  · exact .inr ⟨g, M, h1, Nat.le_trans hb h2, h3⟩
theorem RdK.none (x : World) : RdK x none 0 [] := ⟨Rd.nil _ _ _ _, by simp⟩
theorem strs_rd {w : World} {base : Nat} {c : Nat} {A : Option Addr} {n : Nat} {xs : List Value} (h : w.ownsRow base 9 1 (.slice A n c) n xs) : Rd w w.heap.size 1 A n xs := by
  obtain ⟨A', c', he, hc, hr⟩ := own_rd h
  cases he
  exact hr
theorem kept_short {v most : Int} (hm : 16 ≤ most) {T t : ByteArray} {a k : Nat} {l : List Pk} {e : Int} (h : smG v most T 0 0 [] = (l, t, a, k, e)) : (t.size : Int) ≤ most - 1 ∧ k = l.length ∧ t.size ≤ T.size ∧ a ≤ T.size ∧ k ≤ T.size := by
  obtain ⟨e1, e2, e3, e4, e5, e6⟩ := smG_end v most _ T 0 0 [] (Nat.le_refl _)
  rw [h] at e1 e2 e3 e4 e5
  dsimp only [List.length_nil] at e1 e2 e3 e4 e5
  refine ⟨?_, by omega, by omega, by omega, by omega⟩
  by_cases he : e = 0
  · exact (smNeed_range (e1 he) hm).2.2
  · rw [e2 he]
    show ((0 : Nat) : Int) ≤ most - 1
    omega
theorem joinT_mem {l : List ByteArray} {x : ByteArray} (h : x ∈ l) : x.size ≤ (joinT l).size := by
  obtain ⟨a, b, rfl⟩ := List.append_of_mem h
  rw [← ls_len, ← ls_len, joinT_ls, List.flatMap_append, List.flatMap_cons]
  simp only [List.length_append]
  omega
theorem joinT_step {l : List ByteArray} {i : Nat} {x : ByteArray} (h : l[i]? = some x) : joinT (l.take (i + 1)) = joinT (l.take i) ++ x := by
  obtain ⟨hi, rfl⟩ := List.getElem?_eq_some_iff.1 h
  rw [List.take_succ_eq_append_getElem hi, joinT_snoc]
theorem smOk_most {v mp md : Int} (h : smOk v mp md = true) : 16 ≤ mp ∧ mp ≤ 1048576 := by
  unfold smOk at h
  simp only [Bool.and_eq_true, decide_eq_true_eq] at h
  omega
/-- A chunk is fed to the stream, whether it is well or not. -/
theorem step_feed {w wb x : World} {v mp md : Int} {ga gb gl : Nat} {R : List Pk × ByteArray × Nat × Nat × Int} {A1 : Option Addr} {m1 cm1 : Nat} {L1 : List (Pk × Hs)} {cv : Value} {C : List ByteArray} {t u T : ByteArray} {a k : Nat} {e : Int} {A : Option Addr} {m cm : Nat} {L : List (Pk × Hs)}
    (s : SCut w wb v mp md ga gb gl R A1 m1 cm1 L1 cv C t a k e x) (hr : RowI wb x A m cm L) (hap : ∀ y ∈ L, Apart gb y) (hres : smG v mp T 0 0 [] = (L.map Prod.fst, t, a, k, e)) (hm : 16 ≤ mp) (hT : T.size ≤ 1000000) (hu : u.size ≤ 1000000) :
    Calls Tryz.prog 34 #[.pointer (some ⟨gb, 0, none⟩), .string u] x fun e' y => ∃ A2 m2 cm2 L2 t2 a2 k2 e2, e' = .returned (.tuple #[.slice A2 m2 cm2, .int .i64 e2]) ∧ SCut w wb v mp md ga gb gl R A1 m1 cm1 L1 cv C t2 a2 k2 e2 y ∧ RowI wb y A m cm L ∧ RdK y A2 m2 L2 ∧ (∀ z ∈ L2, Apart gb z) ∧ (∀ z ∈ L2, ∀ g o, A = some ⟨g, o, none⟩ → Apart g z) ∧
      smG v mp (T ++ u) 0 0 [] = ((L ++ L2).map Prod.fst, t2, a2, k2, e2) := by
  obtain ⟨k1, k2, k3, k4, k5⟩ := kept_short hm hres
  obtain ⟨K, n, c, h4, h5⟩ := s.sb
  have hn : n = t.size := by rw [← ls_len]; exact h5.len.symm
  by_cases he : e = 0
  · subst he
    refine (smFeed_any v mp gb K n c a k t u wb x h4 h5 s.base.2.1 (by omega) (by omega)).mono ?_
    rintro e' y ⟨A2, m2, cm2, L2, K2, n2, c2, rfl, F⟩
    refine ⟨A2, m2, cm2, L2, _, _, _, _, rfl, s.fed h4 h5 F, hr.fed h4 h5 F.mods hap, F.row.read, fun z hz => F.fresh z hz gb h4.lt, fun z hz g o e => F.fresh z hz g (hr.row.block e).2, ?_⟩
    rw [fed_well hres, List.map_append, F.map]
  · refine (smFeed_err v mp gb K n c a k e he u x h4).mono ?_
    rintro e' y ⟨rfl, hb⟩
    refine ⟨none, 0, 0, [], t, a, k, e, rfl, s.below hb, hr.below hb, RdK.none _, by simp, by simp, ?_⟩
    rw [fed_ill hres he, List.append_nil]
set_option maxHeartbeats 16000000 in
set_option maxRecDepth 10000 in
theorem mstreamCuts_any (v mp md : Int) (s : ByteArray) (Ai : Option Addr) (l : List Int) (ci : Nat) (w : World) (hr : Rd w w.heap.size 1 Ai l.length (iv l)) :
    Calls Tryz.prog 9 #[.int .i64 v, limV mp md, .string s, .slice Ai l.length ci] w fun e w' => e = .returned (.bool true) ∧ Below w.heap.size w w' := by
  have HR := Lib.hid hr
  have HB0 := Lib.hid ((Below.refl w.heap.size w).alloc (Nat.le_refl _) (.cells #[.int .i64 mp, .int .i64 md] 57))
  have HK0 := Lib.hid (Bk.fresh w 57 #[.int .i64 mp, .int .i64 md])
  clear hr
  unfold limV
  go_enter Tryz.func9, Tryz.ntmps9
  go_wp2_with fail
  refine (lives14_any _).mono ?_
  rintro e w1 ⟨rfl, hb⟩
  have HB1 := Lib.hid (HB0.out.trans (hb.mono HB0.out.size)); have HK1 := Lib.hid (HK0.out.below hb HK0.out.lt)
  clear hb HB0 HK0
  by_cases h1 : 3000 < s.size
  · have d1 : (3000 : Int) < (s.size : Int) := by omega
    clear h1
    go_wp2
    go_ret
    exact ⟨rfl, HB1.out⟩
  have d1 : (s.size : Int) ≤ 3000 := by omega
  have HS : Hid (s.size ≤ 3000) := Lib.hid (by omega)
  have HS0 : Hid (s.size ≤ 1000000000000) := Lib.hid (by omega)
  clear h1
  by_cases h1 : 60 < l.length
  · have d2 : (60 : Int) < (l.length : Int) := by omega
    clear h1
    go_wp2
    go_ret
    exact ⟨rfl, HB1.out⟩
  have d2 : (l.length : Int) ≤ 60 := by omega
  have HL : Hid (l.length ≤ 60) := Lib.hid (by omega)
  clear h1
  have c0 : w1.cell? ⟨w.heap.size, 0, none⟩ = some (.int .i64 mp) := HK1.out.cell 0
  have c1 : w1.cell? ⟨w.heap.size, 1, none⟩ = some (.int .i64 md) := HK1.out.cell 1
  go_wp2_with fail
  refine (smNew_any v mp md _).mono ?_
  rintro e w2 ⟨hb, h⟩
  have HB2 := Lib.hid (HB1.out.trans (hb.mono HB1.out.size)); have HK2 := Lib.hid (HK1.out.below hb HK1.out.lt)
  clear c0 c1
  have c0 : w2.cell? ⟨w.heap.size, 0, none⟩ = some (.int .i64 mp) := HK2.out.cell 0
  have c1 : w2.cell? ⟨w.heap.size, 1, none⟩ = some (.int .i64 md) := HK2.out.cell 1
  by_cases hok : smOk v mp md = true
  rotate_left
  · rw [if_neg hok] at h
    subst h
    have HOK := Lib.hid hok
    clear hok hb HB1
    go_wp2_with fail
    refine (smNew_any v mp md _).mono ?_
    rintro e w3 ⟨hb, h⟩
    rw [if_neg HOK.out] at h
    subst h
    have HB3 := Lib.hid (HB2.out.trans (hb.mono HB2.out.size))
    clear hb c0 c1
    go_wp2
    go_ret
    exact ⟨rfl, HB3.out⟩
  rw [if_pos hok] at h
  obtain ⟨ga, rfl, hga, bka⟩ := h
  have HV := Lib.hid (smOk_ver hok); have HM := Lib.hid (smOk_most hok)
  have HGA := Lib.hid (Nat.le_trans HB1.out.size hga); have BA2 := Lib.hid bka
  have HOK := Lib.hid hok
  clear hb hga bka hok HB1 HK1
  go_wp2_with fail
  refine (smNew_any v mp md _).mono ?_
  rintro e w3 ⟨hb, h⟩
  rw [if_pos HOK.out] at h
  obtain ⟨gb, rfl, hgb, bkb⟩ := h
  have HB3 := Lib.hid (HB2.out.trans (hb.mono HB2.out.size)); have HK3 := Lib.hid (HK2.out.below hb HK2.out.lt)
  have HGB := Lib.hid (Nat.le_trans HB2.out.size hgb); have BB3 := Lib.hid bkb
  have BA3 := Lib.hid (BA2.out.below hb BA2.out.lt)
  have HNE : Hid (ga ≠ gb) := Lib.hid (by have := BA2.out.lt; omega)
  clear hb hgb bkb c0 c1 HB2 HK2 BA2
  go_wp2_with fail
  refine (smFeed_any v mp ga none 0 0 0 0 ⟨#[]⟩ s w _ BA3.out (Kp.none _ _) HB3.out.size (by have := HS.out; omega) (by decide)).mono ?_
  rintro e w4 ⟨A1, m1, cm1, L1, K1, n1, k1, rfl, F⟩
  have HB4 := Lib.hid (fed_below HB3.out HGA.out HB3.out.size (Kp.none w w3) (Nat.le_refl _) F.mods)
  have HEM : Hid ((⟨#[]⟩ ++ s : ByteArray) = s) := Lib.hid (ls_ext (by rw [ls_app]; rfl))
  rw [HEM.out] at F
  have F1 := Lib.hid F
  have HM1 := Lib.hid F.len
  have HR4 := Lib.hid ((HR.out.below HB4.out).wider HB4.out.size)
  rw [HEM.out]
  obtain ⟨R, hR⟩ : ∃ r, smG v mp s 0 0 [] = r := ⟨_, rfl⟩
  have HRR := Lib.hid hR
  have HOKR := Lib.hid (smG_okP (v := v) (most := mp) s.size s 0 0 [] (Nat.le_refl _) HS0.out (by simp))
  rw [hR] at F1 HM1 HOKR ⊢
  clear F hR
  go_wp2_with fail
  refine (kitCut_any s Ai l ci _ HR4.out (by have := HL.out; omega) HS0.out).mono ?_
  rintro e w5 ⟨cv, rfl, hown, hb⟩
  obtain ⟨C, hC⟩ : ∃ C, cutL s l = C := ⟨_, rfl⟩
  have HJ : Hid (joinT C = s) := Lib.hid (by rw [← hC]; exact joinT_cut s l)
  have HCL : Hid (C.length = l.length + 1) := Lib.hid (by rw [← hC]; exact cutL_len s l)
  rw [hC, ← HCL.out] at hown
  obtain ⟨Ac, cc, rfl, -, -⟩ := own_rd hown
  have HO5 := Lib.hid (own_wider hown HB4.out.size)
  have HZ5 := Lib.hid hb.size
  have SCut4 : SCut w w4 v mp md ga gb w.heap.size R A1 m1 cm1 L1 (.slice none 0 0) [] ⟨#[]⟩ 0 0 0 w4 := ⟨⟨K1, n1, k1, F1.out.bk, F1.out.kp, fun i hi => (F1.out.kp.own hi).2⟩, F1.out.row.wider HB3.out.size, fun g o e => (F1.out.row.row.block e).2, fun y hy g hg => (F1.out.row.ins y hy).apart hg, fun y hy => F1.out.fresh y hy gb BB3.out.lt, ⟨none, 0, 0, BB3.out.fed (by decide) HNE.out.symm (Kp.none w w3) F1.out.mods, Kp.none _ _⟩, HK3.out.fed (by decide) (HK3.out.ne BA3.out (by decide)) (Kp.none w w3) F1.out.mods, World.ownsRow_nil _ _ _ _, HB4.out, HB4.out.size, Nat.le_refl _, HGB.out, Nat.lt_of_lt_of_le BA3.out.lt F1.out.mods.size, HNE.out⟩
  have SB5 : Hid (SCut w w4 v mp md ga gb w.heap.size R A1 m1 cm1 L1 (.slice Ac C.length cc) C ⟨#[]⟩ 0 0 0 w5) := Lib.hid { SCut4.below hb with chunks := HO5.out }
  have HF1 := Lib.hid F1.out.map
  have HCN : Hid (C.length ≤ 61) := Lib.hid (by have := HCL.out; have := HL.out; omega)
  clear hown hb hC SCut4 F1 HO5 HZ5 HR4 HR HK3 BA3 BB3 HB3 HB4
  go_wp2
  go_loopw [15, 16, 18] (fun mv hv zv wr => ∃ (i : Nat) (t : ByteArray) (a k : Nat) (e : Int) (A : Option Addr) (m cm : Nat) (L : List (Pk × Hs)), i ≤ C.length ∧ zv = .int .i64 i ∧ mv = .slice A m cm ∧ hv = .int .i64 e ∧ SCut w w4 v mp md ga gb w.heap.size R A1 m1 cm1 L1 (.slice Ac C.length cc) C t a k e wr ∧ RowI w4 wr A m cm L ∧ (∀ y ∈ L, Apart gb y) ∧ smG v mp (joinT (C.take i)) 0 0 [] = (L.map Prod.fst, t, a, k, e)) (fun _ _ zv _ => C.length - (intOf zv).toNat)
  case atStart => exact ⟨0, ⟨#[]⟩, 0, 0, 0, none, 0, 0, [], Nat.zero_le _, rfl, rfl, rfl, SB5.out, RowI.start _ _, by simp, smG_none HV.out 0 0 []⟩
  case round =>
    obtain ⟨i, t, a, k, e, A, m, cm, L, hi, rfl, rfl, rfl, hS, hrow, hap, hres⟩ := hrel
    have S0 := Lib.hid hS; have ROW := Lib.hid hrow; have AP := Lib.hid hap; have RES := Lib.hid hres; have HI := Lib.hid hi
    have HTT : Hid ((joinT (C.take i)).size ≤ 3000) := Lib.hid (Nat.le_trans (joinT_take_le C i) (by rw [HJ.out]; exact HS.out))
    have KS := Lib.hid (kept_short HM.out.1 hres)
    clear hS hrow hap hres
    by_cases hlt : i < C.length
    · obtain ⟨b, o, u, rfl, hb1, hu, hcu⟩ := (strs_rd S0.out.chunks).atS hlt
      have HU : Hid (u.size ≤ 3000) := Lib.hid (Nat.le_trans (joinT_mem (List.mem_of_getElem? hu)) (by rw [HJ.out]; exact HS.out))
      have HST := Lib.hid (joinT_step hu)
      have b1 : (0 : Int) ≤ (i : Int) := by omega
      have b2 : (i : Int) < (C.length : Int) := by omega
      have hi1 : wrap64 ((i : Int) + 1) = ((i + 1 : Nat) : Int) := by have := HCN.out; unfold wrap64; omega
      have HILT := Lib.hid hlt
      have CF := Lib.hid (step_feed (T := joinT (C.take i)) (u := u) S0.out ROW.out AP.out RES.out HM.out.1 (by have := HTT.out; omega) (by have := HU.out; omega))
      rw [← HST.out] at CF
      clear hlt hu hb1
      go_wp2_with fail
      refine CF.out.mono ?_
      rintro e' x2 ⟨A2, m2, cm2, L2, t2, a2, k2, e2, rfl, hS1, hrow1, hrd2, ap2, apr, hres1⟩
      have S1 := Lib.hid hS1; have ROW1 := Lib.hid hrow1; have RD2 := Lib.hid hrd2; have AP2 := Lib.hid ap2; have APR := Lib.hid apr; have RES1 := Lib.hid hres1
      have HMM : Hid (m = L.length ∧ m2 = L2.length) := Lib.hid ⟨ROW.out.row.len.symm, hrd2.len.symm⟩
      have KS1 := Lib.hid (kept_short HM.out.1 hres1)
      have HNB : Hid (m + m2 ≤ 100000000000) := Lib.hid (by
        obtain ⟨q1, q2, q3, q4, q5⟩ := kept_short HM.out.1 hres1
        have := HMM.out
        have h9 : (joinT (C.take (i + 1))).size ≤ 3000 := Nat.le_trans (joinT_take_le C (i + 1)) (by rw [HJ.out]; exact HS.out)
        rw [List.length_map, List.length_append] at q2
        omega)
      clear hS1 hrow1 hrd2 ap2 apr hres1 CF hcu
      go_upto_region 21 with (at_builtin; refine wpList_appR rfl (.tmp 77) (.tmp 78) rfl (w0 := w4) (A := A) (n := m) (c := cm) (L := L) rfl ROW1.out S1.out.base.2.1 A2 L2 m2 cm2 rfl RD2.out APR.out HNB.out ?_; intro A' c' x3 hrow hgr)
      have S2 := Lib.hid (S1.out.app ROW1.out hgr)
      have ROW2 := Lib.hid hrow
      clear hrow hgr S1 ROW1 RD2 S0 ROW
      obtain ⟨K', n', c'', h6, h7⟩ := S2.out.sb
      have HN7 : Hid (n' = t2.size) := Lib.hid (by rw [← ls_len]; exact h7.len.symm)
      have H6 := Lib.hid h6
      clear h6 h7
      have q0 := regrown (W := x3) (fun x hx => (smKept_any v mp gb K' n' c'' a2 k2 e2 x (H6.out.below hx H6.out.lt)).mono fun _ _ h => ⟨h.1, by rw [← h.2]; exact Below.refl _ _⟩)
      have q1 := regrown (W := x3) (fun x hx => (smTold_any v mp gb K' n' c'' a2 k2 e2 x (H6.out.below hx H6.out.lt)).mono fun _ _ h => ⟨h.1, by rw [← h.2]; exact Below.refl _ _⟩)
      have k0 := cell_regrown (show x3.cell? ⟨w.heap.size, 0, none⟩ = some (.int .i64 mp) from S2.out.lim.cell 0)
      have d5 : wrap64 (mp - 1) = mp - 1 := by have := HM.out; unfold wrap64; omega
      have d6 : IntKind.i64.wrap (mp - 1) = mp - 1 := by have := HM.out; rw [IntKind.wrap_i64]; omega
      have d7 : decide (mp - 1 < (n' : Int)) = false := decide_eq_false (by have := KS1.out.1; have := HN7.out; omega)
      have d8 : ((k2 : Int) != ((m + m2 : Nat) : Int)) = false := by
        have h1 := KS1.out.2.1
        have h2 := HMM.out
        rw [List.length_map, List.length_append] at h1
        rw [show k2 = m + m2 by omega]
        exact bne_self_eq_false _
      have HBQ := Lib.hid (fun d os => below_regrown x3 d os)
      refine wp_region_quiet_below (by as_aux_lemma => kernel_rfl) (by as_aux_lemma => kernel_rfl) ?_
      repeat (go_big_quiet_step (first | with_reducible exact q0 _ _ | with_reducible exact q1 _ _))
      refine wpQuiet_nil ?_
      intro _ hw'
      obtain ⟨⟨dq, osq⟩, hw''⟩ := hw'
      subst hw''
      have KF := Lib.hid (HBQ.out dq osq)
      clear q0 q1 k0 HBQ d5 d6
      generalize Sort.grow (redrawn _ dq) osq = wq at *
      have S3 := Lib.hid (S2.out.below KF.out); have ROW3 := Lib.hid (ROW2.out.below KF.out)
      have AP3 : Hid (∀ y ∈ L ++ L2, Apart gb y) := Lib.hid (fun y hy => (List.mem_append.1 hy).elim (AP.out y) (AP2.out y))
      clear S2 ROW2 KF
      go_wp2
      go_roundw
      case rel => exact ⟨i + 1, t2, a2, k2, e2, A', m + m2, c', L ++ L2, HILT.out, by rw [hi1], rfl, rfl, S3.out, ROW3.out, AP3.out, RES1.out⟩
      case measure => rw [hi1]; simp only [intOf, Int.toNat_natCast]; have := HILT.out; omega
    · obtain rfl : i = C.length := by omega
      have HTA : Hid (joinT (C.take C.length) = s) := Lib.hid (by rw [List.take_length]; exact HJ.out)
      have HREQ : R = (L.map Prod.fst, t, a, k, e) := by
        have := RES.out
        rw [HTA.out, HRR.out] at this
        exact this
      have OM : Hid (∀ x ∈ L, PkLen x.1) := Lib.hid (fun x hx => (HOKR.out x.1 (by rw [HREQ]; exact List.mem_map_of_mem hx)).len)
      have OL : Hid (∀ x ∈ L1, PkLen x.1) := Lib.hid (fun x hx => (HOKR.out x.1 (by rw [← HF1.out]; exact List.mem_map_of_mem hx)).len)
      have HSM : Hid (L1.map Prod.fst = L.map Prod.fst) := Lib.hid (by rw [HF1.out, HREQ])
      have HLEN : Hid (m = L.length ∧ m1 = L1.length) := Lib.hid ⟨ROW.out.row.len.symm, S0.out.one.row.len.symm⟩
      have HLL2 : Hid (L.length ≤ 3000 ∧ L1.length = L.length) := Lib.hid ⟨by
        have h1 := KS.out.2.1
        have h2 := KS.out.2.2.2.2
        have := HTT.out
        rw [List.length_map] at h1
        omega, by have := congrArg List.length HSM.out; simpa using this⟩
      subst HREQ
      have CS := Lib.hid (samePks_any A1 A m1 m cm1 cm L1 L wr S0.out.one.read ROW.out.read OL.out OM.out (by have := HLEN.out; have := HLL2.out; omega) (by have := HLEN.out; have := HLL2.out; omega))
      rw [decide_eq_true HSM.out] at CS
      have b2 : (C.length : Int) ≤ (C.length : Int) := Int.le_refl _
      have HT3 : Hid (t.size ≤ 3000) := Lib.hid (by have := KS.out.2.2.1; have := HTT.out; omega)
      clear hlt RES HOKR HRR KS
      go_wp2_with fail
      refine (refVersion_any v _).mono ?_
      rintro e' x2 ⟨rfl, rfl⟩
      rw [HV.out]
      go_wp2_with fail
      refine CS.out.mono ?_
      rintro e' x2 ⟨rfl, hb⟩
      have S1 := Lib.hid (S0.out.below hb)
      clear hb CS S0 ROW
      obtain ⟨Ka, na, ca, ha1, ha2, -⟩ := S1.out.sa
      obtain ⟨Kb, nb, cb, hb1, hb2⟩ := S1.out.sb
      obtain rfl : na = nb := by rw [← ha2.len, ← hb2.len]
      have HA1 := Lib.hid ha1; have HA2 := Lib.hid ha2; have HB1 := Lib.hid hb1; have HB2 := Lib.hid hb2
      clear ha1 ha2 hb1 hb2
      dsimp only at HA1 HA2
      go_wp2_with fail
      refine (smErr_any v mp ga Ka na ca a k e _ HA1.out).mono ?_
      rintro e' x3 ⟨rfl, rfl⟩
      go_wp2_with fail
      refine (smErr_any v mp gb Kb na cb a k e _ HB1.out).mono ?_
      rintro e' x3 ⟨rfl, rfl⟩
      go_wp2_with fail
      refine (smErr_any v mp ga Ka na ca a k e _ HA1.out).mono ?_
      rintro e' x3 ⟨rfl, rfl⟩
      go_wp2_with fail
      refine (smAt_any v mp ga Ka na ca a k e _ HA1.out).mono ?_
      rintro e' x3 ⟨rfl, rfl⟩
      go_wp2_with fail
      refine (smAt_any v mp gb Kb na cb a k e _ HB1.out).mono ?_
      rintro e' x3 ⟨rfl, rfl⟩
      go_wp2_with fail
      refine (smKept_any v mp ga Ka na ca a k e _ HA1.out).mono ?_
      rintro e' x3 ⟨rfl, rfl⟩
      go_wp2_with fail
      refine (smKept_any v mp gb Kb na cb a k e _ HB1.out).mono ?_
      rintro e' x3 ⟨rfl, rfl⟩
      go_wp2_with fail
      refine (smNeed_any v mp ga Ka na ca a k e t w _ HA1.out HA2.out (by have := HT3.out; omega)).mono ?_
      rintro e' x3 ⟨rfl, hb⟩
      have HB3 := Lib.hid (S1.out.low.trans (hb.mono S1.out.low.size)); have HB4 := Lib.hid (HB1.out.below hb HB1.out.lt); have HB5 := Lib.hid (HB2.out.below hb)
      clear hb
      go_wp2_with fail
      refine (smNeed_any v mp gb Kb na cb a k e t w4 _ HB4.out HB5.out (by have := HT3.out; omega)).mono ?_
      rintro e' x4 ⟨rfl, hb⟩
      have HB6 := Lib.hid (HB3.out.trans (hb.mono HB3.out.size))
      clear hb
      go_wp2
      go_ret
      exact ⟨by simp, HB6.out⟩
end Go.Proofs.YtpcleamaieaefaaGreatDoor

namespace Go.Proofs.YtpcleamaieaefaaGreatDoor
open Go.RowKit

/-- Places within a text, in order. -/
structure PlOk (n : Nat) (L : List Int) : Prop where
  rng : ∀ z ∈ L, 0 ≤ z ∧ z ≤ (n : Int)
  asc : L.Pairwise fun a b => decide (a ≤ b) = true
/-- Where piece i begins, ends. -/
def lkA (L : List Int) (i : Nat) : Nat := if i = 0 then 0 else (L.getD (i - 1) 0).toNat
def lkZ (L : List Int) (n i : Nat) : Nat := if i < L.length then (L.getD i 0).toNat else n
theorem lkA_zero (L : List Int) : lkA L 0 = 0 := if_pos rfl
theorem lkA_succ (L : List Int) (i : Nat) : lkA L (i + 1) = (L.getD i 0).toNat := by
  unfold lkA
  rw [if_neg (by omega), Nat.add_sub_cancel]
theorem lkZ_lt {L : List Int} {n i : Nat} (h : i < L.length) : lkZ L n i = lkA L (i + 1) := by
  unfold lkZ
  rw [if_pos h, lkA_succ]
theorem lkZ_end {L : List Int} {n i : Nat} (h : ¬ i < L.length) : lkZ L n i = n := if_neg h
theorem getD_of {L : List Int} {i : Nat} (h : i < L.length) : L.getD i 0 = L[i] := by
  simp [List.getD, List.getElem?_eq_getElem h]
theorem PlOk.at {n : Nat} {L : List Int} (x : PlOk n L) {i : Nat} (h : i < L.length) : ((lkA L (i + 1) : Nat) : Int) = L[i] ∧ lkA L (i + 1) ≤ n := by
  have := x.rng _ (List.getElem_mem h)
  rw [lkA_succ, getD_of h]
  omega
theorem PlOk.le {n : Nat} {L : List Int} (x : PlOk n L) {i : Nat} (h : i ≤ L.length) : lkA L i ≤ lkZ L n i ∧ lkZ L n i ≤ n := by
  rcases Nat.lt_or_ge i L.length with hi | hi
  · rw [lkZ_lt hi]
    refine ⟨?_, (x.at hi).2⟩
    rcases Nat.eq_zero_or_pos i with rfl | hp
    · rw [lkA_zero]; exact Nat.zero_le _
    · obtain ⟨k, rfl⟩ : ∃ k, i = k + 1 := ⟨i - 1, by omega⟩
      have h1 := (x.at (show k < L.length by omega)).1
      have h2 := (x.at hi).1
      have h3 : L[k]'(by omega) ≤ L[k + 1] := by
        have := List.pairwise_iff_getElem.1 x.asc k (k + 1) (by omega) hi (by omega)
        simpa using this
      omega
  · rw [lkZ_end (by omega)]
    refine ⟨?_, Nat.le_refl _⟩
    rcases Nat.eq_zero_or_pos i with rfl | hp
    · rw [lkA_zero]; exact Nat.zero_le _
    · obtain ⟨k, rfl⟩ : ∃ k, i = k + 1 := ⟨i - 1, by omega⟩
      exact (x.at (show k < L.length by omega)).2
end Go.Proofs.YtpcleamaieaefaaGreatDoor

namespace Go.Proofs.YtpcleamaieaefaaGreatDoor.OI
open Go.Proofs.YtpcleamaieaefaaGreatDoor
open Go.ChangeShapes Go.WideShapes Go.ChangeAt Go.RowKit Go.Deep

section
variable {H : Type} {enc : TypeId × Value → H} {P : Program} {w : World} {base : Nat} {spare : Nat → Bool} {held : Bool}

/-- All that a datum weighs is within the reach. -/
def Sized (P : Program) (t : TypeId) (d : DataW H) : Prop := ∀ z ∈ d.weights P t, z ≤ reachBytes

theorem weightsAll_mem {e : TypeId} : ∀ {ds : List (DataW H)} {d : DataW H}, d ∈ ds → ∀ z ∈ d.weights P e, z ∈ DataW.weightsAll P e ds
  | [], _, h, _, _ => by simp at h
  | x :: ds, d, h, z, hz => by
    unfold DataW.weightsAll
    rcases List.mem_cons.1 h with rfl | h
    · exact List.mem_append.2 (.inl hz)
    · exact List.mem_append.2 (.inr (weightsAll_mem h z hz))
theorem Sized.elem {t e : TypeId} {l r : List (DataW H)} (ht : P.underlying t = some (.slice e)) (h : Sized P t (.slice l r)) {d : DataW H} (hd : d ∈ l) : Sized P e d := fun z hz => h z (by
  simp only [DataW.weights, ht]
  exact List.mem_cons_of_mem _ (List.mem_append.2 (.inl (weightsAll_mem hd z hz))))
theorem Sized.len {t e : TypeId} {l r : List (DataW H)} (ht : P.underlying t = some (.slice e)) (h : Sized P t (.slice l r)) : l.length * P.bytesOf e ≤ reachBytes := by
  have := h ((l.length + r.length) * P.bytesOf e) (by simp [DataW.weights, ht])
  exact Nat.le_trans (Nat.mul_le_mul_right _ (by omega)) this
theorem Sized.str {t : TypeId} {s : List UInt8} (h : Sized P t (.lit (.string s) : DataW H)) : s.length ≤ reachBytes := h _ (by simp [DataW.weights])
theorem sized_at {ts : List TypeId} {ds : List (DataW H)} (h : (DataW.weightsEach P ts ds).all (· ≤ reachBytes) = true) {j : Nat} {t : TypeId} {d : DataW H} (ht : ts[j]? = some t) (hd : ds[j]? = some d) : Sized P t d := fun z hz => by
  have := List.all_eq_true.1 h _ (DataW.weights_mem_each ht hd z hz)
  simpa using this
theorem flat_len {X : Type} {k : Nat} {C : X → List Value} (hk : ∀ x, (C x).length = k) : ∀ l : List X, (l.flatMap C).length = l.length * k
  | [] => by simp
  | x :: l => by
    rw [List.flatMap_cons, List.length_append, hk, flat_len hk l, List.length_cons, Nat.add_mul]; omega
theorem flat_at {X : Type} {k : Nat} {C : X → List Value} (hk : ∀ x, (C x).length = k) : ∀ (l : List X) (i r : Nat) (h : i < l.length), r < k → (l.flatMap C)[i * k + r]? = (C l[i])[r]?
  | x :: l, 0, r, _, hr => by
    rw [Nat.zero_mul, Nat.zero_add, List.flatMap_cons, List.getElem?_append_left (by rw [hk]; exact hr)]
    rfl
  | x :: l, i + 1, r, h, hr => by
    have ih := flat_at hk l i r (by simpa using h) hr
    rw [List.flatMap_cons, List.getElem?_append_right (by rw [hk, Nat.add_mul]; omega), hk]
    rw [show (i + 1) * k + r - k = i * k + r by rw [Nat.add_mul]; omega]
    exact ih

/-- A slice, its elements known each by itself, as a list that is read. -/
theorem open_rows {X : Type} [Inhabited X] {k : Nat} (C : X → List Value) (hk : ∀ x, (C x).length = k) (hk0 : 0 < k) {t e : TypeId} (ht : P.underlying t = some (.slice e)) (hc : P.cellsOf e = k) (good : X → Prop)
    (hel : ∀ (n : Nat) (cs : List Value) (D : DataW H) (Pl : List MemPlace), DataW.trod enc P w base spare held n e cs = some (D, Pl) → Sized P e D → (∀ x ∈ Pl, x.block < w.heap.size) → ∃ x, cs = C x ∧ good x)
    {fuel : Nat} {cs : List Value} {d : DataW H} {ps : List MemPlace} (h : DataW.trod enc P w base spare held fuel t cs = some (d, ps)) (hs : Sized P t d) (hlt : ∀ x ∈ ps, x.block < w.heap.size) :
    ∃ (A : Option Addr) (l : List X) (c : Nat), cs = [.slice A l.length c] ∧ Rd w w.heap.size k A l.length (l.flatMap C) ∧ (∀ x ∈ l, good x) ∧ l.length * P.bytesOf e ≤ reachBytes ∧ l.length ≤ c ∧ c ≤ maxLen := by
  rcases open_slice ht h with ⟨rfl, _⟩ | ⟨a, len, cap, m, n, D, Pl, rfl, _, hl, hm, hmm, hx, hi⟩
  · exact ⟨none, [], 0, rfl, Rd.nil _ _ _ _, by simp, by simp, Nat.le_refl _, by unfold maxLen; omega⟩
  · simp only [Prod.mk.injEq] at hx
    obtain ⟨rfl, rfl⟩ := hx
    have hlm : len ≤ m := by rw [hmm]; split <;> omega
    have each : ∀ i, i < len → ∃ x, good x ∧ ∀ r u, (C x)[r]? = some u → w.cell? (a.add (i * k + r)) = some u := by
      intro i hilen
      obtain ⟨cs', h1, h2⟩ := hi i (by omega)
      obtain ⟨x, rfl, hg⟩ := hel n cs' _ _ h2 (hs.elem ht (List.mem_map.2 ⟨i, List.mem_range.2 hilen, rfl⟩)) (fun y hy => hlt y (List.mem_append.2 (.inr (List.mem_flatMap.2 ⟨i, List.mem_range.2 (by omega), hy⟩))))
      refine ⟨x, hg, fun r u hu => ?_⟩
      rw [hc] at h1
      obtain ⟨_, h3, h4⟩ := World.cells?_some h1
      have hr : r < k := by
        rcases Nat.lt_or_ge r k with h | h
        · exact h
        · rw [List.getElem?_eq_none (by rw [hk]; exact h)] at hu; cases hu
      have := h4 r hr
      rw [add_add] at this
      rw [this, hu]
    obtain ⟨f, hf⟩ := choose_lt each
    have hlen : ((List.range len).map f).length = len := by simp
    refine ⟨some a, (List.range len).map f, cap, by rw [hlen], ?_, ?_, ?_, by omega, hm⟩
    · by_cases h0 : len = 0
      · subst h0; exact Rd.nil _ _ _ _
      · rw [hlen]
        refine Rd.of_addr (by rw [flat_len hk, hlen]) ?_ ?_
        · have hrow : (MemPlace.cell a.block a.off) ∈ MemPlace.row a (m * P.cellsOf e) := by
            refine MemPlace.mem_row.2 ⟨0, ?_, by simp⟩
            rw [hc]
            exact Nat.mul_pos (by omega) hk0
          exact hlt _ (List.mem_append.2 (.inl hrow))
        · intro j u hu
          have hj : j < len * k := by
            rcases Nat.lt_or_ge j (len * k) with h | h
            · exact h
            · rw [List.getElem?_eq_none (by rw [flat_len hk, hlen]; exact h)] at hu; cases hu
          have hi1 : j / k < len := Nat.div_lt_of_lt_mul (by rw [Nat.mul_comm]; exact hj)
          have hr1 : j % k < k := Nat.mod_lt _ hk0
          have e : j = j / k * k + j % k := by rw [Nat.mul_comm]; exact (Nat.div_add_mod j k).symm
          rw [e, flat_at hk _ _ _ (by rw [hlen]; exact hi1) hr1] at hu
          rw [e]
          exact (hf _ hi1).2 _ _ (by simpa using hu)
    · intro x hx
      obtain ⟨i, hi2, rfl⟩ := List.mem_map.1 hx
      exact (hf i (List.mem_range.1 hi2)).1
    · have := hs.len ht
      simpa using this

end
section
variable {H : Type} {enc : TypeId × Value → H} {w : World} {base : Nat} {spare : Nat → Bool} {held : Bool}
theorem flat_one {X : Type} (c : X → Value) (l : List X) : l.flatMap (fun z => [c z]) = l.map c := by
  induction l with
  | nil => rfl
  | cons z l ih => simp only [List.flatMap_cons, ih]; rfl
set_option maxRecDepth 100000 in
theorem open_intsV {r : Reach} {b0 : Nat} {v : Value} {d : DataW H} {ps : List MemPlace} (hval : Value.okWide Tryz.prog w r b0 26 v) (hd : DataW.Trod enc Tryz.prog w base spare held 26 v d ps) (hs : Sized Tryz.prog 26 d) (hlt : ∀ x ∈ ps, x.block < w.heap.size) :
    ∃ (A : Option Addr) (l : List Int) (c : Nat), v = .slice A l.length c ∧ Rd w w.heap.size 1 A l.length (iv l) ∧ (∀ z ∈ l, (Lit.int .i64 z).wf = true) ∧ l.length ≤ 140737488351232 ∧ l.length ≤ c ∧ c ≤ maxLen := by
  obtain ⟨a, len, cap, rfl⟩ := okWide_slice Tryz.underlying26 hval
  obtain ⟨fuel, hf⟩ := hd
  obtain ⟨A, l, c, h1, h2, h3, h4, h5, h6⟩ := open_rows (X := Int) (k := 1) (fun z => [Value.int .i64 z]) (fun _ => rfl) (by omega) Tryz.underlying26 (by kernel_rfl) (fun z => (Lit.int .i64 z).wf = true)
    (fun n cs D Pl h hs _ => by obtain ⟨z, rfl, _, hw⟩ := DataW.trod_int Tryz.underlying3 h; exact ⟨z, rfl, hw⟩) hf hs hlt
  rw [flat_one] at h2
  simp [Value.cells] at h1
  obtain ⟨rfl, rfl, rfl⟩ := h1
  refine ⟨a, l, cap, rfl, h2, h3, ?_, h5, h6⟩
  have hb : Tryz.prog.bytesOf 3 = 8 := by kernel_rfl
  rw [hb, reachBytes] at h4
  omega
end
end Go.Proofs.YtpcleamaieaefaaGreatDoor.OI

namespace Go.Proofs.YtpcleamaieaefaaGreatDoor
open Go.ChangeShapes Go.WideShapes Go.ChangeAt Go.RowKit Go.Deep
set_option maxRecDepth 100000

section
variable {H : Type} {enc : TypeId × Value → H} {w : World} {base : Nat} {spare : Nat → Bool} {held : Bool}
theorem open_lim {n : Nat} {cs : List Value} {D : DataW H} {Pl : List MemPlace} (h : DataW.trod enc Tryz.prog w base spare held n 57 cs = some (D, Pl)) : ∃ a b : Int, cs = [.int .i64 a, .int .i64 b] := by
  obtain ⟨xs, n', rfl, hx, hlen, hxl, hf⟩ := DataW.trod_struct Tryz.underlying57 h
  simp only [Prod.mk.injEq] at hx
  obtain ⟨rfl, rfl⟩ := hx
  have hc4 : Tryz.prog.cellsOf 57 = 2 := by kernel_rfl
  rw [hc4] at hlen
  match cs, hlen with
  | [c0, c1], _ =>
    match xs, hxl with
    | [y0, y1], _ =>
      have h0 := field_at hf 0 (t := 3) (o := 0) (k := 1) (by kernel_rfl)
      have h1 := field_at hf 1 (t := 3) (o := 1) (k := 1) (by kernel_rfl)
      obtain ⟨z0, e0, rfl, _⟩ := DataW.trod_int Tryz.underlying3 h0
      obtain ⟨z1, e1, rfl, _⟩ := DataW.trod_int Tryz.underlying3 h1
      simp only [List.drop_zero, List.drop_succ_cons, List.take_succ_cons, List.take_zero, List.cons.injEq, and_true] at e0 e1
      subst e0 e1
      exact ⟨z0, z1, rfl⟩
theorem open_limitsV {r : Reach} {b0 : Nat} {v : Value} {d : DataW H} {ps : List MemPlace} (hval : Value.okWide Tryz.prog w r b0 57 v) (hd : DataW.Trod enc Tryz.prog w base spare held 57 v d ps) :
    ∃ a b : Int, v = .agg #[.int .i64 a, .int .i64 b] := by
  have hv : ∃ cs, v = .agg cs := by
    simp only [Value.okWide, show Tryz.prog.underlying 57 = _ from Tryz.underlying57] at hval
    obtain ⟨cs, h, _⟩ := hval
    exact ⟨cs, h⟩
  obtain ⟨cs, rfl⟩ := hv
  obtain ⟨fuel, hf⟩ := hd
  obtain ⟨a, b, h1⟩ := open_lim hf
  refine ⟨a, b, ?_⟩
  have h1 : cs.toList = (#[.int .i64 a, .int .i64 b] : Array Value).toList := h1
  rw [Array.toList_inj.1 h1]
end
end Go.Proofs.YtpcleamaieaefaaGreatDoor

