/- kit: a packet in memory of its own. -/
import Derived.Test.YtmkkjiogokfnmaaGreatDoorScMAck
import Derived.Test.YtmkkjiogokfnmaaGreatDoorScMReaB
import Derived.Test.YtmkkjiogokfnmaaGreatDoorScPubD
import Derived.Deep.RegionLaw
import Derived.Test.YtmkkjiogokfnmaaGreatDoorScOrdD
namespace Go.Proofs.YtmkkjiogokfnmaaGreatDoor
open Go.RowKit
attribute [local go_sem ↓] to_ldPk to_bxPk to_bdPk to_alPk to_stPk
attribute [local go_sem] run_bxPk run_bxPk_agg ld_fresh run_alPk run_bd0 run_bdK run_bdKI run_bdKIC run_bdKC run_bdKICP run_stPk_fresh pkC_0 pkC_1 pkC_2 pkC_3 pkC_4 pkC_5 pkC_6 pkC_7 pkC_8 pkC_9 pkC_10 pkC_11 pkC_12 pkC_13 pkC_14 pkC_15 pkC_16 pkC_17 pkC_18 pkC_19 pkC_20 pkC_21 pkC_22 pkC_23 pkC_24

theorem iv_one (l : List Int) : ∀ u ∈ iv l, u.oneCell' = true := by
  intro u hu
  obtain ⟨z, -, rfl⟩ := List.mem_map.1 hu
  rfl
theorem fis_one (l : List Fi) : ∀ u ∈ fis l, u.oneCell' = true := by
  intro u hu
  obtain ⟨f, -, hf⟩ := List.mem_flatMap.1 hu
  simp only [fiC, List.mem_cons, List.not_mem_nil, or_false] at hf
  obtain rfl | rfl | rfl | rfl | rfl := hf <;> rfl
theorem info_filter : (Tryz.prog.info? 32).map (fun i => (i.zero, i.size, i.bytes)) = some (some (.agg #[.string ⟨#[]⟩, .int .i64 0, .bool false, .bool false, .int .i64 0]), 5, 40) := by kernel_rfl
set_option maxHeartbeats 400000 in
set_option maxRecDepth 10000 in
theorem ownI_any (l : List Int) (A : Option Addr) (c : Nat) (w : World) (h : Rd w w.heap.size 1 A l.length (iv l)) (hl : l.length ≤ 1000000) :
    Calls Tryz.prog 68 #[.slice A l.length c] w fun e w' => ∃ v, e = .returned v ∧ w'.ownsRow w.heap.size 3 1 v l.length (iv l) ∧ Below w.heap.size w w' := by
  have H := Lib.hid h; clear h
  go_enter Tryz.func68, Tryz.ntmps68
  go_wp2_with (at_builtin; refine wpList_app _ rfl (.tmp 3) (.tmp 4) 26 rfl w.heap.size 3 _ 1 8 Tryz.underlying26 info_int rfl (by decide) (.slice (some ⟨w.heap.size, 0, none⟩) 0 0) 0 [] rfl (own_empty w w.heap.size _ 1 (Nat.le_refl _)) _ _ _ _ (iv l) rfl (H.out.alloc (Nat.le_refl _) _) (iv_one _) (by unfold maxLen; omega) (by omega) (by simp) ?_; intro v' w3 hown3 hg3 hat3)
  go_ret
  refine ⟨v', rfl, by simpa using hown3, below_app ((Below.refl _ _).alloc (Nat.le_refl _) _) hg3 (by simp) (fun g hg => ?_)⟩
  have : w.heap.size = g := by simpa [Value.ownBlock] using hg
  omega

set_option maxHeartbeats 400000 in
set_option maxRecDepth 10000 in
theorem ownF_any (l : List Fi) (A : Option Addr) (c : Nat) (w : World) (h : Rd w w.heap.size 5 A l.length (fis l)) (hl : l.length ≤ 1000000) :
    Calls Tryz.prog 69 #[.slice A l.length c] w fun e w' => ∃ v, e = .returned v ∧ w'.ownsRow w.heap.size 32 5 v l.length (fis l) ∧ Below w.heap.size w w' := by
  have H := Lib.hid h; clear h
  go_enter Tryz.func69, Tryz.ntmps69
  go_wp2_with (at_builtin; refine wpList_app _ rfl (.tmp 3) (.tmp 4) 27 rfl w.heap.size 32 _ 5 40 Tryz.underlying27 info_filter rfl (by decide) (.slice (some ⟨w.heap.size, 0, none⟩) 0 0) 0 [] rfl (own_empty w w.heap.size _ 5 (Nat.le_refl _)) _ _ _ _ (fis l) rfl (H.out.alloc (Nat.le_refl _) _) (fis_one _) (by unfold maxLen; omega) (by omega) (by simp) ?_; intro v' w3 hown3 hg3 hat3)
  go_ret
  refine ⟨v', rfl, by simpa using hown3, below_app ((Below.refl _ _).alloc (Nat.le_refl _) _) hg3 (by simp) (fun g hg => ?_)⟩
  have : w.heap.size = g := by simpa [Value.ownBlock] using hg
  omega



theorem own_rdS {w : World} {base : Nat} {e : TypeId} {k c : Nat} {A : Option Addr} {n : Nat} {xs : List Value} (h : w.ownsRow base e k (.slice A n c) n xs) : n ≤ c ∧ Rd w w.heap.size k A n xs := by
  obtain ⟨A', c', he, hc, hr⟩ := own_rd h
  cases he
  exact ⟨hc, hr⟩
theorem own_put {w : World} {base g : Nat} {e : TypeId} {k : Nat} {v : Value} {n : Nat} {xs : List Value} (h : w.ownsRow base e k v n xs) (hg : g < base) (q : Pk) (k' : Hs) : (putPk w g q k').ownsRow base e k v n xs :=
  h.kept (putPk_mods w g q k') (.inr fun he => by have := own_block h _ he; omega)
theorem own_end {p : Pk} {h : Hs} {w y : World} {t1 t2 t3 : TypeId} {A1 A2 A3 A4 : Option Addr} {q1 q2 q3 q4 : Nat} (hB : Below w.heap.size w y) (h1 : Bk y w.heap.size PkT (pkC p h)) (h2 : Bk y (w.heap.size + 1) PkT (pkC pk0 hs0))
    (o1 : y.ownsRow (w.heap.size + 2) t1 1 (.slice A1 p.codes.length q1) p.codes.length (iv p.codes)) (o2 : y.ownsRow (w.heap.size + 2) t2 5 (.slice A2 p.filters.length q2) p.filters.length (fis p.filters))
    (o3 : y.ownsRow (w.heap.size + 2) t3 4 (.slice A3 p.props.length q3) p.props.length (prs p.props)) (o4 : y.ownsRow (w.heap.size + 2) t3 4 (.slice A4 p.will.props.length q4) p.will.props.length (prs p.will.props))
    (z : World) (hz : (((y.setCell ⟨w.heap.size, 22, none⟩ (.slice A1 p.codes.length q1)).setCell ⟨w.heap.size, 23, none⟩ (.slice A2 p.filters.length q2)).setCell ⟨w.heap.size, 24, none⟩ (.slice A3 p.props.length q3)).setCell ⟨w.heap.size, 19, none⟩ (.slice A4 p.will.props.length q4) = z) :
    Bk z w.heap.size PkT (pkC p ⟨⟨A4, q4⟩, ⟨A1, q1⟩, ⟨A2, q2⟩, ⟨A3, q3⟩⟩) ∧ Bk z (w.heap.size + 1) PkT (pkC pk0 hs0) ∧
    PkIn (putPk z (w.heap.size + 1) p ⟨⟨A4, q4⟩, ⟨A1, q1⟩, ⟨A2, q2⟩, ⟨A3, q3⟩⟩) (putPk z (w.heap.size + 1) p ⟨⟨A4, q4⟩, ⟨A1, q1⟩, ⟨A2, q2⟩, ⟨A3, q3⟩⟩).heap.size p ⟨⟨A4, q4⟩, ⟨A1, q1⟩, ⟨A2, q2⟩, ⟨A3, q3⟩⟩ ∧
    Below w.heap.size w (putPk z (w.heap.size + 1) p ⟨⟨A4, q4⟩, ⟨A1, q1⟩, ⟨A2, q2⟩, ⟨A3, q3⟩⟩) := by
  have b : ∀ i, w.heap.size + 1 ≠ (⟨w.heap.size, i, none⟩ : Addr).block := fun i => by show w.heap.size + 1 ≠ w.heap.size; omega
  have l : ∀ i, (⟨w.heap.size, i, none⟩ : Addr).block < w.heap.size + 2 := fun i => by show w.heap.size < w.heap.size + 2; omega
  have e1 := (((h1.upd 22 _ rfl).upd 23 _ rfl).upd 24 _ rfl).upd 19 (.slice A4 p.will.props.length q4) (cs' := pkC p ⟨⟨A4, q4⟩, ⟨A1, q1⟩, ⟨A2, q2⟩, ⟨A3, q3⟩⟩) rfl
  have e2 := (((h2.other (b 22) (.slice A1 p.codes.length q1)).other (b 23) (.slice A2 p.filters.length q2)).other (b 24) (.slice A3 p.props.length q3)).other (b 19) (.slice A4 p.will.props.length q4)
  have e3 : Below w.heap.size w ((((y.setCell ⟨w.heap.size, 22, none⟩ (.slice A1 p.codes.length q1)).setCell ⟨w.heap.size, 23, none⟩ (.slice A2 p.filters.length q2)).setCell ⟨w.heap.size, 24, none⟩ (.slice A3 p.props.length q3)).setCell ⟨w.heap.size, 19, none⟩ (.slice A4 p.will.props.length q4)) :=
    Below.setCell (Below.setCell (Below.setCell (Below.setCell hB (Nat.le_refl _) _) (Nat.le_refl _) _) (Nat.le_refl _) _) (Nat.le_refl _) _
  have ow : ∀ {e : TypeId} {k : Nat} {v : Value} {n : Nat} {xs : List Value}, y.ownsRow (w.heap.size + 2) e k v n xs → z.ownsRow (w.heap.size + 2) e k v n xs := fun h => by
    rw [← hz]
    exact ownsRow_setCell_below (ownsRow_setCell_below (ownsRow_setCell_below (ownsRow_setCell_below h (l 22) _) (l 23) _) (l 24) _) (l 19) _
  rw [hz] at e1 e2 e3
  obtain ⟨c1, r1⟩ := own_rdS (own_put (ow o1) (by omega : w.heap.size + 1 < _) p ⟨⟨A4, q4⟩, ⟨A1, q1⟩, ⟨A2, q2⟩, ⟨A3, q3⟩⟩)
  obtain ⟨c2, r2⟩ := own_rdS (own_put (ow o2) (by omega : w.heap.size + 1 < _) p ⟨⟨A4, q4⟩, ⟨A1, q1⟩, ⟨A2, q2⟩, ⟨A3, q3⟩⟩)
  obtain ⟨c3, r3⟩ := own_rdS (own_put (ow o3) (by omega : w.heap.size + 1 < _) p ⟨⟨A4, q4⟩, ⟨A1, q1⟩, ⟨A2, q2⟩, ⟨A3, q3⟩⟩)
  obtain ⟨c4, r4⟩ := own_rdS (own_put (ow o4) (by omega : w.heap.size + 1 < _) p ⟨⟨A4, q4⟩, ⟨A1, q1⟩, ⟨A2, q2⟩, ⟨A3, q3⟩⟩)
  exact ⟨e1, e2, ⟨r4, r1, r2, r3, c4, c1, c2, c3⟩, below_put e3 e3.size (by omega) _ _⟩
/-- A copy of a packet, its lists in memory of their own. -/
def OwnOut (p : Pk) (w : World) (e : Ending) (w' : World) : Prop := ∃ k, e = .returned (pkV p k) ∧ PkIn w' w'.heap.size p k ∧ Below w.heap.size w w'
set_option maxHeartbeats 20000000 in
set_option maxRecDepth 100000 in
theorem ownK_any (p : Pk) (h : Hs) (w : World) (ip : PkIn w w.heap.size p h) (hc : p.codes.length ≤ 60) (hf : p.filters.length ≤ 60) (hp : p.props.length ≤ 1010) (hw : p.will.props.length ≤ 1010) :
    Calls Tryz.prog 21 #[pkV p h] w (OwnOut p w) := by
  have HP := Lib.hid ip
  have B1 : Bk ((w.alloc (.cells (pkC p h) PkT)).alloc (.cells (pkC pk0 hs0) PkT)) w.heap.size PkT (pkC p h) := (Bk.fresh w PkT (pkC p h)).alloc _
  have B2 : Bk ((w.alloc (.cells (pkC p h) PkT)).alloc (.cells (pkC pk0 hs0) PkT)) (w.heap.size + 1) PkT (pkC pk0 hs0) := by
    have h9 := Bk.fresh (w.alloc (.cells (pkC p h) PkT)) PkT (pkC pk0 hs0)
    rw [show (w.alloc (.cells (pkC p h) PkT)).heap.size = w.heap.size + 1 by simp] at h9
    exact h9
  have hb2 := below_two w (.cells (pkC p h) PkT) (.cells (pkC pk0 hs0) PkT)
  go_enter Tryz.func21, Tryz.ntmps21
  go_wp2_with fail
  obtain ⟨W, hW⟩ : ∃ W, ((w.alloc (.cells (pkC p h) PkT)).alloc (.cells (pkC pk0 hs0) PkT)) = W := ⟨_, rfl⟩
  have hWs : W.heap.size = w.heap.size + 2 := by rw [← hW]; simp
  rw [hW] at B1 B2 hb2 ⊢
  have HB := Lib.hid hb2; have H1 := Lib.hid B1; have H2 := Lib.hid B2; have HWS := Lib.hid hWs
  have c22 := B1.cell 22
  have c23 := B1.cell 23
  have c24 := B1.cell 24
  have c19 := B1.cell 19
  rw [pkC_22] at c22
  rw [pkC_23] at c23
  rw [pkC_24] at c24
  rw [pkC_19] at c19
  clear hW hWs hb2 B1 B2 ip
  have HB0 := Lib.hid (below_drawn HB.out 1); have H10 := Lib.hid (H1.out.drewN 1); have H20 := Lib.hid (H2.out.drewN 1)
  have S0 : w.heap.size + 2 ≤ W.drew.heap.size := Nat.le_of_eq HWS.out.symm
  refine wp_region_D (fun w' => w'.cell? ⟨w.heap.size, 22, none⟩ = some (.slice h.codes.a p.codes.length h.codes.c) ∧ w'.cell? ⟨w.heap.size, 23, none⟩ = some (.slice h.filters.a p.filters.length h.filters.c) ∧ w'.cell? ⟨w.heap.size, 24, none⟩ = some (.slice h.props.a p.props.length h.props.c) ∧ w'.cell? ⟨w.heap.size, 19, none⟩ = some (.slice h.wp.a p.will.props.length h.wp.c)) [14, 16, 18, 21] (by kernel_rfl) ?_
  have HS : W.drew.cell? ⟨w.heap.size, 22, none⟩ = some (.slice h.codes.a p.codes.length h.codes.c) ∧ W.drew.cell? ⟨w.heap.size, 23, none⟩ = some (.slice h.filters.a p.filters.length h.filters.c) ∧ W.drew.cell? ⟨w.heap.size, 24, none⟩ = some (.slice h.props.a p.props.length h.props.c) ∧ W.drew.cell? ⟨w.heap.size, 19, none⟩ = some (.slice h.wp.a p.will.props.length h.wp.c) := ⟨c22, c23, c24, c19⟩
  refine anyD_take (i := 0) (v := ?v0) [14, 16, 18, 21] rfl (by kernel_rfl) (by kernel_rfl) (by kernel_rfl) (by kernel_rfl) (by kernel_rfl) (by kernel_rfl) (fun _ _ _ h => h) (Or.inl ⟨by rfl, ?h0⟩) HS ?r0
  case h0 => intro w' hSw; (try dsimp only at hSw); go_simp; try with_reducible rfl
  (try simp only [Act.put]); (try simp only [List.setIfInBounds_toArray]); (try simp only [List.set_cons_succ]); (try simp only [List.set_cons_zero])
  refine anyD_take (i := 1) (v := ?v1) [14, 16, 18, 21] rfl (by kernel_rfl) (by kernel_rfl) (by kernel_rfl) (by kernel_rfl) (by kernel_rfl) (by kernel_rfl) (fun _ _ _ h => h) (Or.inl ⟨by rfl, ?h1⟩) HS ?r1
  case h1 => intro w' hSw; (try dsimp only at hSw); go_simp; try with_reducible rfl
  (try simp only [Act.put]); (try simp only [List.setIfInBounds_toArray]); (try simp only [List.set_cons_succ]); (try simp only [List.set_cons_zero])
  refine anyD_take (i := 3) (v := ?v3) [14, 16, 18, 21] rfl (by kernel_rfl) (by kernel_rfl) (by kernel_rfl) (by kernel_rfl) (by kernel_rfl) (by kernel_rfl) (fun _ _ _ h => h) (Or.inl ⟨by rfl, ?h3⟩) HS ?r3
  case h3 => intro w' hSw; (try dsimp only at hSw); go_simp; try with_reducible rfl
  (try simp only [Act.put]); (try simp only [List.setIfInBounds_toArray]); (try simp only [List.set_cons_succ]); (try simp only [List.set_cons_zero])
  refine anyD_take (i := 4) (v := ?v4) [14, 16, 18, 21] rfl (by kernel_rfl) (by kernel_rfl) (by kernel_rfl) (by kernel_rfl) (by kernel_rfl) (by kernel_rfl) (fun _ _ _ h => h) (Or.inl ⟨by rfl, ?h4⟩) HS ?r4
  case h4 => intro w' hSw; (try dsimp only at hSw); go_simp; try with_reducible rfl
  (try simp only [Act.put]); (try simp only [List.setIfInBounds_toArray]); (try simp only [List.set_cons_succ]); (try simp only [List.set_cons_zero])
  refine anyD_take (i := 6) (v := ?v6) [14, 16, 18, 21] rfl (by kernel_rfl) (by kernel_rfl) (by kernel_rfl) (by kernel_rfl) (by kernel_rfl) (by kernel_rfl) (fun _ _ _ h => h) (Or.inl ⟨by rfl, ?h6⟩) HS ?r6
  case h6 => intro w' hSw; (try dsimp only at hSw); go_simp; try with_reducible rfl
  (try simp only [Act.put]); (try simp only [List.setIfInBounds_toArray]); (try simp only [List.set_cons_succ]); (try simp only [List.set_cons_zero])
  refine anyD_take (i := 7) (v := ?v7) [14, 16, 18, 21] rfl (by kernel_rfl) (by kernel_rfl) (by kernel_rfl) (by kernel_rfl) (by kernel_rfl) (by kernel_rfl) (fun _ _ _ h => h) (Or.inl ⟨by rfl, ?h7⟩) HS ?r7
  case h7 => intro w' hSw; (try dsimp only at hSw); go_simp; try with_reducible rfl
  (try simp only [Act.put]); (try simp only [List.setIfInBounds_toArray]); (try simp only [List.set_cons_succ]); (try simp only [List.set_cons_zero])
  refine anyD_take (i := 9) (v := ?v9) [14, 16, 18, 21] rfl (by kernel_rfl) (by kernel_rfl) (by kernel_rfl) (by kernel_rfl) (by kernel_rfl) (by kernel_rfl) (fun _ _ _ h => h) (Or.inl ⟨by rfl, ?h9⟩) HS ?r9
  case h9 => intro w' hSw; (try dsimp only at hSw); go_simp; try with_reducible rfl
  (try simp only [Act.put]); (try simp only [List.setIfInBounds_toArray]); (try simp only [List.set_cons_succ]); (try simp only [List.set_cons_zero])
  refine anyD_take (i := 10) (v := ?v10) [14, 16, 18, 21] rfl (by kernel_rfl) (by kernel_rfl) (by kernel_rfl) (by kernel_rfl) (by kernel_rfl) (by kernel_rfl) (fun _ _ _ h => h) (Or.inl ⟨by rfl, ?h10⟩) HS ?r10
  case h10 => intro w' hSw; (try dsimp only at hSw); go_simp; try with_reducible rfl
  (try simp only [Act.put]); (try simp only [List.setIfInBounds_toArray]); (try simp only [List.set_cons_succ]); (try simp only [List.set_cons_zero])
  refine anyD_take (i := 11) (v := ?v11) [14, 16, 18, 21] rfl (by kernel_rfl) (by kernel_rfl) (by kernel_rfl) (by kernel_rfl) (by kernel_rfl) (by kernel_rfl) (fun _ _ _ h => h) (Or.inl ⟨by rfl, ?h11⟩) HS ?r11
  case h11 => intro w' hSw; (try dsimp only at hSw); go_simp; try with_reducible rfl
  (try simp only [Act.put]); (try simp only [List.setIfInBounds_toArray]); (try simp only [List.set_cons_succ]); (try simp only [List.set_cons_zero])
  refine anyD_ready (rs := [2]) (by kernel_rfl) (by simp) (AllD.cons rfl (fun K hK => ?_) AllD.nil)
  go_simp
  go_at_call 68
  refine (ownI_any p.codes h.codes.a h.codes.c _ (HP.out.next HB0.out).codes (by omega)).mono ?_
  rintro e y1 ⟨v1, rfl, own1, hb1⟩
  obtain ⟨A1, q1, rfl, hq1, hr1⟩ := own_rd own1
  have R1 := Lib.hid hr1
  have Q1 := Lib.hid hq1
  have S1 : w.heap.size + 2 ≤ y1.heap.size := Nat.le_trans S0 hb1.size
  have O11 := Lib.hid (own_wider own1 S0)
  clear hr1 hq1 own1
  have HB1 := Lib.hid (HB0.out.trans (hb1.mono HB0.out.size))
  have H11 := Lib.hid (H10.out.below hb1 H10.out.lt)
  have H21 := Lib.hid (H20.out.below hb1 H20.out.lt)
  have c221 := H11.out.cell 22
  have c231 := H11.out.cell 23
  have c241 := H11.out.cell 24
  have c191 := H11.out.cell 19
  have f221 := H11.out.free 22
  have f231 := H11.out.free 23
  have f241 := H11.out.free 24
  have f191 := H11.out.free 19
  rw [pkC_22] at c221
  rw [pkC_23] at c231
  rw [pkC_24] at c241
  rw [pkC_19] at c191
  go_simp
  refine hK.out _ _ (fun _ => ⟨c221, c231, c241, c191⟩) ?_
  clear hK K HS
  have HS := And.intro c221 (And.intro c231 (And.intro c241 c191))
  (try simp only [Act.put]); (try simp only [List.setIfInBounds_toArray]); (try simp only [List.set_cons_succ]); (try simp only [List.set_cons_zero])
  refine anyD_take (i := 13) (v := ?v13) [14, 16, 18, 21] rfl (by kernel_rfl) (by kernel_rfl) (by kernel_rfl) (by kernel_rfl) (by kernel_rfl) (by kernel_rfl) (fun _ _ _ h => h) (Or.inl ⟨by rfl, ?h13⟩) HS ?r13
  case h13 => intro w' hSw; (try dsimp only at hSw); go_simp; try with_reducible rfl
  (try simp only [Act.put]); (try simp only [List.setIfInBounds_toArray]); (try simp only [List.set_cons_succ]); (try simp only [List.set_cons_zero])
  refine anyD_ready (rs := [5]) (by kernel_rfl) (by simp) (AllD.cons rfl (fun K hK => ?_) AllD.nil)
  go_simp
  go_at_call 69
  refine (ownF_any p.filters h.filters.a h.filters.c _ (HP.out.next HB1.out).filters (by omega)).mono ?_
  rintro e y2 ⟨v2, rfl, own2, hb2⟩
  obtain ⟨A2, q2, rfl, hq2, hr2⟩ := own_rd own2
  have R2 := Lib.hid hr2
  have Q2 := Lib.hid hq2
  have S2 : w.heap.size + 2 ≤ y2.heap.size := Nat.le_trans S1 hb2.size
  have O22 := Lib.hid (own_wider own2 S1)
  have O12 := Lib.hid (own_below O11.out hb2)
  clear hr2 hq2 own2
  have HB2 := Lib.hid (HB1.out.trans (hb2.mono HB1.out.size))
  have H12 := Lib.hid (H11.out.below hb2 H11.out.lt)
  have H22 := Lib.hid (H21.out.below hb2 H21.out.lt)
  have c222 := H12.out.cell 22
  have c232 := H12.out.cell 23
  have c242 := H12.out.cell 24
  have c192 := H12.out.cell 19
  have f222 := H12.out.free 22
  have f232 := H12.out.free 23
  have f242 := H12.out.free 24
  have f192 := H12.out.free 19
  rw [pkC_22] at c222
  rw [pkC_23] at c232
  rw [pkC_24] at c242
  rw [pkC_19] at c192
  go_simp
  refine hK.out _ _ (fun _ => ⟨c222, c232, c242, c192⟩) ?_
  clear hK K HS
  have HS := And.intro c222 (And.intro c232 (And.intro c242 c192))
  (try simp only [Act.put]); (try simp only [List.setIfInBounds_toArray]); (try simp only [List.set_cons_succ]); (try simp only [List.set_cons_zero])
  refine anyD_ready (rs := [8]) (by kernel_rfl) (by simp) (AllD.cons rfl (fun K hK => ?_) AllD.nil)
  go_simp
  go_at_call 70
  refine (ownP_any p.props h.props.a h.props.c _ (HP.out.next HB2.out).props (by omega)).mono ?_
  rintro e y3 ⟨v3, rfl, own3, hb3⟩
  obtain ⟨A3, q3, rfl, hq3, hr3⟩ := own_rd own3
  have R3 := Lib.hid hr3
  have Q3 := Lib.hid hq3
  have S3 : w.heap.size + 2 ≤ y3.heap.size := Nat.le_trans S2 hb3.size
  have O33 := Lib.hid (own_wider own3 S2)
  have O13 := Lib.hid (own_below O12.out hb3)
  have O23 := Lib.hid (own_below O22.out hb3)
  clear hr3 hq3 own3
  have HB3 := Lib.hid (HB2.out.trans (hb3.mono HB2.out.size))
  have H13 := Lib.hid (H12.out.below hb3 H12.out.lt)
  have H23 := Lib.hid (H22.out.below hb3 H22.out.lt)
  have c223 := H13.out.cell 22
  have c233 := H13.out.cell 23
  have c243 := H13.out.cell 24
  have c193 := H13.out.cell 19
  have f223 := H13.out.free 22
  have f233 := H13.out.free 23
  have f243 := H13.out.free 24
  have f193 := H13.out.free 19
  rw [pkC_22] at c223
  rw [pkC_23] at c233
  rw [pkC_24] at c243
  rw [pkC_19] at c193
  go_simp
  refine hK.out _ _ (fun _ => ⟨c223, c233, c243, c193⟩) ?_
  clear hK K HS
  have HS := And.intro c223 (And.intro c233 (And.intro c243 c193))
  (try simp only [Act.put]); (try simp only [List.setIfInBounds_toArray]); (try simp only [List.set_cons_succ]); (try simp only [List.set_cons_zero])
  refine anyD_ready (rs := [12]) (by kernel_rfl) (by simp) (AllD.cons rfl (fun K hK => ?_) AllD.nil)
  go_simp
  go_at_call 70
  refine (ownP_any p.will.props h.wp.a h.wp.c _ (HP.out.next HB3.out).wp (by omega)).mono ?_
  rintro e y4 ⟨v4, rfl, own4, hb4⟩
  obtain ⟨A4, q4, rfl, hq4, hr4⟩ := own_rd own4
  have R4 := Lib.hid hr4
  have Q4 := Lib.hid hq4
  have S4 : w.heap.size + 2 ≤ y4.heap.size := Nat.le_trans S3 hb4.size
  have O44 := Lib.hid (own_wider own4 S3)
  have O14 := Lib.hid (own_below O13.out hb4)
  have O24 := Lib.hid (own_below O23.out hb4)
  have O34 := Lib.hid (own_below O33.out hb4)
  clear hr4 hq4 own4
  have HB4 := Lib.hid (HB3.out.trans (hb4.mono HB3.out.size))
  have H14 := Lib.hid (H13.out.below hb4 H13.out.lt)
  have H24 := Lib.hid (H23.out.below hb4 H23.out.lt)
  have c224 := H14.out.cell 22
  have c234 := H14.out.cell 23
  have c244 := H14.out.cell 24
  have c194 := H14.out.cell 19
  have f224 := H14.out.free 22
  have f234 := H14.out.free 23
  have f244 := H14.out.free 24
  have f194 := H14.out.free 19
  rw [pkC_22] at c224
  rw [pkC_23] at c234
  rw [pkC_24] at c244
  rw [pkC_19] at c194
  go_simp
  refine hK.out _ _ (fun _ => ⟨c224, c234, c244, c194⟩) ?_
  clear hK K HS
  have HS := And.intro c224 (And.intro c234 (And.intro c244 c194))
  (try simp only [Act.put]); (try simp only [List.setIfInBounds_toArray]); (try simp only [List.set_cons_succ]); (try simp only [List.set_cons_zero])
  refine anyD_ready (rs := [14]) (by kernel_rfl) (by simp) (AllD.cons rfl (fun K hK => ?_) AllD.nil)
  go_simp
  refine hK.out _ _ (fun hn => absurd (hn 14 (by simp)) (by decide)) (anyD_late (d := 14) (by simp) _ _ _ _ (by kernel_rfl) ?_)
  clear hK K HS
  (try simp only [Act.put]); (try simp only [List.setIfInBounds_toArray]); (try simp only [List.set_cons_succ]); (try simp only [List.set_cons_zero])
  obtain ⟨z1, hz1⟩ : ∃ z, y4.setCell ⟨w.heap.size, 22, none⟩ (.slice A1 p.codes.length q1) = z := ⟨_, rfl⟩
  have U1 := H14.out.upd 22 (.slice A1 p.codes.length q1) (cs' := pkC p ⟨h.wp, ⟨A1, q1⟩, h.filters, h.props⟩) rfl
  rw [hz1] at U1 ⊢
  have x1 := U1.cell 23
  rw [pkC_23] at x1
  have g1 := U1.free 23
  have HU1 := Lib.hid U1; have HZ1 := Lib.hid hz1; clear U1 hz1
  refine wpAny_take (i := 15) (v := ?v15) rfl (by kernel_rfl) (by kernel_rfl) (by kernel_rfl) (fun _ _ _ h => h) (Or.inl ⟨by rfl, ?h15⟩) ?r15
  case h15 => intro w'; go_simp; try with_reducible rfl
  (try simp only [Act.put]); (try simp only [List.setIfInBounds_toArray]); (try simp only [List.set_cons_succ]); (try simp only [List.set_cons_zero])
  refine wpAny_ready (rs := [16]) (by kernel_rfl) (by simp) (allShut rfl (fun K hK => ?_) AllReady.nil)
  go_simp
  refine hK.out _ _ ?_
  clear hK K
  (try simp only [Act.put]); (try simp only [List.setIfInBounds_toArray]); (try simp only [List.set_cons_succ]); (try simp only [List.set_cons_zero])
  obtain ⟨z2, hz2⟩ : ∃ z, z1.setCell ⟨w.heap.size, 23, none⟩ (.slice A2 p.filters.length q2) = z := ⟨_, rfl⟩
  have U2 := HU1.out.upd 23 (.slice A2 p.filters.length q2) (cs' := pkC p ⟨h.wp, ⟨A1, q1⟩, ⟨A2, q2⟩, h.props⟩) rfl
  rw [hz2] at U2 ⊢
  have x2 := U2.cell 24
  rw [pkC_24] at x2
  have g2 := U2.free 24
  have HU2 := Lib.hid U2; have HZ2 := Lib.hid hz2; clear U2 hz2
  refine wpAny_take (i := 17) (v := ?v17) rfl (by kernel_rfl) (by kernel_rfl) (by kernel_rfl) (fun _ _ _ h => h) (Or.inl ⟨by rfl, ?h17⟩) ?r17
  case h17 => intro w'; go_simp; try with_reducible rfl
  (try simp only [Act.put]); (try simp only [List.setIfInBounds_toArray]); (try simp only [List.set_cons_succ]); (try simp only [List.set_cons_zero])
  refine wpAny_ready (rs := [18]) (by kernel_rfl) (by simp) (allShut rfl (fun K hK => ?_) AllReady.nil)
  go_simp
  refine hK.out _ _ ?_
  clear hK K
  (try simp only [Act.put]); (try simp only [List.setIfInBounds_toArray]); (try simp only [List.set_cons_succ]); (try simp only [List.set_cons_zero])
  obtain ⟨z3, hz3⟩ : ∃ z, z2.setCell ⟨w.heap.size, 24, none⟩ (.slice A3 p.props.length q3) = z := ⟨_, rfl⟩
  have U3 := HU2.out.upd 24 (.slice A3 p.props.length q3) (cs' := pkC p ⟨h.wp, ⟨A1, q1⟩, ⟨A2, q2⟩, ⟨A3, q3⟩⟩) rfl
  rw [hz3] at U3 ⊢
  have x3 := U3.cell 19
  rw [pkC_19] at x3
  have g3 := U3.free 19
  have HU3 := Lib.hid U3; have HZ3 := Lib.hid hz3; clear U3 hz3
  refine wpAny_take (i := 19) (v := ?v19) rfl (by kernel_rfl) (by kernel_rfl) (by kernel_rfl) (fun _ _ _ h => h) (Or.inl ⟨by rfl, ?h19⟩) ?r19
  case h19 => intro w'; go_simp; try with_reducible rfl
  (try simp only [Act.put]); (try simp only [List.setIfInBounds_toArray]); (try simp only [List.set_cons_succ]); (try simp only [List.set_cons_zero])
  refine wpAny_take (i := 20) (v := ?v20) rfl (by kernel_rfl) (by kernel_rfl) (by kernel_rfl) (fun _ _ _ h => h) (Or.inl ⟨by rfl, ?h20⟩) ?r20
  case h20 => intro w'; go_simp; try with_reducible rfl
  (try simp only [Act.put]); (try simp only [List.setIfInBounds_toArray]); (try simp only [List.set_cons_succ]); (try simp only [List.set_cons_zero])
  refine wpAny_ready (rs := [21]) (by kernel_rfl) (by simp) (allShut rfl (fun K hK => ?_) AllReady.nil)
  go_simp
  refine hK.out _ _ ?_
  clear hK K
  (try simp only [Act.put]); (try simp only [List.setIfInBounds_toArray]); (try simp only [List.set_cons_succ]); (try simp only [List.set_cons_zero])
  refine wpAny_done (by kernel_rfl) ?_ _
  obtain ⟨z, hz⟩ : ∃ z, z3.setCell ⟨w.heap.size, 19, none⟩ (.slice A4 p.will.props.length q4) = z := ⟨_, rfl⟩
  obtain ⟨E1, E2, E3, E4⟩ := own_end HB4.out H14.out H24.out O14.out O24.out O34.out O44.out z (by rw [HZ1.out, HZ2.out, HZ3.out]; exact hz)
  rw [hz]
  have G1 := ld_bk E1
  have G2 := run_stPk E2 p ⟨⟨A4, q4⟩, ⟨A1, q1⟩, ⟨A2, q2⟩, ⟨A3, q3⟩⟩
  have HE2 := Lib.hid (put_bk E2 p ⟨⟨A4, q4⟩, ⟨A1, q1⟩, ⟨A2, q2⟩, ⟨A3, q3⟩⟩); have HE3 := Lib.hid E3; have HE4 := Lib.hid E4
  clear E1 E2 E3 E4 hz
  go_wp2_with fail
  refine bodyPost_ret (results_pk1 rfl _ rfl HE2.out) rfl ?_
  exact ⟨_, rfl, HE3.out, HE4.out⟩
theorem light_lens {p : Pk} (h : lightK p = true) : p.codes.length ≤ 60 ∧ p.filters.length ≤ 60 ∧ p.props.length ≤ 1010 ∧ p.will.props.length ≤ 1010 := by
  unfold lightK lightB at h
  simp only [Bool.and_eq_true, decide_eq_true_eq] at h
  omega
end Go.Proofs.YtmkkjiogokfnmaaGreatDoor

