/- A part of what the laws stand on: PkS, MqL, OpenR. -/
import Derived.Test.YtbahnolmlodcdaaGreatDoorMcPkR
import Derived.Test.YtbahnolmlodcdaaGreatDoorMcOpenK
import Derived.Test.YtbahnolmlodcdaaGreatDoorMcRfM
namespace Go.Proofs.YtbahnolmlodcdaaGreatDoor
open Go.RowKit
attribute [local go_sem ↓] to_ldPk to_bxPk to_bdPk to_alPk to_stPk
attribute [local go_sem] run_bxPk run_bxPk_agg ld_fresh run_alPk run_bd0 run_bdK run_bdKI run_bdKIC run_bdKC run_bdKICP run_stPk_fresh pkC_0 pkC_1 pkC_2 pkC_3 pkC_4 pkC_5 pkC_6 pkC_7 pkC_8 pkC_9 pkC_10 pkC_11 pkC_12 pkC_13 pkC_14 pkC_15 pkC_16 pkC_17 pkC_18 pkC_19 pkC_20 pkC_21 pkC_22 pkC_23 pkC_24
set_option maxHeartbeats 2000000 in
set_option maxRecDepth 10000 in
theorem samePks_any (A A' : Option Addr) (n m c c' : Nat) (L M : List (Pk × Hs)) (w : World) (hl : RdK w A n L) (hm : RdK w A' m M) (ol : ∀ x ∈ L, PkLen x.1) (om : ∀ x ∈ M, PkLen x.1) (hn : n ≤ 4611686018427387904) (hn' : m ≤ 4611686018427387904) :
    Calls Tryz.prog 30 #[.slice A n c, .slice A' m c'] w fun e w' => e = .returned (.bool (decide (L.map Prod.fst = M.map Prod.fst))) ∧ Below w.heap.size w w' := by
  have E1 := Lib.hid hl.len; have E2 := Lib.hid hm.len
  by_cases hlen : n = m
  · subst hlen
    have HL := Lib.hid hl; have HM := Lib.hid hm; have OL := Lib.hid ol; have OM := Lib.hid om
    clear hl hm ol om
    go_enter Tryz.func30, Tryz.ntmps30
    go_wp2
    go_loopw [5] (fun i wr => ∃ k : Nat, k ≤ n ∧ i = .int .i64 k ∧ (∀ j, j < k → (L.map Prod.fst)[j]? = (M.map Prod.fst)[j]?) ∧ Below w.heap.size w wr) (fun i _ => n - (intOf i).toNat)
    case atStart => exact ⟨0, by omega, rfl, fun j hj => by omega, Below.refl _ _⟩
    case round =>
      obtain ⟨k, hk, rfl, hall, hbel⟩ := hrel
      have HA := Lib.hid hall; have HBL := Lib.hid hbel
      clear hall hbel
      by_cases hlt : k < n
      · obtain ⟨bA, oA, p, h, rfl, e1, hb1, l1, i1⟩ := (HL.out.below HBL.out).at hlt
        obtain ⟨bB, oB, q, h', rfl, e2, hb2, l2, i2⟩ := (HM.out.below HBL.out).at hlt
        have LP : Hid (PkLen p) := Lib.hid (OL.out (p, h) (List.mem_of_getElem? e1))
        have LQ : Hid (PkLen q) := Lib.hid (OM.out (q, h') (List.mem_of_getElem? e2))
        have HZ : Hid ((L.map Prod.fst)[k]? = some p) := Lib.hid (by rw [List.getElem?_map, e1]; rfl)
        have HZ' : Hid ((M.map Prod.fst)[k]? = some q) := Lib.hid (by rw [List.getElem?_map, e2]; rfl)
        clear e1 e2 hb1 hb2
        have b1 : (0 : Int) ≤ (k : Int) := by omega
        have b2 : (k : Int) < (n : Int) := by omega
        have q0 := regrown (W := wr) (fun x hx => samePk_any p q h h' x (i1.next hx) (i2.next hx) LP.out LQ.out)
        have g1 := fun d os => l1 _ (below_regrown wr d os)
        have g2 := fun d os => l2 _ (below_regrown wr d os)
        have HBQ := Lib.hid (fun d os => HBL.out.trans ((below_regrown wr d os).mono HBL.out.size))
        have HPQ := Lib.hid (show decide (p = q) = true ↔ p = q from decide_eq_true_iff)
        clear i1 i2 l1 l2
        obtain ⟨B, hB⟩ : ∃ B, decide (p = q) = B := ⟨_, rfl⟩
        rw [hB] at q0 HPQ
        clear hB
        go_wp2_with fail
        refine wp_region_quiet_below (by as_aux_lemma => kernel_rfl) (by as_aux_lemma => kernel_rfl) ?_
        repeat (go_big_quiet_step (first | with_reducible exact q0 _ _))
        refine wpQuiet_nil ?_
        intro _ hw'
        obtain ⟨⟨dq, osq⟩, hw''⟩ := hw'
        subst hw''
        have KF := Lib.hid (HBQ.out dq osq)
        clear q0 g1 g2 HBQ
        generalize Sort.grow (redrawn _ dq) osq = wq at *
        cases B
        · have HNE : Hid (p ≠ q) := Lib.hid (fun e => by have := HPQ.out.2 e; cases this)
          go_wp2
          go_ret
          refine ⟨?_, KF.out⟩
          have : L.map Prod.fst ≠ M.map Prod.fst := by
            intro e
            have := HZ.out.symm.trans ((congrArg (fun l : List Pk => l[k]?) e).trans HZ'.out)
            exact HNE.out (by simpa using this)
          simp [this]
        · have HEQ : Hid (p = q) := Lib.hid (HPQ.out.1 rfl)
          go_wp2
          go_roundw
          case rel =>
            refine ⟨k + 1, by omega, by go_num, fun j hj => ?_, KF.out⟩
            rcases Nat.lt_succ_iff_lt_or_eq.1 hj with h | rfl
            · exact HA.out j h
            · rw [HZ.out, HZ'.out, HEQ.out]
          case measure => simp [intOf]; omega
      · go_wp2
        go_ret
        refine ⟨?_, HBL.out⟩
        have : L.map Prod.fst = M.map Prod.fst := by
          apply List.ext_getElem?
          intro j
          by_cases hj : j < k
          · exact HA.out j hj
          · rw [List.getElem?_eq_none (by rw [List.length_map]; have := E1.out; omega), List.getElem?_eq_none (by rw [List.length_map]; have := E2.out; omega)]
        simp [this]
  · have h1 : ((n : Int) != (m : Int)) = true := by simpa using (by omega : ¬ (n : Int) = (m : Int))
    have HN := Lib.hid hlen
    clear hlen hl hm ol om
    go_enter Tryz.func30, Tryz.ntmps30
    go_wp2
    go_ret
    refine ⟨?_, Below.refl _ _⟩
    have : L.map Prod.fst ≠ M.map Prod.fst := by
      intro e
      have := congrArg List.length e
      rw [List.length_map, List.length_map] at this
      exact HN.out (by rw [← E1.out, ← E2.out]; exact this)
    simp [this]
end Go.Proofs.YtbahnolmlodcdaaGreatDoor

namespace Go.Proofs.YtbahnolmlodcdaaGreatDoor
open Go.RowKit
attribute [local go_sem ↓] to_ldPk to_bxPk to_bdPk to_alPk to_stPk
attribute [local go_sem] run_bxPk run_bxPk_agg ld_fresh run_alPk run_bd0 run_bdK run_bdKI run_bdKIC run_bdKC run_bdKICP run_stPk_fresh pkC_0 pkC_1 pkC_2 pkC_3 pkC_4 pkC_5 pkC_6 pkC_7 pkC_8 pkC_9 pkC_10 pkC_11 pkC_12 pkC_13 pkC_14 pkC_15 pkC_16 pkC_17 pkC_18 pkC_19 pkC_20 pkC_21 pkC_22 pkC_23 pkC_24
attribute [local go_sem ↓] to_bsPk
attribute [local go_sem] run_bsPk
def natE (l : List Nat) : List Int := l.map fun (k : Nat) => (k : Int)
theorem natE_at {l : List Nat} {i : Nat} {z : Int} (h : (natE l)[i]? = some z) : ∃ e, l[i]? = some e ∧ z = (e : Int) := by
  unfold natE at h
  rw [List.getElem?_map] at h
  obtain ⟨e, h1, h2⟩ := Option.map_eq_some_iff.1 h
  exact ⟨e, h1, h2.symm⟩
/-- What stands while packets are gone through: those that are valid so far, where their bytes end. -/
structure LA (v : Int) (w : World) (L : List (Pk × Hs)) (i : Nat) (G : List (Pk × Hs)) (AG : Option Addr) (cG : Nat) (ve : Value) (x : World) : Prop where
  row : RowK w x AG G.length cG G
  ends : x.ownsRow w.heap.size 3 1 ve G.length (iv (natE (endsL v 0 (G.map Prod.fst))))
  good : G.map Prod.fst = goodP v ((L.take i).map Prod.fst)
  mem : ∀ y ∈ G, y ∈ L
  low : Below w.heap.size w x
section
variable {v : Int} {w x y : World} {L G : List (Pk × Hs)} {i : Nat} {AG : Option Addr} {cG : Nat} {ve : Value} {p : Pk} {h : Hs}
theorem LA.start (v : Int) (L : List (Pk × Hs)) (hb : Below w.heap.size w x) : LA v w L 0 [] none 0 (.slice none 0 0) x :=
  ⟨RowK.start _ _, World.ownsRow_nil _ _ _ _, rfl, by simp, hb⟩
theorem LA.below (s : LA v w L i G AG cG ve x) (hb : Below x.heap.size x y) : LA v w L i G AG cG ve y :=
  ⟨s.row.below hb, own_below s.ends hb, s.good, s.mem, s.low.trans (hb.mono s.low.size)⟩
theorem take_snoc {l : List (Pk × Hs)} {i : Nat} {a : Pk × Hs} (h : l[i]? = some a) : (l.take (i + 1)).map Prod.fst = (l.take i).map Prod.fst ++ [a.1] := by
  obtain ⟨hi, rfl⟩ := List.getElem?_eq_some_iff.1 h
  rw [List.take_succ_eq_append_getElem hi, List.map_append]
  rfl
theorem LA.no (s : LA v w L i G AG cG ve x) (hp : L[i]? = some (p, h)) (he : mqE v p ≠ 0) : LA v w L (i + 1) G AG cG ve x :=
  ⟨s.row, s.ends, by rw [take_snoc hp, goodP_no he]; exact s.good, s.mem, s.low⟩
theorem LA.le (s : LA v w L i G AG cG ve x) (hi : i ≤ L.length) : G.length ≤ i := by
  have h1 := congrArg List.length s.good
  rw [List.length_map] at h1
  have h2 : (goodP v ((L.take i).map Prod.fst)).length ≤ ((L.take i).map Prod.fst).length := List.length_filter_le _ _
  rw [List.length_map, List.length_take] at h2
  omega
theorem LA.valid (s : LA v w L i G AG cG ve x) : ∀ p ∈ G.map Prod.fst, mqE v p = 0 := by
  intro p hp
  rw [s.good] at hp
  exact of_decide_eq_true (List.mem_filter.1 hp).2
theorem LA.ok (s : LA v w L i G AG cG ve x) (hL : ∀ y ∈ L, PkOk y.1) : ∀ p ∈ G.map Prod.fst, PkOk p := by
  intro p hp
  obtain ⟨y, hy, rfl⟩ := List.mem_map.1 hp
  exact hL y (s.mem y hy)
end
theorem mqSs_le {v : Int} : ∀ l : List Pk, (∀ p ∈ l, mqE v p = 0) → (mqSs v l).size ≤ l.length * 268435460
  | [], _ => Nat.zero_le _
  | p :: l, h => by
    have h1 := mqSs_le l fun q hq => h q (.tail _ hq)
    have h2 := mqS_le (h p (.head _))
    rw [← ls_len, mqSs_ls] at h1 ⊢
    rw [List.flatMap_cons, List.length_append, ls_len, List.length_cons]
    omega
theorem RdK.take {w : World} {A : Option Addr} {n : Nat} {L : List (Pk × Hs)} (h : RdK w A n L) {k : Nat} (hk : k ≤ n) : RdK w A k (L.take k) :=
  ⟨by rw [← pks_take]; exact h.rd.cut_to hk, fun x hx => h.ins x (List.mem_of_mem_take hx)⟩
theorem iv_snoc (l : List Int) (z : Int) : iv (l ++ [z]) = iv l ++ [.int .i64 z] := by simp [iv]
theorem natE_snoc (l : List Nat) (z : Nat) : natE (l ++ [z]) = natE l ++ [(z : Int)] := by simp [natE]
theorem RowK.ne {w0 w : World} {A : Option Addr} {n c : Nat} {L : List (Pk × Hs)} (h : RowK w0 w A n c L) {base m : Nat} {v : Value} {xs : List Value} (ho : w.ownsRow base 3 1 v m xs) : v.ownBlock = none ∨ v.ownBlock ≠ (Value.slice A n c).ownBlock := by
  rcases h.lies with ⟨rfl, -⟩ | ⟨g, M, rfl, -, h3, -⟩
  · by_cases e : v.ownBlock = none
    · exact .inl e
    · exact .inr e
  · exact .inr (own_ne ho h3 (by decide))
theorem RowK.other {w0 w y : World} {A : Option Addr} {n c : Nat} {L : List (Pk × Hs)} (h : RowK w0 w A n c L) {row : Option Nat} (hm : w.grownBy y row) (hne : ∀ g, A = some ⟨g, 0, none⟩ → row ≠ some g) : RowK w0 y A n c L := by
  refine ⟨h.len, ?_⟩
  rcases h.lies with h1 | ⟨g, M, h1, h2, h3, h4⟩
  · exact .inl h1
  · exact .inr ⟨g, M, h1, h2, (hm.block g h3.lt (fun e => hne g h1 e.symm)).trans h3, h4⟩
theorem RowK.apartI {w0 w : World} {A : Option Addr} {n c : Nat} {L : List (Pk × Hs)} (h : RowK w0 w A n c L) {base m : Nat} {v : Value} {xs : List Value} (ho : w.ownsRow base 3 1 v m xs) : ∀ g, A = some ⟨g, 0, none⟩ → v.ownBlock ≠ some g := by
  rintro g rfl
  rcases h.lies with ⟨h1, -⟩ | ⟨g', M, h1, -, h3, -⟩
  · cases h1
  · cases h1
    exact own_ne ho h3 (by decide)
set_option maxHeartbeats 8000000 in
set_option maxRecDepth 10000 in
theorem mqttAll_any (v : Int) (A : Option Addr) (n c : Nat) (L : List (Pk × Hs)) (cut : Int) (w : World) (hl : RdK w A n L) (ok : ∀ x ∈ L, PkOk x.1) :
    Calls Tryz.prog 5 #[.int .i64 v, .slice A n c, .int .i64 cut] w fun e w' => e = .returned (.bool true) ∧ Below w.heap.size w w' := by
  have HL := Lib.hid hl; have OK := Lib.hid ok; have HLN := Lib.hid hl.len
  clear hl ok
  go_enter Tryz.func5, Tryz.ntmps5
  go_wp2_with fail
  refine (lives13_any _).mono ?_
  rintro e w1 ⟨rfl, hb⟩
  have HB1 := Lib.hid hb; clear hb
  by_cases hn : 12 < n
  · have d1 : (12 : Int) < (n : Int) := by omega
    clear hn
    go_wp2
    go_ret
    exact ⟨rfl, HB1.out⟩
  have d1 : (n : Int) ≤ 12 := by omega
  have HN : Hid (n ≤ 12) := Lib.hid (by omega)
  clear hn
  go_wp2
  go_loopw [7, 8, 9, 10] (fun sv gv ev zv wr => ∃ (i : Nat) (G : List (Pk × Hs)) (AG : Option Addr) (cG : Nat), i ≤ n ∧ sv = .string (mqSs v (G.map Prod.fst)) ∧ gv = .slice AG G.length cG ∧ zv = .int .i64 i ∧ LA v w L i G AG cG ev wr) (fun _ _ _ zv _ => n - (intOf zv).toNat)
  case atStart => exact ⟨0, [], none, 0, Nat.zero_le _, rfl, rfl, rfl, LA.start v L HB1.out⟩
  case round =>
    obtain ⟨i, G, AG, cG, hi, rfl, rfl, rfl, hLA⟩ := hrel
    have S0 := Lib.hid hLA; have HI := Lib.hid hi
    clear hLA
    by_cases hlt : i < n
    · obtain ⟨b, o, p, h, rfl, e1, hb1, l1, i1⟩ := (HL.out.below S0.out.low).at hlt
      have HP := Lib.hid (OK.out (p, h) (List.mem_of_getElem? e1))
      have HM := Lib.hid (List.mem_of_getElem? e1)
      have HE1 := Lib.hid e1; have HI1 := Lib.hid i1; have HL1 := Lib.hid l1
      have hl := l1 wr (Below.refl _ _)
      have b1 : (0 : Int) ≤ (i : Int) := by omega
      have b2 : (i : Int) < (n : Int) := by omega
      clear e1 i1 l1 hb1
      go_wp2_with fail
      refine (lightK_any p h _ HI1.out HP.out).mono ?_
      rintro e w2 ⟨rfl, hb⟩
      have S1 := Lib.hid (S0.out.below hb); have HI2 := Lib.hid (HI1.out.next hb)
      have hl2 := HL1.out w2 hb
      have HB2 := Lib.hid hb
      clear hb hl
      cases hL : lightK p
      · go_wp2
        go_ret
        exact ⟨rfl, S1.out.low⟩
      have HZ := Lib.hid (fit_of_light v hL)
      clear hL
      go_wp2_with fail
      refine (mqBytes_any v p h _ HI2.out HP.out HZ.out).mono ?_
      rintro e w3 ⟨rfl, hb⟩
      have S2 := Lib.hid (S1.out.below hb); have HI3 := Lib.hid (HI2.out.next hb)
      have hl3 := HL1.out w3 (HB2.out.trans (hb.mono HB2.out.size))
      clear hb hl2 HB2
      rw [mqB_e]
      by_cases hE : mqE v p = 0
      rotate_left
      · have S3 := Lib.hid (S2.out.no HE1.out hE)
        generalize mqE v p = E at *
        have e0 : (E == 0) = false := beq_eq_false_iff_ne.2 hE
        clear hE
        go_wp2
        go_roundw
        case rel => exact ⟨i + 1, G, AG, cG, by omega, rfl, rfl, by go_num, S3.out⟩
        case measure => simp [intOf]; omega
      have hA : (mqB v p).1 = mqS v p := by unfold mqB; rw [if_pos hE]
      have HSN : Hid (mqSs v (G.map Prod.fst) ++ mqS v p = mqSs v ((G ++ [(p, h)]).map Prod.fst)) := Lib.hid (by rw [List.map_append]; exact (mqSs_snoc v (G.map Prod.fst) p).symm)
      have HGL : Hid (G.length ≤ 12) := Lib.hid (by have := S2.out.le (i := i) (by have := HLN.out; omega); have := HN.out; omega)
      have HXS : Hid ((mqSs v (G.map Prod.fst)).size ≤ 12 * 268435460) := Lib.hid (by
        have h1 := mqSs_le (v := v) (G.map Prod.fst) S2.out.valid
        rw [List.length_map] at h1
        exact Nat.le_trans h1 (Nat.mul_le_mul_right _ HGL.out))
      have HYS := Lib.hid (mqS_le hE)
      have hsm : ¬ (9223372036854775807 < (mqSs v (G.map Prod.fst)).size + (mqS v p).size) := by have := HXS.out; have := HYS.out; omega
      have HGD : Hid ((G ++ [(p, h)]).map Prod.fst = goodP v ((L.take (i + 1)).map Prod.fst)) := Lib.hid (by rw [take_snoc HE1.out, goodP_yes hE, ← S2.out.good, List.map_append]; rfl)
      have HEN : Hid (natE (endsL v 0 ((G ++ [(p, h)]).map Prod.fst)) = natE (endsL v 0 (G.map Prod.fst)) ++ [((mqSs v (G.map Prod.fst) ++ mqS v p).size : Int)]) := Lib.hid (by
        rw [HSN.out, List.map_append]
        show natE (endsL v 0 (G.map Prod.fst ++ [p])) = natE (endsL v 0 (G.map Prod.fst)) ++ [((mqSs v (G.map Prod.fst ++ [p])).size : Int)]
        rw [endsL_snoc, Nat.zero_add, natE_snoc])
      rw [hE, hA]
      clear hE hA S0 S1 HI1 HI2 HL1 HZ
      have R3 := Lib.hid (rd_pk1 w3 p h (g := w3.heap.size) rfl)
      have S4 := Lib.hid (S2.out.below ((Below.refl _ _).alloc (Nat.le_refl _) (.cells (pkC p h) PkT)))
      go_upto_region 16 with (at_builtin; refine wpList_appK rfl (.tmp 53) (.tmp 58) rfl (w0 := w) (A := AG) (n := G.length) (c := cG) (L := G) rfl S4.out.row S4.out.low.size _ [(p, h)] 1 1 _ rfl rfl (by decide) R3.out (by have := HGL.out; omega) ?_; intro g c' w4 hrow hgr hat hlt4)
      generalize mqSs v (G.map Prod.fst) ++ mqS v p = XY at *
      have O4 := Lib.hid (World.ownsRow.kept S4.out.ends hgr (S4.out.row.ne S4.out.ends))
      have B4 := Lib.hid (below_app S4.out.low hgr S4.out.low.size (fun g hg => (S4.out.row.own hg).1))
      have W4 := Lib.hid hrow
      have M4 : Hid (∀ y ∈ G ++ [(p, h)], y ∈ L) := Lib.hid (fun y hy => (List.mem_append.1 hy).elim (S4.out.mem y) (fun h => by rw [List.mem_singleton.1 h]; exact HM.out))
      have HLG : Hid (G.length ≤ 12) := Lib.hid HGL.out
      clear hrow hgr hat hlt4 S2 S4 R3 HXS HYS
      have O5 := Lib.hid (World.ownsRow.alloc O4.out (.cells #[.int .i64 (XY.size : Int)] 3))
      have B5 := Lib.hid (B4.out.alloc B4.out.size (.cells #[.int .i64 (XY.size : Int)] 3))
      have W5 := Lib.hid (W4.out.below ((Below.refl _ _).alloc (Nat.le_refl _) (.cells #[.int .i64 (XY.size : Int)] 3)))
      have R5 := Lib.hid (Rd.lit w4 #[.int .i64 (XY.size : Int)] 3 (g := w4.heap.size) (B := w4.heap.size + 1) (xs := [.int .i64 (XY.size : Int)]) rfl (Nat.lt_succ_self _) rfl)
      clear O4 B4 W4
      go_upto_region 10 with (at_builtin; refine wpList_app _ rfl (.tmp 60) (.tmp 63) 26 rfl w.heap.size 3 _ 1 8 Tryz.underlying26 info_int rfl (by decide) u9 G.length _ rfl O5.out _ _ 1 1 [.int .i64 (XY.size : Int)] rfl R5.out (by intro u hu; simp at hu; subst hu; rfl) (by have := HLG.out; unfold maxLen; omega) (by have := HLG.out; omega) B5.out.size ?_; intro v' w6 hown6 hg6 hat6)
      obtain ⟨A6, c6, rfl, hcap, hrd⟩ := own_rd hown6
      have S6 : Hid (LA v w L (i + 1) (G ++ [(p, h)]) (some ⟨g, 0, none⟩) c' (.slice A6 (G.length + 1) c6) w6) := Lib.hid ⟨by
        rw [List.length_append]
        exact W5.out.other hg6 (W5.out.apartI O5.out), by
        rw [List.length_append, HEN.out, iv_snoc]
        exact hown6, HGD.out, M4.out, below_app B5.out hg6 B5.out.size (fun g hg => (own_block O5.out g hg).1)⟩
      clear hown6 hg6 hat6 hcap hrd O5 B5 W5 R5
      go_wp2
      go_roundw
      case rel => exact ⟨i + 1, G ++ [(p, h)], some ⟨g, 0, none⟩, c', by omega, by rw [HSN.out], by rw [List.length_append]; rfl, by go_num, S6.out⟩
      case measure => simp [intOf]; omega
    · obtain rfl : i = n := by omega
      have HGD : Hid (G.map Prod.fst = goodP v (L.map Prod.fst)) := Lib.hid (by have := S0.out.good; rwa [List.take_of_length_le (by have := HLN.out; omega)] at this)
      have HGL : Hid (G.length ≤ 12) := Lib.hid (by have := S0.out.le (i := i) (by have := HLN.out; omega); have := HN.out; omega)
      have HVA := Lib.hid S0.out.valid
      have HOG := Lib.hid (S0.out.ok OK.out)
      clear hlt
      go_wp2_with fail
      refine (refVersion_any v _).mono ?_
      rintro e w2 ⟨rfl, rfl⟩
      cases hv : hdKnown v
      · have HG0 : G = [] := by
          have := HGD.out
          rw [goodP_none hv] at this
          exact List.map_eq_nil_iff.1 this
        subst HG0
        have C := Lib.hid (mqAll_any v ⟨#[]⟩ wr (by decide))
        rw [mqAll_none hv] at C
        have HLOW := Lib.hid S0.out.low
        clear hv HGD HGL HVA HOG S0
        go_wp2_with fail
        refine C.out.mono ?_
        rintro e w3 hO
        obtain ⟨A', n', c', M, rfl, -, -, hb, -, -⟩ := hO
        have HB3 := Lib.hid (HLOW.out.trans (hb.mono HLOW.out.size))
        clear hb C HLOW
        simp only at HB3 ⊢
        go_wp2
        go_ret
        exact ⟨rfl, HB3.out⟩
      have HALLV : Hid (∀ q ∈ G.map Prod.fst, mqE v q = 0 ∧ (∀ r ∈ q.props, r.n < 4294967296) ∧ (∀ r ∈ q.will.props, r.n < 4294967296)) := Lib.hid (fun q hq => ⟨HVA.out q hq, fun r hr => ((HOG.out q hq).props r hr).1, fun r hr => ((HOG.out q hq).wp r hr).1⟩)
      have HXS : Hid ((mqSs v (G.map Prod.fst)).size ≤ 12 * 268435460) := Lib.hid (by
        have h1 := mqSs_le (v := v) (G.map Prod.fst) HVA.out
        rw [List.length_map] at h1
        exact Nat.le_trans h1 (Nat.mul_le_mul_right _ HGL.out))
      have HCUT := Lib.hid (fun (k : Nat) => mqAll_cut hv HALLV.out k)
      have HFL := Lib.hid (fun k => frN_le v (G.map Prod.fst) k)
      have HLD := Lib.hid (fun k => lead_ends v k (G.map Prod.fst) 0 (Nat.zero_le k))
      have HEL := Lib.hid (endsL_len v (G.map Prod.fst) 0)
      have HROW := Lib.hid S0.out.row; have HLOW := Lib.hid S0.out.low; have HMEM := Lib.hid S0.out.mem
      have hown := S0.out.ends
      simp only [List.length_map, Nat.sub_zero, Nat.zero_add] at HFL HLD HEL
      obtain ⟨AE, cE, rfl, hcE, hrE⟩ := own_rd hown
      have HRE := Lib.hid hrE
      clear hv HALLV HVA hown hcE hrE S0 HGD
      generalize mqSs v (G.map Prod.fst) = X at *
      generalize endsL v 0 (G.map Prod.fst) = E at *
      have hpk := pickN_lt cut (m := (X.size : Int) + 1) (by omega)
      have HPA := Lib.hid (pick_any cut ((X.size : Int) + 1) wr (by have := HXS.out; omega))
      obtain ⟨k, hk⟩ : ∃ k : Nat, pickN cut ((X.size : Int) + 1) = k := ⟨(pickN cut ((X.size : Int) + 1)).toNat, by omega⟩
      rw [hk] at HPA hpk
      have HKX : Hid (k ≤ X.size) := Lib.hid (by omega)
      have HC2 := Lib.hid (HCUT.out k)
      have HL2 := Lib.hid (HLD.out k); have HF2 := Lib.hid (HFL.out k)
      obtain ⟨⟨N, Z⟩, hNZ⟩ : ∃ r, frN v (G.map Prod.fst) k = r := ⟨_, rfl⟩
      rw [hNZ] at HC2 HL2 HF2
      dsimp only at HC2 HL2 HF2
      have hx1 : (X.size : Int) < 9223372036854775807 := by have := HXS.out; omega
      clear hk hpk hNZ HCUT HLD HFL
      go_wp2_with fail
      refine HPA.out.mono ?_
      rintro e w3 ⟨rfl, rfl⟩
      clear hx1 HPA
      go_wp2
      go_loopw [17, 18] (fun nv zv wx => ∃ (j z : Nat), nv = .int .i64 j ∧ zv = .int .i64 z ∧ j ≤ G.length ∧ j ≤ N ∧ lead k (E.drop j) z = (N - j, Z) ∧ wr = wx) (fun nv _ _ => G.length - (intOf nv).toNat)
      case atStart => exact ⟨0, 0, rfl, rfl, Nat.zero_le _, Nat.zero_le _, by rw [List.drop_zero, HL2.out]; rfl, rfl⟩
      case round =>
        obtain ⟨j, z, rfl, rfl, hj, hjN, hld, rfl⟩ := hrel
        have HJN := Lib.hid hjN; have HLJ := Lib.hid hld; have HJ := Lib.hid hj
        clear hjN hld
        by_cases hlt : j < G.length
        · obtain ⟨b, o, y, rfl, hbb, hy, hcl⟩ := HRE.out.atI hlt
          obtain ⟨e, he, rfl⟩ := natE_at hy
          have HST := Lib.hid (lead_drop k (z := z) he)
          have b1 : (0 : Int) ≤ (j : Int) := by omega
          have b2 : (j : Int) < (G.length : Int) := by omega
          clear hy hbb
          by_cases hle : e ≤ k
          · have d3 : (e : Int) ≤ (k : Int) := by omega
            have HL3 : Hid (j + 1 ≤ N ∧ lead k (E.drop (j + 1)) e = (N - (j + 1), Z)) := Lib.hid (by
              have h1 := HST.out
              rw [if_pos hle, HLJ.out] at h1
              have h2 := congrArg Prod.fst h1
              have h3 := congrArg Prod.snd h1
              dsimp only at h2 h3
              exact ⟨by omega, Prod.ext (by dsimp only; omega) h3.symm⟩)
            have hj1 : wrap64 ((j : Int) + 1) = ((j + 1 : Nat) : Int) := by have := HGL.out; unfold wrap64; omega
            clear hle he
            go_wp2
            go_roundw
            case rel => exact ⟨j + 1, e, by rw [hj1], rfl, by omega, HL3.out.1, HL3.out.2, by first | rfl | trivial⟩
            case measure =>
              rw [hj1]
              simp only [intOf, Int.toNat_natCast]
              omega
          have d3 : (k : Int) < (e : Int) := by omega
          have HEX : Hid (N = j ∧ Z = z) := Lib.hid (by
            have h1 := HST.out
            rw [if_neg hle, HLJ.out] at h1
            have h2 := congrArg Prod.fst h1
            have h3 := congrArg Prod.snd h1
            dsimp only at h2 h3
            have := HJN.out
            exact ⟨by omega, h3⟩)
          clear hle he
          have HEX2 := Lib.hid (And.intro HEX.out.1 HEX.out.2)
          obtain ⟨rfl, rfl⟩ := HEX2.out
          have HSZ : Hid ((X.extract 0 k).size ≤ 10000000000) := Lib.hid (by rw [ByteArray.size_extract]; have := HXS.out; omega)
          have C := Lib.hid (mqAll_any v (X.extract 0 k) wr HSZ.out)
          rw [HC2.out] at C
          have v1 : (0 : Int) ≤ (k : Int) := by omega
          have v2 : (k : Int) ≤ (X.size : Int) := by have := HKX.out; omega
          have hsl := fun W => run_to (P := Tryz.prog) (t := 48) (e := PkT) (s := 25) Tryz.underlying48 size_pk AG G.length cG N (Nat.le_trans HJ.out HROW.out.cap) W
          go_wp2_with fail
          refine C.out.mono ?_
          rintro e w3 hO
          obtain ⟨A', n', c', M, rfl, hR, hm, hb, -, hnn⟩ := hO
          have HRM := Lib.hid hR; have HMM := Lib.hid hm; have HNN := Lib.hid hnn
          have HB3 := Lib.hid (HLOW.out.trans (hb.mono HLOW.out.size))
          have HRG : Hid (RdK w3 AG G.length G) := Lib.hid ⟨(HROW.out.below hb).rd, fun x hx => ((HL.out.below HB3.out).ins x (HMEM.out x hx))⟩
          have HMG : Hid (M.map Prod.fst = (G.take N).map Prod.fst) := Lib.hid (by rw [List.map_take]; exact HMM.out)
          have HLNM : Hid (∀ x ∈ M, PkLen x.1) := Lib.hid (fun x hx => (HOG.out x.1 (by
            have h1 : x.1 ∈ M.map Prod.fst := List.mem_map_of_mem hx
            rw [HMG.out, List.map_take] at h1
            exact List.mem_of_mem_take h1)).len)
          have HLNG : Hid (∀ x ∈ G.take N, PkLen x.1) := Lib.hid (fun x hx => (HOG.out x.1 (List.mem_map_of_mem (List.mem_of_mem_take hx))).len)
          have C2 := Lib.hid (samePks_any A' AG n' N c' cG M (G.take N) w3 HRM.out (HRG.out.take HJ.out) HLNM.out HLNG.out (by have := HNN.out; omega) (by have := HGL.out; have := HJ.out; omega))
          rw [decide_eq_true HMG.out] at C2
          clear hR hm hb hnn C v1 v2
          simp only
          go_wp2_with fail
          refine C2.out.mono ?_
          rintro e w4 ⟨rfl, hb⟩
          have HB4 := Lib.hid (HB3.out.trans (hb.mono HB3.out.size))
          clear hb C2
          go_wp2
          go_ret
          exact ⟨rfl, HB4.out⟩
        · have HEX : Hid (N = j ∧ Z = z) := Lib.hid (by
            have h1 := lead_end k (E := E) (n := j) (z := z) (by have := HEL.out; omega)
            rw [HLJ.out] at h1
            have h2 := congrArg Prod.fst h1
            have h3 := congrArg Prod.snd h1
            dsimp only at h2 h3
            have := HJN.out
            exact ⟨by omega, h3⟩)
          have b2 : (G.length : Int) ≤ (j : Int) := by omega
          have HEX2 := Lib.hid (And.intro HEX.out.1 HEX.out.2)
          obtain ⟨rfl, rfl⟩ := HEX2.out
          have HSZ : Hid ((X.extract 0 k).size ≤ 10000000000) := Lib.hid (by rw [ByteArray.size_extract]; have := HXS.out; omega)
          have C := Lib.hid (mqAll_any v (X.extract 0 k) wr HSZ.out)
          rw [HC2.out] at C
          have v1 : (0 : Int) ≤ (k : Int) := by omega
          have v2 : (k : Int) ≤ (X.size : Int) := by have := HKX.out; omega
          have hsl := fun W => run_to (P := Tryz.prog) (t := 48) (e := PkT) (s := 25) Tryz.underlying48 size_pk AG G.length cG N (Nat.le_trans HJ.out HROW.out.cap) W
          go_wp2_with fail
          refine C.out.mono ?_
          rintro e w3 hO
          obtain ⟨A', n', c', M, rfl, hR, hm, hb, -, hnn⟩ := hO
          have HRM := Lib.hid hR; have HMM := Lib.hid hm; have HNN := Lib.hid hnn
          have HB3 := Lib.hid (HLOW.out.trans (hb.mono HLOW.out.size))
          have HRG : Hid (RdK w3 AG G.length G) := Lib.hid ⟨(HROW.out.below hb).rd, fun x hx => ((HL.out.below HB3.out).ins x (HMEM.out x hx))⟩
          have HMG : Hid (M.map Prod.fst = (G.take N).map Prod.fst) := Lib.hid (by rw [List.map_take]; exact HMM.out)
          have HLNM : Hid (∀ x ∈ M, PkLen x.1) := Lib.hid (fun x hx => (HOG.out x.1 (by
            have h1 : x.1 ∈ M.map Prod.fst := List.mem_map_of_mem hx
            rw [HMG.out, List.map_take] at h1
            exact List.mem_of_mem_take h1)).len)
          have HLNG : Hid (∀ x ∈ G.take N, PkLen x.1) := Lib.hid (fun x hx => (HOG.out x.1 (List.mem_map_of_mem (List.mem_of_mem_take hx))).len)
          have C2 := Lib.hid (samePks_any A' AG n' N c' cG M (G.take N) w3 HRM.out (HRG.out.take HJ.out) HLNM.out HLNG.out (by have := HNN.out; omega) (by have := HGL.out; have := HJ.out; omega))
          rw [decide_eq_true HMG.out] at C2
          clear hR hm hb hnn C v1 v2
          simp only
          go_wp2_with fail
          refine C2.out.mono ?_
          rintro e w4 ⟨rfl, hb⟩
          have HB4 := Lib.hid (HB3.out.trans (hb.mono HB3.out.size))
          clear hb C2
          go_wp2
          go_ret
          exact ⟨rfl, HB4.out⟩
end Go.Proofs.YtbahnolmlodcdaaGreatDoor

namespace Go.Proofs.YtbahnolmlodcdaaGreatDoor
open Go.ChangeShapes Go.WideShapes Go.ChangeAt Go.RowKit Go.Deep
set_option maxRecDepth 100000
instance : Inhabited (Pk × Hs) := ⟨(pk0, hs0)⟩
section
variable {H : Type} {enc : TypeId × Value → H} {w : World} {base : Nat} {spare : Nat → Bool} {held : Bool}
theorem open_packets {r : Reach} {b0 : Nat} {v : Value} {d : DataW H} {ps : List MemPlace} (hval : Value.okWide Tryz.prog w r b0 48 v) (hd : DataW.Trod enc Tryz.prog w base spare held 48 v d ps) (hs : Sized Tryz.prog 48 d) (hlt : ∀ x ∈ ps, x.block < w.heap.size) :
    ∃ (A : Option Addr) (L : List (Pk × Hs)) (c : Nat), v = .slice A L.length c ∧ RdK w A L.length L ∧ ∀ x ∈ L, PkOk x.1 := by
  obtain ⟨a, len, cap, rfl⟩ := okWide_slice Tryz.underlying48 hval
  obtain ⟨fuel, hf⟩ := hd
  obtain ⟨A, L, c, h1, h2, h3, -⟩ := open_rows (X := Pk × Hs) (k := 25) (fun x => (pkC x.1 x.2).toList) pkl_len (by omega) Tryz.underlying48 (by kernel_rfl) (fun x => PkIn w w.heap.size x.1 x.2 ∧ PkOk x.1)
    (fun n cs D Pl h hs hl => by obtain ⟨p, k, e, hi, ho⟩ := open_pkC h hs hl; exact ⟨(p, k), e, hi, ho⟩) hf hs hlt
  simp [Value.cells] at h1
  obtain ⟨rfl, rfl, rfl⟩ := h1
  exact ⟨a, L, cap, rfl, ⟨h2, fun x hx => (h3 x hx).1⟩, fun x hx => (h3 x hx).2⟩
end
end Go.Proofs.YtbahnolmlodcdaaGreatDoor

