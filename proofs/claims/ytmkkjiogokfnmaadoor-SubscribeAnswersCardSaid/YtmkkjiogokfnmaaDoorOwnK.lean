/- kit: a packet in memory of its own. -/
import Derived.Test.YtmkkjiogokfnmaaDoorMAck
import Derived.Test.YtmkkjiogokfnmaaDoorMReaB
import Derived.Test.YtmkkjiogokfnmaaDoorPubD
import Derived.Deep.RegionLaw
import Derived.Test.YtmkkjiogokfnmaaDoorOrdD
namespace Go.Proofs.YtmkkjiogokfnmaaDoor
open Go.RowKit
attribute [local go_sem ↓] to_ldPk to_bxPk to_bdPk to_alPk to_stPk
attribute [local go_sem] run_bxPk run_bxPk_agg ld_fresh run_alPk run_bd0 run_bdK run_bdKI run_bdKIC run_bdKC run_bdKICP run_stPk_fresh pkC_0 pkC_1 pkC_2 pkC_3 pkC_4 pkC_5 pkC_6 pkC_7 pkC_8 pkC_9 pkC_10 pkC_11 pkC_12 pkC_13 pkC_14 pkC_15 pkC_16 pkC_17 pkC_18 pkC_19 pkC_20 pkC_21 pkC_22 pkC_23 pkC_24

theorem iv_one (l : List Int) : ∀ u ∈ iv l, u.oneCell' = true := by
  intro u hu
  obtain ⟨z, -, rfl⟩ := List.mem_map.1 hu
  rfl
theorem fis_one (l : List Fi) : ∀ u ∈ fis l, u.oneCell' = true := by
  intro u hu
  obtain ⟨f, -, hf⟩ := List.mem_flatMap.1 hu
  simp only [fiC, List.mem_cons, List.not_mem_nil, or_false] at hf
  obtain rfl | rfl | rfl | rfl | rfl := hf <;> rfl
theorem info_filter : (Tryd.prog.info? 35).map (fun i => (i.zero, i.size, i.bytes)) = some (some (.agg #[.string ⟨#[]⟩, .int .i64 0, .bool false, .bool false, .int .i64 0]), 5, 40) := by kernel_rfl
set_option maxHeartbeats 400000 in
set_option maxRecDepth 10000 in
theorem ownF_any (l : List Fi) (A : Option Addr) (c : Nat) (w : World) (h : Rd w w.heap.size 5 A l.length (fis l)) (hl : l.length ≤ 1000000) :
    Calls Tryd.prog 10 #[.slice A l.length c] w fun e w' => ∃ v, e = .returned v ∧ w'.ownsRow w.heap.size 35 5 v l.length (fis l) ∧ Below w.heap.size w w' := by
  have H := Lib.hid h; clear h
  go_enter Tryd.func10, Tryd.ntmps10
  go_wp2_with (at_builtin; refine wpList_app _ rfl (.tmp 3) (.tmp 4) 30 rfl w.heap.size 35 _ 5 40 Tryd.underlying30 info_filter rfl (by decide) (.slice (some ⟨w.heap.size, 0, none⟩) 0 0) 0 [] rfl (own_empty w w.heap.size _ 5 (Nat.le_refl _)) _ _ _ _ (fis l) rfl (H.out.alloc (Nat.le_refl _) _) (fis_one _) (by unfold maxLen; omega) (by omega) (by simp) ?_; intro v' w3 hown3 hg3 hat3)
  go_ret
  refine ⟨v', rfl, by simpa using hown3, below_app ((Below.refl _ _).alloc (Nat.le_refl _) _) hg3 (by simp) (fun g hg => ?_)⟩
  have : w.heap.size = g := by simpa [Value.ownBlock] using hg
  omega



theorem own_rdS {w : World} {base : Nat} {e : TypeId} {k c : Nat} {A : Option Addr} {n : Nat} {xs : List Value} (h : w.ownsRow base e k (.slice A n c) n xs) : n ≤ c ∧ Rd w w.heap.size k A n xs := by
  obtain ⟨A', c', he, hc, hr⟩ := own_rd h
  cases he
  exact ⟨hc, hr⟩
theorem own_put {w : World} {base g : Nat} {e : TypeId} {k : Nat} {v : Value} {n : Nat} {xs : List Value} (h : w.ownsRow base e k v n xs) (hg : g < base) (q : Pk) (k' : Hs) : (putPk w g q k').ownsRow base e k v n xs :=
  h.kept (putPk_mods w g q k') (.inr fun he => by have := own_block h _ he; omega)
theorem own_end {p : Pk} {h : Hs} {w y : World} {t1 t2 t3 : TypeId} {A1 A2 A3 A4 : Option Addr} {q1 q2 q3 q4 : Nat} (hB : Below w.heap.size w y) (h1 : Bk y w.heap.size PkT (pkC p h)) (h2 : Bk y (w.heap.size + 1) PkT (pkC pk0 hs0))
    (o1 : y.ownsRow (w.heap.size + 2) t1 1 (.slice A1 p.codes.length q1) p.codes.length (iv p.codes)) (o2 : y.ownsRow (w.heap.size + 2) t2 5 (.slice A2 p.filters.length q2) p.filters.length (fis p.filters))
    (o3 : y.ownsRow (w.heap.size + 2) t3 4 (.slice A3 p.props.length q3) p.props.length (prs p.props)) (o4 : y.ownsRow (w.heap.size + 2) t3 4 (.slice A4 p.will.props.length q4) p.will.props.length (prs p.will.props))
    (z : World) (hz : (((y.setCell ⟨w.heap.size, 22, none⟩ (.slice A1 p.codes.length q1)).setCell ⟨w.heap.size, 23, none⟩ (.slice A2 p.filters.length q2)).setCell ⟨w.heap.size, 24, none⟩ (.slice A3 p.props.length q3)).setCell ⟨w.heap.size, 19, none⟩ (.slice A4 p.will.props.length q4) = z) :
    Bk z w.heap.size PkT (pkC p ⟨⟨A4, q4⟩, ⟨A1, q1⟩, ⟨A2, q2⟩, ⟨A3, q3⟩⟩) ∧ Bk z (w.heap.size + 1) PkT (pkC pk0 hs0) ∧
    PkIn (putPk z (w.heap.size + 1) p ⟨⟨A4, q4⟩, ⟨A1, q1⟩, ⟨A2, q2⟩, ⟨A3, q3⟩⟩) (putPk z (w.heap.size + 1) p ⟨⟨A4, q4⟩, ⟨A1, q1⟩, ⟨A2, q2⟩, ⟨A3, q3⟩⟩).heap.size p ⟨⟨A4, q4⟩, ⟨A1, q1⟩, ⟨A2, q2⟩, ⟨A3, q3⟩⟩ ∧
    Below w.heap.size w (putPk z (w.heap.size + 1) p ⟨⟨A4, q4⟩, ⟨A1, q1⟩, ⟨A2, q2⟩, ⟨A3, q3⟩⟩) := by
  have b : ∀ i, w.heap.size + 1 ≠ (⟨w.heap.size, i, none⟩ : Addr).block := fun i => by show w.heap.size + 1 ≠ w.heap.size; omega
  have l : ∀ i, (⟨w.heap.size, i, none⟩ : Addr).block < w.heap.size + 2 := fun i => by show w.heap.size < w.heap.size + 2; omega
  have e1 := (((h1.upd 22 _ rfl).upd 23 _ rfl).upd 24 _ rfl).upd 19 (.slice A4 p.will.props.length q4) (cs' := pkC p ⟨⟨A4, q4⟩, ⟨A1, q1⟩, ⟨A2, q2⟩, ⟨A3, q3⟩⟩) rfl
  have e2 := (((h2.other (b 22) (.slice A1 p.codes.length q1)).other (b 23) (.slice A2 p.filters.length q2)).other (b 24) (.slice A3 p.props.length q3)).other (b 19) (.slice A4 p.will.props.length q4)
  have e3 : Below w.heap.size w ((((y.setCell ⟨w.heap.size, 22, none⟩ (.slice A1 p.codes.length q1)).setCell ⟨w.heap.size, 23, none⟩ (.slice A2 p.filters.length q2)).setCell ⟨w.heap.size, 24, none⟩ (.slice A3 p.props.length q3)).setCell ⟨w.heap.size, 19, none⟩ (.slice A4 p.will.props.length q4)) :=
    Below.setCell (Below.setCell (Below.setCell (Below.setCell hB (Nat.le_refl _) _) (Nat.le_refl _) _) (Nat.le_refl _) _) (Nat.le_refl _) _
  have ow : ∀ {e : TypeId} {k : Nat} {v : Value} {n : Nat} {xs : List Value}, y.ownsRow (w.heap.size + 2) e k v n xs → z.ownsRow (w.heap.size + 2) e k v n xs := fun h => by
    rw [← hz]
    exact ownsRow_setCell_below (ownsRow_setCell_below (ownsRow_setCell_below (ownsRow_setCell_below h (l 22) _) (l 23) _) (l 24) _) (l 19) _
  rw [hz] at e1 e2 e3
  obtain ⟨c1, r1⟩ := own_rdS (own_put (ow o1) (by omega : w.heap.size + 1 < _) p ⟨⟨A4, q4⟩, ⟨A1, q1⟩, ⟨A2, q2⟩, ⟨A3, q3⟩⟩)
  obtain ⟨c2, r2⟩ := own_rdS (own_put (ow o2) (by omega : w.heap.size + 1 < _) p ⟨⟨A4, q4⟩, ⟨A1, q1⟩, ⟨A2, q2⟩, ⟨A3, q3⟩⟩)
  obtain ⟨c3, r3⟩ := own_rdS (own_put (ow o3) (by omega : w.heap.size + 1 < _) p ⟨⟨A4, q4⟩, ⟨A1, q1⟩, ⟨A2, q2⟩, ⟨A3, q3⟩⟩)
  obtain ⟨c4, r4⟩ := own_rdS (own_put (ow o4) (by omega : w.heap.size + 1 < _) p ⟨⟨A4, q4⟩, ⟨A1, q1⟩, ⟨A2, q2⟩, ⟨A3, q3⟩⟩)
  exact ⟨e1, e2, ⟨r4, r1, r2, r3, c4, c1, c2, c3⟩, below_put e3 e3.size (by omega) _ _⟩
/-- A copy of a packet, its lists in memory of their own. -/
def OwnOut (p : Pk) (w : World) (e : Ending) (w' : World) : Prop := ∃ k, e = .returned (pkV p k) ∧ PkIn w' w'.heap.size p k ∧ Below w.heap.size w w'
theorem light_lens {p : Pk} (h : lightK p = true) : p.codes.length ≤ 60 ∧ p.filters.length ≤ 60 ∧ p.props.length ≤ 1010 ∧ p.will.props.length ≤ 1010 := by
  unfold lightK lightB at h
  simp only [Bool.and_eq_true, decide_eq_true_eq] at h
  omega
end Go.Proofs.YtmkkjiogokfnmaaDoor
