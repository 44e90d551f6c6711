/-
  The reference's registry, walked: its state in memory; New, Topics, Len.
-/
import Derived.Test.YtjbpafkdbfbdlaaGreatRegS
import Derived.Test.YtjbpafkdbfbdlaaGreatRwC

namespace Go.Proofs.YtjbpafkdbfbdlaaGreat
open Go.RowKit Go.Maps Go.WideShapes
/-- The reference's registry by what it has; K: a bound. -/
def RfSt (w : World) (F : Nat → Prop) (gr : Nat) (L : Rg) (K : Nat) : Prop :=
  ∃ v E, RfIn 81 55 w F gr v E ∧ L = rfOf E ∧ E.length ≤ K ∧ ∀ x ∈ E, x.2.l.length ≤ K
theorem RfSt.keep {w w' : World} {F : Nat → Prop} {gr K : Nat} {L : Rg} (h : RfSt w F gr L K) (hs : w.heap.size ≤ w'.heap.size) (hk : ∀ i, F i → w'.heap[i]? = w.heap[i]?) : RfSt w' F gr L K := by
  obtain ⟨v, E, a, b⟩ := h
  exact ⟨v, E, a.keep _ _ hs hk, b⟩
theorem RfSt.lt {w : World} {F : Nat → Prop} {gr K : Nat} {L : Rg} (h : RfSt w F gr L K) : ∀ i, F i → i < w.heap.size := by
  obtain ⟨v, E, a, b⟩ := h
  exact a.lt
theorem RfSt.below {w w' : World} {F : Nat → Prop} {gr K : Nat} {L : Rg} (h : RfSt w F gr L K) (hb : Below w.heap.size w w') : RfSt w' F gr L K := h.keep hb.size fun i hi => hb.block i (h.lt i hi)
theorem RfSt.more {w : World} {F : Nat → Prop} {gr K K' : Nat} {L : Rg} (h : RfSt w F gr L K) (hK : K ≤ K') : RfSt w F gr L K' := by
  obtain ⟨v, E, a, b, c, d⟩ := h
  exact ⟨v, E, a, b, Nat.le_trans c hK, fun x hx => Nat.le_trans (d x hx) hK⟩
theorem RfSt.top_len {w : World} {F : Nat → Prop} {gr K : Nat} {L : Rg} (h : RfSt w F gr L K) (c : ByteArray) : (rgT L c).length ≤ K := by
  obtain ⟨v, E, a, rfl, b, d⟩ := h
  rw [rfOf_at]
  cases e : kvAt c E with
  | none => exact Nat.zero_le _
  | some x => exact d _ (kvAt_mem e)
theorem Rd.atP {w : World} {B : Nat} {A : Option Addr} {l : List Tp} (h : Rd w B 3 A l.length (tpCs l)) {i : Nat} (hi : i < l.length) : ∃ b o, A = some ⟨b, o, none⟩ ∧ b < B ∧
    w.cell? ⟨b, o + i * 3, none⟩ = some (.int .i64 (l[i].id : Int)) ∧ w.cell? ⟨b, o + i * 3 + 1, none⟩ = some (.string l[i].name) ∧ w.cell? ⟨b, o + i * 3 + 2, none⟩ = some (.bool l[i].fixed) := by
  rcases h.2 with h0 | ⟨b, o, rfl, hb, hc⟩
  · have := tpCs_len l
    rw [h0] at this
    simp at this
    omega
  · refine ⟨b, o, rfl, hb, ?_, ?_, ?_⟩
    · exact hc (i * 3 + 0) _ (tpCs_at l i 0 hi (by omega))
    · rw [Nat.add_assoc]; exact hc (i * 3 + 1) _ (tpCs_at l i 1 hi (by omega))
    · rw [Nat.add_assoc]; exact hc (i * 3 + 2) _ (tpCs_at l i 2 hi (by omega))
theorem Rd.atE {w : World} {B : Nat} {A : Option Addr} {E : List (ByteArray × Tl)} (h : Rd w B 2 A E.length (enCs E)) {i : Nat} (hi : i < E.length) : ∃ b o, A = some ⟨b, o, none⟩ ∧ b < B ∧
    w.cell? ⟨b, o + i * 2, none⟩ = some (.string E[i].1) ∧ w.cell? ⟨b, o + i * 2 + 1, none⟩ = some (.slice E[i].2.A E[i].2.l.length E[i].2.cap) := by
  rcases h.2 with h0 | ⟨b, o, rfl, hb, hc⟩
  · have := enCs_len E
    rw [h0] at this
    simp at this
    omega
  · refine ⟨b, o, rfl, hb, ?_, ?_⟩
    · exact hc (i * 2 + 0) _ (enCs_at E i 0 hi (by omega))
    · rw [Nat.add_assoc]; exact hc (i * 2 + 1) _ (enCs_at E i 1 hi (by omega))
theorem info_tp : (Tryz.prog.info? 44).map (fun i => (i.zero, i.size, i.bytes)) = some (some (.agg #[.int .i64 0, .string .empty, .bool false]), 3, 32) := by kernel_rfl
theorem info_en : (Tryz.prog.info? 81).map (fun i => (i.zero, i.size, i.bytes)) = some (some (.agg #[.string .empty, .slice none 0 0]), 2, 40) := by kernel_rfl
/-- The empty row that a literal makes. -/
theorem own_nil (w : World) (e : TypeId) (k : Nat) : (w.alloc (.cells #[] e)).ownsRow w.heap.size e k (.slice (some ⟨w.heap.size, 0, none⟩) 0 0) 0 [] :=
  ⟨by simp, .inr ⟨w.heap.size, 0, #[], rfl, Nat.le_refl _, heap_alloc_new w _, Nat.le_refl _, by simp [maxLen], by simp, by simp⟩⟩
set_option maxRecDepth 10000 in
set_option maxHeartbeats 1000000 in
theorem xnew_any (w : World) : Calls Tryz.prog 7 #[] w fun e w' => e = .returned (.pointer (some ⟨w.heap.size, 0, none⟩)) ∧ RfSt w' (fun i => i = w.heap.size) w.heap.size [] 0 ∧ Below w.heap.size w w' ∧ w'.heap.size = w.heap.size + 1 := by
  go_enter Tryz.func7, Tryz.ntmps7
  go_wp2
  go_ret
  refine ⟨rfl, ⟨.slice none 0 0, [], ⟨Bk.fresh w _ _, ⟨rfl, .inl ⟨rfl, rfl⟩⟩, fun x hx => (by cases hx), rfl, fun k hk => (by cases hk), fun i hi => ?_⟩, rfl, Nat.le_refl _, fun x hx => (by cases hx)⟩, (Below.refl _ w).alloc (Nat.le_refl _) _, by simp⟩
  rw [hi]
  simp
set_option maxRecDepth 10000 in
set_option maxHeartbeats 4000000 in
theorem xtop_any {w : World} {F : Nat → Prop} {gr K : Nat} {L : Rg} (h : RfSt w F gr L K) (c : ByteArray) (hK : K < 100000000) :
    Calls Tryz.prog 23 #[.pointer (some ⟨gr, 0, none⟩), .string c] w fun e w' => ∃ v, e = .returned v ∧ w'.ownsRow w.heap.size 44 3 v (rgT L c).length (tpCs (rgT L c)) ∧ Below w.heap.size w w' := by
  obtain ⟨v, E, hI, rfl, hE, hB⟩ := h
  obtain ⟨A, cp, rfl, -, hrd⟩ := own_rd hI.row
  have hc0 := hI.blk.one.1
  have hgr : gr < w.heap.size := hI.blk.lt
  have HI := Lib.hid hI
  have HRD := Lib.hid hrd
  have HB := Lib.hid hB
  have hn : (E.length : Int) ≤ 100000000 := by omega
  have HT : Hid (rgT (rfOf E) c = ((kvAt c E).map fun x => x.l).getD []) := Lib.hid rfOf_at
  clear hI hrd hB
  generalize hN : E.length = n at hn hc0
  have HN := Lib.hid hN
  clear hN hE
  go_enter Tryz.func23, Tryz.ntmps23
  go_wp2
  go_loopw [5] (fun s5 wr => ∃ k : Nat, s5 = .int .i64 (k : Int) ∧ k ≤ n ∧ Hid (kvAt c E = kvAt c (E.drop k)) ∧ w = wr) (fun s5 _ => n - (intOf s5).toNat)
  case atStart => exact ⟨0, rfl, Nat.zero_le _, Lib.hid rfl, rfl⟩
  case round =>
    obtain ⟨k, rfl, hk, HK, rfl⟩ := hrel
    have b0 : (0 : Int) ≤ (k : Int) := by omega
    by_cases hlt : k < n
    · have hlt' : k < E.length := by rw [HN.out]; exact hlt
      obtain ⟨bA, oA, rfl, hb, e0, e1⟩ := HRD.out.atE hlt'
      have hst := kvAt_drop (n := c) hlt'
      have hm := HI.out.each _ (List.getElem_mem hlt')
      have hl := HB.out _ (List.getElem_mem hlt')
      generalize E[k] = x at e0 e1 hst hm hl
      obtain ⟨nm, A2, cap2, T⟩ := x
      have b1 : (k : Int) < (n : Int) := by omega
      by_cases hnn : nm = c
      · subst hnn
        rw [if_pos rfl] at hst
        have HR : Hid (rgT (rfOf E) nm = T) := Lib.hid (by rw [HT.out, HK.out, hst]; rfl)
        have HM := Lib.hid hm
        have HL : Hid (T.length ≤ K) := Lib.hid hl
        have hb2 := ((Below.refl w.heap.size w).alloc (Nat.le_refl _) (.cells #[] 44))
        have HB2 := Lib.hid hb2
        have d0 := (HB2.out.cell (p := ⟨gr, 0, none⟩) hgr).trans hc0
        have d1 := (HB2.out.cell (p := ⟨bA, oA + k * 2 + 1, none⟩) hb).trans e1
        clear hm hl hst hlt' hb2
        rcases A2 with _ | ⟨ab, ao, ae⟩
        all_goals go_wp2_with (at_builtin; refine wpList_app _ rfl (.tmp 25) (.tmp 33) 45 rfl w.heap.size 44 _ 3 32 Tryz.underlying45 info_tp rfl (by decide) _ 0 [] rfl (own_nil w _ 3) w.heap.size _ T.length cap2 (tpCs T) rfl (HM.out.1.below HB2.out) (tpCs_one T) (by have := HL.out; unfold maxLen; omega) (by have := HL.out; omega) (by simp) ?_; intro v' w3 hown3 hg3 hat3)
        all_goals
          go_wp2
          go_ret
          rw [HR.out]
          refine ⟨_, rfl, ?_, below_app HB2.out hg3 (Nat.le_of_lt (by simp)) (fun g hg => by cases hg; exact Nat.le_refl _)⟩
          rw [Nat.zero_add] at hown3
          exact hown3
      · have hnl : ¬ nm.toList = c.toList := fun h => hnn ((tp_toList _ _).1 h)
        have hnb : (nm.toList == c.toList) = false := by simp [hnl]
        rw [if_neg hnn] at hst
        have HK' : Hid (kvAt c E = kvAt c (E.drop (k + 1))) := Lib.hid (by rw [HK.out, hst])
        clear hst hnn hm hl hnl
        go_wp2
        exact ⟨⟨k + 1, by simp, by omega, HK', trivial⟩, by simp [intOf]; omega⟩
    · have b2 : ¬ (k : Int) < (n : Int) := by omega
      have HR : Hid (rgT (rfOf E) c = []) := Lib.hid (by rw [HT.out, HK.out, List.drop_eq_nil_of_le (by have := HN.out; omega)]; rfl)
      go_wp2
      go_ret
      rw [HR.out]
      exact ⟨_, rfl, ⟨rfl, .inl ⟨rfl, rfl⟩⟩, Below.refl _ _⟩
end Go.Proofs.YtjbpafkdbfbdlaaGreat
