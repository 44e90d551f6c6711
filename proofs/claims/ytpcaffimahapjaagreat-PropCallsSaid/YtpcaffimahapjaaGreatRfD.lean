/- Reference 05: Shape, May, Many, Check, value. -/
import Derived.Test.YtpcaffimahapjaaGreatRfC
import Derived.Test.YtpcaffimahapjaaGreatRefC
import Derived.Test.YtpcaffimahapjaaGreatPubD
import Derived.Test.YtpcaffimahapjaaGreatRefW
namespace Go.Proofs.YtpcaffimahapjaaGreat
open Go.RowKit
theorem kinds_in (id : Int) : ∀ k ∈ kindsOf id, 1 ≤ k ∧ k ≤ 16 := by
  have h : ∀ p ∈ kindTab, ∀ k ∈ p.2, 1 ≤ k ∧ k ≤ 16 := by decide +kernel
  unfold kindsOf
  cases hf : kindTab.find? fun p => (p.1 : Int) == id with
  | none => simp
  | some p => exact h p (List.mem_of_find?_eq_some hf)
theorem kinds_tab : ∀ p ∈ kindTab, ∀ k : Fin 17, (p.2.contains ((k.1 : Nat) : Int)) = hasR (ruleOf p.1) ((k.1 : Nat) : Int) := by decide +kernel
theorem may_kinds (kind id : Int) : (kindsOf id).contains kind = mayP kind id := by
  by_cases hk : 0 ≤ kind ∧ kind ≤ 16
  · obtain ⟨k, rfl⟩ := Int.eq_ofNat_of_zero_le hk.1
    have hk' : k < 17 := by omega
    unfold kindsOf mayP
    cases hf : kindTab.find? fun p => (p.1 : Int) == id with
    | none =>
      have hr : ruleOf id = ⟨0, 0, 0, 0⟩ := by
        have h0 := List.find?_eq_none.1 hf
        unfold ruleOf
        rw [find_absent (fun j hj e => ?_)]
        · rfl
        · have h1 : ∀ j ∈ ruleTab.map (·.1), j ∈ kindTab.map (·.1) := by decide +kernel
          obtain ⟨p, hp, hpe⟩ := List.mem_map.1 (h1 j hj)
          have := h0 p hp
          subst hpe
          simp [e] at this
      rw [hr]
      simp [hasR]
    | some p =>
      have hp := List.mem_of_find?_eq_some hf
      have he : (p.1 : Int) = id := by simpa using List.find?_some hf
      have := kinds_tab p hp ⟨k, hk'⟩
      simp only [Option.map_some, Option.getD_some]
      rw [← he]
      exact this
  · have h1 : hasR (ruleOf id) kind = false := by
      unfold hasR
      by_cases h : 1 ≤ kind
      · rw [decide_eq_true h, decide_eq_false (by omega)]; rfl
      · rw [decide_eq_false h]; rfl
    unfold mayP
    rw [h1]
    rw [← Bool.not_eq_true, List.contains_iff_mem]
    intro h
    have := kinds_in id kind h
    omega
theorem row_f0 (a b c d : Value) (W : World) : (Instr.field RwT (.agg #[a, b, c, d]) 0).run Tryz.prog W = .ok a W := by kernel_rfl
theorem row_f1 (a b c d : Value) (W : World) : (Instr.field RwT (.agg #[a, b, c, d]) 1).run Tryz.prog W = .ok b W := by kernel_rfl
attribute [local go_sem] row_f0 row_f1
set_option maxHeartbeats 1000000 in
set_option maxRecDepth 10000 in
theorem refShape_any (id : Int) (w : World) : Calls Tryz.prog 23 #[.int .i64 id] w fun e w' => e = .returned (.int .i64 (shapeOf id)) ∧ Below w.heap.size w w' := by
  go_enter Tryz.func23, Tryz.ntmps23
  go_wp2_with fail
  refine (look_any id _).mono ?_
  rintro e w1 ⟨A, c, rfl, hr, hb⟩
  unfold rowV
  go_wp2
  go_ret
  exact ⟨rfl, hb⟩
set_option maxHeartbeats 1000000 in
set_option maxRecDepth 10000 in
theorem refMayP_any (kind id : Int) (w : World) : Calls Tryz.prog 25 #[.int .i64 kind, .int .i64 id] w fun e w' => e = .returned (.bool (mayP kind id)) ∧ Below w.heap.size w w' := by
  have HF := Lib.hid (may_kinds kind id)
  go_enter Tryz.func25, Tryz.ntmps25
  go_wp2_with fail
  refine (look_any id _).mono ?_
  rintro e w1 ⟨A, c, rfl, hr, hb⟩
  unfold rowV
  have HR := Lib.hid hr; have HB := Lib.hid hb; clear hr hb
  have HL : Hid ((kindsOf id).length ≤ 20) := Lib.hid (by
    have h : ∀ p ∈ kindTab, p.2.length ≤ 20 := by decide +kernel
    unfold kindsOf
    cases hf : kindTab.find? fun p => (p.1 : Int) == id with
    | none => simp
    | some p => exact h p (List.mem_of_find?_eq_some hf))
  generalize kindsOf id = l at *
  have hl20 := HL.out
  go_wp2
  go_loop [6] (fun i => ∃ k : Nat, k ≤ l.length ∧ i = .int .i64 k ∧ (∀ j, j < k → l[j]? ≠ some kind)) (fun i => l.length - (intOf i).toNat)
  case atStart => exact ⟨0, by omega, rfl, fun j hj => by omega⟩
  case round =>
    obtain ⟨k, hk, rfl, hall⟩ := hrel
    have HA := Lib.hid hall; clear hall
    by_cases hlt : k < l.length
    · obtain ⟨b, o, z, rfl, hbb, hz, hc⟩ := HR.out.atI hlt
      have HZ := Lib.hid hz; clear hz
      have b1 : (0 : Int) ≤ (k : Int) := by omega
      have b2 : (k : Int) < (l.length : Int) := by omega
      by_cases he : z = kind
      · have e1 : (z == kind) = true := beq_iff_eq.2 he
        have HT : Hid (l.contains kind = true) := Lib.hid (by rw [List.contains_iff_mem, ← he]; exact List.mem_of_getElem? HZ.out)
        clear he
        go_wp2
        go_ret
        exact ⟨by rw [← HF.out, HT.out]; rfl, HB.out⟩
      · have e1 : (z == kind) = false := beq_eq_false_iff_ne.2 he
        have HE := Lib.hid he
        clear he
        go_wp2
        go_round
        case rel =>
          refine ⟨k + 1, by omega, by go_num, fun j hj => ?_⟩
          rcases Nat.lt_succ_iff_lt_or_eq.1 hj with h | rfl
          · exact HA.out j h
          · rw [HZ.out]; intro e; exact HE.out (Option.some.inj e)
        case measure => simp [intOf]; omega
    · obtain rfl : k = l.length := by omega
      have HT : Hid (l.contains kind = false) := Lib.hid (by
        rw [← Bool.not_eq_true, List.contains_iff_mem]
        intro h
        obtain ⟨j, hj, he⟩ := List.getElem_of_mem h
        exact HA.out j hj (by rw [List.getElem?_eq_getElem hj, he]))
      go_wp2
      go_ret
      exact ⟨by rw [← HF.out, HT.out]; rfl, HB.out⟩
set_option maxHeartbeats 1000000 in
set_option maxRecDepth 10000 in
theorem refManyP_any (kind id : Int) (w : World) : Calls Tryz.prog 27 #[.int .i64 kind, .int .i64 id] w fun e w' => e = .returned (.bool (manyP kind id)) ∧ Below w.heap.size w w' := by
  have HF : Hid (manyP kind id = (oftenP kind id && mayP kind id)) := Lib.hid rfl
  have HO : Hid (oftenP kind id = (id == 38 || (id == 11 && kind == 3))) := Lib.hid rfl
  cases hm : mayP kind id
  · have HM := Lib.hid hm; clear hm
    go_enter Tryz.func27, Tryz.ntmps27
    go_wp2_with fail
    refine (refMayP_any kind id _).mono ?_
    rintro e w1 ⟨rfl, hb⟩
    rw [HM.out]
    go_wp2
    go_ret
    exact ⟨by rw [HF.out, HM.out, Bool.and_false]; rfl, hb⟩
  · have HM := Lib.hid hm; clear hm
    cases h38 : (id == 38) <;> cases h11 : (id == 11) <;> cases h3 : (kind == 3)
    all_goals
      have HH : Hid (oftenP kind id = _) := Lib.hid (by rw [HO.out, h38, h11, h3])
      go_enter Tryz.func27, Tryz.ntmps27
      go_wp2_with fail
      refine (refMayP_any kind id _).mono ?_
      rintro e w1 ⟨rfl, hb⟩
      rw [HM.out]
      go_wp2
      go_ret
      exact ⟨by rw [HF.out, HM.out, HH.out]; rfl, hb⟩
end Go.Proofs.YtpcaffimahapjaaGreat
