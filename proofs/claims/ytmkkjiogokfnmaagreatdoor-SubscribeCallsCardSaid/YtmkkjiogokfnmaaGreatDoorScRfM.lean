/- The law PropCalls: the walk. -/
import Derived.Test.YtmkkjiogokfnmaaGreatDoorScMRfB
import Derived.Test.YtmkkjiogokfnmaaGreatDoorScLex
import Derived.Test.YtmkkjiogokfnmaaGreatDoorScMPk
namespace Go.Proofs.YtmkkjiogokfnmaaGreatDoor
open Go.RowKit
set_option maxHeartbeats 1000000 in
set_option maxRecDepth 10000 in
theorem refSameP_any (A A' : Option Addr) (n m c c' : Nat) (l l' : List Pr) (w : World) (e1 : l.length = n) (e2 : l'.length = m) (hl : Rd w w.heap.size 4 A n (prs l)) (hm : Rd w w.heap.size 4 A' m (prs l')) (hn : n ≤ 4611686018427387904) (hn' : m ≤ 4611686018427387904) :
    Calls Tryz.prog 132 #[.slice A n c, .slice A' m c'] w fun e w' => e = .returned (.bool (decide (l = l'))) ∧ Below w.heap.size w w' := by
  have hgt := guard_prop
  by_cases hlen : n = m
  · subst hlen
    have E1 := Lib.hid e1; have E2 := Lib.hid e2; clear e1 e2
    have HL := Lib.hid hl; have HM := Lib.hid hm; clear hl hm
    go_enter Tryz.func132, Tryz.ntmps132
    go_wp2
    go_loopw [5] (fun i wr => ∃ k : Nat, k ≤ n ∧ i = .int .i64 k ∧ (∀ j, j < k → l[j]? = l'[j]?) ∧ Below w.heap.size w wr) (fun i _ => n - (intOf i).toNat)
    case atStart => exact ⟨0, by omega, rfl, fun j hj => by omega, Below.refl _ _⟩
    case round =>
      obtain ⟨k, hk, rfl, hall, hbel⟩ := hrel
      have HA := Lib.hid hall; clear hall
      by_cases hlt : k < n
      · obtain ⟨bA, oA, rfl, hb, c0, c1, c2, c3⟩ := (show Rd w w.heap.size 4 A l.length (prs l) by rw [E1.out]; exact HL.out).below hbel |>.atP (show k < l.length by rw [E1.out]; exact hlt)
        obtain ⟨bA', oA', rfl, hb', d0, d1, d2, d3⟩ := (show Rd w w.heap.size 4 A' l'.length (prs l') by rw [E2.out]; exact HM.out).below hbel |>.atP (show k < l'.length by rw [E2.out]; exact hlt)
        have HZ : Hid (l[k]? = some (l[k]'(by rw [E1.out]; exact hlt))) := Lib.hid (List.getElem?_eq_getElem _)
        have HZ' : Hid (l'[k]? = some (l'[k]'(by rw [E2.out]; exact hlt))) := Lib.hid (List.getElem?_eq_getElem _)
        generalize l[k]'(by rw [E1.out]; exact hlt) = p at *
        generalize l'[k]'(by rw [E2.out]; exact hlt) = q at *
        have b1 : (0 : Int) ≤ (k : Int) := by omega
        have b2 : (k : Int) < (n : Int) := by omega
        have hne := fun W => neq_prop p q W
        by_cases he : p = q
        · subst he
          have hd : decide (p = p) = true := by simp
          rw [hd] at hne
          clear hd
          go_wp2
          go_quiet (fail)
          go_wp2
          go_roundw
          case rel =>
            refine ⟨k + 1, by omega, by go_num, fun j hj => ?_, below_drawn hbel _⟩
            rcases Nat.lt_succ_iff_lt_or_eq.1 hj with h | rfl
            · exact HA.out j h
            · rw [HZ.out, HZ'.out]
          case measure => simp [intOf]; omega
        · have hd : decide (p = q) = false := decide_eq_false he
          rw [hd] at hne
          have HE := Lib.hid he; clear he hd
          go_wp2
          go_quiet (fail)
          go_wp2
          go_ret
          refine ⟨?_, below_drawn hbel _⟩
          have : l ≠ l' := by
            rintro rfl
            have := HZ.out.symm.trans HZ'.out
            exact HE.out (by simpa using this)
          simp [this]
      · go_wp2
        go_ret
        refine ⟨?_, hbel⟩
        have : l = l' := by
          apply List.ext_getElem?
          intro j
          by_cases hj : j < k
          · exact HA.out j hj
          · rw [List.getElem?_eq_none (by have := E1.out; omega), List.getElem?_eq_none (by have := E2.out; omega)]
        simp [this]
  · have h1 : ((n : Int) != (m : Int)) = true := by simpa using (by omega : ¬ (n : Int) = (m : Int))
    have HN := Lib.hid hlen; have E1 := Lib.hid e1; have E2 := Lib.hid e2; clear hlen e1 e2 hl hm
    go_enter Tryz.func132, Tryz.ntmps132
    go_wp2
    go_ret
    refine ⟨?_, Below.refl _ _⟩
    have : l ≠ l' := by
      rintro rfl
      exact HN.out (E1.out.symm.trans E2.out)
    simp [this]


theorem Rd.grow {w : World} {k n : Nat} {A : Option Addr} {xs : List Value} (h : Rd w w.heap.size k A n xs) (o : Obj) : Rd (w.alloc o) (w.alloc o).heap.size k A n xs := (h.alloc (Nat.le_refl _) o).wider (by simp)
end Go.Proofs.YtmkkjiogokfnmaaGreatDoor

