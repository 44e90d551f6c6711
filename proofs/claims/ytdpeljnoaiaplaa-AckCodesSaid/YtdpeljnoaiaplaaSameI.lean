/- polyglotkit.Same over ints. -/
import Derived.Test.YtdpeljnoaiaplaaProg
import Derived.Test.YtdpeljnoaiaplaaKit
namespace Go.Proofs.Ytdpeljnoaiaplaa
open Go.RowKit

def iv (l : List Int) : List Value := l.map (Value.int .i64)
theorem ints_iv (l : List Nat) : (l.map fun c : Nat => Value.int .i64 (c : Int)) = iv (l.map fun c : Nat => (c : Int)) := by simp [iv, Function.comp_def]
theorem iv_len (l : List Int) : (iv l).length = l.length := by simp [iv]
theorem eq_of_all {l m : List Int} (hl : l.length = m.length) (h : ∀ (i : Nat) (h1 : i < l.length) (h2 : i < m.length), l[i] = m[i]) : l = m := List.ext_getElem hl h
theorem Rd.atI {w : World} {B n : Nat} {A : Option Addr} {l : List Int} (h : Rd w B 1 A n (iv l)) {i : Nat} (hi : i < n) : ∃ b o z, A = some ⟨b, o, none⟩ ∧ b < B ∧ l[i]? = some z ∧ w.cell? ⟨b, o + i, none⟩ = some (.int .i64 z) := by
  obtain ⟨b, o, u, e, hb, hu, hc⟩ := h.at1 hi
  have hl : i < l.length := by have := h.len; simp [iv] at this; omega
  refine ⟨b, o, l[i], e, hb, List.getElem?_eq_getElem hl, ?_⟩
  have : u = .int .i64 l[i] := by simpa [iv, hl] using hu.symm
  rw [← this]; exact hc

set_option maxHeartbeats 400000 in
set_option maxRecDepth 10000 in
theorem sameI_any (A A' : Option Addr) (n m c c' : Nat) (l l' : List Int) (w : World) (hl : Rd w w.heap.size 1 A n (iv l)) (hm : Rd w w.heap.size 1 A' m (iv l')) (hn : n ≤ 9223372036854775807) (hn' : m ≤ 9223372036854775807) :
    Calls Try.prog 73 #[.slice A n c, .slice A' m c'] w fun e w' => e = .returned (.bool (decide (l = l'))) ∧ Below w.heap.size w w' := by
  have e1 : l.length = n := by have := hl.len; simp [iv] at this; omega
  have e2 : l'.length = m := by have := hm.len; simp [iv] at this; omega
  have E1 := Lib.hid e1; have E2 := Lib.hid e2; clear e1 e2
  by_cases hlen : n = m
  · subst hlen
    go_enter Try.func73, Try.ntmps73
    go_wp2
    go_loopw [5] (fun i wr => ∃ k : Nat, k ≤ n ∧ i = .int .i64 k ∧ (∀ j, j < k → l[j]? = l'[j]?) ∧ Below w.heap.size w wr) (fun i _ => n - (intOf i).toNat)
    case atStart => exact ⟨0, by omega, rfl, fun j hj => by omega, Below.refl _ _⟩
    case round =>
      obtain ⟨k, hk, rfl, hall, hbel⟩ := hrel
      have HA := Lib.hid hall; clear hall
      by_cases hlt : k < n
      · obtain ⟨bA, oA, z, rfl, hb, hz, hc⟩ := (hl.below hbel).atI hlt
        obtain ⟨bA', oA', z', rfl, hb', hz', hc'⟩ := (hm.below hbel).atI hlt
        have HZ := Lib.hid hz; have HZ' := Lib.hid hz'; clear hz hz' hl hm
        have b1 : (0 : Int) ≤ (k : Int) := by omega
        have b2 : (k : Int) < (n : Int) := by omega
        by_cases he : z = z'
        · subst he
          go_wp2
          go_quiet (fail)
          go_wp2
          go_roundw
          case rel =>
            refine ⟨k + 1, by omega, by go_num, fun j hj => ?_, below_drawn hbel _⟩
            rcases Nat.lt_succ_iff_lt_or_eq.1 hj with h | rfl
            · exact HA.out j h
            · rw [HZ.out, HZ'.out]
          case measure => simp [intOf]; omega
        · have h1 : (z != z') = true := by simpa using he
          have HE := Lib.hid he; clear he
          go_wp2
          go_quiet (fail)
          go_wp2
          go_ret
          refine ⟨?_, below_drawn hbel _⟩
          have : l ≠ l' := by
            rintro rfl
            have := HZ.out.symm.trans HZ'.out
            exact HE.out (by simpa using this)
          simp [this]
      · go_wp2
        go_ret
        refine ⟨?_, hbel⟩
        have : l = l' := by
          apply List.ext_getElem?
          intro j
          by_cases hj : j < k
          · exact HA.out j hj
          · rw [List.getElem?_eq_none (by have := E1.out; omega), List.getElem?_eq_none (by have := E2.out; omega)]
        simp [this]
  · have h1 : ((n : Int) != (m : Int)) = true := by simpa using (by omega : ¬ (n : Int) = (m : Int))
    have HN := Lib.hid hlen; clear hlen
    go_enter Try.func73, Try.ntmps73
    go_wp2
    go_ret
    refine ⟨?_, Below.refl _ _⟩
    have : l ≠ l' := by
      rintro rfl
      exact HN.out (E1.out.symm.trans E2.out)
    simp [this]

end Go.Proofs.Ytdpeljnoaiaplaa
