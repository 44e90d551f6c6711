/-
  The laws of the registry: a row of calls; light.
-/
import Derived.Test.YtjbpafkdbfbdlaaLwD

namespace Go.Proofs.Ytjbpafkdbfbdlaa
open Go.RowKit
/-- A call. -/
structure Ac where
  kind : Int
  client : ByteArray
  name : ByteArray
  id : Int
def acC (x : Ac) : List Value := [.int .i64 x.kind, .string x.client, .string x.name, .int .i64 x.id]
def acCs (l : List Ac) : List Value := l.flatMap acC
theorem acC_len (x : Ac) : (acC x).length = 4 := rfl
theorem acCs_len (l : List Ac) : (acCs l).length = l.length * 4 := fm_len acC_len l
theorem acCs_at (l : List Ac) (i j : Nat) (h : i < l.length) (hj : j < 4) : (acCs l)[i * 4 + j]? = (acC l[i])[j]? := fm_at acC_len l i j h hj
theorem Rd.atA {w : World} {B : Nat} {A : Option Addr} {l : List Ac} (h : Rd w B 4 A l.length (acCs l)) {i : Nat} (hi : i < l.length) : ∃ b o, A = some ⟨b, o, none⟩ ∧ b < B ∧
    w.cell? ⟨b, o + i * 4, none⟩ = some (.int .i64 l[i].kind) ∧ w.cell? ⟨b, o + i * 4 + 1, none⟩ = some (.string l[i].client) ∧ w.cell? ⟨b, o + i * 4 + 2, none⟩ = some (.string l[i].name) ∧ w.cell? ⟨b, o + i * 4 + 3, none⟩ = some (.int .i64 l[i].id) := by
  rcases h.2 with h0 | ⟨b, o, rfl, hb, hc⟩
  · have := acCs_len l
    rw [h0] at this
    simp at this
    omega
  · refine ⟨b, o, rfl, hb, ?_, ?_, ?_, ?_⟩
    · exact hc (i * 4 + 0) _ (acCs_at l i 0 hi (by omega))
    · rw [Nat.add_assoc]; exact hc (i * 4 + 1) _ (acCs_at l i 1 hi (by omega))
    · rw [Nat.add_assoc]; exact hc (i * 4 + 2) _ (acCs_at l i 2 hi (by omega))
    · rw [Nat.add_assoc]; exact hc (i * 4 + 3) _ (acCs_at l i 3 hi (by omega))
/-- Calls are gone through. -/
def acLight (l : List Ac) : Prop := (∀ x ∈ l, x.client.size ≤ 100 ∧ x.name.size ≤ 400) ∧ l.length ≤ 80
def LightO (l : List Ac) (w : World) (e : Ending) (w' : World) : Prop := ∃ b, e = .returned (.bool b) ∧ (b = true → acLight l) ∧ Below w.heap.size w w'
set_option maxHeartbeats 1000000 in
set_option maxRecDepth 10000 in
theorem light24_any (A : Option Addr) (c : Nat) (l : List Ac) (w : World) (hl : Rd w w.heap.size 4 A l.length (acCs l)) (hn : l.length ≤ 140737488351232) (hz : ∀ x ∈ l, x.client.size ≤ 140737488351232 ∧ x.name.size ≤ 140737488351232) :
    Calls Try.prog 5 #[.slice A l.length c] w (LightO l w) := by
  have HL := Lib.hid hl
  have HZ := Lib.hid hz
  clear hl hz
  generalize hN : l.length = n at hn
  have HN := Lib.hid hN
  clear hN
  go_enter Try.func5, Try.ntmps5
  go_wp2
  go_loopw [3] (fun s3 wr => ∃ k : Nat, k ≤ n ∧ s3 = .int .i64 k ∧ Hid (∀ x ∈ l.take k, x.client.size ≤ 100 ∧ x.name.size ≤ 400) ∧ Below w.heap.size w wr) (fun s3 _ => n - (intOf s3).toNat)
  case atStart => exact ⟨0, by omega, rfl, Lib.hid (by simp), Below.refl _ _⟩
  case round =>
    obtain ⟨k, hk, rfl, HT, hbel⟩ := hrel
    by_cases hlt : k < n
    · have hlt' : k < l.length := by rw [HN.out]; exact hlt
      obtain ⟨bA, oA, rfl, hb, c0, c1, c2, c3⟩ := (HL.out.below hbel).atA hlt'
      have hm := HZ.out _ (List.getElem_mem hlt')
      have htk : Hid (l.take (k + 1) = l.take k ++ [l[k]]) := Lib.hid (List.take_succ_eq_append_getElem hlt')
      generalize l[k] = p at *
      have b1 : (0 : Int) ≤ (k : Int) := by omega
      have b2 : (k : Int) < (n : Int) := by omega
      obtain ⟨z1, z2⟩ := hm
      clear hlt'
      go_wp2
      · go_ret
        exact ⟨false, rfl, fun h => by (cases h), hbel⟩
      · refine ⟨⟨k + 1, by omega, by simp, Lib.hid fun x hx => ?_, hbel⟩, by simp [intOf]; omega⟩
        rw [htk.out] at hx
        rcases List.mem_append.1 hx with hx | hx
        · exact HT.out x hx
        · obtain rfl := List.mem_singleton.1 hx
          omega
      · go_ret
        exact ⟨false, rfl, fun h => by (cases h), hbel⟩
    · have hkn : Hid (k = n) := Lib.hid (by omega)
      have b1 : ¬ (k : Int) < (n : Int) := by omega
      go_wp2
      go_ret
      refine ⟨_, rfl, fun h => ⟨fun x hx => HT.out x ?_, ?_⟩, hbel⟩
      · rw [List.take_of_length_le (by have := HN.out; have := hkn.out; omega)]
        exact hx
      · have := HN.out
        have : (n : Int) ≤ 80 := by simpa using h
        omega
end Go.Proofs.Ytjbpafkdbfbdlaa
