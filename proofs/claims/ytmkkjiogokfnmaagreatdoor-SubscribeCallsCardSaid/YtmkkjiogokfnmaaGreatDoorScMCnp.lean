/-
  connect: the walks of Flags, data.
  connect, plain: what is written is read back, whatever follows; what is read is written as the same.
-/
import Derived.Test.YtmkkjiogokfnmaaGreatDoorScMCnt
import Derived.Test.YtmkkjiogokfnmaaGreatDoorScMPubB
namespace Go.Proofs.YtmkkjiogokfnmaaGreatDoor
open Go.RowKit
attribute [local go_sem ↓] to_ldPk to_bxPk to_bdPk to_alPk to_stPk
attribute [local go_sem] run_bxPk run_bxPk_agg ld_fresh run_alPk run_bd0 run_bdK run_bdKI run_bdKIC run_bdKC run_bdKICP run_stPk_fresh pkC_0 pkC_1 pkC_2 pkC_3 pkC_4 pkC_5 pkC_6 pkC_7 pkC_8 pkC_9 pkC_10 pkC_11 pkC_12 pkC_13 pkC_14 pkC_15 pkC_16 pkC_17 pkC_18 pkC_19 pkC_20 pkC_21 pkC_22 pkC_23 pkC_24

def bitN (b : Bool) (n : Int) : Int := if b = true then n else 0
/-- The flags of a CONNECT. -/
def flN (p : Pk) : Int := bitN p.hasUser 128 + bitN p.hasPass 64 + bitN p.will.retain 32 + p.will.qos % 4 * 8 + bitN p.hasWill 4 + bitN p.clean 2
end Go.Proofs.YtmkkjiogokfnmaaGreatDoor

namespace Go.Proofs.YtmkkjiogokfnmaaGreatDoor
open Go.RowKit

def cntName : ByteArray := ⟨#[0, 4, 77, 81, 84, 84]⟩
def failE (e n : Int) : Int := if e = 0 then n else e
theorem failE_zero {e n : Int} (h : failE e n = 0) (hn : n ≠ 0) : False := by
  unfold failE at h
  split at h
  · exact hn h
  · next x => exact x h
/-- A cursor's next data. -/
def binC (t : ByteArray) (a : Nat) (e : Int) : ByteArray × Nat × Int := takeS t (takeS t a e 2).2.1 (takeS t a e 2).2.2 (numS t a e 2 : Nat)
theorem binC_lt (t : ByteArray) (a : Nat) (e : Int) (ha : a ≤ t.size) : (binC t a e).1.size ≤ 65535 :=
  takeS_size (takeS_le ha e 2) _ _ 65535 (by have := num_two_lt t a e ha; omega)
/-- A cursor's next text. -/
def txtC (t : ByteArray) (a : Nat) (e : Int) : ByteArray × Nat × Int := ((binC t a e).1, (binC t a e).2.1, if validB (binC t a e).1 = true then (binC t a e).2.2 else failE (binC t a e).2.2 6)
/-- A cursor's next properties. -/
def prpC (v kind : Int) (t : ByteArray) (a : Nat) (e : Int) : List Pr × Nat × Int :=
  if v = 4 ∨ e ≠ 0 then ([], a, e) else ((readP kind (t.extract a t.size)).1, a + (readP kind (t.extract a t.size)).2.1, (readP kind (t.extract a t.size)).2.2)
theorem take_ok {t : ByteArray} {a : Nat} {e : Int} {k : Nat} (h : (takeS t a e k).2.2 = 0) : e = 0 ∧ a + k ≤ t.size ∧ takeS t a 0 k = (t.extract a (a + k), a + k, 0) := by
  by_cases he : e = 0
  · subst he
    by_cases hs : a + k ≤ t.size
    · exact ⟨rfl, hs, take_yes hs⟩
    · rw [take_no hs] at h; cases h
  · rw [takeS_bad he] at h; exact absurd h he
theorem take_ls {t : ByteArray} {a k : Nat} (_h : a + k ≤ t.size) : (ls t).drop a = ls (t.extract a (a + k)) ++ (ls t).drop (a + k) := by
  rw [extract_ls, ← List.drop_drop, List.take_append_drop]
theorem bin_ok {t : ByteArray} {a : Nat} {e : Int} (h : (binC t a e).2.2 = 0) : e = 0 ∧ (binC t a e).2.1 ≤ t.size ∧ (binC t a e).1.size ≤ 65535 ∧ (ls t).drop a = putL (binC t a e).1.size 2 ++ (ls (binC t a e).1 ++ (ls t).drop (binC t a e).2.1) := by
  obtain ⟨h1, h2, h3⟩ := take_ok h
  obtain ⟨he, h5, h6⟩ := take_ok (k := 2) h1
  subst he
  have h6' : takeS t a 0 2 = (t.extract a (a + 2), a + 2, 0) := h6
  have hle : a ≤ t.size := by omega
  have hlt := binC_lt t a 0 hle
  have hE : binC t a 0 = (t.extract (a + 2) (a + 2 + numS t a 0 2), a + 2 + numS t a 0 2, 0) := by
    rw [h6'] at h3 h2
    unfold binC
    rw [h6']
    exact h3
  rw [h6'] at h2
  simp only at h2
  rw [hE] at hlt ⊢
  simp only at hlt ⊢
  have hsz : (t.extract (a + 2) (a + 2 + numS t a 0 2)).size = numS t a 0 2 := by rw [ByteArray.size_extract]; omega
  refine ⟨trivial, h2, hlt, ?_⟩
  rw [hsz, ← take_ls h2]
  exact num_back2 h5
theorem txt_ok {t : ByteArray} {a : Nat} {e : Int} (h : (txtC t a e).2.2 = 0) : e = 0 ∧ (txtC t a e).2.1 ≤ t.size ∧ (txtC t a e).1.size ≤ 65535 ∧ validB (txtC t a e).1 = true ∧ (ls t).drop a = putL (txtC t a e).1.size 2 ++ (ls (txtC t a e).1 ++ (ls t).drop (txtC t a e).2.1) := by
  unfold txtC at h ⊢
  simp only at h ⊢
  by_cases hv : validB (binC t a e).1 = true
  · rw [if_pos hv] at h
    obtain ⟨h1, h2, h3, h4⟩ := bin_ok h
    exact ⟨h1, h2, h3, hv, h4⟩
  · rw [if_neg hv] at h
    exact (failE_zero h (by decide)).elim
/-- Properties as they lie in a body. -/
def tailL8 (v k : Int) (l : List Pr) : List UInt8 := if v = 4 then [] else (bytesS k l).1
theorem tail8_ls (v k : Int) (l : List Pr) : ls (tail8 v k l) = tailL8 v k l := by
  unfold tail8 tailL8
  split
  · rfl
  · exact ls_mk _
def f1 (v : Int) (p : Pk) (r : List UInt8) : List UInt8 := ls cntName ++ (putL v.toNat 1 ++ (putL (flN p).toNat 1 ++ (putL p.alive.toNat 2 ++ (tailL8 v 1 p.props ++ (putL p.client.size 2 ++ (ls p.client ++ r))))))
end Go.Proofs.YtmkkjiogokfnmaaGreatDoor

