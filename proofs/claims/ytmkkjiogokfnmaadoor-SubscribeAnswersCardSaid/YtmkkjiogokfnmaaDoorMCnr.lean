/-
  Reference 08: bit, wrong, Flags, text, Binary, Text.
  Reference 08: used.
  Reference 08: Valid.
  Reference 08: Body.
  Reference 08: Body of a CONNECT.
-/
import Derived.Test.YtmkkjiogokfnmaaDoorMCnu
import Derived.Test.YtmkkjiogokfnmaaDoorCntH
import Derived.Test.YtmkkjiogokfnmaaDoorMRft
import Derived.BigRegion
import Derived.Lib.QuietBelow
import Derived.Deep.DeepCutAuto

namespace Go.Proofs.YtmkkjiogokfnmaaDoor
open Go.RowKit
attribute [local go_sem ↓] to_ldPk to_bxPk to_bdPk to_alPk to_stPk
attribute [local go_sem] run_bxPk run_bxPk_agg ld_fresh run_alPk run_bd0 run_bdK run_bdKI run_bdKIC run_bdKC run_bdKICP run_stPk_fresh pkC_0 pkC_1 pkC_2 pkC_3 pkC_4 pkC_5 pkC_6 pkC_7 pkC_8 pkC_9 pkC_10 pkC_11 pkC_12 pkC_13 pkC_14 pkC_15 pkC_16 pkC_17 pkC_18 pkC_19 pkC_20 pkC_21 pkC_22 pkC_23 pkC_24
theorem flags_sum (A B C D E q : Int) (hA : 0 ≤ A ∧ A ≤ 128) (hB : 0 ≤ B ∧ B ≤ 64) (hC : 0 ≤ C ∧ C ≤ 32) (hD : 0 ≤ D ∧ D ≤ 4) (hE : 0 ≤ E ∧ E ≤ 2) :
    wrap64 (wrap64 (wrap64 (wrap64 (wrap64 (A + B) + C) + wrap64 ((wrap64 (q.tmod 4 + 4)).tmod 4 * 8)) + D) + E) = A + B + C + q % 4 * 8 + D + E := by
  have h1 := Int.tmod_lt_of_pos q (b := 4) (by decide)
  have h2 := Int.lt_tmod_of_pos q (b := 4) (by decide)
  have h3 := Int.mul_tdiv_add_tmod q 4
  generalize q.tdiv 4 = d at *
  generalize q.tmod 4 = t at *
  have e1 : wrap64 (t + 4) = t + 4 := by simp only [wrap64]; omega
  rw [e1, Int.tmod_eq_emod_of_nonneg (by omega)]
  have e2 : (t + 4) % 4 = q % 4 := by omega
  rw [e2]
  simp only [wrap64]
  omega
/-- A cursor's next data, text, as the reference reads them. -/
def rbC (t : ByteArray) (a : Nat) (e : Int) : ByteArray × Nat × Int := if e ≠ 0 then (⟨#[]⟩, a, e) else ((readB (t.extract a t.size)).1, a + (readB (t.extract a t.size)).2.1, (readB (t.extract a t.size)).2.2)
def rtC (t : ByteArray) (a : Nat) (e : Int) : ByteArray × Nat × Int := if e ≠ 0 then (⟨#[]⟩, a, e) else ((readU (t.extract a t.size)).1, a + (readU (t.extract a t.size)).2.1, (readU (t.extract a t.size)).2.2)
theorem readB_le (s : ByteArray) : (readB s).2.1 ≤ s.size ∧ (readB s).1.size ≤ 65535 := by
  unfold readB
  split
  · exact ⟨Nat.zero_le _, Nat.zero_le _⟩
  · split
    · exact ⟨Nat.zero_le _, Nat.zero_le _⟩
    · refine ⟨by show 2 + numS s 0 0 2 ≤ s.size; omega, ?_⟩
      rw [ByteArray.size_extract]
      have := num_two_lt s 0 0 (Nat.zero_le _)
      omega
theorem readU_le (s : ByteArray) : (readU s).2.1 ≤ s.size ∧ (readU s).1.size ≤ 65535 := by
  unfold readU
  split
  · exact ⟨Nat.zero_le _, Nat.zero_le _⟩
  · exact readB_le s
theorem rbC_le {t : ByteArray} {a : Nat} {e : Int} (h : a ≤ t.size) : (rbC t a e).2.1 ≤ t.size ∧ (rbC t a e).1.size ≤ 65535 := by
  unfold rbC
  split
  · exact ⟨h, Nat.zero_le _⟩
  · have := readB_le (t.extract a t.size)
    rw [ByteArray.size_extract] at this
    refine ⟨by show a + (readB (t.extract a t.size)).2.1 ≤ t.size; omega, this.2⟩
theorem rtC_le {t : ByteArray} {a : Nat} {e : Int} (h : a ≤ t.size) : (rtC t a e).2.1 ≤ t.size ∧ (rtC t a e).1.size ≤ 65535 := by
  unfold rtC
  split
  · exact ⟨h, Nat.zero_le _⟩
  · have := readU_le (t.extract a t.size)
    rw [ByteArray.size_extract] at this
    refine ⟨by show a + (readU (t.extract a t.size)).2.1 ≤ t.size; omega, this.2⟩
end Go.Proofs.YtmkkjiogokfnmaaDoor

namespace Go.Proofs.YtmkkjiogokfnmaaDoor
open Go.RowKit
attribute [local go_sem ↓] to_ldPk to_bxPk to_bdPk to_alPk to_stPk
attribute [local go_sem] run_bxPk run_bxPk_agg ld_fresh run_alPk run_bd0 run_bdK run_bdKI run_bdKIC run_bdKC run_bdKICP run_stPk_fresh pkC_0 pkC_1 pkC_2 pkC_3 pkC_4 pkC_5 pkC_6 pkC_7 pkC_8 pkC_9 pkC_10 pkC_11 pkC_12 pkC_13 pkC_14 pkC_15 pkC_16 pkC_17 pkC_18 pkC_19 pkC_20 pkC_21 pkC_22 pkC_23 pkC_24
attribute [local go_sem ↓ high] to_stPk to_stWl to_ldWl
attribute [local go_sem ↓] to_stF
attribute [local go_sem] ld_pw pw_at pw_stwl pw_stwl0 pw_st11 pw_st13
theorem run_bdUa (k : Int) (b : Bool) (c : Int) (l : List Pr) (A : Option Addr) (n : Nat) (w : World) : (bdPk #[(0, .int .i64 k), (16, .bool b), (17, .int .i64 c), (20, .slice A l.length n)]).run Tryd.prog w = .ok (pkV { pk0 with kind := k, props := l, session := b, code := c } { hs0 with props := ⟨A, n⟩ }) w := by kernel_rfl
theorem run_bdUb (k : Int) (c : Bool) (a : Int) (s : ByteArray) (u p o : Bool) (l : List Pr) (A : Option Addr) (n : Nat) (w : World) : (bdPk #[(0, .int .i64 k), (7, .bool c), (8, .int .i64 a), (9, .string s), (10, .bool u), (12, .bool p), (14, .bool o), (20, .slice A l.length n)]).run Tryd.prog w = .ok (pkV { pk0 with kind := k, props := l, clean := c, alive := a, client := s, hasUser := u, hasPass := p, hasWill := o } { hs0 with props := ⟨A, n⟩ }) w := by kernel_rfl
theorem num_ways {b : Bool} {p : Pk} (hn : b = decide (0 ≤ p.alive ∧ p.alive < 65536 ∧ 0 ≤ p.will.qos ∧ p.will.qos ≤ 2)) :
      (¬ 0 ≤ p.alive ∧ b = false) ∨ (0 ≤ p.alive ∧ ¬ p.alive < 65536 ∧ b = false) ∨ (0 ≤ p.alive ∧ p.alive < 65536 ∧ ¬ 0 ≤ p.will.qos ∧ b = false) ∨ (0 ≤ p.alive ∧ p.alive < 65536 ∧ 0 ≤ p.will.qos ∧ b = decide (p.will.qos ≤ 2)) := by
  rw [hn]
  by_cases a1 : 0 ≤ p.alive
  · by_cases a2 : p.alive < 65536
    · by_cases a3 : 0 ≤ p.will.qos
      · exact .inr (.inr (.inr ⟨a1, a2, a3, decide_eq_decide.2 ⟨fun y => y.2.2.2, fun y => ⟨a1, a2, a3, y⟩⟩⟩))
      · exact .inr (.inr (.inl ⟨a1, a2, a3, decide_eq_false (fun y => a3 y.2.2.1)⟩))
    · exact .inr (.inl ⟨a1, a2, decide_eq_false (fun y => a2 y.2.1)⟩)
  · exact .inl ⟨a1, decide_eq_false (fun y => a1 y.1)⟩
end Go.Proofs.YtmkkjiogokfnmaaDoor

namespace Go.Proofs.YtmkkjiogokfnmaaDoor
open Go.RowKit
attribute [local go_sem ↓] to_ldPk to_bxPk to_bdPk to_alPk to_stPk
attribute [local go_sem] run_bxPk run_bxPk_agg ld_fresh run_alPk run_bd0 run_bdK run_bdKI run_bdKIC run_bdKC run_bdKICP run_stPk_fresh pkC_0 pkC_1 pkC_2 pkC_3 pkC_4 pkC_5 pkC_6 pkC_7 pkC_8 pkC_9 pkC_10 pkC_11 pkC_12 pkC_13 pkC_14 pkC_15 pkC_16 pkC_17 pkC_18 pkC_19 pkC_20 pkC_21 pkC_22 pkC_23 pkC_24
end Go.Proofs.YtmkkjiogokfnmaaDoor

namespace Go.Proofs.YtmkkjiogokfnmaaDoor
open Go.RowKit
attribute [local go_sem ↓] to_ldPk to_bxPk to_bdPk to_alPk to_stPk
attribute [local go_sem] run_bxPk run_bxPk_agg ld_fresh run_alPk run_bd0 run_bdK run_bdKI run_bdKIC run_bdKC run_bdKICP run_stPk_fresh pkC_0 pkC_1 pkC_2 pkC_3 pkC_4 pkC_5 pkC_6 pkC_7 pkC_8 pkC_9 pkC_10 pkC_11 pkC_12 pkC_13 pkC_14 pkC_15 pkC_16 pkC_17 pkC_18 pkC_19 pkC_20 pkC_21 pkC_22 pkC_23 pkC_24

theorem conv_two8 {W z : World} (a b : UInt8) (hb : Below (W.alloc (.cells #[.int .u8 (a.toNat : Int), .int .u8 (b.toNat : Int)] 5)).heap.size (W.alloc (.cells #[.int .u8 (a.toNat : Int), .int .u8 (b.toNat : Int)] 5)) z) :
    (convert 49 9 (.slice (some ⟨W.heap.size, 0, none⟩) 2 2)).run Tryd.prog z = .ok (.string ⟨#[a, b]⟩) z :=
  conv_rd 49 9 5 Tryd.underlying49 Tryd.underlying5 Tryd.underlying9 2 ((Rd.lit W #[.int .u8 (a.toNat : Int), .int .u8 (b.toNat : Int)] 5 (xs := bys [a, b]) rfl (Nat.lt_succ_self _) rfl).below (hb.mono (by simp)))
theorem tail_eq (v k : Int) (l : List Pr) : tailB v k l = tail8 v k l := rfl
end Go.Proofs.YtmkkjiogokfnmaaDoor

namespace Go.Proofs.YtmkkjiogokfnmaaDoor
open Go.RowKit
attribute [local go_sem ↓] to_ldPk to_bxPk to_bdPk to_alPk to_stPk
attribute [local go_sem] run_bxPk run_bxPk_agg ld_fresh run_alPk run_bd0 run_bdK run_bdKI run_bdKIC run_bdKC run_bdKICP run_stPk_fresh pkC_0 pkC_1 pkC_2 pkC_3 pkC_4 pkC_5 pkC_6 pkC_7 pkC_8 pkC_9 pkC_10 pkC_11 pkC_12 pkC_13 pkC_14 pkC_15 pkC_16 pkC_17 pkC_18 pkC_19 pkC_20 pkC_21 pkC_22 pkC_23 pkC_24

theorem two_byte (n : Int) (h : 0 ≤ n ∧ n < 256) : ∃ b : UInt8, Hid (putL n.toNat 1 = [b]) ∧ IntKind.u8.wrap n = (b.toNat : Int) := by
  refine ⟨UInt8.ofNat n.toNat, Lib.hid (by simp [putL]), ?_⟩
  rw [IntKind.wrap_u8]
  simp [UInt8.toNat_ofNat']
  omega
theorem cat_two (a b : ByteArray) : catL [a, b] = a ++ b := by refine ls_ext ?_; simp [catL, ls]
theorem mqtt_data : dataB ⟨#[77, 81, 84, 84]⟩ = cntName := by decide +kernel
end Go.Proofs.YtmkkjiogokfnmaaDoor
