/- connect: the walks of Flags, data. -/
import Derived.Test.YtngnaenbnmajdaaGreatCntC
import Derived.Test.YtngnaenbnmajdaaGreatMPubB
namespace Go.Proofs.YtngnaenbnmajdaaGreat
open Go.RowKit
attribute [local go_sem ↓] to_ldPk to_bxPk to_bdPk to_alPk to_stPk
attribute [local go_sem] run_bxPk run_bxPk_agg ld_fresh run_alPk run_bd0 run_bdK run_bdKI run_bdKIC run_bdKC run_bdKICP run_stPk_fresh pkC_0 pkC_1 pkC_2 pkC_3 pkC_4 pkC_5 pkC_6 pkC_7 pkC_8 pkC_9 pkC_10 pkC_11 pkC_12 pkC_13 pkC_14 pkC_15 pkC_16 pkC_17 pkC_18 pkC_19 pkC_20 pkC_21 pkC_22 pkC_23 pkC_24

def bitN (b : Bool) (n : Int) : Int := if b = true then n else 0
/-- The flags of a CONNECT. -/
def flN (p : Pk) : Int := bitN p.hasUser 128 + bitN p.hasPass 64 + bitN p.will.retain 32 + p.will.qos % 4 * 8 + bitN p.hasWill 4 + bitN p.clean 2
def flQ (p : Pk) : Int := if p.kind = 1 then flN p else 0
def flL (p : Pk) : List (Bool × Int) := [(p.clean, 2), (p.hasWill, 4), (p.will.retain, 32), (p.hasPass, 64), (p.hasUser, 128)]
def orF (m : Int) : List (Bool × Int) → Int
  | [] => m
  | (b, n) :: l => orF (if b = true then bits BinOp.or IntKind.i64 m n else m) l
theorem low3 (q : Int) : bits BinOp.and IntKind.i64 q 3 = q % 4 := by
  show IntKind.i64.wrap ((BitVec.ofInt 64 q &&& BitVec.ofInt 64 3).toNat : Int) = _
  rw [BitVec.toNat_and, BitVec.toNat_ofInt, show (BitVec.ofInt 64 3).toNat = 2 ^ 2 - 1 from rfl, Nat.and_two_pow_sub_one_eq_mod, IntKind.wrap_i64]
  omega
theorem orF_all : ∀ m : Fin 4, ∀ a b c d e : Bool, orF ((m.1 : Int) * 8) [(a, 2), (b, 4), (c, 32), (d, 64), (e, 128)] = bitN e 128 + bitN d 64 + bitN c 32 + (m.1 : Int) * 8 + bitN b 4 + bitN a 2 := by decide +kernel
theorem orF_end (p : Pk) : orF (p.will.qos % 4 * 8) (flL p) = flN p := by
  obtain ⟨m, hm⟩ : ∃ m : Fin 4, p.will.qos % 4 = (m.1 : Int) := ⟨⟨(p.will.qos % 4).toNat, by omega⟩, by simp only; omega⟩
  unfold flN flL
  rw [hm]
  exact orF_all m _ _ _ _ _
theorem flN_range (p : Pk) : 0 ≤ flN p ∧ flN p < 256 := by
  have : ∀ b n, bitN b n = 0 ∨ bitN b n = n := fun b n => by unfold bitN; split; exact .inr rfl; exact .inl rfl
  unfold flN
  have h1 := this p.hasUser 128; have h2 := this p.hasPass 64; have h3 := this p.will.retain 32; have h4 := this p.hasWill 4; have h5 := this p.clean 2
  omega
set_option maxHeartbeats 4000000 in
set_option maxRecDepth 10000 in
theorem cntFlags_any (p : Pk) (h : Hs) (w : World) :
    Calls Tryz.prog 14 #[pkV p h] w fun e w' => e = .returned (.int .i64 (flQ p)) ∧ Below w.heap.size w w' := by
  have HB0 := Lib.hid ((Below.refl w.heap.size w).alloc (Nat.le_refl _) (.cells (pkC p h) PkT))
  have HP0 := Lib.hid (Bk.fresh w PkT (pkC p h))
  have HF := Lib.hid (orF_end p)
  go_enter Tryz.func14, Tryz.ntmps14
  have k0 := HP0.out.cell 0
  rw [pkC_0] at k0
  by_cases h1 : p.kind = 1
  rotate_left
  · have e1 : (p.kind != 1) = true := bne_iff_ne.2 h1
    have HX : Hid (flQ p = 0) := Lib.hid (if_neg h1)
    clear h1
    go_wp2
    go_ret
    exact ⟨by rw [HX.out]; rfl, HB0.out⟩
  have e1 : (p.kind != 1) = false := by simpa using h1
  have HX : Hid (flQ p = flN p) := Lib.hid (if_pos h1)
  clear h1
  have k7 := HP0.out.cell 7
  have k14 := HP0.out.cell 14
  have k17 := HP0.out.cell 17
  have k18 := HP0.out.cell 18
  have k12 := HP0.out.cell 12
  have k10 := HP0.out.cell 10
  rw [pkC_7] at k7
  rw [pkC_14] at k14
  rw [pkC_17] at k17
  rw [pkC_18] at k18
  rw [pkC_12] at k12
  rw [pkC_10] at k10
  have hl3 := low3 p.will.qos
  have hw3 : IntKind.i64.wrap (p.will.qos % 4 * 8) = p.will.qos % 4 * 8 := by rw [IntKind.wrap_i64]; omega
  go_wp2_with fail
  have HS0 := Lib.hid (Bk.fresh (w.alloc (.cells (pkC p h) PkT)) 82 #[.bool p.clean, .int .i64 2, .bool p.hasWill, .int .i64 4, .bool p.will.retain, .int .i64 32, .bool p.hasPass, .int .i64 64, .bool p.hasUser, .int .i64 128])
  have HB1 := Lib.hid (HB0.out.alloc HB0.out.size (.cells #[.bool p.clean, .int .i64 2, .bool p.hasWill, .int .i64 4, .bool p.will.retain, .int .i64 32, .bool p.hasPass, .int .i64 64, .bool p.hasUser, .int .i64 128] 82))
  rw [show (w.alloc (.cells (pkC p h) PkT)).heap.size = w.heap.size + 1 by simp] at HS0
  clear k0 k7 k14 k17 k18 k12 k10 hl3 hw3 e1
  go_loopw [3, 32] (fun o i wr => ∃ (k : Nat) (m : Int), k ≤ 5 ∧ i = .int .i64 k ∧ o = .int .i64 m ∧ orF m ((flL p).drop k) = flN p ∧ Below w.heap.size w wr ∧ Bk wr (w.heap.size + 1) 82 #[.bool p.clean, .int .i64 2, .bool p.hasWill, .int .i64 4, .bool p.will.retain, .int .i64 32, .bool p.hasPass, .int .i64 64, .bool p.hasUser, .int .i64 128]) (fun _ i _ => 5 - (intOf i).toNat)
  case atStart => exact ⟨0, _, by omega, rfl, rfl, HF.out, HB1.out, HS0.out⟩
  case round =>
    obtain ⟨k, m, hk, rfl, rfl, h0, hs, hg⟩ := hrel
    have H0 := Lib.hid h0; have SR := Lib.hid hs; have GR := Lib.hid hg
    clear h0 hs hg
    obtain rfl | rfl | rfl | rfl | rfl | rfl : k = 0 ∨ k = 1 ∨ k = 2 ∨ k = 3 ∨ k = 4 ∨ k = 5 := by omega
    · have c0 : wr.cell? ⟨w.heap.size + 1, 0, none⟩ = some (.bool p.clean) := GR.out.cell 0
      have c1 : wr.cell? ⟨w.heap.size + 1, 1, none⟩ = some (.int .i64 2) := GR.out.cell 1
      have HD : Hid (orF (if p.clean = true then bits BinOp.or IntKind.i64 m 2 else m) ((flL p).drop 1) = flN p) := Lib.hid (by have h9 := H0.out; exact h9)
      have SA := Lib.hid (SR.out.alloc SR.out.size (.cells #[.bool p.clean, .int .i64 2] 82)); have GA := Lib.hid (fun V : Array Value => GR.out.alloc (.cells V 82))
      obtain ⟨b, hb⟩ : ∃ b, p.clean = b := ⟨_, rfl⟩
      rw [hb] at c0 HD SA
      clear hb
      cases b
      · have HN : Hid (orF m ((flL p).drop 1) = flN p) := Lib.hid (by have h9 := HD.out; rwa [if_neg (by decide)] at h9)
        clear HD
        go_wp2
        go_roundw
        case rel => exact ⟨1, m, by omega, by go_num, rfl, HN.out, SA.out, GA.out _⟩
        case measure => simp [intOf]
      · have HN : Hid (orF (bits BinOp.or IntKind.i64 m 2) ((flL p).drop 1) = flN p) := Lib.hid (by have h9 := HD.out; rwa [if_pos rfl] at h9)
        clear HD
        go_wp2
        go_roundw
        case rel => exact ⟨1, _, by omega, by go_num, rfl, HN.out, SA.out, GA.out _⟩
        case measure => simp [intOf]
    · have c0 : wr.cell? ⟨w.heap.size + 1, 2, none⟩ = some (.bool p.hasWill) := GR.out.cell 2
      have c1 : wr.cell? ⟨w.heap.size + 1, 3, none⟩ = some (.int .i64 4) := GR.out.cell 3
      have HD : Hid (orF (if p.hasWill = true then bits BinOp.or IntKind.i64 m 4 else m) ((flL p).drop 2) = flN p) := Lib.hid (by have h9 := H0.out; exact h9)
      have SA := Lib.hid (SR.out.alloc SR.out.size (.cells #[.bool p.hasWill, .int .i64 4] 82)); have GA := Lib.hid (fun V : Array Value => GR.out.alloc (.cells V 82))
      obtain ⟨b, hb⟩ : ∃ b, p.hasWill = b := ⟨_, rfl⟩
      rw [hb] at c0 HD SA
      clear hb
      cases b
      · have HN : Hid (orF m ((flL p).drop 2) = flN p) := Lib.hid (by have h9 := HD.out; rwa [if_neg (by decide)] at h9)
        clear HD
        go_wp2
        go_roundw
        case rel => exact ⟨2, m, by omega, by go_num, rfl, HN.out, SA.out, GA.out _⟩
        case measure => simp [intOf]
      · have HN : Hid (orF (bits BinOp.or IntKind.i64 m 4) ((flL p).drop 2) = flN p) := Lib.hid (by have h9 := HD.out; rwa [if_pos rfl] at h9)
        clear HD
        go_wp2
        go_roundw
        case rel => exact ⟨2, _, by omega, by go_num, rfl, HN.out, SA.out, GA.out _⟩
        case measure => simp [intOf]
    · have c0 : wr.cell? ⟨w.heap.size + 1, 4, none⟩ = some (.bool p.will.retain) := GR.out.cell 4
      have c1 : wr.cell? ⟨w.heap.size + 1, 5, none⟩ = some (.int .i64 32) := GR.out.cell 5
      have HD : Hid (orF (if p.will.retain = true then bits BinOp.or IntKind.i64 m 32 else m) ((flL p).drop 3) = flN p) := Lib.hid (by have h9 := H0.out; exact h9)
      have SA := Lib.hid (SR.out.alloc SR.out.size (.cells #[.bool p.will.retain, .int .i64 32] 82)); have GA := Lib.hid (fun V : Array Value => GR.out.alloc (.cells V 82))
      obtain ⟨b, hb⟩ : ∃ b, p.will.retain = b := ⟨_, rfl⟩
      rw [hb] at c0 HD SA
      clear hb
      cases b
      · have HN : Hid (orF m ((flL p).drop 3) = flN p) := Lib.hid (by have h9 := HD.out; rwa [if_neg (by decide)] at h9)
        clear HD
        go_wp2
        go_roundw
        case rel => exact ⟨3, m, by omega, by go_num, rfl, HN.out, SA.out, GA.out _⟩
        case measure => simp [intOf]
      · have HN : Hid (orF (bits BinOp.or IntKind.i64 m 32) ((flL p).drop 3) = flN p) := Lib.hid (by have h9 := HD.out; rwa [if_pos rfl] at h9)
        clear HD
        go_wp2
        go_roundw
        case rel => exact ⟨3, _, by omega, by go_num, rfl, HN.out, SA.out, GA.out _⟩
        case measure => simp [intOf]
    · have c0 : wr.cell? ⟨w.heap.size + 1, 6, none⟩ = some (.bool p.hasPass) := GR.out.cell 6
      have c1 : wr.cell? ⟨w.heap.size + 1, 7, none⟩ = some (.int .i64 64) := GR.out.cell 7
      have HD : Hid (orF (if p.hasPass = true then bits BinOp.or IntKind.i64 m 64 else m) ((flL p).drop 4) = flN p) := Lib.hid (by have h9 := H0.out; exact h9)
      have SA := Lib.hid (SR.out.alloc SR.out.size (.cells #[.bool p.hasPass, .int .i64 64] 82)); have GA := Lib.hid (fun V : Array Value => GR.out.alloc (.cells V 82))
      obtain ⟨b, hb⟩ : ∃ b, p.hasPass = b := ⟨_, rfl⟩
      rw [hb] at c0 HD SA
      clear hb
      cases b
      · have HN : Hid (orF m ((flL p).drop 4) = flN p) := Lib.hid (by have h9 := HD.out; rwa [if_neg (by decide)] at h9)
        clear HD
        go_wp2
        go_roundw
        case rel => exact ⟨4, m, by omega, by go_num, rfl, HN.out, SA.out, GA.out _⟩
        case measure => simp [intOf]
      · have HN : Hid (orF (bits BinOp.or IntKind.i64 m 64) ((flL p).drop 4) = flN p) := Lib.hid (by have h9 := HD.out; rwa [if_pos rfl] at h9)
        clear HD
        go_wp2
        go_roundw
        case rel => exact ⟨4, _, by omega, by go_num, rfl, HN.out, SA.out, GA.out _⟩
        case measure => simp [intOf]
    · have c0 : wr.cell? ⟨w.heap.size + 1, 8, none⟩ = some (.bool p.hasUser) := GR.out.cell 8
      have c1 : wr.cell? ⟨w.heap.size + 1, 9, none⟩ = some (.int .i64 128) := GR.out.cell 9
      have HD : Hid (orF (if p.hasUser = true then bits BinOp.or IntKind.i64 m 128 else m) ((flL p).drop 5) = flN p) := Lib.hid (by have h9 := H0.out; exact h9)
      have SA := Lib.hid (SR.out.alloc SR.out.size (.cells #[.bool p.hasUser, .int .i64 128] 82)); have GA := Lib.hid (fun V : Array Value => GR.out.alloc (.cells V 82))
      obtain ⟨b, hb⟩ : ∃ b, p.hasUser = b := ⟨_, rfl⟩
      rw [hb] at c0 HD SA
      clear hb
      cases b
      · have HN : Hid (orF m ((flL p).drop 5) = flN p) := Lib.hid (by have h9 := HD.out; rwa [if_neg (by decide)] at h9)
        clear HD
        go_wp2
        go_roundw
        case rel => exact ⟨5, m, by omega, by go_num, rfl, HN.out, SA.out, GA.out _⟩
        case measure => simp [intOf]
      · have HN : Hid (orF (bits BinOp.or IntKind.i64 m 128) ((flL p).drop 5) = flN p) := Lib.hid (by have h9 := HD.out; rwa [if_pos rfl] at h9)
        clear HD
        go_wp2
        go_roundw
        case rel => exact ⟨5, _, by omega, by go_num, rfl, HN.out, SA.out, GA.out _⟩
        case measure => simp [intOf]
    · have HN : Hid (m = flN p) := Lib.hid H0.out
      go_wp2
      go_ret
      exact ⟨by rw [HX.out, HN.out]; rfl, SR.out⟩
end Go.Proofs.YtngnaenbnmajdaaGreat
