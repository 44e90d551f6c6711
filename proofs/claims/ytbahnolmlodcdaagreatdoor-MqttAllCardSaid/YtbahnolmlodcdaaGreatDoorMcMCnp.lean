/- A part of what the laws stand on: MCnp. -/
import Derived.Test.YtbahnolmlodcdaaGreatDoorMcMCnt
import Derived.Test.YtbahnolmlodcdaaGreatDoorMcMPubB
namespace Go.Proofs.YtbahnolmlodcdaaGreatDoor
open Go.RowKit
attribute [local go_sem ↓] to_ldPk to_bxPk to_bdPk to_alPk to_stPk
attribute [local go_sem] run_bxPk run_bxPk_agg ld_fresh run_alPk run_bd0 run_bdK run_bdKI run_bdKIC run_bdKC run_bdKICP run_stPk_fresh pkC_0 pkC_1 pkC_2 pkC_3 pkC_4 pkC_5 pkC_6 pkC_7 pkC_8 pkC_9 pkC_10 pkC_11 pkC_12 pkC_13 pkC_14 pkC_15 pkC_16 pkC_17 pkC_18 pkC_19 pkC_20 pkC_21 pkC_22 pkC_23 pkC_24

def bitN (b : Bool) (n : Int) : Int := if b = true then n else 0
/-- The flags of a CONNECT. -/
def flN (p : Pk) : Int := bitN p.hasUser 128 + bitN p.hasPass 64 + bitN p.will.retain 32 + p.will.qos % 4 * 8 + bitN p.hasWill 4 + bitN p.clean 2
def flQ (p : Pk) : Int := if p.kind = 1 then flN p else 0
def flL (p : Pk) : List (Bool × Int) := [(p.clean, 2), (p.hasWill, 4), (p.will.retain, 32), (p.hasPass, 64), (p.hasUser, 128)]
def orF (m : Int) : List (Bool × Int) → Int
  | [] => m
  | (b, n) :: l => orF (if b = true then bits BinOp.or IntKind.i64 m n else m) l
theorem low3 (q : Int) : bits BinOp.and IntKind.i64 q 3 = q % 4 := by
  show IntKind.i64.wrap ((BitVec.ofInt 64 q &&& BitVec.ofInt 64 3).toNat : Int) = _
  rw [BitVec.toNat_and, BitVec.toNat_ofInt, show (BitVec.ofInt 64 3).toNat = 2 ^ 2 - 1 from rfl, Nat.and_two_pow_sub_one_eq_mod, IntKind.wrap_i64]
  omega
theorem orF_all : ∀ m : Fin 4, ∀ a b c d e : Bool, orF ((m.1 : Int) * 8) [(a, 2), (b, 4), (c, 32), (d, 64), (e, 128)] = bitN e 128 + bitN d 64 + bitN c 32 + (m.1 : Int) * 8 + bitN b 4 + bitN a 2 := by decide +kernel
theorem orF_end (p : Pk) : orF (p.will.qos % 4 * 8) (flL p) = flN p := by
  obtain ⟨m, hm⟩ : ∃ m : Fin 4, p.will.qos % 4 = (m.1 : Int) := ⟨⟨(p.will.qos % 4).toNat, by omega⟩, by simp only; omega⟩
  unfold flN flL
  rw [hm]
  exact orF_all m _ _ _ _ _
theorem flN_range (p : Pk) : 0 ≤ flN p ∧ flN p < 256 := by
  have : ∀ b n, bitN b n = 0 ∨ bitN b n = n := fun b n => by unfold bitN; split; exact .inr rfl; exact .inl rfl
  unfold flN
  have h1 := this p.hasUser 128; have h2 := this p.hasPass 64; have h3 := this p.will.retain 32; have h4 := this p.hasWill 4; have h5 := this p.clean 2
  omega
set_option maxHeartbeats 4000000 in
set_option maxRecDepth 10000 in
theorem cntFlags_any (p : Pk) (h : Hs) (w : World) :
    Calls Tryz.prog 227 #[pkV p h] w fun e w' => e = .returned (.int .i64 (flQ p)) ∧ Below w.heap.size w w' := by
  have HB0 := Lib.hid ((Below.refl w.heap.size w).alloc (Nat.le_refl _) (.cells (pkC p h) PkT))
  have HP0 := Lib.hid (Bk.fresh w PkT (pkC p h))
  have HF := Lib.hid (orF_end p)
  go_enter Tryz.func227, Tryz.ntmps227
  have k0 := HP0.out.cell 0
  rw [pkC_0] at k0
  by_cases h1 : p.kind = 1
  rotate_left
  · have e1 : (p.kind != 1) = true := bne_iff_ne.2 h1
    have HX : Hid (flQ p = 0) := Lib.hid (if_neg h1)
    clear h1
    go_wp2
    go_ret
    exact ⟨by rw [HX.out]; rfl, HB0.out⟩
  have e1 : (p.kind != 1) = false := by simpa using h1
  have HX : Hid (flQ p = flN p) := Lib.hid (if_pos h1)
  clear h1
  have k7 := HP0.out.cell 7
  have k14 := HP0.out.cell 14
  have k17 := HP0.out.cell 17
  have k18 := HP0.out.cell 18
  have k12 := HP0.out.cell 12
  have k10 := HP0.out.cell 10
  rw [pkC_7] at k7
  rw [pkC_14] at k14
  rw [pkC_17] at k17
  rw [pkC_18] at k18
  rw [pkC_12] at k12
  rw [pkC_10] at k10
  have hl3 := low3 p.will.qos
  have hw3 : IntKind.i64.wrap (p.will.qos % 4 * 8) = p.will.qos % 4 * 8 := by rw [IntKind.wrap_i64]; omega
  go_wp2_with fail
  have HS0 := Lib.hid (Bk.fresh (w.alloc (.cells (pkC p h) PkT)) 238 #[.bool p.clean, .int .i64 2, .bool p.hasWill, .int .i64 4, .bool p.will.retain, .int .i64 32, .bool p.hasPass, .int .i64 64, .bool p.hasUser, .int .i64 128])
  have HB1 := Lib.hid (HB0.out.alloc HB0.out.size (.cells #[.bool p.clean, .int .i64 2, .bool p.hasWill, .int .i64 4, .bool p.will.retain, .int .i64 32, .bool p.hasPass, .int .i64 64, .bool p.hasUser, .int .i64 128] 238))
  rw [show (w.alloc (.cells (pkC p h) PkT)).heap.size = w.heap.size + 1 by simp] at HS0
  clear k0 k7 k14 k17 k18 k12 k10 hl3 hw3 e1
  go_loopw [3, 32] (fun o i wr => ∃ (k : Nat) (m : Int), k ≤ 5 ∧ i = .int .i64 k ∧ o = .int .i64 m ∧ orF m ((flL p).drop k) = flN p ∧ Below w.heap.size w wr ∧ Bk wr (w.heap.size + 1) 238 #[.bool p.clean, .int .i64 2, .bool p.hasWill, .int .i64 4, .bool p.will.retain, .int .i64 32, .bool p.hasPass, .int .i64 64, .bool p.hasUser, .int .i64 128]) (fun _ i _ => 5 - (intOf i).toNat)
  case atStart => exact ⟨0, _, by omega, rfl, rfl, HF.out, HB1.out, HS0.out⟩
  case round =>
    obtain ⟨k, m, hk, rfl, rfl, h0, hs, hg⟩ := hrel
    have H0 := Lib.hid h0; have SR := Lib.hid hs; have GR := Lib.hid hg
    clear h0 hs hg
    obtain rfl | rfl | rfl | rfl | rfl | rfl : k = 0 ∨ k = 1 ∨ k = 2 ∨ k = 3 ∨ k = 4 ∨ k = 5 := by omega
    · have c0 : wr.cell? ⟨w.heap.size + 1, 0, none⟩ = some (.bool p.clean) := GR.out.cell 0
      have c1 : wr.cell? ⟨w.heap.size + 1, 1, none⟩ = some (.int .i64 2) := GR.out.cell 1
      have HD : Hid (orF (if p.clean = true then bits BinOp.or IntKind.i64 m 2 else m) ((flL p).drop 1) = flN p) := Lib.hid (by have h9 := H0.out; exact h9)
      have SA := Lib.hid (SR.out.alloc SR.out.size (.cells #[.bool p.clean, .int .i64 2] 238)); have GA := Lib.hid (fun V : Array Value => GR.out.alloc (.cells V 238))
      obtain ⟨b, hb⟩ : ∃ b, p.clean = b := ⟨_, rfl⟩
      rw [hb] at c0 HD SA
      clear hb
      cases b
      · have HN : Hid (orF m ((flL p).drop 1) = flN p) := Lib.hid (by have h9 := HD.out; rwa [if_neg (by decide)] at h9)
        clear HD
        go_wp2
        go_roundw
        case rel => exact ⟨1, m, by omega, by go_num, rfl, HN.out, SA.out, GA.out _⟩
        case measure => simp [intOf]
      · have HN : Hid (orF (bits BinOp.or IntKind.i64 m 2) ((flL p).drop 1) = flN p) := Lib.hid (by have h9 := HD.out; rwa [if_pos rfl] at h9)
        clear HD
        go_wp2
        go_roundw
        case rel => exact ⟨1, _, by omega, by go_num, rfl, HN.out, SA.out, GA.out _⟩
        case measure => simp [intOf]
    · have c0 : wr.cell? ⟨w.heap.size + 1, 2, none⟩ = some (.bool p.hasWill) := GR.out.cell 2
      have c1 : wr.cell? ⟨w.heap.size + 1, 3, none⟩ = some (.int .i64 4) := GR.out.cell 3
      have HD : Hid (orF (if p.hasWill = true then bits BinOp.or IntKind.i64 m 4 else m) ((flL p).drop 2) = flN p) := Lib.hid (by have h9 := H0.out; exact h9)
      have SA := Lib.hid (SR.out.alloc SR.out.size (.cells #[.bool p.hasWill, .int .i64 4] 238)); have GA := Lib.hid (fun V : Array Value => GR.out.alloc (.cells V 238))
      obtain ⟨b, hb⟩ : ∃ b, p.hasWill = b := ⟨_, rfl⟩
      rw [hb] at c0 HD SA
      clear hb
      cases b
      · have HN : Hid (orF m ((flL p).drop 2) = flN p) := Lib.hid (by have h9 := HD.out; rwa [if_neg (by decide)] at h9)
        clear HD
        go_wp2
        go_roundw
        case rel => exact ⟨2, m, by omega, by go_num, rfl, HN.out, SA.out, GA.out _⟩
        case measure => simp [intOf]
      · have HN : Hid (orF (bits BinOp.or IntKind.i64 m 4) ((flL p).drop 2) = flN p) := Lib.hid (by have h9 := HD.out; rwa [if_pos rfl] at h9)
        clear HD
        go_wp2
        go_roundw
        case rel => exact ⟨2, _, by omega, by go_num, rfl, HN.out, SA.out, GA.out _⟩
        case measure => simp [intOf]
    · have c0 : wr.cell? ⟨w.heap.size + 1, 4, none⟩ = some (.bool p.will.retain) := GR.out.cell 4
      have c1 : wr.cell? ⟨w.heap.size + 1, 5, none⟩ = some (.int .i64 32) := GR.out.cell 5
      have HD : Hid (orF (if p.will.retain = true then bits BinOp.or IntKind.i64 m 32 else m) ((flL p).drop 3) = flN p) := Lib.hid (by have h9 := H0.out; exact h9)
      have SA := Lib.hid (SR.out.alloc SR.out.size (.cells #[.bool p.will.retain, .int .i64 32] 238)); have GA := Lib.hid (fun V : Array Value => GR.out.alloc (.cells V 238))
      obtain ⟨b, hb⟩ : ∃ b, p.will.retain = b := ⟨_, rfl⟩
      rw [hb] at c0 HD SA
      clear hb
      cases b
      · have HN : Hid (orF m ((flL p).drop 3) = flN p) := Lib.hid (by have h9 := HD.out; rwa [if_neg (by decide)] at h9)
        clear HD
        go_wp2
        go_roundw
        case rel => exact ⟨3, m, by omega, by go_num, rfl, HN.out, SA.out, GA.out _⟩
        case measure => simp [intOf]
      · have HN : Hid (orF (bits BinOp.or IntKind.i64 m 32) ((flL p).drop 3) = flN p) := Lib.hid (by have h9 := HD.out; rwa [if_pos rfl] at h9)
        clear HD
        go_wp2
        go_roundw
        case rel => exact ⟨3, _, by omega, by go_num, rfl, HN.out, SA.out, GA.out _⟩
        case measure => simp [intOf]
    · have c0 : wr.cell? ⟨w.heap.size + 1, 6, none⟩ = some (.bool p.hasPass) := GR.out.cell 6
      have c1 : wr.cell? ⟨w.heap.size + 1, 7, none⟩ = some (.int .i64 64) := GR.out.cell 7
      have HD : Hid (orF (if p.hasPass = true then bits BinOp.or IntKind.i64 m 64 else m) ((flL p).drop 4) = flN p) := Lib.hid (by have h9 := H0.out; exact h9)
      have SA := Lib.hid (SR.out.alloc SR.out.size (.cells #[.bool p.hasPass, .int .i64 64] 238)); have GA := Lib.hid (fun V : Array Value => GR.out.alloc (.cells V 238))
      obtain ⟨b, hb⟩ : ∃ b, p.hasPass = b := ⟨_, rfl⟩
      rw [hb] at c0 HD SA
      clear hb
      cases b
      · have HN : Hid (orF m ((flL p).drop 4) = flN p) := Lib.hid (by have h9 := HD.out; rwa [if_neg (by decide)] at h9)
        clear HD
        go_wp2
        go_roundw
        case rel => exact ⟨4, m, by omega, by go_num, rfl, HN.out, SA.out, GA.out _⟩
        case measure => simp [intOf]
      · have HN : Hid (orF (bits BinOp.or IntKind.i64 m 64) ((flL p).drop 4) = flN p) := Lib.hid (by have h9 := HD.out; rwa [if_pos rfl] at h9)
        clear HD
        go_wp2
        go_roundw
        case rel => exact ⟨4, _, by omega, by go_num, rfl, HN.out, SA.out, GA.out _⟩
        case measure => simp [intOf]
    · have c0 : wr.cell? ⟨w.heap.size + 1, 8, none⟩ = some (.bool p.hasUser) := GR.out.cell 8
      have c1 : wr.cell? ⟨w.heap.size + 1, 9, none⟩ = some (.int .i64 128) := GR.out.cell 9
      have HD : Hid (orF (if p.hasUser = true then bits BinOp.or IntKind.i64 m 128 else m) ((flL p).drop 5) = flN p) := Lib.hid (by have h9 := H0.out; exact h9)
      have SA := Lib.hid (SR.out.alloc SR.out.size (.cells #[.bool p.hasUser, .int .i64 128] 238)); have GA := Lib.hid (fun V : Array Value => GR.out.alloc (.cells V 238))
      obtain ⟨b, hb⟩ : ∃ b, p.hasUser = b := ⟨_, rfl⟩
      rw [hb] at c0 HD SA
      clear hb
      cases b
      · have HN : Hid (orF m ((flL p).drop 5) = flN p) := Lib.hid (by have h9 := HD.out; rwa [if_neg (by decide)] at h9)
        clear HD
        go_wp2
        go_roundw
        case rel => exact ⟨5, m, by omega, by go_num, rfl, HN.out, SA.out, GA.out _⟩
        case measure => simp [intOf]
      · have HN : Hid (orF (bits BinOp.or IntKind.i64 m 128) ((flL p).drop 5) = flN p) := Lib.hid (by have h9 := HD.out; rwa [if_pos rfl] at h9)
        clear HD
        go_wp2
        go_roundw
        case rel => exact ⟨5, _, by omega, by go_num, rfl, HN.out, SA.out, GA.out _⟩
        case measure => simp [intOf]
    · have HN : Hid (m = flN p) := Lib.hid H0.out
      go_wp2
      go_ret
      exact ⟨by rw [HX.out, HN.out]; rfl, SR.out⟩
end Go.Proofs.YtbahnolmlodcdaaGreatDoor

namespace Go.Proofs.YtbahnolmlodcdaaGreatDoor
open Go.RowKit

/-- Bytes with their length, if they can have one. -/
def dataB (s : ByteArray) : ByteArray := if s.size ≤ 65535 then framedS s else ⟨#[]⟩
def cntName : ByteArray := ⟨#[0, 4, 77, 81, 84, 84]⟩
/-- A CONNECT's body, up to the client's name. -/
def cntS1 (v : Int) (p : Pk) : ByteArray := catL [cntName, ⟨(putL v.toNat 1).toArray⟩, ⟨(putL (flN p).toNat 1).toArray⟩, ⟨(putL p.alive.toNat 2).toArray⟩, tail8 v p.kind p.props, dataB p.client]
def cntS2 (v : Int) (p : Pk) : ByteArray := if p.hasWill = true then catL [cntS1 v p, tail8 v 16 p.will.props, dataB p.will.topic, dataB p.will.payload] else cntS1 v p
def cntS3 (v : Int) (p : Pk) : ByteArray := if p.hasUser = true then catL [cntS2 v p, dataB p.user] else cntS2 v p
def cntS (v : Int) (p : Pk) : ByteArray := if p.hasPass = true then catL [cntS3 v p, dataB p.pass] else cntS3 v p
def cntB (v : Int) (p : Pk) : ByteArray × Int := if p.kind = 2 then cntB2 v p else if cntE v p = 0 then (cntS v p, 0) else (⟨#[]⟩, cntE v p)

def failE (e n : Int) : Int := if e = 0 then n else e
theorem failE_zero {e n : Int} (h : failE e n = 0) (hn : n ≠ 0) : False := by
  unfold failE at h
  split at h
  · exact hn h
  · next x => exact x h
/-- A cursor's next data. -/
def binC (t : ByteArray) (a : Nat) (e : Int) : ByteArray × Nat × Int := takeS t (takeS t a e 2).2.1 (takeS t a e 2).2.2 (numS t a e 2 : Nat)
theorem binC_lt (t : ByteArray) (a : Nat) (e : Int) (ha : a ≤ t.size) : (binC t a e).1.size ≤ 65535 :=
  takeS_size (takeS_le ha e 2) _ _ 65535 (by have := num_two_lt t a e ha; omega)
theorem binC_le (t : ByteArray) (a : Nat) (e : Int) (ha : a ≤ t.size) : (binC t a e).2.1 ≤ t.size := takeS_le (takeS_le ha e 2) _ _
/-- A cursor's next text. -/
def txtC (t : ByteArray) (a : Nat) (e : Int) : ByteArray × Nat × Int := ((binC t a e).1, (binC t a e).2.1, if validB (binC t a e).1 = true then (binC t a e).2.2 else failE (binC t a e).2.2 6)
/-- A cursor's next properties. -/
def prpC (v kind : Int) (t : ByteArray) (a : Nat) (e : Int) : List Pr × Nat × Int :=
  if v = 4 ∨ e ≠ 0 then ([], a, e) else ((readP kind (t.extract a t.size)).1, a + (readP kind (t.extract a t.size)).2.1, (readP kind (t.extract a t.size)).2.2)
/-- May flags be? -/
def flOk (v : Int) (f : Nat) : Bool :=
  !(decide (f % 2 = 1) || decide (f / 8 % 4 = 3) || (!decide (f / 4 % 2 = 1) && decide (f / 8 % 8 ≠ 0))) && (decide (v = 5) || !decide (f / 64 % 2 = 1) || decide (f / 128 % 2 = 1))
/-- A CONNECT by its flags, before its texts. -/
def cnPk (f k : Nat) (c : ByteArray) (l : List Pr) : Pk :=
  { pk0 with kind := 1, clean := decide (f / 2 % 2 = 1), alive := (k : Int), client := c, hasUser := decide (f / 128 % 2 = 1), hasPass := decide (f / 64 % 2 = 1), hasWill := decide (f / 4 % 2 = 1), will := { wl0 with qos := ((f / 8 % 4 : Nat) : Int), retain := decide (f / 32 % 2 = 1) }, props := l }
/-- The name; the version; the flags; the time. -/
def stN (s : ByteArray) : Nat × Int := ((takeS s 0 0 6).2.1, if (takeS s 0 0 6).1 = cntName then (takeS s 0 0 6).2.2 else failE (takeS s 0 0 6).2.2 5)
def stV (v : Int) (s : ByteArray) (a : Nat) (e : Int) : Nat × Int := ((takeS s a e 1).2.1, if ((numS s a e 1 : Nat) : Int) = v then (takeS s a e 1).2.2 else failE (takeS s a e 1).2.2 5)
def stG (v : Int) (s : ByteArray) (a : Nat) (e : Int) : Nat × Nat × Int := (numS s a e 1, (takeS s a e 1).2.1, if flOk v (numS s a e 1) = true then (takeS s a e 1).2.2 else failE (takeS s a e 1).2.2 7)
def stK (s : ByteArray) (a : Nat) (e : Int) : Nat × Nat × Int := (numS s a e 2, (takeS s a e 2).2.1, (takeS s a e 2).2.2)
def cnV (v : Int) (s : ByteArray) : Nat × Int := stV v s (stN s).1 (stN s).2
def cnF (v : Int) (s : ByteArray) : Nat × Nat × Int := stG v s (cnV v s).1 (cnV v s).2
def cnK (v : Int) (s : ByteArray) : Nat × Nat × Int := stK s (cnF v s).2.1 (cnF v s).2.2
def cnP (v : Int) (s : ByteArray) : List Pr × Nat × Int := prpC v 1 s (cnK v s).2.1 (cnK v s).2.2
def cnT (v : Int) (s : ByteArray) : ByteArray × Nat × Int := txtC s (cnP v s).2.1 (cnP v s).2.2
def cn1 (v : Int) (s : ByteArray) : Pk × Nat × Int := (cnPk (cnF v s).1 (cnK v s).1 (cnT v s).1 (cnP v s).1, (cnT v s).2.1, (cnT v s).2.2)
def cnWP (v : Int) (s : ByteArray) (a : Nat) (e : Int) : List Pr × Nat × Int := prpC v 16 s a e
def cnWT (v : Int) (s : ByteArray) (a : Nat) (e : Int) : ByteArray × Nat × Int := txtC s (cnWP v s a e).2.1 (cnWP v s a e).2.2
def cnWB (v : Int) (s : ByteArray) (a : Nat) (e : Int) : ByteArray × Nat × Int := binC s (cnWT v s a e).2.1 (cnWT v s a e).2.2
def cn2 (v : Int) (s : ByteArray) (r : Pk × Nat × Int) : Pk × Nat × Int :=
  if r.1.hasWill = true then ({ r.1 with will := { r.1.will with props := (cnWP v s r.2.1 r.2.2).1, topic := (cnWT v s r.2.1 r.2.2).1, payload := (cnWB v s r.2.1 r.2.2).1 } }, (cnWB v s r.2.1 r.2.2).2.1, (cnWB v s r.2.1 r.2.2).2.2) else r
def cn3 (s : ByteArray) (r : Pk × Nat × Int) : Pk × Nat × Int := if r.1.hasUser = true then ({ r.1 with user := (txtC s r.2.1 r.2.2).1 }, (txtC s r.2.1 r.2.2).2.1, (txtC s r.2.1 r.2.2).2.2) else r
def cn4 (s : ByteArray) (r : Pk × Nat × Int) : Pk × Nat × Int := if r.1.hasPass = true then ({ r.1 with pass := (binC s r.2.1 r.2.2).1 }, (binC s r.2.1 r.2.2).2.1, (binC s r.2.1 r.2.2).2.2) else r
/-- The CONNECT that is read, the cursor behind it. -/
def cnRd (v : Int) (s : ByteArray) : Pk × Nat × Int := cn4 s (cn3 s (cn2 v s (cn1 v s)))
/-- The CONNACK that is read, the cursor behind it. -/
def caF (s : ByteArray) : Nat × Nat × Int := (numS s 0 0 1, (takeS s 0 0 1).2.1, if numS s 0 0 1 ≤ 1 then (takeS s 0 0 1).2.2 else failE (takeS s 0 0 1).2.2 7)
def caC (s : ByteArray) : Nat × Nat × Int := (numS s (caF s).2.1 (caF s).2.2 1, (takeS s (caF s).2.1 (caF s).2.2 1).2.1, (takeS s (caF s).2.1 (caF s).2.2 1).2.2)
def caP (v : Int) (s : ByteArray) : List Pr × Nat × Int := prpC v 2 s (caC s).2.1 (caC s).2.2
def caPk (f c : Nat) (l : List Pr) : Pk := { pk0 with kind := 2, session := decide (f = 1), code := (c : Int), props := l }
def caRd (v : Int) (s : ByteArray) : Pk × Nat × Int := (caPk (caF s).1 (caC s).1 (caP v s).1, (caP v s).2.1, (caP v s).2.2)
/-- Bytes behind it, Valid's error, are errors. -/
def cnEnd (s : ByteArray) (r : Pk × Nat × Int) : Int := if s.size - r.2.1 = 0 then r.2.2 else failE r.2.2 5
def cnDone (v : Int) (s : ByteArray) (r : Pk × Nat × Int) : Pk × Int :=
  if cnEnd s r ≠ 0 then (pk0, cnEnd s r) else if cntE v r.1 ≠ 0 then (pk0, cntE v r.1) else (r.1, 0)
def cntR (v k : Int) (s : ByteArray) : Pk × Int :=
  if hdKnown v = false ∨ cntOurs k = false then (pk0, 2) else cnDone v s (if k = 1 then cnRd v s else caRd v s)

theorem take_ok {t : ByteArray} {a : Nat} {e : Int} {k : Nat} (h : (takeS t a e k).2.2 = 0) : e = 0 ∧ a + k ≤ t.size ∧ takeS t a 0 k = (t.extract a (a + k), a + k, 0) := by
  by_cases he : e = 0
  · subst he
    by_cases hs : a + k ≤ t.size
    · exact ⟨rfl, hs, take_yes hs⟩
    · rw [take_no hs] at h; cases h
  · rw [takeS_bad he] at h; exact absurd h he
theorem take_ls {t : ByteArray} {a k : Nat} (_h : a + k ≤ t.size) : (ls t).drop a = ls (t.extract a (a + k)) ++ (ls t).drop (a + k) := by
  rw [extract_ls, ← List.drop_drop, List.take_append_drop]
theorem bin_ok {t : ByteArray} {a : Nat} {e : Int} (h : (binC t a e).2.2 = 0) : e = 0 ∧ (binC t a e).2.1 ≤ t.size ∧ (binC t a e).1.size ≤ 65535 ∧ (ls t).drop a = putL (binC t a e).1.size 2 ++ (ls (binC t a e).1 ++ (ls t).drop (binC t a e).2.1) := by
  obtain ⟨h1, h2, h3⟩ := take_ok h
  obtain ⟨he, h5, h6⟩ := take_ok (k := 2) h1
  subst he
  have h6' : takeS t a 0 2 = (t.extract a (a + 2), a + 2, 0) := h6
  have hle : a ≤ t.size := by omega
  have hlt := binC_lt t a 0 hle
  have hE : binC t a 0 = (t.extract (a + 2) (a + 2 + numS t a 0 2), a + 2 + numS t a 0 2, 0) := by
    rw [h6'] at h3 h2
    unfold binC
    rw [h6']
    exact h3
  rw [h6'] at h2
  simp only at h2
  rw [hE] at hlt ⊢
  simp only at hlt ⊢
  have hsz : (t.extract (a + 2) (a + 2 + numS t a 0 2)).size = numS t a 0 2 := by rw [ByteArray.size_extract]; omega
  refine ⟨trivial, h2, hlt, ?_⟩
  rw [hsz, ← take_ls h2]
  exact num_back2 h5
theorem txt_ok {t : ByteArray} {a : Nat} {e : Int} (h : (txtC t a e).2.2 = 0) : e = 0 ∧ (txtC t a e).2.1 ≤ t.size ∧ (txtC t a e).1.size ≤ 65535 ∧ validB (txtC t a e).1 = true ∧ (ls t).drop a = putL (txtC t a e).1.size 2 ++ (ls (txtC t a e).1 ++ (ls t).drop (txtC t a e).2.1) := by
  unfold txtC at h ⊢
  simp only at h ⊢
  by_cases hv : validB (binC t a e).1 = true
  · rw [if_pos hv] at h
    obtain ⟨h1, h2, h3, h4⟩ := bin_ok h
    exact ⟨h1, h2, h3, hv, h4⟩
  · rw [if_neg hv] at h
    exact (failE_zero h (by decide)).elim
/-- Properties as they lie in a body. -/
def tailL8 (v k : Int) (l : List Pr) : List UInt8 := if v = 4 then [] else (bytesS k l).1
theorem tail8_ls (v k : Int) (l : List Pr) : ls (tail8 v k l) = tailL8 v k l := by
  unfold tail8 tailL8
  split
  · rfl
  · exact ls_mk _
theorem pr_ok {v k : Int} {t : ByteArray} {a : Nat} {e : Int} (ha : a ≤ t.size) (h : (prpC v k t a e).2.2 = 0) : e = 0 ∧ (prpC v k t a e).2.1 ≤ t.size ∧ (v = 4 → (prpC v k t a e).1 = []) ∧ (bytesS k (prpC v k t a e).1).2 = 0 ∧ (ls t).drop a = tailL8 v k (prpC v k t a e).1 ++ (ls t).drop (prpC v k t a e).2.1 := by
  unfold prpC at h ⊢
  by_cases hv : v = 4 ∨ e ≠ 0
  · rw [if_pos hv] at h ⊢
    simp only at h ⊢
    have h4 : v = 4 := hv.resolve_right (fun x => x h)
    refine ⟨h, ha, fun _ => trivial, by rw [bytesS_none], ?_⟩
    unfold tailL8
    rw [if_pos h4]
    rfl
  · rw [if_neg hv] at h ⊢
    simp only at h ⊢
    have he : e = 0 := Decidable.not_not.1 fun x => hv (.inr x)
    have h4 : v ≠ 4 := fun x => hv (.inl x)
    obtain ⟨g1, g2, g3⟩ := readP_back (kind := k) (s := t.extract a t.size) (l := (readP k (t.extract a t.size)).1) (n := (readP k (t.extract a t.size)).2.1) (by rw [← h])
    rw [ByteArray.size_extract] at g3
    refine ⟨he, by omega, fun x => absurd x h4, g1, ?_⟩
    unfold tailL8
    rw [if_neg h4, g2, rest_ls, ← List.drop_drop, List.take_append_drop]
theorem bin_front {t : ByteArray} {a : Nat} {x : ByteArray} {rest : List UInt8} (ha : a ≤ t.size) (hx : x.size ≤ 65535) (h : (ls t).drop a = putL x.size 2 ++ (ls x ++ rest)) : binC t a 0 = (x, a + 2 + x.size, 0) ∧ a + 2 + x.size ≤ t.size ∧ (ls t).drop (a + 2 + x.size) = rest := by
  have hl := congrArg List.length h
  rw [List.length_drop, List.length_append, List.length_append, putL_len, ls_len, ls_len] at hl
  have hn : numS t a 0 2 = x.size := by rw [show ((2 : Int)) = ((2 : Nat) : Int) from rfl, num_front (k := 2) h (putL_len _ _) ha, get_put2 _ (by omega)]
  have h2 : takeS t a 0 2 = (t.extract a (a + 2), a + 2, 0) := take_yes (k := 2) (by omega)
  have hd : (ls t).drop (a + 2) = ls x ++ rest := by rw [← List.drop_drop, h, drop_two (putL_len _ _)]
  refine ⟨?_, by omega, by rw [← List.drop_drop, hd, drop_two (ls_len _)]⟩
  unfold binC
  rw [h2, hn]
  simp only
  rw [take_yes (by omega)]
  congr 1
  refine ls_ext ?_
  rw [extract_ls, hd, ← ls_len, List.take_left']
  rfl
theorem txt_front {t : ByteArray} {a : Nat} {x : ByteArray} {rest : List UInt8} (ha : a ≤ t.size) (hv : validB x = true) (h : (ls t).drop a = putL x.size 2 ++ (ls x ++ rest)) : txtC t a 0 = (x, a + 2 + x.size, 0) ∧ a + 2 + x.size ≤ t.size ∧ (ls t).drop (a + 2 + x.size) = rest := by
  have hx : x.size ≤ 65535 := by
    unfold validB at hv
    rw [Bool.and_eq_true] at hv
    exact of_decide_eq_true hv.1
  obtain ⟨h1, h2, h3⟩ := bin_front ha hx h
  refine ⟨?_, h2, h3⟩
  unfold txtC
  rw [h1]
  simp only
  rw [if_pos hv]
theorem pr_front {v k : Int} {l : List Pr} {t : ByteArray} {a : Nat} {rest : List UInt8} (ha : a ≤ t.size) (h4 : v = 4 → l = []) (hb : (bytesS k l).2 = 0) (hn : ∀ p ∈ l, p.n < 4294967296) (h : (ls t).drop a = tailL8 v k l ++ rest) :
    prpC v k t a 0 = (l, a + (tailL8 v k l).length, 0) ∧ a + (tailL8 v k l).length ≤ t.size ∧ (ls t).drop (a + (tailL8 v k l).length) = rest := by
  have hl := congrArg List.length h
  rw [List.length_drop, List.length_append, ls_len] at hl
  refine ⟨?_, by omega, by rw [← List.drop_drop, h, drop_two rfl]⟩
  unfold prpC
  unfold tailL8 at h ⊢
  by_cases hv : v = 4
  · rw [if_pos (.inl hv), if_pos hv, h4 hv]; rfl
  · rw [if_neg (fun x => x.elim hv (fun y => y rfl)), if_neg hv]
    rw [if_neg hv] at h
    rw [readP_front hb hn (s := t.extract a t.size) (rest := rest) (by rw [rest_ls, h])]

def fS (p : Pk) (r : List UInt8) : List UInt8 := if p.hasPass = true then putL p.pass.size 2 ++ (ls p.pass ++ r) else r
def fU (p : Pk) (r : List UInt8) : List UInt8 := if p.hasUser = true then putL p.user.size 2 ++ (ls p.user ++ r) else r
def fW (v : Int) (p : Pk) (r : List UInt8) : List UInt8 := if p.hasWill = true then tailL8 v 16 p.will.props ++ (putL p.will.topic.size 2 ++ (ls p.will.topic ++ (putL p.will.payload.size 2 ++ (ls p.will.payload ++ r)))) else r
def f1 (v : Int) (p : Pk) (r : List UInt8) : List UInt8 := ls cntName ++ (putL v.toNat 1 ++ (putL (flN p).toNat 1 ++ (putL p.alive.toNat 2 ++ (tailL8 v 1 p.props ++ (putL p.client.size 2 ++ (ls p.client ++ r))))))
theorem cat_cons (x : ByteArray) (l : List ByteArray) : ls (catL (x :: l)) = ls x ++ ls (catL l) := by
  rw [cat_ls, cat_ls]; rfl
theorem cat_nil : ls (catL []) = [] := by rw [cat_ls]; rfl
theorem dataB_ls {x : ByteArray} (h : x.size ≤ 65535) : ls (dataB x) = putL x.size 2 ++ ls x := by
  unfold dataB
  rw [if_pos h]
  have := ls_framed x ⟨#[]⟩
  rw [show ls (⟨#[]⟩ : ByteArray) = [] from rfl, List.append_nil] at this
  rw [← this]
  congr 1
  exact ls_ext (by unfold framedS; simp [ls])
theorem nameB_valid {x : ByteArray} (hv : nameB x = true) : validB x = true := by
  unfold nameB textB at hv
  simp only [Bool.and_eq_true] at hv
  exact hv.1.2
/-- What holds of a CONNECT that may be. -/
structure CnGood (v : Int) (p : Pk) : Prop where
  ver : v = 4 ∨ v = 5
  kind : p.kind = 1
  same : p = cntQ p
  old : v = 4 → p.props = [] ∧ p.will.props = []
  alive : 0 ≤ p.alive ∧ p.alive < 65536
  qos : 0 ≤ p.will.qos ∧ p.will.qos ≤ 2
  pair : v = 4 → p.hasPass = true → p.hasUser = true
  client : validB p.client = true
  user : validB p.user = true
  topic : p.hasWill = true → validB p.will.topic = true
  payload : p.will.payload.size ≤ 65535
  pass : p.pass.size ≤ 65535
  props : (bytesS 1 p.props).2 = 0
  wprops : (bytesS 16 p.will.props).2 = 0
theorem cn_ls {v : Int} {p : Pk} (g : CnGood v p) (r : List UInt8) : ls (cntS v p) ++ r = f1 v p (fW v p (fU p (fS p r))) := by
  have e1 := dataB_ls (valid_size g.client)
  have e2 := dataB_ls (valid_size g.user)
  have e3 := dataB_ls g.pass
  have e4 := dataB_ls g.payload
  have h1 : ∀ R, ls (cntS1 v p) ++ R = f1 v p R := fun R => by
    unfold cntS1 f1
    simp only [cat_cons, cat_nil, ls_mk, tail8_ls, e1, g.kind, List.append_assoc, List.append_nil]
  have h2 : ∀ R, ls (cntS2 v p) ++ R = f1 v p (fW v p R) := fun R => by
    unfold cntS2 fW
    by_cases h : p.hasWill = true
    · rw [if_pos h, if_pos h, ← h1]
      simp only [cat_cons, cat_nil, tail8_ls, dataB_ls (valid_size (g.topic h)), e4, List.append_assoc, List.append_nil]
    · rw [if_neg h, if_neg h, h1]
  have h3 : ∀ R, ls (cntS3 v p) ++ R = f1 v p (fW v p (fU p R)) := fun R => by
    unfold cntS3 fU
    by_cases h : p.hasUser = true
    · rw [if_pos h, if_pos h, ← h2]
      simp only [cat_cons, cat_nil, e2, List.append_assoc, List.append_nil]
    · rw [if_neg h, if_neg h, h2]
  unfold cntS fS
  by_cases h : p.hasPass = true
  · rw [if_pos h, if_pos h, ← h3]
    simp only [cat_cons, cat_nil, e3, List.append_assoc, List.append_nil]
  · rw [if_neg h, if_neg h, h3]
end Go.Proofs.YtbahnolmlodcdaaGreatDoor

