/- A part of what the laws stand on: SubJ, MqA, HdC, ConB, ConC, ConD, ConE. -/
import Derived.Test.YtbdgkkmbnahgiaaGreatDoorMsG0SubF
import Derived.Laws.Rows
namespace Go.Proofs.YtbdgkkmbnahgiaaGreatDoor
open Go.RowKit
attribute [local go_sem ↓] to_ldPk to_bxPk to_bdPk to_alPk to_stPk
attribute [local go_sem] run_bxPk run_bxPk_agg ld_fresh run_alPk run_bd0 run_bdK run_bdKI run_bdKIC run_bdKC run_bdKICP run_stPk_fresh pkC_0 pkC_1 pkC_2 pkC_3 pkC_4 pkC_5 pkC_6 pkC_7 pkC_8 pkC_9 pkC_10 pkC_11 pkC_12 pkC_13 pkC_14 pkC_15 pkC_16 pkC_17 pkC_18 pkC_19 pkC_20 pkC_21 pkC_22 pkC_23 pkC_24
theorem sbR_ok {v k : Int} {s : ByteArray} (hs : s.size ≤ 140737488351000) : PkOk (sbR v k s).1 := by
  have h0 : PkOk pk0 := pkOk_R1 (k := 0) (i := 0) (c := 0) (l := []) (by simp) (by simp)
  unfold sbR
  split
  · exact h0
  · split
    · exact h0
    · split
      · exact h0
      · exact sbFull_ok hs
end Go.Proofs.YtbdgkkmbnahgiaaGreatDoor

namespace Go.Proofs.YtbdgkkmbnahgiaaGreatDoor
open Go.RowKit

/-- A body, by its kind's chapter. -/
def chB (v : Int) (p : Pk) : ByteArray × Int :=
  if p.kind ≤ 2 then cntB v p
  else if p.kind = 3 then pubB v p
  else if p.kind ≤ 7 then (⟨(ackB v p).1.toArray⟩, (ackB v p).2)
  else if p.kind ≤ 11 then sbB v p
  else (⟨(conB v p).1.toArray⟩, (conB v p).2)
def chE (v : Int) (p : Pk) : Int :=
  if p.kind ≤ 2 then cntE v p
  else if p.kind = 3 then pubE v p
  else if p.kind ≤ 7 then ackE v p
  else if p.kind ≤ 11 then sbE v p
  else conE v p
/-- A body read, by its kind's chapter. -/
def chR (v : Int) (h : Hdr) (s : ByteArray) : Pk × Int :=
  if h.k ≤ 2 then cntR v h.k s
  else if h.k = 3 then pubR v h.f s
  else if h.k ≤ 7 then ackR v h.k s
  else if h.k ≤ 11 then sbR v h.k s
  else conR v h.k s
def mqE (v : Int) (p : Pk) : Int :=
  if hdKnown v = false then 2
  else if hdKinds v p.kind = false then 8
  else if chE v p ≠ 0 then chE v p
  else if 268435455 < (chB v p).1.size then 4 else 0
def mqF (p : Pk) : Int := if p.kind = 3 then flagsP p else hdFixed p.kind
def mqS (v : Int) (p : Pk) : ByteArray := ⟨(hdS p.kind (mqF p) (chB v p).1.size).toArray⟩ ++ (chB v p).1
def mqB (v : Int) (p : Pk) : ByteArray × Int := if mqE v p = 0 then (mqS v p, 0) else (⟨#[]⟩, mqE v p)
def mqR (v : Int) (s : ByteArray) : Pk × Nat × Int :=
  if (hdR v s).2.2 ≠ 0 then (pk0, 0, (hdR v s).2.2)
  else if s.size < (hdR v s).2.1 + (hdR v s).1.n then (pk0, 0, 3)
  else if (chR v (hdR v s).1 (s.extract (hdR v s).2.1 ((hdR v s).2.1 + (hdR v s).1.n))).2 = 0 then ((chR v (hdR v s).1 (s.extract (hdR v s).2.1 ((hdR v s).2.1 + (hdR v s).1.n))).1, (hdR v s).2.1 + (hdR v s).1.n, 0)
  else (pk0, 0, if (chR v (hdR v s).1 (s.extract (hdR v s).2.1 ((hdR v s).2.1 + (hdR v s).1.n))).2 = 3 then 5 else (chR v (hdR v s).1 (s.extract (hdR v s).2.1 ((hdR v s).2.1 + (hdR v s).1.n))).2)
theorem chB_ok {v : Int} {p : Pk} (h : chE v p = 0) : (chB v p).2 = 0 := by
  unfold chE at h
  unfold chB
  split
  · rename_i h1; rw [if_pos h1] at h; rw [cntB_zero h]
  rename_i h1; rw [if_neg h1] at h
  split
  · rename_i h2; rw [if_pos h2] at h; unfold pubB; rw [if_pos h]
  rename_i h2; rw [if_neg h2] at h
  split
  · rename_i h3; rw [if_pos h3] at h; unfold ackB; rw [if_pos h]
  rename_i h3; rw [if_neg h3] at h
  split
  · rename_i h4; rw [if_pos h4] at h; unfold sbB; rw [if_pos h]
  rename_i h4; rw [if_neg h4] at h
  unfold conB; rw [if_pos h]
theorem chB_bad {v : Int} {p : Pk} (h : chE v p ≠ 0) : chB v p = (⟨#[]⟩, chE v p) := by
  unfold chE at h ⊢
  unfold chB
  split
  · rename_i h1; rw [if_pos h1] at h; exact cntB_bad h
  rename_i h1; rw [if_neg h1] at h
  split
  · rename_i h2; rw [if_pos h2] at h; unfold pubB; rw [if_neg h]
  rename_i h2; rw [if_neg h2] at h
  split
  · rename_i h3; rw [if_pos h3] at h; unfold ackB; rw [if_neg h]
  rename_i h3; rw [if_neg h3] at h
  split
  · rename_i h4; rw [if_pos h4] at h; unfold sbB; rw [if_neg h]
  rename_i h4; rw [if_neg h4] at h
  unfold conB; rw [if_neg h]
theorem mqE_ok {v : Int} {p : Pk} (h : mqE v p = 0) : hdKnown v = true ∧ hdKinds v p.kind = true ∧ chE v p = 0 ∧ (chB v p).1.size ≤ 268435455 := by
  unfold mqE at h
  split at h
  · cases h
  rename_i h1
  split at h
  · cases h
  rename_i h2
  split at h
  · rename_i h3; exact absurd h h3
  rename_i h3
  split at h
  · cases h
  rename_i h4
  exact ⟨by simpa using h1, by simpa using h2, Classical.not_not.1 h3, by omega⟩
theorem mqE_of {v : Int} {p : Pk} (h1 : hdKnown v = true) (h2 : hdKinds v p.kind = true) (h3 : chE v p = 0) (h4 : (chB v p).1.size ≤ 268435455) : mqE v p = 0 := by
  unfold mqE
  rw [if_neg (by rw [h1]; decide), if_neg (by rw [h2]; decide), if_neg (by rw [h3]; decide), if_neg (by omega)]
theorem ch_flags {v : Int} {p : Pk} (h1 : hdKnown v = true) (h2 : hdKinds v p.kind = true) (h3 : chE v p = 0) : hdFlags v p = (mqF p, 0) ∧ hdChk v p.kind (mqF p) = 0 := by
  by_cases hk : p.kind = 3
  · have hp : pubE v p = 0 := by
      unfold chE at h3
      rwa [if_neg (by omega), if_pos hk] at h3
    have hb := (pubE_good hp).flags
    have hf : mqF p = flagsP p := if_pos hk
    refine ⟨?_, hdChk_ok.2 ⟨h1, h2, ?_⟩⟩
    · unfold hdFlags
      rw [if_neg (by rw [h1]; decide), if_neg (by rw [h2]; decide), if_neg (by omega), if_neg (by rw [hb]; decide), hf]
    · rw [hf, hk, flagged_three]
      exact (flags_good hb).1
  · have hf : mqF p = hdFixed p.kind := if_neg hk
    refine ⟨?_, hdChk_ok.2 ⟨h1, h2, ?_⟩⟩
    · unfold hdFlags
      rw [if_neg (by rw [h1]; decide), if_neg (by rw [h2]; decide), if_pos hk, hf]
    · unfold hdFlagged
      rw [if_neg hk, hf]
      simp
theorem ch_back {v : Int} {x : Hdr} {s : ByteArray} {q : Pk} (hc : hdChk v x.k x.f = 0) (h : chR v x s = (q, 0)) : chE v q = 0 ∧ (chB v q).1 = s ∧ q.kind = x.k ∧ mqF q = x.f := by
  obtain ⟨-, -, hf⟩ := hdChk_ok.1 hc
  have hfix : x.k ≠ 3 → x.f = hdFixed x.k := fun hk => by
    unfold hdFlagged at hf
    rw [if_neg hk] at hf
    exact of_decide_eq_true hf
  unfold chR at h
  split at h
  · rename_i h1
    obtain ⟨a, b, c⟩ := cntR_back h
    have k1 : q.kind ≤ 2 := by rw [c]; exact h1
    have k2 : ¬ q.kind = 3 := by omega
    simp only [chE, chB, mqF, if_pos k1, if_neg k2]
    exact ⟨a, by rw [b], c, by rw [c]; exact (hfix (by omega)).symm⟩
  rename_i h1
  split at h
  · rename_i h2
    obtain ⟨a, b, c⟩ := pubR_back h
    have k2 := (pubE_good a).kind
    have k1 : ¬ q.kind ≤ 2 := by omega
    simp only [chE, chB, mqF, pubB, if_pos k2, if_neg k1, if_pos a]
    exact ⟨a, b, by rw [k2, h2], c⟩
  rename_i h2
  split at h
  · rename_i h3
    rcases ackR_ways v x.k s with ⟨a, b⟩ | ⟨a, b, c, d⟩
    · rw [h] at b; exact absurd rfl b
    · rw [h] at b c d
      dsimp only at b c d
      have k1 : ¬ q.kind ≤ 2 := by omega
      have k2 : ¬ q.kind = 3 := by omega
      have k3 : q.kind ≤ 7 := by omega
      simp only [chE, chB, mqF, ackB, if_neg k2, if_neg k1, if_pos k3, if_pos b.ok]
      exact ⟨b.ok, by rw [d, mk_ls], c, by rw [c]; exact (hfix h2).symm⟩
  rename_i h3
  split at h
  · rename_i h4
    obtain ⟨a, b, c⟩ := sbR_back h
    have k1 : ¬ q.kind ≤ 2 := by omega
    have k2 : ¬ q.kind = 3 := by omega
    have k3 : ¬ q.kind ≤ 7 := by omega
    have k4 : q.kind ≤ 11 := by omega
    simp only [chE, chB, mqF, sbB, if_neg k2, if_neg k1, if_neg k3, if_pos k4, if_pos a]
    exact ⟨a, by rw [b, mk_ls], c, by rw [c]; exact (hfix h2).symm⟩
  rename_i h4
  rcases conR_ways v x.k s with ⟨a, b⟩ | ⟨a, b, c, d⟩
  · rw [h] at b; exact absurd rfl b
  · rw [h] at b c d
    dsimp only at b c d
    have k1 : ¬ q.kind ≤ 2 := by omega
    have k2 : ¬ q.kind = 3 := by omega
    have k3 : ¬ q.kind ≤ 7 := by omega
    have k4 : ¬ q.kind ≤ 11 := by omega
    simp only [chE, chB, mqF, conB, if_neg k2, if_neg k1, if_neg k3, if_neg k4, if_pos b.ok]
    exact ⟨b.ok, by rw [d, mk_ls], c, by rw [c]; exact (hfix h2).symm⟩
theorem chR_ok {v : Int} {x : Hdr} {s : ByteArray} (hs : s.size ≤ 1000000000000) : PkOk (chR v x s).1 := by
  unfold chR
  split
  · exact cntR_ok (by omega)
  split
  · exact pubR_pk (by omega)
  split
  · exact ackR_ok (by omega)
  split
  · exact sbR_ok (by omega)
  exact conR_ok (by omega)

theorem mqS_ls (v : Int) (p : Pk) : ls (mqS v p) = hdS p.kind (mqF p) (chB v p).1.size ++ ls (chB v p).1 := by
  unfold mqS
  rw [ls_app, ls_mk]
theorem mqS_size (v : Int) (p : Pk) : (mqS v p).size = (hdS p.kind (mqF p) (chB v p).1.size).length + (chB v p).1.size := by
  rw [← ls_len, mqS_ls, List.length_append, ls_len]
theorem mqS_two (v : Int) (p : Pk) : 2 ≤ (mqS v p).size := by
  rw [mqS_size]
  have := hdS_two p.kind (mqF p) (chB v p).1.size
  omega
theorem mqR_back {v : Int} {s : ByteArray} {q : Pk} {n : Nat} (h : mqR v s = (q, n, 0)) : mqE v q = 0 ∧ mqS v q = s.extract 0 n ∧ n ≤ s.size ∧ n = (mqS v q).size := by
  unfold mqR at h
  split at h
  · rename_i h1
    simp only [Prod.mk.injEq] at h
    exact absurd h.2.2 h1
  rename_i h1
  split at h
  · simp at h
  rename_i h2
  split at h
  · rename_i h3
    simp only [Prod.mk.injEq] at h
    obtain ⟨rfl, rfl, -⟩ := h
    obtain ⟨b1, b2, b3, b4, b5⟩ := hdR_back (v := v) (s := s) (h := (hdR v s).1) (a := (hdR v s).2.1) (by rw [← Classical.not_not.1 h1])
    generalize hdR v s = r at *
    obtain ⟨c1, c2, c3, c4⟩ := ch_back (q := (chR v r.1 (s.extract r.2.1 (r.2.1 + r.1.n))).1) b1 (by rw [← h3])
    generalize (chR v r.1 (s.extract r.2.1 (r.2.1 + r.1.n))).1 = q at *
    obtain ⟨k1, k2, -⟩ := hdChk_ok.1 b1
    have hsz : (chB v q).1.size = r.1.n := by
      rw [c2, ByteArray.size_extract]
      omega
    have hS : mqS v q = s.extract 0 (r.2.1 + r.1.n) := by
      apply ls_ext
      rw [mqS_ls, c3, c4, hsz, c2, extract_ls]
      have : ls (s.extract 0 (r.2.1 + r.1.n)) = (ls s).take (r.2.1 + r.1.n) := by
        have := extract_ls s 0 (r.2.1 + r.1.n)
        rwa [Nat.zero_add, List.drop_zero] at this
      rw [this]
      generalize ls s = X at *
      rw [b4] at b3 ⊢
      generalize hdS r.1.k r.1.f r.1.n = Y at *
      rw [b3, List.take_append, List.take_of_length_le (Nat.le_add_right _ _), Nat.add_sub_cancel_left, List.drop_left]
    refine ⟨mqE_of k1 (by rw [c3]; exact k2) c1 (by omega), hS, by omega, ?_⟩
    rw [hS, ByteArray.size_extract]
    omega
  · rename_i h3
    simp only [Prod.mk.injEq] at h
    obtain ⟨-, -, h4⟩ := h
    split at h4
    · cases h4
    · exact absurd h4 h3
theorem mqR_okP {v : Int} {s : ByteArray} (hs : s.size ≤ 1000000000000) : PkOk (mqR v s).1 := by
  have hz : PkOk pk0 := PkOk.zero 0 0 0
  unfold mqR
  split
  · exact hz
  split
  · exact hz
  split
  · refine chR_ok ?_
    rw [ByteArray.size_extract]
    omega
  · exact hz
theorem mqR_step {v : Int} {s : ByteArray} (h : (mqR v s).2.2 = 0) : 2 ≤ (mqR v s).2.1 ∧ (mqR v s).2.1 ≤ s.size := by
  obtain ⟨a, b, c, d⟩ := mqR_back (q := (mqR v s).1) (n := (mqR v s).2.1) (by rw [← h])
  have := mqS_two v (mqR v s).1
  omega

/-- A body of subscribe is no longer than can be. -/
def SbFit (v : Int) (p : Pk) : Prop := 8 ≤ p.kind ∧ p.kind ≤ 11 → (sbS v p).length ≤ 140737488351232
theorem drop_ls (s : ByteArray) (a : Nat) : ls (s.extract a s.size) = (ls s).drop a := by
  unfold ls
  rw [Lib.extract_data, List.take_of_length_le]
  rw [List.length_drop]
  exact Nat.le_refl _
end Go.Proofs.YtbdgkkmbnahgiaaGreatDoor

namespace Go.Proofs.YtbdgkkmbnahgiaaGreatDoor
open Go.RowKit

theorem varL_pos (n : Nat) : 0 < (varL n).length := by
  unfold varL varF
  split <;> simp
set_option maxHeartbeats 1000000 in
set_option maxRecDepth 10000 in
theorem varSize_any (n : Nat) (w : World) (hn : n ≤ 268435455) : Calls Tryz.prog 180 #[.int .i64 n] w fun e w' => e = .returned (.int .i64 (varL n).length) ∧ Below w.heap.size w w' := by
  have hm : Hid (mayV n = true) := by show _ = _; simp [mayV]; omega
  have HB := Lib.hid (Below.refl w.heap.size w)
  go_enter Tryz.func180, Tryz.ntmps180
  go_wp2_with fail
  refine (mayV_any n _).mono ?_
  rintro e w1 ⟨rfl, rfl⟩
  rw [hm.out]
  go_wp2
  go_loopw [0, 3] (fun v o wr => ∃ (m f j : Nat), f ≤ 3 ∧ m < 128 ^ (f + 1) ∧ j + f = 4 ∧ v = .int .i64 m ∧ o = .int .i64 j ∧ (varL n).length + 1 = j + (varF f m).length ∧ Below w.heap.size w wr) (fun v _ _ => (intOf v).toNat)
  case atStart => exact ⟨n, 3, 1, by omega, by simp; omega, by omega, rfl, rfl, by show _ = 1 + (varL n).length; omega, HB.out⟩
  case round =>
    obtain ⟨m, f, j, hf, hmf, hj, rfl, rfl, hv, hbel⟩ := hrel
    have HV := Lib.hid hv; have HBE := Lib.hid hbel; have HMF := Lib.hid hmf; have HJ := Lib.hid hj
    have hj4 : j ≤ 4 := by omega
    have hm2 : m < 268435456 := by
      have : 128 ^ (f + 1) ≤ 128 ^ 4 := Nat.pow_le_pow_right (by omega) (by omega)
      have h4 : (128 : Nat) ^ 4 = 268435456 := by decide
      omega
    clear hv hbel hmf hj hm
    by_cases hge : 128 ≤ m
    · have hge' : (128 : Int) ≤ (m : Int) := by omega
      have HR : Hid (∃ f', f = f' + 1 ∧ m / 128 < 128 ^ (f' + 1) ∧ (varF f m).length = 1 + (varF f' (m / 128)).length) := Lib.hid (by
        have h1 := HMF.out
        rcases Nat.eq_zero_or_pos f with rfl | h
        · simp at h1; omega
        · obtain ⟨f', rfl⟩ : ∃ f', f = f' + 1 := ⟨f - 1, by omega⟩
          refine ⟨f', rfl, ?_, ?_⟩
          · rw [Nat.pow_succ] at h1
            exact Nat.div_lt_of_lt_mul (by rw [Nat.mul_comm]; exact h1)
          · rw [varF, if_neg (by omega), List.length_cons, Nat.add_comm])
      go_wp2
      go_roundw
      case rel =>
        obtain ⟨f', h0, h1, h2⟩ := HR.out
        exact ⟨m / 128, f', j + 1, by omega, h1, by have := HJ.out; omega, by simp, by simp, by rw [HV.out, h2]; omega, HBE.out⟩
      case measure => simp [intOf]; omega
    · have hlt : (m : Int) < 128 := by omega
      have HF : Hid ((varL n).length = j) := Lib.hid (by
        have : (varF f m).length = 1 := by
          cases f with
          | zero => rfl
          | succ f => rw [varF, if_pos (by omega)]; rfl
        have := HV.out
        omega)
      go_wp2
      go_ret
      exact ⟨by rw [HF.out]; rfl, HBE.out⟩

set_option maxHeartbeats 400000 in
set_option maxRecDepth 10000 in
theorem hdFlagged_any (k f : Int) (w : World) : Calls Tryz.prog 179 #[.int .i64 k, .int .i64 f] w fun e w' => e = .returned (.bool (hdFlagged k f)) ∧ w = w' := by
  by_cases h3 : k = 3
  · subst h3
    rw [show hdFlagged 3 f = hdFlag3 f from if_pos rfl]
    exact hdFlag3_any f w
  · have HE : Hid (hdFlagged k f = decide (f = hdFixed k)) := Lib.hid (if_neg h3)
    have e3 : (k != 3) = true := bne_iff_ne.2 h3
    clear h3
    go_enter Tryz.func179, Tryz.ntmps179
    go_wp2_with fail
    refine (hdFixed_any k _).mono ?_
    rintro e w1 ⟨rfl, rfl⟩
    go_wp2
    go_ret
    refine ⟨ret_bool ?_, rfl⟩
    rw [HE.out]
    by_cases e : f = hdFixed k <;> simp [e]

set_option maxHeartbeats 1000000 in
set_option maxRecDepth 10000 in
theorem hdCheck_any (v k f : Int) (n : Nat) (w : World) (hn : n ≤ 268435455) : Calls Tryz.prog 129 #[.int .i64 v, hdrV ⟨k, f, n⟩] w fun e w' => e = .returned (.int .i64 (hdChk v k f)) ∧ Below w.heap.size w w' := by
  have HE : Hid (hdChk v k f = if hdKnown v = false then 2 else if hdKinds v k = false then 8 else if hdFlagged k f = false then 7 else 0) := Lib.hid rfl
  have HB := Lib.hid ((Below.refl w.heap.size w).alloc (Nat.le_refl _) (.cells #[.int .i64 k, .int .i64 f, .int .i64 n] 112))
  have HN := Lib.hid hn
  have HP : Hid (0 < (varL n).length) := Lib.hid (varL_pos n)
  clear hn
  show Calls _ _ #[.int .i64 v, .agg #[.int .i64 k, .int .i64 f, .int .i64 n]] _ _
  go_enter Tryz.func129, Tryz.ntmps129
  go_wp2_with fail
  refine (hdKnown_any v _).mono ?_
  rintro e w1 ⟨rfl, rfl⟩
  cases hk : hdKnown v
  · have HX : Hid (hdChk v k f = 2) := Lib.hid (by rw [HE.out, if_pos hk])
    clear hk
    go_wp2
    go_ret
    exact ⟨by rw [HX.out]; rfl, HB.out⟩
  have HE1 : Hid (hdChk v k f = if hdKinds v k = false then 8 else if hdFlagged k f = false then 7 else 0) := Lib.hid (by rw [HE.out, if_neg (fun x => by rw [hk] at x; cases x)])
  clear hk HE
  have k1 : (w.alloc (.cells #[.int .i64 k, .int .i64 f, .int .i64 n] 112)).cell? ⟨w.heap.size, 0, none⟩ = some (.int .i64 k) := (Bk.fresh w 112 _).cell 0
  have k2 : (w.alloc (.cells #[.int .i64 k, .int .i64 f, .int .i64 n] 112)).cell? ⟨w.heap.size, 1, none⟩ = some (.int .i64 f) := (Bk.fresh w 112 _).cell 1
  have k3 : (w.alloc (.cells #[.int .i64 k, .int .i64 f, .int .i64 n] 112)).cell? ⟨w.heap.size, 2, none⟩ = some (.int .i64 n) := (Bk.fresh w 112 _).cell 2
  go_wp2_with fail
  refine (hdKinds_any v k _).mono ?_
  rintro e w1 ⟨rfl, rfl⟩
  cases hk : hdKinds v k
  · have HX : Hid (hdChk v k f = 8) := Lib.hid (by rw [HE1.out, if_pos hk])
    clear hk
    go_wp2
    go_ret
    exact ⟨by rw [HX.out]; rfl, HB.out⟩
  have HE2 : Hid (hdChk v k f = if hdFlagged k f = false then 7 else 0) := Lib.hid (by rw [HE1.out, if_neg (fun x => by rw [hk] at x; cases x)])
  clear hk HE1
  go_wp2_with fail
  refine (hdFlagged_any k f _).mono ?_
  rintro e w1 ⟨rfl, rfl⟩
  cases hk : hdFlagged k f
  · have HX : Hid (hdChk v k f = 7) := Lib.hid (by rw [HE2.out, if_pos hk])
    clear hk
    go_wp2
    go_ret
    exact ⟨by rw [HX.out]; rfl, HB.out⟩
  have HX : Hid (hdChk v k f = 0) := Lib.hid (by rw [HE2.out, if_neg (fun x => by rw [hk] at x; cases x)])
  clear hk HE2
  go_wp2_with fail
  refine (varSize_any n _ HN.out).mono ?_
  rintro e w1 ⟨rfl, hb⟩
  have HB2 := Lib.hid (HB.out.trans (hb.mono HB.out.size)); clear hb
  obtain ⟨m, hm⟩ : ∃ m, (varL n).length = m := ⟨_, rfl⟩
  have hp := HP.out
  rw [hm] at hp ⊢
  have e0 : ((m : Int) == 0) = false := beq_eq_false_iff_ne.2 (by omega)
  clear hm HP hp
  go_wp2
  go_ret
  exact ⟨by rw [HX.out]; rfl, HB2.out⟩
theorem hd_or (k f : Nat) (hk : k ≤ 15) (hf : f ≤ 15) : IntKind.u64.wrap (bits BinOp.or IntKind.i64 ((k : Int) * 16) (f : Int)) = ((16 * k + f : Nat) : Int) := by
  have h1 := int_or (k * 16) f (by omega) (by omega)
  have h2 : k * 16 ||| f = 16 * k + f := by
    have := Nat.two_pow_add_eq_or_of_lt (i := 4) (b := f) (by omega) k
    rw [Nat.mul_comm k 16]
    exact this.symm
  rw [show ((k : Int) * 16) = ((k * 16 : Nat) : Int) by omega, h1, h2]
  simp [IntKind.wrap, IntKind.bits, IntKind.signed]
  omega
/-- A header's bytes, or Check's error. -/
def hdB (v k f : Int) (n : Nat) : List UInt8 × Int := if hdChk v k f = 0 then (hdS k f n, 0) else ([], hdChk v k f)
set_option maxHeartbeats 1000000 in
set_option maxRecDepth 10000 in
theorem hdBytes_any (v k f : Int) (n : Nat) (w : World) (hn : n ≤ 268435455) : Calls Tryz.prog 82 #[.int .i64 v, hdrV ⟨k, f, n⟩] w fun e w' => e = .returned (.tuple #[.string ⟨(hdB v k f n).1.toArray⟩, .int .i64 (hdB v k f n).2]) ∧ Below w.heap.size w w' := by
  have HB := Lib.hid ((Below.refl w.heap.size w).alloc (Nat.le_refl _) (.cells #[.int .i64 k, .int .i64 f, .int .i64 n] 112))
  have HK := Lib.hid (Bk.fresh w 112 #[.int .i64 k, .int .i64 f, .int .i64 n])
  have HN := Lib.hid hn
  have HCK := Lib.hid (fun W => hdCheck_any v k f n W hn)
  clear hn
  show Calls _ _ #[.int .i64 v, .agg #[.int .i64 k, .int .i64 f, .int .i64 n]] _ _
  simp only [hdrV] at HCK
  go_enter Tryz.func82, Tryz.ntmps82
  go_wp2_with fail
  refine (HCK.out _).mono ?_
  rintro e w1 ⟨rfl, hb⟩
  have HB1 := Lib.hid (HB.out.trans (hb.mono HB.out.size))
  have HK1 := Lib.hid (HK.out.below hb HK.out.lt)
  clear hb HB HK HCK
  by_cases h0 : hdChk v k f = 0
  rotate_left
  · have HX : Hid (hdB v k f n = ([], hdChk v k f)) := Lib.hid (if_neg h0)
    generalize hdChk v k f = x at *
    have e0 : (x != 0) = true := bne_iff_ne.2 h0
    clear h0
    go_wp2
    go_ret2
    exact ⟨by rw [HX.out]; rfl, HB1.out⟩
  have HX : Hid (hdB v k f n = (hdS k f n, 0)) := Lib.hid (if_pos h0)
  obtain ⟨h1, h2, h3⟩ := hdChk_ok.1 h0
  have r1 := kinds_range h2
  have r2 := flagged_range h3
  rw [h0]
  clear h0 h1 h2 h3
  obtain ⟨kn, rfl⟩ : ∃ kn : Nat, k = kn := ⟨k.toNat, by omega⟩
  obtain ⟨fn, rfl⟩ : ∃ fn : Nat, f = fn := ⟨f.toNat, by omega⟩
  have c0 := HK1.out.cell 0; have c1 := HK1.out.cell 1; have c2 := HK1.out.cell 2
  simp only [List.getElem?_toArray, List.getElem?_cons_succ, List.getElem?_cons_zero] at c0 c1 c2
  go_wp2_with fail
  refine (varBytes_any n _ HN.out).mono ?_
  rintro e w2 ⟨rfl, hb⟩
  have HB2 := Lib.hid (HB1.out.trans (hb.mono HB1.out.size))
  have HK2 := Lib.hid (HK1.out.below hb HK1.out.lt)
  clear hb c0 c1 c2
  have c0 := HK2.out.cell 0; have c1 := HK2.out.cell 1
  simp only [List.getElem?_toArray, List.getElem?_cons_succ, List.getElem?_cons_zero] at c0 c1
  have hor := hd_or kn fn (by omega) (by omega)
  have HPT := Lib.hid (fun W => put_any (16 * kn + fn) 1 W (by omega) (by decide) (by decide))
  have HS : Hid (hdS (kn : Int) (fn : Int) n = putL (16 * kn + fn) 1 ++ varL n) := Lib.hid (by
    unfold hdS
    rw [show (16 * (kn : Int) + (fn : Int)).toNat = 16 * kn + fn by omega])
  obtain ⟨m, hm⟩ : ∃ m, 16 * kn + fn = m := ⟨_, rfl⟩
  rw [hm] at hor HPT HS
  clear hm
  go_wp2_with fail
  refine (HPT.out _).mono ?_
  rintro e w3 ⟨rfl, hb⟩
  have HB3 := Lib.hid (HB2.out.trans (hb.mono HB2.out.size))
  have hsm : ¬ (9223372036854775807 < (putL m 1).length + (varL n).length) := by
    rw [putL_len]
    have : (varL n).length ≤ 4 := varF_len 3 n
    omega
  clear hb c0 c1 hor HPT
  go_wp2
  go_ret2
  exact ⟨by rw [HX.out, HS.out]; rfl, HB3.out⟩
theorem results_cell2 {fn : Func} {p u u' : Tmp} {ty : TypeId} (h : fn.results = #[.cell p ty, .tmp u, .tmp u']) (tmps : Array Value) (P : Program) (w : World) :
    (results fn tmps).run P w = ((asAddr (tmps.getD p undef)).run P w).andThen fun a w₁ => ((loadVar ty a).run P w₁).andThen fun v w₂ => .ok (.tuple #[v, tmps.getD u undef, tmps.getD u' undef]) w₂ := by
  simp only [results, h]
  simp [Sem.run_bind, Result.andThen]
theorem lv_hd {w : World} {g : Nat} {k f n : Int} (hb : Bk w g 112 #[.int .i64 k, .int .i64 f, .int .i64 n]) : (loadVar 112 ⟨g, 0, none⟩).run Tryz.prog w = .ok (.agg #[.int .i64 k, .int .i64 f, .int .i64 n]) w :=
  run_loadVar_row w g 112 112 _ (0, 0) _ hb Tryz.underlying112 rfl (by kernel_rfl)
theorem results_hd {fn : Func} {p u u' : Tmp} (hr : fn.results = #[.cell p 112, .tmp u, .tmp u']) (tmps : Array Value) {w : World} {g : Nat} {k f n : Int} (hp : tmps.getD p undef = .pointer (some ⟨g, 0, none⟩)) (hb : Bk w g 112 #[.int .i64 k, .int .i64 f, .int .i64 n]) :
    (results fn tmps).run Tryz.prog w = .ok (.tuple #[.agg #[.int .i64 k, .int .i64 f, .int .i64 n], tmps.getD u undef, tmps.getD u' undef]) w := by
  rw [results_cell2 hr, hp]
  exact then_ok _ (⟨g, 0, none⟩ : Addr) w _ rfl |>.trans (then_ok _ _ w _ (lv_hd hb))
theorem low4 (b : UInt8) : bits BinOp.and IntKind.u8 (b.toNat : Int) 15 = ((b.toNat % 16 : Nat) : Int) := by
  have h := u8_and b 15
  rw [show ((15 : UInt8).toNat : Int) = 15 from rfl] at h
  rw [h, UInt8.toNat_and, show (15 : UInt8).toNat = 2 ^ 4 - 1 from rfl, Nat.and_two_pow_sub_one_eq_mod]
set_option maxHeartbeats 1000000 in
set_option maxRecDepth 10000 in
theorem hdRead_any (v : Int) (s : ByteArray) (w : World) (hs : s.size ≤ 4611686018427387904) : Calls Tryz.prog 88 #[.int .i64 v, .string s] w fun e w' => e = .returned (.tuple #[hdrV (hdR v s).1, .int .i64 ((hdR v s).2.1 : Nat), .int .i64 (hdR v s).2.2]) ∧ Below w.heap.size w w' := by
  have HE : Hid (hdR v s = if hdKnown v = false then (hdr0, 0, 2)
    else if s.size = 0 then (hdr0, 0, 3)
    else if hdChk v (hdByte s / 16 : Nat) (hdByte s % 16 : Nat) ≠ 0 then (hdr0, 0, hdChk v (hdByte s / 16 : Nat) (hdByte s % 16 : Nat))
    else if (readV (ls (s.extract 1 s.size))).2.2 ≠ 0 then (hdr0, 0, (readV (ls (s.extract 1 s.size))).2.2)
    else (⟨(hdByte s / 16 : Nat), (hdByte s % 16 : Nat), (readV (ls (s.extract 1 s.size))).1⟩, (readV (ls (s.extract 1 s.size))).2.1 + 1, 0)) := Lib.hid rfl
  have HB := Lib.hid ((Below.refl w.heap.size w).alloc (Nat.le_refl _) (.cells #[.int .i64 0, .int .i64 0, .int .i64 0] 112))
  have HK := Lib.hid (Bk.fresh w 112 #[.int .i64 0, .int .i64 0, .int .i64 0])
  have HS := Lib.hid hs
  clear hs
  go_enter Tryz.func88, Tryz.ntmps88
  go_wp2_with fail
  refine (hdKnown_any v _).mono ?_
  rintro e w1 ⟨rfl, rfl⟩
  cases hk : hdKnown v
  · have HX : Hid (hdR v s = (hdr0, 0, 2)) := Lib.hid (by rw [HE.out, if_pos hk])
    clear hk
    go_wp2
    refine bodyPost_ret (results_hd rfl _ rfl HK.out) rfl ?_
    exact ⟨by rw [HX.out]; rfl, HB.out⟩
  by_cases h0 : s.size = 0
  · have HX : Hid (hdR v s = (hdr0, 0, 3)) := Lib.hid (by rw [HE.out, if_neg (fun x => by rw [hk] at x; cases x), if_pos h0])
    have em := emptyB_iff s
    rw [decide_eq_true h0] at em
    clear hk h0
    go_wp2
    refine bodyPost_ret (results_hd rfl _ rfl HK.out) rfl ?_
    exact ⟨by rw [HX.out]; rfl, HB.out⟩
  have hpos0 : 0 < s.size := by omega
  obtain ⟨b, hb⟩ : ∃ b, s[0]'hpos0 = b := ⟨_, rfl⟩
  have HBY : Hid (hdByte s = b.toNat) := Lib.hid (by
    unfold hdByte
    rw [List.headD_eq_head?_getD, List.head?_eq_getElem?, List.getElem?_eq_getElem (by rw [ls_len]; omega), ls_at s 0 (by omega), hb]
    rfl)
  have HE1 : Hid (hdR v s = if hdChk v (hdByte s / 16 : Nat) (hdByte s % 16 : Nat) ≠ 0 then (hdr0, 0, hdChk v (hdByte s / 16 : Nat) (hdByte s % 16 : Nat))
    else if (readV (ls (s.extract 1 s.size))).2.2 ≠ 0 then (hdr0, 0, (readV (ls (s.extract 1 s.size))).2.2)
    else (⟨(hdByte s / 16 : Nat), (hdByte s % 16 : Nat), (readV (ls (s.extract 1 s.size))).1⟩, (readV (ls (s.extract 1 s.size))).2.1 + 1, 0)) := Lib.hid (by rw [HE.out, if_neg (fun x => by rw [hk] at x; cases x), if_neg h0])
  have hpos : (0 : Int) < (s.size : Int) := by omega
  have em := emptyB_iff s
  rw [decide_eq_false h0] at em
  have hlo := low4 b
  have hb8 := b.toNat_lt
  have HPOS : Hid (1 ≤ s.size) := Lib.hid (by omega)
  clear hk HE h0
  go_wp2_with fail
  go_region
  have HX0 : Hid (∃ kn fn : Nat, b.toNat / 16 = kn ∧ b.toNat % 16 = fn) := Lib.hid ⟨_, _, rfl, rfl⟩
  obtain ⟨kn, fn, hkn, hfn⟩ := HX0.out
  rw [show ((b.toNat : Int) / 16) = (kn : Int) by omega, show ((b.toNat : Int) % 16) = (fn : Int) by omega]
  have HE2 : Hid (hdR v s = if hdChk v kn fn ≠ 0 then (hdr0, 0, hdChk v kn fn)
    else if (readV (ls (s.extract 1 s.size))).2.2 ≠ 0 then (hdr0, 0, (readV (ls (s.extract 1 s.size))).2.2)
    else (⟨kn, fn, (readV (ls (s.extract 1 s.size))).1⟩, (readV (ls (s.extract 1 s.size))).2.1 + 1, 0)) := Lib.hid (by rw [HE1.out, HBY.out, hkn, hfn])
  have HB1 := Lib.hid (below_drawn ((Below.refl w.heap.size w).alloc (Nat.le_refl _) (.cells #[.int .i64 kn, .int .i64 fn, .int .i64 0] 112)) 1)
  have HK1 := Lib.hid ((Bk.fresh w 112 #[.int .i64 kn, .int .i64 fn, .int .i64 0]).drewN 1)
  have HCK := Lib.hid (fun W => hdCheck_any v kn fn 0 W (by omega))
  simp only [hdrV] at HCK
  clear HX0 HE1 HBY hkn hfn hlo hb hb8 HK HB em
  have c0 := HK1.out.cell 0; have c1 := HK1.out.cell 1; have c2 := HK1.out.cell 2
  simp only [List.getElem?_toArray, List.getElem?_cons_succ, List.getElem?_cons_zero] at c0 c1 c2
  go_wp2_with fail
  refine (HCK.out _).mono ?_
  rintro e w1 ⟨rfl, hb⟩
  have HB2 := Lib.hid (HB1.out.trans (hb.mono HB1.out.size))
  have HK2 := Lib.hid (HK1.out.below hb HK1.out.lt)
  clear hb c0 c1 c2 HCK HK1 HB1
  by_cases hc : hdChk v kn fn = 0
  rotate_left
  · have HX : Hid (hdR v s = (hdr0, 0, hdChk v kn fn)) := Lib.hid (by rw [HE2.out, if_pos hc])
    generalize hdChk v kn fn = x at *
    have e0 : (x != 0) = true := bne_iff_ne.2 hc
    clear hc HE2
    have c0 := HK2.out.cell 0; have c1 := HK2.out.cell 1; have c2 := HK2.out.cell 2
    have f0 := HK2.out.free 0; have f1 := HK2.out.free 1; have f2 := HK2.out.free 2
    simp only [List.getElem?_toArray, List.getElem?_cons_succ, List.getElem?_cons_zero] at c0 c1 c2
    go_wp2
    refine bodyPost_ret (results_hd rfl _ rfl (((HK2.out.put 0 (.int .i64 0)).put 1 (.int .i64 0)).put 2 (.int .i64 0))) rfl ?_
    exact ⟨by rw [HX.out]; rfl, ((HB2.out.setCell (Nat.le_refl _) _).setCell (Nat.le_refl _) _).setCell (Nat.le_refl _) _⟩
  rw [hc]
  have HE3 : Hid (hdR v s = if (readV (ls (s.extract 1 s.size))).2.2 ≠ 0 then (hdr0, 0, (readV (ls (s.extract 1 s.size))).2.2)
    else (⟨kn, fn, (readV (ls (s.extract 1 s.size))).1⟩, (readV (ls (s.extract 1 s.size))).2.1 + 1, 0)) := Lib.hid (by rw [HE2.out, if_neg (fun x => x hc)])
  clear hc HE2
  have v1 : (0 : Int) ≤ 1 := by decide
  have v2 : (1 : Int) ≤ (s.size : Int) := by have := HPOS.out; omega
  have HRV := Lib.hid (fun W => readV_any (s.extract 1 s.size) W (by rw [ByteArray.size_extract]; have := HS.out; omega))
  have HLT := Lib.hid (readV_size (ls (s.extract 1 s.size)))
  rw [ls_len, ByteArray.size_extract] at HLT
  go_wp2_with fail
  refine (HRV.out _).mono ?_
  rintro e w2 ⟨rfl, hb⟩
  have HB3 := Lib.hid (HB2.out.trans (hb.mono HB2.out.size))
  have HK3 := Lib.hid (HK2.out.below hb HK2.out.lt)
  clear hb HRV HK2 HB2
  obtain ⟨⟨rn, ra, re⟩, hr⟩ : ∃ r, readV (ls (s.extract 1 s.size)) = r := ⟨_, rfl⟩
  rw [hr] at HE3 HLT ⊢
  dsimp only at HLT ⊢
  clear hr
  have c0 := HK3.out.cell 0; have c1 := HK3.out.cell 1; have c2 := HK3.out.cell 2
  have f0 := HK3.out.free 0; have f1 := HK3.out.free 1; have f2 := HK3.out.free 2
  simp only [List.getElem?_toArray, List.getElem?_cons_succ, List.getElem?_cons_zero] at c0 c1 c2
  by_cases hz : re = 0
  · have HX : Hid (hdR v s = (⟨kn, fn, rn⟩, ra + 1, 0)) := Lib.hid (by rw [HE3.out, if_neg (fun x => x hz)])
    subst hz
    have hra : (ra : Int) < 9223372036854775806 := by have := HLT.out; have := HS.out; omega
    clear HE3
    go_wp2
    refine bodyPost_ret (results_hd rfl _ rfl ((((HK3.out.put 2 (.int .i64 rn)).put 0 (.int .i64 kn)).put 1 (.int .i64 fn)).put 2 (.int .i64 rn))) rfl ?_
    exact ⟨by rw [HX.out]; rfl, (((HB3.out.setCell (Nat.le_refl _) _).setCell (Nat.le_refl _) _).setCell (Nat.le_refl _) _).setCell (Nat.le_refl _) _⟩
  · have HX : Hid (hdR v s = (hdr0, 0, re)) := Lib.hid (by rw [HE3.out, if_pos hz])
    have e0 : (re != 0) = true := bne_iff_ne.2 hz
    clear HE3 hz
    go_wp2
    refine bodyPost_ret (results_hd rfl _ rfl ((((HK3.out.put 2 (.int .i64 rn)).put 0 (.int .i64 0)).put 1 (.int .i64 0)).put 2 (.int .i64 0))) rfl ?_
    exact ⟨by rw [HX.out]; rfl, (((HB3.out.setCell (Nat.le_refl _) _).setCell (Nat.le_refl _) _).setCell (Nat.le_refl _) _).setCell (Nat.le_refl _) _⟩
end Go.Proofs.YtbdgkkmbnahgiaaGreatDoor

namespace Go.Proofs.YtbdgkkmbnahgiaaGreatDoor
open Go.RowKit

def fnB (f : FuncId) : Value := .func (.func f) #[.agg #[]] #[]
def sayTab : List (Int × Value) := [(12, fnB 333), (13, fnB 333), (14, fnB 334), (15, fnB 334)]
set_option maxHeartbeats 400000 in
set_option maxRecDepth 10000 in
theorem nothing_any (v : Int) (w : World) : Calls Tryz.prog 333 #[.agg #[], .int .i64 v] w fun e w' => e = .returned (.bool false) ∧ Below w.heap.size w w' := by
  go_enter Tryz.func333, Tryz.ntmps333
  go_wp2
  go_ret
  exact ⟨rfl, (Below.refl _ _).alloc (Nat.le_refl _) _⟩
set_option maxHeartbeats 400000 in
set_option maxRecDepth 10000 in
theorem late_any (v : Int) (w : World) : Calls Tryz.prog 334 #[.agg #[], .int .i64 v] w fun e w' => e = .returned (.bool (v == 5)) ∧ Below w.heap.size w w' := by
  go_enter Tryz.func334, Tryz.ntmps334
  go_wp2
  go_ret
  exact ⟨rfl, (Below.refl _ _).alloc (Nat.le_refl _) _⟩
theorem enter_nothing (args : Array Value) (w : World) : (callFunc 333 args).run Tryz.prog w = .ok (.enter 333 args) w := run_enter Tryz.func333 (by kernel_rfl) rfl args w
theorem enter_late (args : Array Value) (w : World) : (callFunc 334 args).run Tryz.prog w = .ok (.enter 334 args) w := run_enter Tryz.func334 (by kernel_rfl) rfl args w
theorem look_say (k : Int) : (k = 12 ∧ lookI sayTab k = some (fnB 333)) ∨ (k = 13 ∧ lookI sayTab k = some (fnB 333)) ∨ (k = 14 ∧ lookI sayTab k = some (fnB 334)) ∨ (k = 15 ∧ lookI sayTab k = some (fnB 334)) ∨
    (¬ (12 ≤ k ∧ k ≤ 15) ∧ lookI sayTab k = none) := by
  by_cases h1 : k = 12
  · subst h1; exact .inl ⟨rfl, rfl⟩
  by_cases h2 : k = 13
  · subst h2; exact .inr (.inl ⟨rfl, rfl⟩)
  by_cases h3 : k = 14
  · subst h3; exact .inr (.inr (.inl ⟨rfl, rfl⟩))
  by_cases h4 : k = 15
  · subst h4; exact .inr (.inr (.inr (.inl ⟨rfl, rfl⟩)))
  refine .inr (.inr (.inr (.inr ⟨by omega, ?_⟩)))
  have e1 : ((12 : Int) == k) = false := beq_eq_false_iff_ne.2 (by omega)
  have e2 : ((13 : Int) == k) = false := beq_eq_false_iff_ne.2 (by omega)
  have e3 : ((14 : Int) == k) = false := beq_eq_false_iff_ne.2 (by omega)
  have e4 : ((15 : Int) == k) = false := beq_eq_false_iff_ne.2 (by omega)
  simp [lookI, sayTab, List.find?, e1, e2, e3, e4]

set_option maxHeartbeats 1000000 in
set_option maxRecDepth 10000 in
theorem says_any (v k : Int) (w : World) : Calls Tryz.prog 275 #[.int .i64 v, .int .i64 k] w fun e w' => e = .returned (.tuple #[.bool (conMay v k), .bool (conIs k)]) ∧ Below w.heap.size w w' := by
  have hmm := @run_makeMap Tryz.prog
  have B0 := (Below.refl w.heap.size w).alloc (Nat.le_refl _) (.cells #[] 264)
  have HT := Lib.hid (IMap.made (w.alloc (.cells #[] 264)) .i64)
  have HB := Lib.hid (B0.alloc B0.size (.map #[] 0))
  clear B0
  rw [show (w.alloc (.cells #[] 264)).heap.size = w.heap.size + 1 by simp] at HT
  go_enter Tryz.func275, Tryz.ntmps275
  go_wp2_with (refine wpList_mput _ rfl _ _ _ 265 rfl 3 104 (by kernel_rfl) (by kernel_rfl) (w.heap.size + 1) _ rfl HT.out _ _ rfl rfl rfl ?_; intro w1 hT hg; have hb := HB.out.grown hg (HB.out.size) (fun k hk => by cases hk; exact Nat.le_succ _); clear HT HB hg; have HT := Lib.hid hT; have HB := Lib.hid hb; clear hT hb)
  rename_i wm
  have HT2 : IMap .i64 _ (w.heap.size + 1) sayTab := HT.out
  have hlk := (mlook_run (P := Tryz.prog) (t := 265) (k := 3) (e := 104) (z := .nilFunc) (by kernel_rfl) (by kernel_rfl) (by kernel_rfl) HT2 k).2
  have en := enter_nothing
  have el := enter_late
  clear HT2
  rcases look_say k with ⟨hk, h⟩ | ⟨hk, h⟩ | ⟨hk, h⟩ | ⟨hk, h⟩ | ⟨hk, h⟩
  · subst hk
    rw [h, Option.getD_some, Option.isSome_some, fnB] at hlk
    clear h
    go_wp2_with fail
    rw [hlk]
    go_wp2_with fail
    refine (nothing_any v _).mono ?_
    rintro e w2 ⟨rfl, hb⟩
    have HB2 := Lib.hid (HB.out.trans (hb.mono HB.out.size)); clear hb hlk
    go_wp2
    go_ret2
    exact ⟨by rfl, HB2.out⟩
  · subst hk
    rw [h, Option.getD_some, Option.isSome_some, fnB] at hlk
    clear h
    go_wp2_with fail
    rw [hlk]
    go_wp2_with fail
    refine (nothing_any v _).mono ?_
    rintro e w2 ⟨rfl, hb⟩
    have HB2 := Lib.hid (HB.out.trans (hb.mono HB.out.size)); clear hb hlk
    go_wp2
    go_ret2
    exact ⟨by rfl, HB2.out⟩
  · subst hk
    rw [h, Option.getD_some, Option.isSome_some, fnB] at hlk
    clear h
    go_wp2_with fail
    rw [hlk]
    go_wp2_with fail
    refine (late_any v _).mono ?_
    rintro e w2 ⟨rfl, hb⟩
    have HB2 := Lib.hid (HB.out.trans (hb.mono HB.out.size)); clear hb hlk
    go_wp2
    go_ret2
    exact ⟨by unfold conMay conIs; by_cases h5 : v = 5 <;> simp [h5], HB2.out⟩
  · subst hk
    rw [h, Option.getD_some, Option.isSome_some, fnB] at hlk
    clear h
    go_wp2_with fail
    rw [hlk]
    go_wp2_with fail
    refine (late_any v _).mono ?_
    rintro e w2 ⟨rfl, hb⟩
    have HB2 := Lib.hid (HB.out.trans (hb.mono HB.out.size)); clear hb hlk
    go_wp2
    go_ret2
    exact ⟨by unfold conMay conIs; by_cases h5 : v = 5 <;> simp [h5], HB2.out⟩
  · have h1 : conIs k = false := decide_eq_false hk
    have h2 : conMay v k = false := decide_eq_false (fun x => hk (by omega))
    rw [h, Option.getD_none, Option.isSome_none] at hlk
    clear h hk
    go_wp2_with fail
    rw [hlk]
    go_wp2
    go_ret2
    exact ⟨by rw [h1, h2]; rfl, HB.out⟩
end Go.Proofs.YtbdgkkmbnahgiaaGreatDoor

namespace Go.Proofs.YtbdgkkmbnahgiaaGreatDoor
open Go.RowKit

set_option maxHeartbeats 1000000 in
set_option maxRecDepth 10000 in
theorem conKnown_any (v k : Int) (w : World) : Calls Tryz.prog 274 #[.int .i64 v, .int .i64 k] w fun e w' => e = .returned (.int .i64 (conK v k)) ∧ Below w.heap.size w w' := by
  go_enter Tryz.func274, Tryz.ntmps274
  go_wp2_with fail
  refine (says_any v k _).mono ?_
  rintro e w1 ⟨rfl, hb⟩
  have HB := Lib.hid hb; clear hb
  have HE : Hid (conK v k = if conIs k = false ∨ ¬ (v = 4 ∨ v = 5) then 2 else if k = 15 ∧ v = 4 then 8 else 0) := Lib.hid rfl
  cases hi : conIs k
  · have HX : Hid (conK v k = 2) := Lib.hid (by rw [HE.out, if_pos (.inl hi)])
    clear hi
    go_wp2
    go_ret
    exact ⟨by rw [HX.out]; rfl, HB.out⟩
  · by_cases h4 : v = 4
    · have e4 : (v != 4) = false := by simpa using h4
      have e4' : (v == 4) = true := beq_iff_eq.2 h4
      by_cases h15 : k = 15
      · have HX : Hid (conK v k = 8) := Lib.hid (by rw [HE.out, if_neg (fun x => x.elim (fun y => by rw [hi] at y; cases y) (fun y => y (.inl h4))), if_pos ⟨h15, h4⟩])
        have e15 : (k == 15) = true := beq_iff_eq.2 h15
        clear h4 h15 hi
        go_wp2
        go_ret
        exact ⟨by rw [HX.out]; rfl, HB.out⟩
      · have HX : Hid (conK v k = 0) := Lib.hid (by rw [HE.out, if_neg (fun x => x.elim (fun y => by rw [hi] at y; cases y) (fun y => y (.inl h4))), if_neg (fun x => h15 x.1)])
        have e15 : (k == 15) = false := beq_eq_false_iff_ne.2 h15
        clear h4 h15 hi
        go_wp2
        go_ret
        exact ⟨by rw [HX.out]; rfl, HB.out⟩
    · have e4 : (v != 4) = true := bne_iff_ne.2 h4
      have e4' : (v == 4) = false := beq_eq_false_iff_ne.2 h4
      by_cases h5 : v = 5
      · have e5 : (v != 5) = false := by simpa using h5
        have HX : Hid (conK v k = 0) := Lib.hid (by rw [HE.out, if_neg (fun x => x.elim (fun y => by rw [hi] at y; cases y) (fun y => y (.inr h5))), if_neg (fun x => h4 x.2)])
        clear h4 h5 hi
        by_cases h15 : k = 15
        · have e15 : (k == 15) = true := beq_iff_eq.2 h15
          clear h15
          go_wp2
          go_ret
          exact ⟨by rw [HX.out]; rfl, HB.out⟩
        · have e15 : (k == 15) = false := beq_eq_false_iff_ne.2 h15
          clear h15
          go_wp2
          go_ret
          exact ⟨by rw [HX.out]; rfl, HB.out⟩
      · have e5 : (v != 5) = true := bne_iff_ne.2 h5
        have HX : Hid (conK v k = 2) := Lib.hid (by rw [HE.out, if_pos (.inr (fun x => x.elim h4 h5))])
        clear h4 h5 hi
        go_wp2
        go_ret
        exact ⟨by rw [HX.out]; rfl, HB.out⟩

set_option maxHeartbeats 1000000 in
set_option maxRecDepth 10000 in
theorem tailS_any (code k : Int) (l : List Pr) (n : Nat) (hn : l.length = n) (hok : ∀ p ∈ l, prGood p) (A : Option Addr) (c : Nat) (w : World) (h : Rd w w.heap.size 4 A n (prs l)) (hl : n ≤ 4611686018427387904) :
    Calls Tryz.prog 273 #[.int .i64 code, .slice A n c, .int .i64 k] w fun e w' => e = .returned (.string ⟨(tailS code l k).toArray⟩) ∧ Below w.heap.size w w' := by
  subst hn
  have HE : Hid (tailS code l k = if code < 0 ∨ 255 < code ∨ (bytesS k l).2 ≠ 0 then [] else tailL k code l) := Lib.hid rfl
  go_enter Tryz.func273, Tryz.ntmps273
  go_wp2_with fail
  refine (bytesP_n k l _ rfl hok A c _ h hl).mono ?_
  rintro e w1 ⟨rfl, hb⟩
  have HB := Lib.hid hb; clear hb h hok
  by_cases h1 : code < 0
  · have HX : Hid (tailS code l k = []) := Lib.hid (by rw [HE.out, if_pos (.inl h1)])
    go_wp2
    go_ret
    exact ⟨by rw [HX.out]; rfl, HB.out⟩
  have d1 : decide (code < 0) = false := decide_eq_false h1
  have d1' : 0 ≤ code := by omega
  by_cases h2 : 255 < code
  · have HX : Hid (tailS code l k = []) := Lib.hid (by rw [HE.out, if_pos (.inr (.inl h2))])
    clear h1
    go_wp2
    go_ret
    exact ⟨by rw [HX.out]; rfl, HB.out⟩
  have d2 : decide (255 < code) = false := decide_eq_false h2
  have d2' : code ≤ 255 := by omega
  by_cases h3 : (bytesS k l).2 = 0
  rotate_left
  · have HX : Hid (tailS code l k = []) := Lib.hid (by rw [HE.out, if_pos (.inr (.inr h3))])
    have e3 : ((bytesS k l).2 != 0) = true := bne_iff_ne.2 h3
    clear h1 h2 h3
    go_wp2
    go_ret
    exact ⟨by rw [HX.out]; rfl, HB.out⟩
  have HX : Hid (tailS code l k = tailL k code l) := Lib.hid (by rw [HE.out, if_neg (fun x => x.elim h1 (fun y => y.elim h2 (fun z => z h3)))])
  have HSZ := Lib.hid (bytesS_size k l h3).2
  rw [h3]
  obtain ⟨m, hm, hw⟩ : ∃ m : Nat, Hid (code.toNat = m) ∧ IntKind.u64.wrap code = (m : Int) := ⟨_, Lib.hid rfl, by rw [IntKind.wrap_u64]; omega⟩
  have HM : Hid (m < 256) := Lib.hid (by have := hm.out; omega)
  clear h1 h2 h3
  go_wp2_with fail
  refine (put_any m 1 _ (by have := HM.out; omega) (by omega) (by omega)).mono ?_
  rintro e w2 ⟨rfl, hb⟩
  have HB2 := Lib.hid (HB.out.trans (hb.mono HB.out.size)); clear hb
  by_cases hz : l.length = 0
  · have z1 : (l.length : Int) ≤ 0 := by omega
    by_cases hc : code = 0
    · have HY : Hid (tailS code l k = []) := Lib.hid (by rw [HX.out, tailL, if_pos ⟨hc, hz⟩])
      have z2 : code ≤ 0 := by omega
      clear hz hc d1' d1
      go_wp2
      go_ret
      exact ⟨by rw [HY.out]; rfl, HB2.out⟩
    · have HY : Hid (tailS code l k = putL m 1) := Lib.hid (by rw [HX.out, tailL, if_neg (fun x => hc x.1), if_pos hz, List.append_nil, hm.out])
      have z2 : 0 < code := by omega
      clear hz hc d1' d1
      go_wp2
      go_ret
      exact ⟨by rw [HY.out]; rfl, HB2.out⟩
  · have z1 : 0 < (l.length : Int) := by omega
    have HY : Hid (tailS code l k = putL m 1 ++ (bytesS k l).1) := Lib.hid (by rw [HX.out, tailL, if_neg (fun x => hz x.2), if_neg hz, hm.out])
    have hs1 : ¬ (9223372036854775807 < (putL m 1).length + (bytesS k l).fst.length) := by rw [putL_len]; have := HSZ.out; omega
    clear hz
    go_wp2
    go_ret
    exact ⟨by rw [HY.out, ← ap2]; rfl, HB2.out⟩

/-- What told leaves. -/
def ToldOut (r : Int × List Pr × Int) (w : World) (e : Ending) (w' : World) : Prop := ∃ A c, e = .returned (.tuple #[.int .i64 r.1, .slice A r.2.1.length c, .int .i64 r.2.2]) ∧ r.2.1.length ≤ c ∧ Rd w' w'.heap.size 4 A r.2.1.length (prs r.2.1) ∧ Below w.heap.size w w'
theorem toldOut_mk {r : Int × List Pr × Int} {x y : Int} {w w' : World} (h : r = (x, [], y)) (hb : Below w.heap.size w w') : ToldOut r w (.returned (.tuple #[.int .i64 x, .slice none 0 0, .int .i64 y])) w' := by
  subst h
  exact ⟨none, 0, rfl, Nat.le_refl _, Rd.nil _ _ _ _, hb⟩
theorem toldOut_ok {r : Int × List Pr × Int} {x : Int} {l : List Pr} {A : Option Addr} {c : Nat} {w w' : World} (h : r = (x, l, 0)) (hc : l.length ≤ c) (hr : Rd w' w'.heap.size 4 A l.length (prs l)) (hb : Below w.heap.size w w') : ToldOut r w (.returned (.tuple #[.int .i64 x, .slice A l.length c, .int .i64 0])) w' := by
  subst h
  exact ⟨A, c, rfl, hc, hr, hb⟩
theorem num_at (t : ByteArray) (a : Nat) (h : a < t.size) : numS t a 0 1 = t[a].toNat := by
  have h1 := num_front (t := t) (a := a) (k := 1) (x := [t[a]]) (rest := (ls t).drop (a + 1)) (by
    rw [List.drop_eq_getElem_cons (show a < (ls t).length by rw [ls_len]; exact h), ls_at t a h]
    rfl) rfl (by omega)
  rw [show ((1 : Int)) = ((1 : Nat) : Int) from rfl, h1]
  simp [getL]
theorem empty_iff (s : ByteArray) : s.toList.isEmpty = decide (s.size = 0) := by
  cases hz : s.toList.isEmpty
  · exact (decide_eq_false (fun x => by
      have : s = ⟨#[]⟩ := ls_ext (by rw [show ls (⟨#[]⟩ : ByteArray) = [] from rfl]; exact List.eq_nil_of_length_eq_zero (by rw [ls_len]; exact x))
      rw [this] at hz
      exact absurd hz (by decide +kernel))).symm
  · exact (decide_eq_true (empty_size hz)).symm

set_option maxHeartbeats 2000000 in
set_option maxRecDepth 10000 in
theorem told_any (k : Int) (s : ByteArray) (w : World) (hs : s.size ≤ 140737488351232) :
    Calls Tryz.prog 276 #[.int .i64 k, .string s] w (ToldOut (toldS k s) w) := by
  have HE : Hid (toldS k s = if toldE k s ≠ 0 then (0, [], toldE k s) else ((restS k s 0).1, (restS k s 0).2.1, 0)) := Lib.hid rfl
  have HT : Hid (toldE k s = if (restS k s 0).2.2.2 ≠ 0 then (restS k s 0).2.2.2 else if (restS k s 0).2.2.1 < s.size then 5 else 0) := Lib.hid rfl
  have hem := empty_iff s
  by_cases h0 : s.size = 0
  · have hr : restS k s 0 = (0, [], 0, 0) := by unfold restS; rw [if_pos (by omega)]
    have HX : Hid (toldS k s = (0, [], 0)) := Lib.hid (by rw [HE.out, HT.out, hr]; simp [h0])
    rw [decide_eq_true h0] at hem
    clear h0 hr hs
    go_enter Tryz.func276, Tryz.ntmps276
    go_wp2
    go_ret3
    exact toldOut_mk HX.out (Below.refl _ _)
  rw [decide_eq_false h0] at hem
  have i1 : (0 : Int) < (s.size : Int) := by omega
  have h00 : 0 < s.size := by omega
  have HN := Lib.hid (num_at s 0 h00)
  obtain ⟨d, hd⟩ : ∃ d : UInt8, s[0]'h00 = d := ⟨_, rfl⟩
  rw [hd] at HN
  have hb0 : IntKind.i64.wrap (d.toNat : Int) = (d.toNat : Int) := by rw [IntKind.wrap_i64]; have := d.toNat_lt; omega
  by_cases h1 : s.size = 1
  · have hr : restS k s 0 = (((d.toNat : Nat) : Int), [], 1, if d.toNat = 0 then 5 else 0) := by unfold restS; rw [if_neg (by omega), if_pos (by omega), HN.out]
    have z1 : ((s.size : Int) == 1) = true := beq_iff_eq.2 (by omega)
    by_cases hq : d.toNat = 0
    · have HX : Hid (toldS k s = (0, [], 5)) := Lib.hid (by rw [HE.out, HT.out, hr]; simp [hq])
      have z2 : ((d.toNat : Int) == 0) = true := beq_iff_eq.2 (by omega)
      clear h0 hr hs h1 hq HN
      go_enter Tryz.func276, Tryz.ntmps276
      go_wp2
      go_ret3
      exact toldOut_mk HX.out (Below.refl _ _)
    · have HX : Hid (toldS k s = ((d.toNat : Int), [], 0)) := Lib.hid (by rw [HE.out, HT.out, hr]; simp [hq, h1])
      have z2 : ((d.toNat : Int) == 0) = false := beq_eq_false_iff_ne.2 (by omega)
      clear h0 hr hs h1 hq HN
      go_enter Tryz.func276, Tryz.ntmps276
      go_wp2
      go_ret3
      exact toldOut_mk HX.out (Below.refl _ _)
  · have hr : restS k s 0 = (((d.toNat : Nat) : Int), (readP k (s.extract 1 s.size)).1, 1 + (readP k (s.extract 1 s.size)).2.1,
      if (readP k (s.extract 1 s.size)).2.2 ≠ 0 then (readP k (s.extract 1 s.size)).2.2 else if (readP k (s.extract 1 s.size)).1.length = 0 then 5 else 0) := by unfold restS; rw [if_neg (by omega), if_neg (by omega), HN.out, Nat.zero_add]
    have z1 : ((s.size : Int) == 1) = false := beq_eq_false_iff_ne.2 (by omega)
    have i2 : (1 : Int) ≤ (s.size : Int) := by omega
    have HZ : Hid ((s.extract 1 s.size).size ≤ 140737488351232) := Lib.hid (by rw [rest_len]; omega)
    have HRR := Lib.hid hr
    have HS := Lib.hid hs
    have HLB : Hid ((readP k (s.extract 1 s.size)).2.2 = 0 → (readP k (s.extract 1 s.size)).2.1 ≤ (s.extract 1 s.size).size) := Lib.hid fun h0 =>
      (readP_back (kind := k) (s := s.extract 1 s.size) (l := (readP k (s.extract 1 s.size)).1) (n := (readP k (s.extract 1 s.size)).2.1) (by rw [← h0])).2.2
    clear h0 hr hs h1 HN
    go_enter Tryz.func276, Tryz.ntmps276
    go_wp2_with fail
    refine (readP_any k (s.extract 1 s.size) _ HZ.out).mono ?_
    rintro e w1 ⟨A, c, rfl, hcap, hrd, hb⟩
    have HB := Lib.hid hb; have HCAP := Lib.hid hcap; have HRD := Lib.hid hrd
    clear hb hcap hrd
    generalize readP k (s.extract 1 s.size) = R at *
    obtain ⟨l, n, x⟩ := R
    simp only at HRR HCAP HRD HLB ⊢
    by_cases hx : x = 0
    · subst hx
      have hn1 := HLB.out rfl
      have hwn : IntKind.i64.wrap (1 + (n : Int)) = 1 + (n : Int) := by rw [IntKind.wrap_i64]; have := HZ.out; omega
      by_cases hl : l.length = 0
      · have z2 : ((l.length : Int) == 0) = true := beq_iff_eq.2 (by omega)
        have HX : Hid (toldS k s = (0, [], 5)) := Lib.hid (by rw [HE.out, HT.out, HRR.out]; simp [hl])
        clear hl
        go_wp2
        go_ret3
        exact toldOut_mk HX.out HB.out
      · have z2 : ((l.length : Int) == 0) = false := beq_eq_false_iff_ne.2 (by omega)
        by_cases hlt : 1 + n < s.size
        · have HX : Hid (toldS k s = (0, [], 5)) := Lib.hid (by rw [HE.out, HT.out, HRR.out]; simp [hl, hlt])
          have d3 : 1 + (n : Int) < (s.size : Int) := by omega
          clear hl hlt
          go_wp2
          go_ret3
          exact toldOut_mk HX.out HB.out
        · have HX : Hid (toldS k s = ((d.toNat : Int), l, 0)) := Lib.hid (by rw [HE.out, HT.out, HRR.out]; simp [hl, hlt])
          have d3 : (s.size : Int) ≤ 1 + (n : Int) := by omega
          clear hl hlt
          go_wp2
          go_ret3
          exact toldOut_ok HX.out HCAP.out HRD.out HB.out
    · have e0 : (x != 0) = true := bne_iff_ne.2 hx
      have HX : Hid (toldS k s = (0, [], x)) := Lib.hid (by rw [HE.out, HT.out, HRR.out]; simp [hx])
      clear hx
      go_wp2
      go_ret3
      exact toldOut_mk HX.out HB.out
end Go.Proofs.YtbdgkkmbnahgiaaGreatDoor

namespace Go.Proofs.YtbdgkkmbnahgiaaGreatDoor
open Go.RowKit
attribute [local go_sem ↓] to_ldPk to_bxPk to_bdPk to_alPk to_stPk
attribute [local go_sem] run_bxPk run_bxPk_agg ld_fresh run_alPk run_bd0 run_bdK run_bdKI run_bdKIC run_bdKC run_bdKICP run_stPk_fresh pkC_0 pkC_1 pkC_2 pkC_3 pkC_4 pkC_5 pkC_6 pkC_7 pkC_8 pkC_9 pkC_10 pkC_11 pkC_12 pkC_13 pkC_14 pkC_15 pkC_16 pkC_17 pkC_18 pkC_19 pkC_20 pkC_21 pkC_22 pkC_23 pkC_24
theorem ackR1_k (k : Int) : ({ pk0 with kind := k } : Pk) = ackR1 k 0 0 [] := rfl
theorem conQ_in {w : World} {B : Nat} {p : Pk} {h : Hs} (x : PkIn w B p h) : PkIn w B (ackR1 p.kind 0 p.code p.props) (ackH h) := ⟨Rd.nil _ _ _ _, Rd.nil _ _ _ _, Rd.nil _ _ _ _, x.props, Nat.zero_le _, Nat.zero_le _, Nat.zero_le _, x.caps.2.2.2⟩
theorem conQ_len {p : Pk} (x : PkLen p) : PkLen (ackR1 p.kind 0 p.code p.props) := ⟨Nat.zero_le _, Nat.zero_le _, Nat.zero_le _, x.2.2.2⟩
/-- Code, properties stored. -/
theorem conQ_put {w : World} {g : Nat} {k c : Int} {l : List Pr} {A : Option Addr} {n : Nat} (h : Bk w g PkT (pkC (ackR1 k 0 0 []) hs0)) : Bk ((w.setCell ⟨g, 21, none⟩ (.int .i64 c)).setCell ⟨g, 24, none⟩ (.slice A l.length n)) g PkT (pkC (ackR1 k 0 c l) { hs0 with props := ⟨A, n⟩ }) :=
  (h.upd 21 _ (pk_code k 0 0 c [] hs0)).upd 24 _ (pk_props k 0 c [] l A n hs0)

theorem St.conQ {w x : World} {g0 g : Nat} {p : Pk} {h : Hs} (s : St w [(g0, p, h), (g, ackR1 p.kind 0 0 [], hs0)] x) (ip : PkIn w w.heap.size p h) (hne : g0 ≠ g) :
    St w [(g0, p, h), (g, ackR1 p.kind 0 p.code p.props, ackH h)] ((x.setCell ⟨g, 21, none⟩ (.int .i64 p.code)).setCell ⟨g, 24, none⟩ (.slice h.props.a p.props.length h.props.c)) := by
  have hg := (s.pks 1 g _ _ rfl).1
  have hm := (mod_set x g 21 (.int .i64 p.code)).trans (mod_set _ g 24 (.slice h.props.a p.props.length h.props.c))
  have hk : Below w.heap.size w ((x.setCell ⟨g, 21, none⟩ (.int .i64 p.code)).setCell ⟨g, 24, none⟩ (.slice h.props.a p.props.length h.props.c)) := below_mod s.kept hm s.kept.size hg
  refine ⟨hk, fun i g' q k e => ?_⟩
  rcases i with _ | _ | i
  · simp only [List.getElem?_cons_zero, Option.some.injEq, Prod.mk.injEq] at e
    obtain ⟨rfl, rfl, rfl⟩ := e
    exact ⟨(s.pks 0 g0 p h rfl).1, ((s.bk 0 rfl).other hne _).other hne _, (ip.below hk).wider hk.size⟩
  · simp only [List.getElem?_cons_succ, List.getElem?_cons_zero, Option.some.injEq, Prod.mk.injEq] at e
    obtain ⟨rfl, rfl, rfl⟩ := e
    exact ⟨hg, conQ_put (s.bk 1 rfl), conQ_in ((ip.below hk).wider hk.size)⟩
  · simp at e

set_option maxHeartbeats 4000000 in
set_option maxRecDepth 10000 in
theorem conValid_any (v : Int) (p : Pk) (h : Hs) (w : World) (ip : PkIn w w.heap.size p h) (ok : PkOk p) :
    Calls Tryz.prog 272 #[.int .i64 v, pkV p h] w fun e w' => e = .returned (.int .i64 (conE v p)) ∧ Below w.heap.size w w' := by
  have OK := Lib.hid ok
  have IP := Lib.hid ip
  have S0 := Lib.hid ((St.start w).push ip)
  have HE : Hid (conE v p = if conK v p.kind ≠ 0 then conK v p.kind else if conMay v p.kind = true ∧ may p.kind p.code = false then 2 else if p ≠ conQ v p then 2 else (bytesS p.kind p.props).2) := Lib.hid rfl
  clear ip ok
  go_enter Tryz.func272, Tryz.ntmps272
  go_wp2_with fail
  refine (conKnown_any v p.kind _).mono ?_
  rintro e w1 ⟨rfl, hb⟩
  have S1 := Lib.hid (S0.out.below hb); clear hb
  by_cases hk : conK v p.kind = 0
  rotate_left
  · have HX : Hid (conE v p = conK v p.kind) := Lib.hid (by rw [HE.out, if_pos hk])
    have e0 : (conK v p.kind != 0) = true := bne_iff_ne.2 hk
    clear hk
    go_wp2
    go_ret
    exact ⟨by rw [HX.out]; rfl, S1.out.kept⟩
  have HE1 : Hid (conE v p = if conMay v p.kind = true ∧ may p.kind p.code = false then 2 else if p ≠ conQ v p then 2 else (bytesS p.kind p.props).2) := Lib.hid (by rw [HE.out, if_neg (fun x => x hk)])
  rw [hk]
  clear hk
  have k1 := S1.out.cell 0 rfl 0
  rw [pkC_0] at k1
  have S2 : Hid (St w [(w.heap.size, p, h), (w1.heap.size, ackR1 p.kind 0 0 [], hs0)] (w1.alloc (.cells (pkC (ackR1 p.kind 0 0 []) hs0) PkT))) := Lib.hid (S1.out.push (PkIn.R1 (Rd.nil _ _ _ _) (Nat.zero_le _) _ _ _))
  have k2 : (w1.alloc (.cells (pkC { pk0 with kind := p.kind } hs0) PkT)).cell? ⟨w.heap.size, 0, none⟩ = some (.int .i64 p.kind) := (S2.out.cell 0 rfl 0).trans (pkC_0 _ _)
  go_wp2_with fail
  rw [ackR1_k]
  refine (says_any v p.kind _).mono ?_
  rintro e w2 ⟨rfl, hb⟩
  have S3 := Lib.hid (S2.out.below hb); clear hb k1 k2
  cases hm : conMay v p.kind
  · have HQ : Hid (conQ v p = ackR1 p.kind 0 0 []) := Lib.hid (by unfold conQ; rw [if_neg (by rw [hm]; decide)])
    have HE2 : Hid (conE v p = if p ≠ ackR1 p.kind 0 0 [] then 2 else (bytesS p.kind p.props).2) := Lib.hid (by rw [HE1.out, if_neg (fun x => by rw [hm] at x; cases x.1), HQ.out])
    have hl0 := S3.out.ld 0 rfl
    have hl1 := S3.out.ld 1 rfl
    clear hm
    go_wp2_with fail
    refine (same_any p (ackR1 p.kind 0 0 []) h hs0 _ (S3.out.into 0 rfl) (S3.out.into 1 rfl) OK.out.len ⟨Nat.zero_le _, Nat.zero_le _, Nat.zero_le _, Nat.zero_le _⟩).mono ?_
    rintro e w3 ⟨rfl, hb⟩
    have S4 := Lib.hid (S3.out.below hb); clear hb hl0 hl1
    by_cases hs : p = ackR1 p.kind 0 0 []
    · rw [decide_eq_true hs]
      have HX : Hid (conE v p = (bytesS p.kind p.props).2) := Lib.hid (by rw [HE2.out, if_neg (fun x => x hs)])
      have k4 := S4.out.cell 0 rfl 0
      rw [pkC_0] at k4
      have k5 := S4.out.cell 0 rfl 24
      rw [pkC_24] at k5
      clear hs
      go_wp2_with fail
      refine (validP_n p.kind p.props _ rfl OK.out.props h.props.a h.props.c _ (S4.out.into 0 rfl).props OK.out.len.2.2.2).mono ?_
      rintro e w4 ⟨rfl, hb⟩
      have S5 := Lib.hid (S4.out.below hb); clear hb k4 k5
      go_wp2
      go_ret
      exact ⟨by rw [HX.out]; rfl, S5.out.kept⟩
    · rw [decide_eq_false hs]
      have HX : Hid (conE v p = 2) := Lib.hid (by rw [HE2.out, if_pos hs])
      clear hs
      go_wp2
      go_ret
      exact ⟨by rw [HX.out]; rfl, S4.out.kept⟩
  · have HQ : Hid (conQ v p = ackR1 p.kind 0 p.code p.props) := Lib.hid (by unfold conQ; rw [if_pos hm])
    have HE2 : Hid (conE v p = if may p.kind p.code = false then 2 else if p ≠ ackR1 p.kind 0 p.code p.props then 2 else (bytesS p.kind p.props).2) := Lib.hid (by rw [HE1.out, HQ.out, hm]; simp)
    have k3 := S3.out.cell 0 rfl 0
    rw [pkC_0] at k3
    have k4 := S3.out.cell 0 rfl 21
    rw [pkC_21] at k4
    clear hm
    go_wp2_with fail
    refine (may_any p.kind p.code _).mono ?_
    rintro e w3 ⟨rfl, hb⟩
    have S4 := Lib.hid (S3.out.below hb); clear hb k3 k4
    cases hy : may p.kind p.code
    · have HX : Hid (conE v p = 2) := Lib.hid (by rw [HE2.out, if_pos hy])
      clear hy
      go_wp2
      go_ret
      exact ⟨by rw [HX.out]; rfl, S4.out.kept⟩
    have HE3 : Hid (conE v p = if p ≠ ackR1 p.kind 0 p.code p.props then 2 else (bytesS p.kind p.props).2) := Lib.hid (by rw [HE2.out, if_neg (by rw [hy]; decide)])
    have k4 := S4.out.cell 0 rfl 21
    rw [pkC_21] at k4
    have k5 := S4.out.cell 0 rfl 24
    rw [pkC_24] at k5
    have j4 : w3.cell? ⟨w1.heap.size, 21, none⟩ = some (.int .i64 0) := S4.out.cell 1 rfl 21
    have j5 : w3.cell? ⟨w1.heap.size, 24, none⟩ = some (.slice none 0 0) := S4.out.cell 1 rfl 24
    have f4 := (S4.out.bk 1 rfl).free 21
    have f5 := (S4.out.bk 1 rfl).free 24
    have hne : (w.heap.size == w1.heap.size) = false := beq_eq_false_iff_ne.2 (by have := S1.out.kept.size; have := (S1.out.bk 0 rfl).lt; omega)
    clear hy
    go_wp2_with fail
    go_region
    have S5 := Lib.hid ((S4.out.conQ IP.out (by simpa using hne)).drew)
    have hl0 := S5.out.ld 0 rfl
    have hl1 := S5.out.ld 1 rfl
    clear k4 k5 j4 j5 f4 f5 hne
    generalize ((w3.setCell ⟨w1.heap.size, 21, none⟩ (.int .i64 p.code)).setCell ⟨w1.heap.size, 24, none⟩ (.slice h.props.a p.props.length h.props.c)).drew = w5 at *
    go_wp2_with fail
    refine (same_any p (ackR1 p.kind 0 p.code p.props) h (ackH h) _ (S5.out.into 0 rfl) (S5.out.into 1 rfl) OK.out.len (conQ_len OK.out.len)).mono ?_
    rintro e w6 ⟨rfl, hb⟩
    have S6 := Lib.hid (S5.out.below hb); clear hb hl0 hl1
    by_cases hs : p = ackR1 p.kind 0 p.code p.props
    · rw [decide_eq_true hs]
      have HX : Hid (conE v p = (bytesS p.kind p.props).2) := Lib.hid (by rw [HE3.out, if_neg (fun x => x hs)])
      have k6 := S6.out.cell 0 rfl 0
      rw [pkC_0] at k6
      have k7 := S6.out.cell 0 rfl 24
      rw [pkC_24] at k7
      clear hs
      go_wp2_with fail
      refine (validP_n p.kind p.props _ rfl OK.out.props h.props.a h.props.c _ (S6.out.into 0 rfl).props OK.out.len.2.2.2).mono ?_
      rintro e w7 ⟨rfl, hb⟩
      have S7 := Lib.hid (S6.out.below hb); clear hb k6 k7
      go_wp2
      go_ret
      exact ⟨by rw [HX.out]; rfl, S7.out.kept⟩
    · rw [decide_eq_false hs]
      have HX : Hid (conE v p = 2) := Lib.hid (by rw [HE3.out, if_pos hs])
      clear hs
      go_wp2
      go_ret
      exact ⟨by rw [HX.out]; rfl, S6.out.kept⟩
end Go.Proofs.YtbdgkkmbnahgiaaGreatDoor

namespace Go.Proofs.YtbdgkkmbnahgiaaGreatDoor
open Go.RowKit
attribute [local go_sem ↓] to_ldPk to_bxPk to_bdPk to_alPk to_stPk
attribute [local go_sem] run_bxPk run_bxPk_agg ld_fresh run_alPk run_bd0 run_bdK run_bdKI run_bdKIC run_bdKC run_bdKICP run_stPk_fresh pkC_0 pkC_1 pkC_2 pkC_3 pkC_4 pkC_5 pkC_6 pkC_7 pkC_8 pkC_9 pkC_10 pkC_11 pkC_12 pkC_13 pkC_14 pkC_15 pkC_16 pkC_17 pkC_18 pkC_19 pkC_20 pkC_21 pkC_22 pkC_23 pkC_24
set_option maxHeartbeats 2000000 in
set_option maxRecDepth 10000 in
theorem conBody_any (v : Int) (p : Pk) (h : Hs) (w : World) (ip : PkIn w w.heap.size p h) (ok : PkOk p) :
    Calls Tryz.prog 197 #[.int .i64 v, pkV p h] w fun e w' => e = .returned (.tuple #[.string ⟨(conB v p).1.toArray⟩, .int .i64 (conB v p).2]) ∧ Below w.heap.size w w' := by
  have OK := Lib.hid ok
  have S0 := Lib.hid ((St.start w).push ip)
  have HE : Hid (conB v p = if conE v p = 0 then (tailS p.code p.props p.kind, 0) else ([], conE v p)) := Lib.hid rfl
  clear ip ok
  go_enter Tryz.func197, Tryz.ntmps197
  go_wp2_with fail
  refine (conValid_any v p h _ (S0.out.into 0 rfl) OK.out).mono ?_
  rintro e w1 ⟨rfl, hb⟩
  have S1 := Lib.hid (S0.out.below hb); clear hb
  by_cases he : conE v p = 0
  · have HX : Hid (conB v p = (tailS p.code p.props p.kind, 0)) := Lib.hid (by rw [HE.out, if_pos he])
    rw [he]
    have k0 := S1.out.cell 0 rfl 0
    rw [pkC_0] at k0
    have k1 := S1.out.cell 0 rfl 21
    rw [pkC_21] at k1
    have k2 := S1.out.cell 0 rfl 24
    rw [pkC_24] at k2
    clear he
    go_wp2_with fail
    refine (tailS_any p.code p.kind p.props _ rfl OK.out.props h.props.a h.props.c _ (S1.out.into 0 rfl).props OK.out.len.2.2.2).mono ?_
    rintro e w2 ⟨rfl, hb⟩
    have S2 := Lib.hid (S1.out.below hb); clear hb
    go_wp2
    go_ret2
    exact ⟨by rw [HX.out]; rfl, S2.out.kept⟩
  · have e0 : (conE v p != 0) = true := bne_iff_ne.2 he
    have HX : Hid (conB v p = ([], conE v p)) := Lib.hid (by rw [HE.out, if_neg he])
    clear he
    go_wp2
    go_ret2
    exact ⟨by rw [HX.out]; rfl, S1.out.kept⟩

/-- What stands while a packet is read: the result's block, the packet's. -/
structure RC (w : World) (g gp : Nat) (k c : Int) (l : List Pr) (A : Option Addr) (n : Nat) (x : World) : Prop where
  kept : Below w.heap.size w x
  res : Bk x g PkT (pkC pk0 hs0)
  pk : Bk x gp PkT (pkC (ackR1 k 0 c l) { hs0 with props := ⟨A, n⟩ })
  rd : Rd x x.heap.size 4 A l.length (prs l)
  cap : l.length ≤ n
  ne : g ≠ gp
  base : w.heap.size ≤ g ∧ w.heap.size ≤ gp
section
variable {w x y : World} {g gp : Nat} {k c : Int} {l : List Pr} {A : Option Addr} {n : Nat}
theorem RC.below (h : RC w g gp k c l A n x) (hb : Below x.heap.size x y) : RC w g gp k c l A n y :=
  ⟨h.kept.trans (hb.mono h.kept.size), h.res.below hb h.res.lt, h.pk.below hb h.pk.lt, (h.rd.below hb).wider hb.size, h.cap, h.ne, h.base⟩
theorem RC.into (h : RC w g gp k c l A n x) : PkIn x x.heap.size (ackR1 k 0 c l) { hs0 with props := ⟨A, n⟩ } := PkIn.R1 h.rd h.cap k 0 c
theorem RC.none (h : RC w g gp k c l A n x) : Below w.heap.size w (putPk x g pk0 hs0) ∧ Bk (putPk x g pk0 hs0) g PkT (pkC pk0 hs0) := ⟨below_put h.kept h.kept.size h.base.1 _ _, put_bk h.res _ _⟩
theorem RC.some (h : RC w g gp k c l A n x) : Below w.heap.size w (putPk x g (ackR1 k 0 c l) { hs0 with props := ⟨A, n⟩ }) ∧ Bk (putPk x g (ackR1 k 0 c l) { hs0 with props := ⟨A, n⟩ }) g PkT (pkC (ackR1 k 0 c l) { hs0 with props := ⟨A, n⟩ }) ∧
    PkIn (putPk x g (ackR1 k 0 c l) { hs0 with props := ⟨A, n⟩ }) (putPk x g (ackR1 k 0 c l) { hs0 with props := ⟨A, n⟩ }).heap.size (ackR1 k 0 c l) { hs0 with props := ⟨A, n⟩ } :=
  ⟨below_put h.kept h.kept.size h.base.1 _ _, put_bk h.res _ _, PkIn.R1 ((h.rd.other h.res (pk_no32 _ _) (putPk_mods _ _ _ _) (Nat.le_refl _)).wider (putPk_mods _ _ _ _).size) h.cap k 0 c⟩
/-- Code, properties stored. -/
theorem RC.put (h : RC w g gp k 0 [] Option.none 0 x) {A' : Option Addr} {n' : Nat} {l' : List Pr} {c' : Int} (hr : Rd x x.heap.size 4 A' l'.length (prs l')) (hn : l'.length ≤ n') :
    RC w g gp k c' l' A' n' ((x.setCell ⟨gp, 21, .none⟩ (.int .i64 c')).setCell ⟨gp, 24, .none⟩ (.slice A' l'.length n')) := by
  have hm := (mod_set x gp 21 (.int .i64 c')).trans (mod_set _ gp 24 (.slice A' l'.length n'))
  exact ⟨below_mod h.kept hm h.kept.size h.base.2, (h.res.other h.ne _).other h.ne _, conQ_put h.pk, (hr.other h.pk (pk_no32 _ _) hm (Nat.le_refl _)).wider hm.size, hn, h.ne, h.base⟩
end
theorem conR_last {v k : Int} {s : ByteArray} (hk : conK v k = 0) :
    ((if (toldV v k s).2.2 = 0 then conE v (conPre v k s) else (toldV v k s).2.2) = 0 ∧ conR v k s = (conPre v k s, 0)) ∨ ((if (toldV v k s).2.2 = 0 then conE v (conPre v k s) else (toldV v k s).2.2) ≠ 0 ∧ conR v k s = (pk0, (if (toldV v k s).2.2 = 0 then conE v (conPre v k s) else (toldV v k s).2.2))) := by
  have e1 : conR v k s = if (toldV v k s).2.2 ≠ 0 then (pk0, (toldV v k s).2.2) else if conE v (conPre v k s) ≠ 0 then (pk0, conE v (conPre v k s)) else (conPre v k s, 0) := by
    unfold conR
    rw [if_neg (fun x => x hk)]
  rw [e1]
  by_cases h3 : (toldV v k s).2.2 = 0
  · rw [if_pos h3, if_neg (fun x => x h3)]
    by_cases h4 : conE v (conPre v k s) = 0
    · rw [if_neg (fun x => x h4)]
      exact .inl ⟨h4, rfl⟩
    · rw [if_pos h4]
      exact .inr ⟨h4, rfl⟩
  · rw [if_neg h3, if_pos h3]
    exact .inr ⟨h3, rfl⟩
set_option maxHeartbeats 4000000 in
set_option maxRecDepth 10000 in
theorem conRead_any (v k : Int) (s : ByteArray) (w : World) (hs : s.size ≤ 140737488351232) :
    Calls Tryz.prog 198 #[.int .i64 v, .int .i64 k, .string s] w (PkOut (conR v k s) w) := by
  have HS := Lib.hid hs
  have HB0 := Lib.hid ((Below.refl w.heap.size w).alloc (Nat.le_refl _) (.cells (pkC pk0 hs0) PkT))
  have H60 := Lib.hid (Bk.fresh w PkT (pkC pk0 hs0))
  go_enter Tryz.func198, Tryz.ntmps198
  go_wp2_with fail
  refine (conKnown_any v k _).mono ?_
  rintro e w1 ⟨rfl, hb⟩
  have HB1 := Lib.hid (HB0.out.trans (hb.mono HB0.out.size)); have H61 := Lib.hid (H60.out.below hb H60.out.lt); clear hb
  by_cases hk : conK v k = 0
  rotate_left
  · have HX : Hid (conR v k s = (pk0, conK v k)) := Lib.hid (by unfold conR; rw [if_pos hk])
    have e0 : (conK v k != 0) = true := bne_iff_ne.2 hk
    have hst := run_stPk H61.out
    generalize conK v k = E at *
    clear hk
    go_wp2
    refine bodyPost_ret (results_pk rfl _ rfl (put_bk H61.out pk0 hs0)) rfl ?_
    exact pkOut_bad HX.out (below_put HB1.out HB1.out.size (Nat.le_refl _) _ _)
  have HW0 := Lib.hid (conR_last (s := s) hk)
  rw [hk]
  clear hk
  have I1 : Hid (RC w w.heap.size w1.heap.size k 0 [] none 0 (w1.alloc (.cells (pkC (ackR1 k 0 0 []) hs0) PkT))) := Lib.hid
    ⟨HB1.out.alloc HB1.out.size _, H61.out.alloc _, Bk.fresh _ _ _, Rd.nil _ _ _ _, Nat.le_refl _, by have := H61.out.lt; omega, Nat.le_refl _, HB1.out.size⟩
  go_wp2_with fail
  rw [ackR1_k]
  refine (says_any v k _).mono ?_
  rintro e w2 ⟨rfl, hb⟩
  have I2 := Lib.hid (I1.out.below hb); clear hb
  cases hm : conMay v k
  · have hem := empty_iff s
    have ht : toldV v k s = (0, [], if s.size ≠ 0 then 5 else 0) := by unfold toldV; rw [if_neg (by rw [hm]; decide)]
    have hp : conPre v k s = ackR1 k 0 0 [] := by unfold conPre; rw [ht]
    by_cases hz : s.size = 0
    · rw [decide_eq_true hz] at hem
      have HW : Hid ((conE v (ackR1 k 0 0 []) = 0 ∧ conR v k s = (ackR1 k 0 0 [], 0)) ∨ (conE v (ackR1 k 0 0 []) ≠ 0 ∧ conR v k s = (pk0, conE v (ackR1 k 0 0 [])))) := Lib.hid (by simpa [ht, hp, hz] using HW0.out)
      have hl := ld_bk I2.out.pk
      clear hm hz ht hp
      go_wp2_with fail
      refine (conValid_any v (ackR1 k 0 0 []) _ _ I2.out.into (pkOk_R1 (by simp) (by simp))).mono ?_
      rintro e w3 ⟨rfl, hb⟩
      have IG := Lib.hid (I2.out.below hb); clear hb hl
      have HW2 := HW
      generalize conE v (ackR1 k 0 0 []) = E2 at *
      have hl := ld_bk IG.out.pk
      have hst := run_stPk IG.out.res
      rcases HW2.out with ⟨h2, hr⟩ | ⟨h2, hr⟩
      · subst h2
        have HR := Lib.hid hr; clear hr
        go_wp2
        refine bodyPost_ret (results_pk rfl _ rfl IG.out.some.2.1) rfl ?_
        exact pkOut_ok HR.out IG.out.some.2.2 IG.out.some.1
      · have e0 : (E2 != 0) = true := bne_iff_ne.2 h2
        have HR := Lib.hid hr; clear hr h2
        go_wp2
        refine bodyPost_ret (results_pk rfl _ rfl IG.out.none.2) rfl ?_
        exact pkOut_bad HR.out IG.out.none.1
    · rw [decide_eq_false hz] at hem
      have HR : Hid (conR v k s = (pk0, 5)) := Lib.hid (by simpa [ht, hp, hz] using HW0.out)
      have hst := run_stPk I2.out.res
      clear hm hz ht hp
      go_wp2
      refine bodyPost_ret (results_pk rfl _ rfl I2.out.none.2) rfl ?_
      exact pkOut_bad HR.out I2.out.none.1
  · have ht : toldV v k s = toldS k s := by unfold toldV; rw [if_pos hm]
    have hp : conPre v k s = ackR1 k 0 (toldS k s).1 (toldS k s).2.1 := by unfold conPre; rw [ht]
    have hgd := toldV_good (v := v) (k := k) HS.out
    rw [ht] at hgd
    have HOK0 : Hid (PkOk (ackR1 k 0 (toldS k s).1 (toldS k s).2.1)) := Lib.hid (pkOk_R1 hgd.1 (by have := hgd.2; omega))
    have HW1 := HW0.out
    rw [hp, ht] at HW1
    have HW := Lib.hid HW1
    clear hm ht hp hgd HW1
    go_wp2_with fail
    refine (told_any k s _ HS.out).mono ?_
    rintro e w3 ⟨A, n, rfl, hcap, hrd, hb⟩
    have I3 := Lib.hid (I2.out.below hb)
    generalize toldS k s = R at *
    obtain ⟨c, l, x⟩ := R
    simp only at hcap hrd HW HOK0 ⊢
    have I4 := Lib.hid (I3.out.put (c' := c) hrd hcap)
    have f1 : w3.cell? ⟨w1.heap.size, 21, none⟩ = some (.int .i64 0) := I3.out.pk.cell 21
    have f2 : w3.cell? ⟨w1.heap.size, 24, none⟩ = some (.slice none 0 0) := I3.out.pk.cell 24
    have g1 := I3.out.pk.free 21
    have g2 := I3.out.pk.free 24
    have HOK := HOK0
    clear hcap hrd hb
    by_cases hx : x = 0
    · subst hx
      have HW3 : Hid ((conE v (ackR1 k 0 c l) = 0 ∧ conR v k s = (ackR1 k 0 c l, 0)) ∨ (conE v (ackR1 k 0 c l) ≠ 0 ∧ conR v k s = (pk0, conE v (ackR1 k 0 c l)))) := Lib.hid (by have := HW.out; rwa [if_pos rfl] at this)
      have hl := ld_bk I4.out.pk
      go_wp2_with fail
      refine (conValid_any v (ackR1 k 0 c l) _ _ I4.out.into HOK.out).mono ?_
      rintro e w4 ⟨rfl, hb⟩
      have IG := Lib.hid (I4.out.below hb); clear hb hl f1 f2 g1 g2
      have HW2 := HW3
      clear HW
      generalize conE v (ackR1 k 0 c l) = E2 at *
      have hl := ld_bk IG.out.pk
      have hst := run_stPk IG.out.res
      rcases HW2.out with ⟨h2, hr⟩ | ⟨h2, hr⟩
      · subst h2
        have HR := Lib.hid hr; clear hr
        go_wp2
        refine bodyPost_ret (results_pk rfl _ rfl IG.out.some.2.1) rfl ?_
        exact pkOut_ok HR.out IG.out.some.2.2 IG.out.some.1
      · have e0 : (E2 != 0) = true := bne_iff_ne.2 h2
        have HR := Lib.hid hr; clear hr h2
        go_wp2
        refine bodyPost_ret (results_pk rfl _ rfl IG.out.none.2) rfl ?_
        exact pkOut_bad HR.out IG.out.none.1
    · have e0 : (x == 0) = false := beq_eq_false_iff_ne.2 hx
      have e1 : (x != 0) = true := bne_iff_ne.2 hx
      have HR : Hid (conR v k s = (pk0, x)) := Lib.hid (by
        have := HW.out
        rw [if_neg hx] at this
        rcases this with ⟨h, _⟩ | ⟨_, h⟩
        · exact absurd h hx
        · exact h)
      have hst := run_stPk I4.out.res
      clear hx HW
      go_wp2
      refine bodyPost_ret (results_pk rfl _ rfl I4.out.none.2) rfl ?_
      exact pkOut_bad HR.out I4.out.none.1
end Go.Proofs.YtbdgkkmbnahgiaaGreatDoor

