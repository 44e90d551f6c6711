/- A part of what the laws stand on: HdP. -/
import Derived.Test.YtbahnolmlodcdaaGreatDoorMcMPubA
import Derived.Test.YtbahnolmlodcdaaGreatDoorMcMLis
import Derived.Test.YtbahnolmlodcdaaGreatDoorMcMTai
namespace Go.Proofs.YtbahnolmlodcdaaGreatDoor
open Go.RowKit

/-- May a kind have these flags? -/
def hdFlagged (k f : Int) : Bool := if k = 3 then hdFlag3 f else decide (f = hdFixed k)
def hdChk (v k f : Int) : Int := if hdKnown v = false then 2 else if hdKinds v k = false then 8 else if hdFlagged k f = false then 7 else 0
/-- A header. -/
structure Hdr where
  k : Int
  f : Int
  n : Nat
def hdr0 : Hdr := ⟨0, 0, 0⟩
def hdrV (h : Hdr) : Value := .agg #[.int .i64 h.k, .int .i64 h.f, .int .i64 h.n]
def hdByte (s : ByteArray) : Nat := ((ls s).headD 0).toNat
def hdR (v : Int) (s : ByteArray) : Hdr × Nat × Int :=
  if hdKnown v = false then (hdr0, 0, 2)
  else if s.size = 0 then (hdr0, 0, 3)
  else if hdChk v (hdByte s / 16 : Nat) (hdByte s % 16 : Nat) ≠ 0 then (hdr0, 0, hdChk v (hdByte s / 16 : Nat) (hdByte s % 16 : Nat))
  else if (readV (ls (s.extract 1 s.size))).2.2 ≠ 0 then (hdr0, 0, (readV (ls (s.extract 1 s.size))).2.2)
  else (⟨(hdByte s / 16 : Nat), (hdByte s % 16 : Nat), (readV (ls (s.extract 1 s.size))).1⟩, (readV (ls (s.extract 1 s.size))).2.1 + 1, 0)
/-- A header's bytes. -/
def hdS (k f : Int) (n : Nat) : List UInt8 := putL (16 * k + f).toNat 1 ++ varL n

theorem hdChk_ok {v k f : Int} : hdChk v k f = 0 ↔ hdKnown v = true ∧ hdKinds v k = true ∧ hdFlagged k f = true := by
  unfold hdChk
  cases hdKnown v <;> cases hdKinds v k <;> cases hdFlagged k f <;> simp
theorem kinds_range {v k : Int} (h : hdKinds v k = true) : 1 ≤ k ∧ k ≤ 15 := by
  have := of_decide_eq_true h
  omega
theorem flagged_range {k f : Int} (h : hdFlagged k f = true) : 0 ≤ f ∧ f ≤ 15 := by
  unfold hdFlagged at h
  by_cases h3 : k = 3
  · rw [if_pos h3] at h
    have := of_decide_eq_true h
    omega
  · rw [if_neg h3] at h
    have := of_decide_eq_true h
    unfold hdFixed at this
    split at this <;> omega
theorem flagged_three (f : Int) : hdFlagged 3 f = hdFlag3 f := if_pos rfl
theorem hd_rest_ls (s : ByteArray) : ls (s.extract 1 s.size) = (ls s).drop 1 := by
  unfold ls
  rw [Lib.extract_data, List.take_of_length_le]
  rw [List.length_drop]
  show s.data.size - 1 ≤ s.data.size - 1
  exact Nat.le_refl _
theorem hdS_two (k f : Int) (n : Nat) : 2 ≤ (hdS k f n).length ∧ (hdS k f n).length ≤ 5 := by
  unfold hdS
  rw [List.length_append, putL_len]
  have h1 : 0 < (varL n).length := by
    unfold varL varF
    split <;> simp
  have h2 : (varL n).length ≤ 4 := varF_len 3 n
  omega
theorem hdR_front {v k f : Int} {n : Nat} (hc : hdChk v k f = 0) (hn : n ≤ 268435455) {s : ByteArray} {R : List UInt8} (hs : ls s = hdS k f n ++ R) :
    hdR v s = (⟨k, f, n⟩, (hdS k f n).length, 0) := by
  obtain ⟨h1, h2, h3⟩ := hdChk_ok.1 hc
  have r1 := kinds_range h2
  have r2 := flagged_range h3
  obtain ⟨a, ha, hb⟩ := put_one (16 * k + f) (by omega) (by omega)
  have e1 : ls s = a :: (varL n ++ R) := by
    rw [hs]
    unfold hdS
    rw [ha]
    rfl
  have hz : s.size ≠ 0 := by
    intro h0
    have := ls_len s
    rw [e1, h0] at this
    simp at this
  have hB : hdByte s = a.toNat := by
    unfold hdByte
    rw [e1]
    rfl
  have e2 : ((hdByte s / 16 : Nat) : Int) = k := by rw [hB]; omega
  have e3 : ((hdByte s % 16 : Nat) : Int) = f := by rw [hB]; omega
  have e4 : readV (ls (s.extract 1 s.size)) = (n, (varL n).length, 0) := by
    rw [hd_rest_ls, e1]
    exact readV_varL n hn R
  unfold hdR
  rw [if_neg (by rw [h1]; decide), if_neg hz, e2, e3, hc, e4, if_neg (by decide), if_neg (fun x => x rfl)]
  have : (hdS k f n).length = (varL n).length + 1 := by
    unfold hdS
    rw [List.length_append, putL_len, Nat.add_comm]
  rw [this]
theorem hdR_back {v : Int} {s : ByteArray} {h : Hdr} {a : Nat} (hr : hdR v s = (h, a, 0)) :
    hdChk v h.k h.f = 0 ∧ h.n ≤ 268435455 ∧ ls s = hdS h.k h.f h.n ++ (ls s).drop a ∧ a = (hdS h.k h.f h.n).length ∧ a ≤ s.size := by
  unfold hdR at hr
  split at hr
  · simp at hr
  split at hr
  · simp at hr
  rename_i h1 h2
  split at hr
  · rename_i h3
    simp only [Prod.mk.injEq] at hr
    exact absurd hr.2.2 h3
  split at hr
  · rename_i h3 h4
    simp only [Prod.mk.injEq] at hr
    exact absurd hr.2.2 h4
  rename_i h3 h4
  simp only [Prod.mk.injEq] at hr
  obtain ⟨rfl, rfl, -⟩ := hr
  have h3' : hdChk v (hdByte s / 16 : Nat) (hdByte s % 16 : Nat) = 0 := Classical.not_not.1 h3
  have h4' : (readV (ls (s.extract 1 s.size))).2.2 = 0 := Classical.not_not.1 h4
  obtain ⟨b1, b2, b3⟩ := readV_back (l := ls (s.extract 1 s.size)) (n := (readV (ls (s.extract 1 s.size))).1) (k := (readV (ls (s.extract 1 s.size))).2.1) (by rw [← h4'])
  have hsz := readV_size (ls (s.extract 1 s.size))
  generalize readV (ls (s.extract 1 s.size)) = r at *
  rw [hd_rest_ls] at b1 hsz
  have hl := ls_len s
  cases hx : ls s with
  | nil => rw [hx] at hl; exact absurd hl.symm h2
  | cons x l =>
    have hB : hdByte s = x.toNat := by unfold hdByte; rw [hx]; rfl
    have hb := x.toNat_lt
    rw [hx] at b1 hsz hl
    simp only [List.drop_succ_cons, List.drop_zero] at b1 hsz
    have e1 : putL (16 * ((hdByte s / 16 : Nat) : Int) + ((hdByte s % 16 : Nat) : Int)).toNat 1 = [x] := by
      rw [hB, show (16 * ((x.toNat / 16 : Nat) : Int) + ((x.toNat % 16 : Nat) : Int)).toNat = x.toNat by omega]
      have := put_get1 [x] rfl
      rw [show getL [x] = x.toNat by simp [getL]] at this
      exact this
    refine ⟨h3', b3, ?_, ?_, ?_⟩
    · show x :: l = (putL (16 * ((hdByte s / 16 : Nat) : Int) + ((hdByte s % 16 : Nat) : Int)).toNat 1 ++ varL r.1) ++ (x :: l).drop (r.2.1 + 1)
      rw [e1, List.drop_succ_cons]
      show x :: l = x :: (varL r.1 ++ l.drop r.2.1)
      rw [← b1]
    · show r.2.1 + 1 = (putL (16 * ((hdByte s / 16 : Nat) : Int) + ((hdByte s % 16 : Nat) : Int)).toNat 1 ++ varL r.1).length
      rw [List.length_append, putL_len, ← b2, Nat.add_comm]
    · show r.2.1 + 1 ≤ s.size
      simp only [List.length_cons] at hl
      omega
/-- The length's bytes, cut. -/
theorem varF_cut : ∀ (f m n k c : Nat), k + f ≤ 3 → c < (varF f m).length → rv ((varF f m).take c) n k = (0, 0, 3)
  | f, m, n, k, 0, _, _ => by rw [List.take_zero]; rfl
  | 0, m, n, k, c + 1, hk, hc => by rw [varF] at hc; simp at hc
  | f + 1, m, n, k, c + 1, hk, hc => by
    rw [varF] at hc ⊢
    split at hc
    · simp at hc
    · rename_i hm
      rw [if_neg hm, List.take_succ_cons, rv]
      have hb : 128 ≤ (UInt8.ofNat (m % 128 + 128)).toNat := by
        rw [UInt8.toNat_ofNat']
        omega
      rw [if_pos hb, if_neg (by omega)]
      exact varF_cut f (m / 128) _ (k + 1) c (by omega) (by simpa using hc)
/-- A header, cut. -/
theorem hdR_cut {v k f : Int} {n : Nat} (hc : hdChk v k f = 0) {s : ByteArray} {c : Nat} (hs : ls s = (hdS k f n).take c) (hlt : c < (hdS k f n).length) : hdR v s = (hdr0, 0, 3) := by
  obtain ⟨h1, h2, h3⟩ := hdChk_ok.1 hc
  have r1 := kinds_range h2
  have r2 := flagged_range h3
  obtain ⟨a, ha, hb⟩ := put_one (16 * k + f) (by omega) (by omega)
  have hd : hdS k f n = a :: varL n := by unfold hdS; rw [ha]; rfl
  have hl := ls_len s
  unfold hdR
  rw [if_neg (by rw [h1]; decide)]
  cases c with
  | zero =>
    rw [hs] at hl
    rw [if_pos (by simpa using hl.symm)]
  | succ c =>
    rw [hd, List.take_succ_cons] at hs
    rw [hd] at hlt
    have hz : s.size ≠ 0 := by
      rw [hs] at hl
      simp at hl
      omega
    have hB : hdByte s = a.toNat := by unfold hdByte; rw [hs]; rfl
    have e2 : ((hdByte s / 16 : Nat) : Int) = k := by rw [hB]; omega
    have e3 : ((hdByte s % 16 : Nat) : Int) = f := by rw [hB]; omega
    have e4 : readV (ls (s.extract 1 s.size)) = (0, 0, 3) := by
      rw [hd_rest_ls, hs]
      exact varF_cut 3 n 0 0 c (by omega) (by simpa [varL] using hlt)
    rw [if_neg hz, e2, e3, hc, e4, if_neg (by decide), if_pos (by decide)]
end Go.Proofs.YtbahnolmlodcdaaGreatDoor

