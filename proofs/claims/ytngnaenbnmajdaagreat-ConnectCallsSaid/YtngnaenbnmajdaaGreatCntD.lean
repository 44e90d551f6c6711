/- connect: the walk of Body, of a CONNACK; the law ConnectAnswers. -/
import Derived.Test.YtngnaenbnmajdaaGreatJoiA
namespace Go.Proofs.YtngnaenbnmajdaaGreat
open Go.RowKit
attribute [local go_sem ↓] to_ldPk to_bxPk to_bdPk to_alPk to_stPk
attribute [local go_sem] run_bxPk run_bxPk_agg ld_fresh run_alPk run_bd0 run_bdK run_bdKI run_bdKIC run_bdKC run_bdKICP run_stPk_fresh pkC_0 pkC_1 pkC_2 pkC_3 pkC_4 pkC_5 pkC_6 pkC_7 pkC_8 pkC_9 pkC_10 pkC_11 pkC_12 pkC_13 pkC_14 pkC_15 pkC_16 pkC_17 pkC_18 pkC_19 pkC_20 pkC_21 pkC_22 pkC_23 pkC_24
theorem cells3 (w : World) (a b c : ByteArray) (t : TypeId) : ∀ (j : Nat) x, [a, b, c][j]? = some x → (w.alloc (.cells #[.string a, .string b, .string c] t)).cell? ⟨w.heap.size, 0 + j, none⟩ = some (.string x) := by
  intro j x h
  rw [Nat.zero_add, (Bk.fresh w t #[.string a, .string b, .string c]).cell]
  rcases j with _ | _ | _ | j
  · simp at h; subst h; rfl
  · simp at h; subst h; rfl
  · simp at h; subst h; rfl
  · simp at h
/-- A CONNACK's body. -/
def ackS8 (v : Int) (p : Pk) : ByteArray := catL [⟨#[if p.session = true then 1 else 0]⟩, ⟨(putL p.code.toNat 1).toArray⟩, tail8 v p.kind p.props]
def cntB2 (v : Int) (p : Pk) : ByteArray × Int := if cntE v p = 0 then (ackS8 v p, 0) else (⟨#[]⟩, cntE v p)
theorem ret_range {c : Int} (h : retB c = true) : 0 ≤ c ∧ c < 256 := by
  unfold retB at h
  simp at h
  omega
theorem cntE_parts {v : Int} {p : Pk} (x : cntE v p = 0) : cntArg v p = true ∧ (validB p.client = true ∧ validB p.user = true) ∧ (p.hasWill = true → nameB p.will.topic = true) ∧ (p.will.payload.size ≤ 65535 ∧ p.pass.size ≤ 65535) ∧ (bytesS p.kind p.props).2 = 0 ∧ (bytesS 16 p.will.props).2 = 0 := by
  unfold cntE at x
  by_cases h1 : cntArg v p = false
  · rw [if_pos h1] at x; cases x
  rw [if_neg h1] at x
  by_cases h2 : validB p.client = false ∨ validB p.user = false
  · rw [if_pos h2] at x; cases x
  rw [if_neg h2] at x
  by_cases h3 : p.hasWill = true ∧ nameB p.will.topic = false
  · rw [if_pos h3] at x; cases x
  rw [if_neg h3] at x
  by_cases h4 : 65535 < p.will.payload.size ∨ 65535 < p.pass.size
  · rw [if_pos h4] at x; cases x
  rw [if_neg h4] at x
  by_cases h5 : (bytesS p.kind p.props).2 = 0
  · rw [if_neg (fun y => y h5)] at x
    refine ⟨by simpa using h1, ⟨?_, ?_⟩, fun hw => ?_, ⟨by omega, by omega⟩, h5, x⟩
    · cases e : validB p.client
      · exact absurd (.inl e) h2
      · rfl
    · cases e : validB p.user
      · exact absurd (.inr e) h2
      · rfl
    · cases e : nameB p.will.topic
      · exact absurd ⟨hw, e⟩ h3
      · rfl
  · rw [if_pos h5] at x; exact absurd x h5
theorem cntE_rng {v : Int} {p : Pk} (x : cntE v p = 0) : hdKnown v = true ∧ cntOurs p.kind = true ∧ p = cntQ p ∧ cntRng v p = true := by
  have := (cntE_parts x).1
  unfold cntArg at this
  simp only [Bool.and_eq_true, decide_eq_true_iff] at this
  exact ⟨this.1, this.2.1, this.2.2.1, this.2.2.2⟩
theorem cntE_code {v : Int} {p : Pk} (x : cntE v p = 0) (h2 : p.kind = 2) : 0 ≤ p.code ∧ p.code < 256 := by
  have h := (cntE_rng x).2.2.2
  unfold cntRng at h
  by_cases h1 : v = 4 ∧ 0 < p.props.length + p.will.props.length
  · rw [if_pos h1] at h; cases h
  rw [if_neg h1, if_pos h2] at h
  have hc : cntCode v p = true := (Bool.and_eq_true_iff.1 h).1
  unfold cntCode at hc
  by_cases h4 : v = 4
  · rw [if_pos h4] at hc; exact ret_range hc
  · rw [if_neg h4] at hc; exact may_range hc
set_option maxHeartbeats 4000000 in
set_option maxRecDepth 10000 in
theorem cntBody2_any (v : Int) (p : Pk) (h : Hs) (w : World) (ip : PkIn w w.heap.size p h) (ok : PkOk p) (h2 : p.kind = 2) :
    Calls Tryz.prog 6 #[.int .i64 v, pkV p h] w fun e w' => e = .returned (.tuple #[.string (cntB2 v p).1, .int .i64 (cntB2 v p).2]) ∧ Below w.heap.size w w' := by
  have OK := Lib.hid ok
  have S0 := Lib.hid ((St.start w).push ip)
  have HE : Hid (cntB2 v p = if cntE v p = 0 then (ackS8 v p, 0) else (⟨#[]⟩, cntE v p)) := Lib.hid rfl
  have HS : Hid (ackS8 v p = catL [⟨#[if p.session = true then 1 else 0]⟩, ⟨(putL p.code.toNat 1).toArray⟩, tail8 v p.kind p.props]) := Lib.hid rfl
  have l0 := S0.out.ld 0 rfl
  have H2 := Lib.hid h2
  clear ip ok h2
  go_enter Tryz.func6, Tryz.ntmps6
  go_wp2_with fail
  refine (cntValid_any v p h _ (S0.out.into 0 rfl) OK.out).mono ?_
  rintro e w1 ⟨rfl, hb⟩
  have S1 := Lib.hid (S0.out.below hb); clear hb l0
  by_cases he : cntE v p = 0
  rotate_left
  · have e0 : (cntE v p != 0) = true := bne_iff_ne.2 he
    have HX : Hid (cntB2 v p = (⟨#[]⟩, cntE v p)) := Lib.hid (by rw [HE.out, if_neg he])
    clear he
    go_wp2
    go_ret2
    exact ⟨by rw [HX.out]; rfl, S1.out.kept⟩
  have HX : Hid (cntB2 v p = (ackS8 v p, 0)) := Lib.hid (by rw [HE.out, if_pos he])
  have HB := Lib.hid (bytesS_size p.kind p.props (cntE_parts he).2.2.2.2.1).2
  have hcr := cntE_code he H2.out
  obtain ⟨m, hm, hw1⟩ : ∃ m : Nat, Hid (p.code.toNat = m) ∧ IntKind.u64.wrap p.code = (m : Int) := ⟨_, Lib.hid rfl, by rw [IntKind.wrap_u64]; omega⟩
  have HM : Hid (m < 256) := Lib.hid (by have := hm.out; omega)
  rw [he]
  have k0 := S1.out.cell 0 rfl
  have k0' : w1.cell? ⟨w.heap.size, 0, none⟩ = some (.int .i64 2) := by rw [k0, pkC_0, H2.out]
  have k0a : w1.cell? ⟨w.heap.size, 24, none⟩ = some (.slice h.props.a p.props.length h.props.c) := by rw [k0, pkC_24]
  clear he hcr k0
  go_wp2_with fail
  rw [← H2.out]
  refine (tail8_any v p.kind p.props _ rfl OK.out.props h.props.a h.props.c _ (S1.out.into 0 rfl).props OK.out.len.2.2.2).mono ?_
  rintro e w2 ⟨rfl, hb⟩
  have S2 := Lib.hid (S1.out.below hb); clear hb k0' k0a
  have k0 := S2.out.cell 0 rfl
  have k1 : w2.cell? ⟨w.heap.size, 0, none⟩ = some (.int .i64 2) := by rw [k0, pkC_0, H2.out]
  have k2 : w2.cell? ⟨w.heap.size, 21, none⟩ = some (.int .i64 p.code) := by rw [k0, pkC_21]
  have k3 : w2.cell? ⟨w.heap.size, 20, none⟩ = some (.bool p.session) := by rw [k0, pkC_20]
  obtain ⟨T, hT⟩ : ∃ T, tail8 v p.kind p.props = T := ⟨_, rfl⟩
  have HTS : Hid (T.size ≤ 131075004) := Lib.hid (by
    rw [← hT]
    unfold tail8
    split
    · exact Nat.zero_le _
    · rw [mk_size]; exact HB.out)
  obtain ⟨X, hX⟩ : ∃ X : ByteArray, (⟨(putL m 1).toArray⟩ : ByteArray) = X := ⟨_, rfl⟩
  have HXS : Hid (X.size = 1) := Lib.hid (by rw [← hX, mk_size, putL_len])
  have HXX := Lib.hid hX
  rw [hT, hm.out, hX] at HS
  rw [hT]
  clear hT hX k0
  obtain ⟨ss, hss⟩ : ∃ b, p.session = b := ⟨_, rfl⟩
  rw [hss] at HS k3
  clear hss
  cases ss
  · have HY : Hid (ackS8 v p = catL [⟨#[0]⟩, X, T]) := Lib.hid (by rw [HS.out, if_neg (by decide)])
    clear HS
    go_wp2_with fail
    refine (put_any m 1 _ (by have := HM.out; omega) (by omega) (by omega)).mono ?_
    rintro e w3 ⟨rfl, hb⟩
    have S3 := Lib.hid (S2.out.below hb); clear hb
    rw [HXX.out]
    have S4 := Lib.hid (S3.out.alloc (.cells #[.string ⟨#[0]⟩, .string X, .string T] 9))
    go_wp2_with fail
    refine (put8_any [⟨#[0]⟩, X, T] 3 3 w3.heap.size 0 rfl _ (cells3 w3 _ _ _ _) (by simp) (by omega) (by omega) (by simp only [catL]; rw [ByteArray.size_append, ByteArray.size_append, ByteArray.size_append]; have := HXS.out; have := HTS.out; have e1 : (⟨#[0]⟩ : ByteArray).size = 1 := rfl; have e2 : (⟨#[]⟩ : ByteArray).size = 0 := rfl; omega)).mono ?_
    rintro e w5 ⟨rfl, hb⟩
    have S5 := Lib.hid (S4.out.below hb); clear hb
    go_wp2
    go_ret2
    exact ⟨by rw [HX.out, HY.out]; rfl, S5.out.kept⟩
  · have HY : Hid (ackS8 v p = catL [⟨#[1]⟩, X, T]) := Lib.hid (by rw [HS.out, if_pos rfl])
    clear HS
    go_wp2_with fail
    refine (put_any m 1 _ (by have := HM.out; omega) (by omega) (by omega)).mono ?_
    rintro e w3 ⟨rfl, hb⟩
    have S3 := Lib.hid (S2.out.below hb); clear hb
    rw [HXX.out]
    have S4 := Lib.hid (S3.out.alloc (.cells #[.string ⟨#[1]⟩, .string X, .string T] 9))
    go_wp2_with fail
    refine (put8_any [⟨#[1]⟩, X, T] 3 3 w3.heap.size 0 rfl _ (cells3 w3 _ _ _ _) (by simp) (by omega) (by omega) (by simp only [catL]; rw [ByteArray.size_append, ByteArray.size_append, ByteArray.size_append]; have := HXS.out; have := HTS.out; have e1 : (⟨#[1]⟩ : ByteArray).size = 1 := rfl; have e2 : (⟨#[]⟩ : ByteArray).size = 0 := rfl; omega)).mono ?_
    rintro e w5 ⟨rfl, hb⟩
    have S5 := Lib.hid (S4.out.below hb); clear hb
    go_wp2
    go_ret2
    exact ⟨by rw [HX.out, HY.out]; rfl, S5.out.kept⟩
end Go.Proofs.YtngnaenbnmajdaaGreat
