/-
  connect: the walks of known, ours, alone, ranges.
  connect: the walks of ranges, Valid.
  connect: the walk of Valid.
  strings.Join: its contract of the shelf, the table laid; connect.put, data, tail.
  connect: the walk of Body, of a CONNACK; the law ConnectAnswers.
-/
import Derived.Test.YtmkkjiogokfnmaaDoorMPubA
import Derived.BigRegion
import Derived.Shelf.Strings.OnBuilder

namespace Go.Proofs.YtmkkjiogokfnmaaDoor
open Go.RowKit
attribute [local go_sem ↓] to_ldPk to_bxPk to_bdPk to_alPk to_stPk
attribute [local go_sem] run_bxPk run_bxPk_agg ld_fresh run_alPk run_bd0 run_bdK run_bdKI run_bdKIC run_bdKC run_bdKICP run_stPk_fresh pkC_0 pkC_1 pkC_2 pkC_3 pkC_4 pkC_5 pkC_6 pkC_7 pkC_8 pkC_9 pkC_10 pkC_11 pkC_12 pkC_13 pkC_14 pkC_15 pkC_16 pkC_17 pkC_18 pkC_19 pkC_20 pkC_21 pkC_22 pkC_23 pkC_24
attribute [local go_sem ↓ high] to_stPk to_stWl to_ldWl
attribute [local go_sem ↓] to_stF
attribute [local go_sem] ld_pw pw_at pw_stwl pw_dstwl pw_stwl0 pw_stwp pw_st0 pw_dst0 pw_st1 pw_dst1 pw_st2 pw_dst2 pw_st3 pw_dst3 pw_st4 pw_dst4 pw_st5 pw_dst5 pw_st6 pw_dst6 pw_st7 pw_dst7 pw_st8 pw_dst8 pw_st9 pw_dst9 pw_st10 pw_dst10 pw_st11 pw_dst11 pw_st12 pw_dst12 pw_st13 pw_dst13 pw_st14 pw_dst14 pw_st15 pw_dst15 pw_st16 pw_dst16 pw_st17 pw_dst17 pw_st18 pw_dst18 pw_st20 pw_dst20 pw_st21 pw_dst21 pw_st22 pw_nil22 pw_st23 pw_nil23 pw_st24 pw_nil24
def cntOurs (k : Int) : Bool := decide (k = 1 ∨ k = 2)
/-- A packet with nothing but what its kind may have. -/
def cntQ (p : Pk) : Pk :=
  if p.kind = 2 then { pk0 with kind := p.kind, props := p.props, session := p.session, code := p.code }
  else { pk0 with kind := p.kind, props := p.props, clean := p.clean, alive := p.alive, client := p.client, hasWill := p.hasWill, will := (if p.hasWill = true then p.will else wl0), hasUser := p.hasUser, user := (if p.hasUser = true then p.user else ⟨#[]⟩), hasPass := p.hasPass, pass := (if p.hasPass = true then p.pass else ⟨#[]⟩) }
def cntH (p : Pk) (h : Hs) : Hs := { hs0 with props := h.props, wp := (if p.kind ≠ 2 ∧ p.hasWill = true then h.wp else hd0) }
def cntP0 (p : Pk) : Pk := { pk0 with kind := p.kind, props := p.props }
theorem cntQ_two {p : Pk} (h : p.kind = 2) : cntQ p = { pk0 with kind := p.kind, props := p.props, session := p.session, code := p.code } := by unfold cntQ; rw [if_pos h]
theorem cntQ_one {p : Pk} (h : p.kind ≠ 2) {a b c : Bool} (ha : p.hasWill = a) (hb : p.hasUser = b) (hc : p.hasPass = c) : cntQ p = { pk0 with kind := p.kind, props := p.props, clean := p.clean, alive := p.alive, client := p.client, hasWill := a, will := (if a = true then p.will else wl0), hasUser := b, user := (if b = true then p.user else ⟨#[]⟩), hasPass := c, pass := (if c = true then p.pass else ⟨#[]⟩) } := by unfold cntQ; rw [if_neg h, ha, hb, hc]
theorem cntQ_len {p : Pk} (x : PkLen p) : PkLen (cntQ p) := by
  unfold cntQ
  split
  · exact ⟨Nat.zero_le _, Nat.zero_le _, Nat.zero_le _, x.2.2.2⟩
  · refine ⟨?_, Nat.zero_le _, Nat.zero_le _, x.2.2.2⟩
    show (if p.hasWill = true then p.will else wl0).props.length ≤ _
    split
    · exact x.1
    · exact Nat.zero_le _
theorem cntQ_in {w : World} {B : Nat} {p : Pk} {h : Hs} (x : PkIn w B p h) : PkIn w B (cntQ p) (cntH p h) := by
  by_cases h2 : p.kind = 2
  · have e1 : cntH p h = { hs0 with props := h.props } := by unfold cntH; rw [if_neg (fun y => y.1 h2)]; rfl
    rw [cntQ_two h2, e1]
    exact ⟨Rd.nil _ _ _ _, Rd.nil _ _ _ _, Rd.nil _ _ _ _, x.props, Nat.zero_le _, Nat.zero_le _, Nat.zero_le _, x.caps.2.2.2⟩
  · rw [cntQ_one h2 rfl rfl rfl]
    cases hw : p.hasWill
    · have e1 : cntH p h = { hs0 with props := h.props } := by unfold cntH; rw [if_neg (fun y => by rw [hw] at y; cases y.2)]; rfl
      rw [e1]
      exact ⟨Rd.nil _ _ _ _, Rd.nil _ _ _ _, Rd.nil _ _ _ _, x.props, Nat.zero_le _, Nat.zero_le _, Nat.zero_le _, x.caps.2.2.2⟩
    · have e1 : cntH p h = { hs0 with props := h.props, wp := h.wp } := by unfold cntH; rw [if_pos ⟨h2, hw⟩]
      rw [e1]
      exact ⟨x.wp, Rd.nil _ _ _ _, Rd.nil _ _ _ _, x.props, x.caps.1, Nat.zero_le _, Nat.zero_le _, x.caps.2.2.2⟩
theorem run_bdKPr (k : Int) (l : List Pr) (A : Option Addr) (n : Nat) (w : World) : (bdPk #[(0, .int .i64 k), (20, .slice A l.length n)]).run Tryd.prog w = .ok (pkV { pk0 with kind := k, props := l } { hs0 with props := ⟨A, n⟩ }) w := by kernel_rfl
theorem same_cnt (p : Pk) (h : Hs) (Q : Pk) (H : Hs) (x : World) (hq : cntQ p = Q) (hh : cntH p h = H) (hi : PkIn x x.heap.size p h) (hn : PkLen p) :
    Calls Tryd.prog 41 #[pkV p h, pkV Q H] x fun e y => e = .returned (.bool (decide (p = cntQ p))) ∧ Below x.heap.size x y := by
  subst hq hh
  exact same_any p (cntQ p) h (cntH p h) x hi (cntQ_in hi) hn (cntQ_len hn)
end Go.Proofs.YtmkkjiogokfnmaaDoor

namespace Go.Proofs.YtmkkjiogokfnmaaDoor
open Go.RowKit
attribute [local go_sem ↓] to_ldPk to_bxPk to_bdPk to_alPk to_stPk
attribute [local go_sem] run_bxPk run_bxPk_agg ld_fresh run_alPk run_bd0 run_bdK run_bdKI run_bdKIC run_bdKC run_bdKICP run_stPk_fresh pkC_0 pkC_1 pkC_2 pkC_3 pkC_4 pkC_5 pkC_6 pkC_7 pkC_8 pkC_9 pkC_10 pkC_11 pkC_12 pkC_13 pkC_14 pkC_15 pkC_16 pkC_17 pkC_18 pkC_19 pkC_20 pkC_21 pkC_22 pkC_23 pkC_24
def cntCode (v : Int) (p : Pk) : Bool := if v = 4 then retB p.code else may p.kind p.code
def cntRng (v : Int) (p : Pk) : Bool :=
  if v = 4 ∧ 0 < p.props.length + p.will.props.length then false
  else if p.kind = 2 then cntCode v p && (decide (p.code = 0) || !p.session)
  else if v = 4 ∧ ((p.client.size = 0 ∧ p.clean = false) ∨ (p.hasPass = true ∧ p.hasUser = false)) then false
  else decide (0 ≤ p.alive ∧ p.alive < 65536 ∧ 0 ≤ p.will.qos ∧ p.will.qos ≤ 2)
end Go.Proofs.YtmkkjiogokfnmaaDoor

namespace Go.Proofs.YtmkkjiogokfnmaaDoor
open Go.RowKit
attribute [local go_sem ↓] to_ldPk to_bxPk to_bdPk to_alPk to_stPk
attribute [local go_sem] run_bxPk run_bxPk_agg ld_fresh run_alPk run_bd0 run_bdK run_bdKI run_bdKIC run_bdKC run_bdKICP run_stPk_fresh pkC_0 pkC_1 pkC_2 pkC_3 pkC_4 pkC_5 pkC_6 pkC_7 pkC_8 pkC_9 pkC_10 pkC_11 pkC_12 pkC_13 pkC_14 pkC_15 pkC_16 pkC_17 pkC_18 pkC_19 pkC_20 pkC_21 pkC_22 pkC_23 pkC_24
def cntArg (v : Int) (p : Pk) : Bool := hdKnown v && (cntOurs p.kind && (decide (p = cntQ p) && cntRng v p))
def cntE (v : Int) (p : Pk) : Int :=
  if cntArg v p = false then 2
  else if validB p.client = false ∨ validB p.user = false then 6
  else if p.hasWill = true ∧ nameB p.will.topic = false then 10
  else if 65535 < p.will.payload.size ∨ 65535 < p.pass.size then 2
  else if (bytesS p.kind p.props).2 ≠ 0 then (bytesS p.kind p.props).2
  else (bytesS 16 p.will.props).2
end Go.Proofs.YtmkkjiogokfnmaaDoor

namespace Go.Proofs.YtmkkjiogokfnmaaDoor
open Go.RowKit Go.Shelf
/-- Texts, one behind the other. -/
def catL : List ByteArray → ByteArray
  | [] => ⟨#[]⟩
  | x :: l => x ++ catL l
theorem join_flat (l : List (List UInt8)) : Lib.join l [] = l.flatten := by
  cases l with
  | nil => rfl
  | cons x r =>
    rw [Lib.join_cons]
    simp [Lib.joinTail]
theorem cat_ls : ∀ (l : List ByteArray), ls (catL l) = (l.map (·.data.toList)).flatten
  | [] => rfl
  | x :: l => by
    rw [catL, ls_app, cat_ls l]
    rfl
theorem join_cat (l : List ByteArray) : (⟨(Lib.join (l.map (·.data.toList)) (⟨#[]⟩ : ByteArray).data.toList).toArray⟩ : ByteArray) = catL l := by
  apply ls_ext
  rw [ls_mk, cat_ls]
  exact join_flat _
theorem cat_size : ∀ (l : List ByteArray), (Lib.join (l.map (·.data.toList)) (⟨#[]⟩ : ByteArray).data.toList).length = (catL l).size := fun l => by
  rw [← ls_len, ← join_cat, ls_mk]
/-- Properties' bytes, of V5. -/
def tail8 (v k : Int) (l : List Pr) : ByteArray := if v = 4 then ⟨#[]⟩ else ⟨(bytesS k l).1.toArray⟩
end Go.Proofs.YtmkkjiogokfnmaaDoor

namespace Go.Proofs.YtmkkjiogokfnmaaDoor
open Go.RowKit
attribute [local go_sem ↓] to_ldPk to_bxPk to_bdPk to_alPk to_stPk
attribute [local go_sem] run_bxPk run_bxPk_agg ld_fresh run_alPk run_bd0 run_bdK run_bdKI run_bdKIC run_bdKC run_bdKICP run_stPk_fresh pkC_0 pkC_1 pkC_2 pkC_3 pkC_4 pkC_5 pkC_6 pkC_7 pkC_8 pkC_9 pkC_10 pkC_11 pkC_12 pkC_13 pkC_14 pkC_15 pkC_16 pkC_17 pkC_18 pkC_19 pkC_20 pkC_21 pkC_22 pkC_23 pkC_24
theorem cells3 (w : World) (a b c : ByteArray) (t : TypeId) : ∀ (j : Nat) x, [a, b, c][j]? = some x → (w.alloc (.cells #[.string a, .string b, .string c] t)).cell? ⟨w.heap.size, 0 + j, none⟩ = some (.string x) := by
  intro j x h
  rw [Nat.zero_add, (Bk.fresh w t #[.string a, .string b, .string c]).cell]
  rcases j with _ | _ | _ | j
  · simp at h; subst h; rfl
  · simp at h; subst h; rfl
  · simp at h; subst h; rfl
  · simp at h
/-- A CONNACK's body. -/
def ackS8 (v : Int) (p : Pk) : ByteArray := catL [⟨#[if p.session = true then 1 else 0]⟩, ⟨(putL p.code.toNat 1).toArray⟩, tail8 v p.kind p.props]
def cntB2 (v : Int) (p : Pk) : ByteArray × Int := if cntE v p = 0 then (ackS8 v p, 0) else (⟨#[]⟩, cntE v p)
theorem ret_range {c : Int} (h : retB c = true) : 0 ≤ c ∧ c < 256 := by
  unfold retB at h
  simp at h
  omega
theorem cntE_parts {v : Int} {p : Pk} (x : cntE v p = 0) : cntArg v p = true ∧ (validB p.client = true ∧ validB p.user = true) ∧ (p.hasWill = true → nameB p.will.topic = true) ∧ (p.will.payload.size ≤ 65535 ∧ p.pass.size ≤ 65535) ∧ (bytesS p.kind p.props).2 = 0 ∧ (bytesS 16 p.will.props).2 = 0 := by
  unfold cntE at x
  by_cases h1 : cntArg v p = false
  · rw [if_pos h1] at x; cases x
  rw [if_neg h1] at x
  by_cases h2 : validB p.client = false ∨ validB p.user = false
  · rw [if_pos h2] at x; cases x
  rw [if_neg h2] at x
  by_cases h3 : p.hasWill = true ∧ nameB p.will.topic = false
  · rw [if_pos h3] at x; cases x
  rw [if_neg h3] at x
  by_cases h4 : 65535 < p.will.payload.size ∨ 65535 < p.pass.size
  · rw [if_pos h4] at x; cases x
  rw [if_neg h4] at x
  by_cases h5 : (bytesS p.kind p.props).2 = 0
  · rw [if_neg (fun y => y h5)] at x
    refine ⟨by simpa using h1, ⟨?_, ?_⟩, fun hw => ?_, ⟨by omega, by omega⟩, h5, x⟩
    · cases e : validB p.client
      · exact absurd (.inl e) h2
      · rfl
    · cases e : validB p.user
      · exact absurd (.inr e) h2
      · rfl
    · cases e : nameB p.will.topic
      · exact absurd ⟨hw, e⟩ h3
      · rfl
  · rw [if_pos h5] at x; exact absurd x h5
theorem cntE_rng {v : Int} {p : Pk} (x : cntE v p = 0) : hdKnown v = true ∧ cntOurs p.kind = true ∧ p = cntQ p ∧ cntRng v p = true := by
  have := (cntE_parts x).1
  unfold cntArg at this
  simp only [Bool.and_eq_true, decide_eq_true_iff] at this
  exact ⟨this.1, this.2.1, this.2.2.1, this.2.2.2⟩
theorem cntE_code {v : Int} {p : Pk} (x : cntE v p = 0) (h2 : p.kind = 2) : 0 ≤ p.code ∧ p.code < 256 := by
  have h := (cntE_rng x).2.2.2
  unfold cntRng at h
  by_cases h1 : v = 4 ∧ 0 < p.props.length + p.will.props.length
  · rw [if_pos h1] at h; cases h
  rw [if_neg h1, if_pos h2] at h
  have hc : cntCode v p = true := (Bool.and_eq_true_iff.1 h).1
  unfold cntCode at hc
  by_cases h4 : v = 4
  · rw [if_pos h4] at hc; exact ret_range hc
  · rw [if_neg h4] at hc; exact may_range hc
end Go.Proofs.YtmkkjiogokfnmaaDoor
