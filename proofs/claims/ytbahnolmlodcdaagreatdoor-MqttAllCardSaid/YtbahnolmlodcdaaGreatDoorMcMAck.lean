/- A part of what the laws stand on: MAck. -/
import Derived.Test.YtbahnolmlodcdaaGreatDoorMcMPk
import Derived.Test.YtbahnolmlodcdaaGreatDoorMcMReaA
import Derived.Test.YtbahnolmlodcdaaGreatDoorMcMPrp
import Derived.Test.YtbahnolmlodcdaaGreatDoorMcMPro
import Derived.Deep.QuietTactic
import Derived.BigQuiet
import Derived.Laws.ResultCell
namespace Go.Proofs.YtbahnolmlodcdaaGreatDoor
open Go.RowKit
attribute [local go_sem ↓] to_ldPk to_bxPk to_bdPk to_alPk to_stPk
attribute [local go_sem] run_bxPk run_bxPk_agg ld_fresh run_alPk run_bd0 run_bdK run_bdKI run_bdKIC run_bdKC run_bdKICP run_stPk_fresh pkC_0 pkC_1 pkC_2 pkC_3 pkC_4 pkC_5 pkC_6 pkC_7 pkC_8 pkC_9 pkC_10 pkC_11 pkC_12 pkC_13 pkC_14 pkC_15 pkC_16 pkC_17 pkC_18 pkC_19 pkC_20 pkC_21 pkC_22 pkC_23 pkC_24

/-- Such a version, such a kind. -/
def ackK (v k : Int) : Bool := decide ((v = 4 ∨ v = 5) ∧ 4 ≤ k ∧ k ≤ 7)
set_option maxHeartbeats 400000 in
set_option maxRecDepth 10000 in
theorem ackKnown_any (v k : Int) (w : World) : Calls Tryz.prog 235 #[.int .i64 v, .int .i64 k] w fun e w' => e = .returned (.bool (ackK v k)) ∧ w = w' := by
  go_enter Tryz.func235, Tryz.ntmps235
  go_wp2
  all_goals
    go_ret
    refine ⟨ret_bool ?_, rfl⟩
    unfold ackK
    simp_all <;> omega

/-- A packet with nothing but what an acknowledgement may have. -/
def ackP (p : Pk) : Pk := { pk0 with kind := p.kind, id := p.id, code := p.code, props := p.props }
def ackH (h : Hs) : Hs := { hs0 with props := h.props }
def ackE (v : Int) (p : Pk) : Int :=
  if ackK v p.kind = false ∨ p.id ≤ 0 ∨ 65536 ≤ p.id ∨ may p.kind p.code = false then 2
  else if v = 4 ∧ (p.code ≠ 0 ∨ p.props.length ≠ 0) then 2
  else if p ≠ ackP p then 2
  else (bytesS p.kind p.props).2
theorem ackIn {w : World} {B : Nat} {p : Pk} {h : Hs} (x : PkIn w B p h) : PkIn w B (ackP p) (ackH h) := ⟨Rd.nil _ _ _ _, Rd.nil _ _ _ _, Rd.nil _ _ _ _, x.props, Nat.zero_le _, Nat.zero_le _, Nat.zero_le _, x.caps.2.2.2⟩
theorem PkOk.len {p : Pk} (x : PkOk p) : PkLen p := by
  obtain ⟨h1, h2, h3, h4⟩ := x.lens
  exact ⟨by omega, by omega, by omega, by omega⟩
theorem ackLen {p : Pk} (x : PkLen p) : PkLen (ackP p) := ⟨Nat.zero_le _, Nat.zero_le _, Nat.zero_le _, x.2.2.2⟩

set_option maxHeartbeats 2000000 in
set_option maxRecDepth 10000 in
theorem ackValid_any (v : Int) (p : Pk) (h : Hs) (w : World) (ip : PkIn w w.heap.size p h) (ok : PkOk p) :
    Calls Tryz.prog 234 #[.int .i64 v, pkV p h] w fun e w' => e = .returned (.int .i64 (ackE v p)) ∧ Below w.heap.size w w' := by
  have IP := Lib.hid ip; have OK := Lib.hid ok; clear ip ok
  have HB := Lib.hid ((Below.refl w.heap.size w).alloc (Nat.le_refl _) (.cells (pkC p h) PkT))
  have HK := Lib.hid (Bk.fresh w PkT (pkC p h))
  have HE : Hid (ackE v p = if ackK v p.kind = false ∨ p.id ≤ 0 ∨ 65536 ≤ p.id ∨ may p.kind p.code = false then 2 else if v = 4 ∧ (p.code ≠ 0 ∨ p.props.length ≠ 0) then 2 else if p ≠ ackP p then 2 else (bytesS p.kind p.props).2) := Lib.hid rfl
  go_enter Tryz.func234, Tryz.ntmps234
  go_wp2_with fail
  refine (ackKnown_any v p.kind _).mono ?_
  rintro e w1 ⟨rfl, rfl⟩
  cases hk : ackK v p.kind
  · have HX : Hid (ackE v p = 2) := Lib.hid (by rw [HE.out, if_pos (.inl hk)])
    go_wp2
    go_ret
    exact ⟨by rw [HX.out]; rfl, HB.out⟩
  · by_cases h1 : p.id ≤ 0
    · have HX : Hid (ackE v p = 2) := Lib.hid (by rw [HE.out, if_pos (.inr (.inl h1))])
      go_wp2
      go_ret
      exact ⟨by rw [HX.out]; rfl, HB.out⟩
    · have d1 : decide (p.id ≤ 0) = false := decide_eq_false h1
      have d1' : 0 < p.id := by omega
      by_cases h2 : 65536 ≤ p.id
      · have HX : Hid (ackE v p = 2) := Lib.hid (by rw [HE.out, if_pos (.inr (.inr (.inl h2)))])
        clear h1
        go_wp2
        go_ret
        exact ⟨by rw [HX.out]; rfl, HB.out⟩
      · have d2 : decide (65536 ≤ p.id) = false := decide_eq_false h2
        have d2' : p.id < 65536 := by omega
        have H12 := Lib.hid (And.intro h1 h2)
        clear h1 h2
        go_wp2_with fail
        refine (may_any p.kind p.code _).mono ?_
        rintro e w1 ⟨rfl, hb⟩
        have HB1 := Lib.hid (HB.out.trans (hb.mono HB.out.size)); have HK1 := Lib.hid (HK.out.below hb HK.out.lt)
        clear hb
        have k1 := fun i => HK1.out.cell i
        cases hm : may p.kind p.code
        · have HX : Hid (ackE v p = 2) := Lib.hid (by rw [HE.out, if_pos (.inr (.inr (.inr hm)))])
          clear hm
          go_wp2
          go_ret
          exact ⟨by rw [HX.out]; rfl, HB1.out⟩
        · have HE2 : Hid (ackE v p = if v = 4 ∧ (p.code ≠ 0 ∨ p.props.length ≠ 0) then 2 else if p ≠ ackP p then 2 else (bytesS p.kind p.props).2) := Lib.hid (by
            rw [HE.out, if_neg]
            rintro (x | x | x | x)
            · rw [hk] at x; cases x
            · have := H12.out.1; omega
            · have := H12.out.2; omega
            · rw [hm] at x; cases x)
          clear hm hk HE
          by_cases h4 : v = 4 ∧ (p.code ≠ 0 ∨ p.props.length ≠ 0)
          · have HX : Hid (ackE v p = 2) := Lib.hid (by rw [HE2.out, if_pos h4])
            obtain ⟨rfl, h5⟩ := h4
            by_cases hc : p.code = 0
            · have e1 : (p.code != 0) = false := by simpa using hc
              have e2 : ((p.props.length : Int) != 0) = true := bne_iff_ne.2 (by omega)
              clear hc h5
              go_wp2
              go_ret
              exact ⟨by rw [HX.out]; rfl, HB1.out⟩
            · have e1 : (p.code != 0) = true := bne_iff_ne.2 hc
              clear hc h5
              go_wp2
              go_ret
              exact ⟨by rw [HX.out]; rfl, HB1.out⟩
          · have HE3 : Hid (ackE v p = if p ≠ ackP p then 2 else (bytesS p.kind p.props).2) := Lib.hid (by rw [HE2.out, if_neg h4])
            have HL := Lib.hid (ld_bk HK1.out)
            by_cases hv : v = 4
            · have hc : p.code = 0 := by
                rcases Decidable.em (p.code = 0) with x | x
                · exact x
                · exact absurd ⟨hv, .inl x⟩ h4
              have hn : p.props.length = 0 := by
                rcases Decidable.em (p.props.length = 0) with x | x
                · exact x
                · exact absurd ⟨hv, .inr x⟩ h4
              have e0 : (v == 4) = true := beq_iff_eq.2 hv
              have e1 : (p.code != 0) = false := by simpa using hc
              have e2 : ((p.props.length : Int) != 0) = false := by simpa using (show (p.props.length : Int) = 0 by omega)
              have hl := HL.out
              clear h4 hv hc hn HE2
              go_wp2_with fail
              refine (same_any p (ackP p) h (ackH h) _ ((IP.out.below HB1.out).wider HB1.out.size) (ackIn ((IP.out.below HB1.out).wider HB1.out.size)) OK.out.len (ackLen OK.out.len)).mono ?_
              rintro e w2 ⟨rfl, hb⟩
              have HB2 := Lib.hid (HB1.out.trans (hb.mono HB1.out.size)); have HK2 := Lib.hid (HK1.out.below hb HK1.out.lt)
              clear hb k1 hl
              have k2 := fun i => HK2.out.cell i
              by_cases hs : p = ackP p
              · rw [decide_eq_true hs]
                have HX : Hid (ackE v p = (bytesS p.kind p.props).2) := Lib.hid (by rw [HE3.out, if_neg (fun x => x hs)])
                clear hs
                go_wp2_with fail
                refine (validP_n p.kind p.props _ rfl OK.out.props h.props.a h.props.c _ ((IP.out.below HB2.out).wider HB2.out.size).props OK.out.len.2.2.2).mono ?_
                rintro e w3 ⟨rfl, hb⟩
                have HB3 := Lib.hid (HB2.out.trans (hb.mono HB2.out.size))
                clear hb k2
                go_wp2
                go_ret
                exact ⟨by rw [HX.out]; rfl, HB3.out⟩
              · rw [decide_eq_false hs]
                have HX : Hid (ackE v p = 2) := Lib.hid (by rw [HE3.out, if_pos hs])
                clear hs
                go_wp2
                go_ret
                exact ⟨by rw [HX.out]; rfl, HB2.out⟩
            · have e0 : (v == 4) = false := beq_eq_false_iff_ne.2 hv
              have hl := HL.out
              clear h4 hv HE2
              go_wp2_with fail
              refine (same_any p (ackP p) h (ackH h) _ ((IP.out.below HB1.out).wider HB1.out.size) (ackIn ((IP.out.below HB1.out).wider HB1.out.size)) OK.out.len (ackLen OK.out.len)).mono ?_
              rintro e w2 ⟨rfl, hb⟩
              have HB2 := Lib.hid (HB1.out.trans (hb.mono HB1.out.size)); have HK2 := Lib.hid (HK1.out.below hb HK1.out.lt)
              clear hb k1 hl
              have k2 := fun i => HK2.out.cell i
              by_cases hs : p = ackP p
              · rw [decide_eq_true hs]
                have HX : Hid (ackE v p = (bytesS p.kind p.props).2) := Lib.hid (by rw [HE3.out, if_neg (fun x => x hs)])
                clear hs
                go_wp2_with fail
                refine (validP_n p.kind p.props _ rfl OK.out.props h.props.a h.props.c _ ((IP.out.below HB2.out).wider HB2.out.size).props OK.out.len.2.2.2).mono ?_
                rintro e w3 ⟨rfl, hb⟩
                have HB3 := Lib.hid (HB2.out.trans (hb.mono HB2.out.size))
                clear hb k2
                go_wp2
                go_ret
                exact ⟨by rw [HX.out]; rfl, HB3.out⟩
              · rw [decide_eq_false hs]
                have HX : Hid (ackE v p = 2) := Lib.hid (by rw [HE3.out, if_pos hs])
                clear hs
                go_wp2
                go_ret
                exact ⟨by rw [HX.out]; rfl, HB2.out⟩
end Go.Proofs.YtbahnolmlodcdaaGreatDoor

namespace Go.Proofs.YtbahnolmlodcdaaGreatDoor
open Go.RowKit
attribute [local go_sem ↓] to_ldPk to_bxPk to_bdPk to_alPk to_stPk
attribute [local go_sem] run_bxPk run_bxPk_agg ld_fresh run_alPk run_bd0 run_bdK run_bdKI run_bdKIC run_bdKC run_bdKICP run_stPk_fresh pkC_0 pkC_1 pkC_2 pkC_3 pkC_4 pkC_5 pkC_6 pkC_7 pkC_8 pkC_9 pkC_10 pkC_11 pkC_12 pkC_13 pkC_14 pkC_15 pkC_16 pkC_17 pkC_18 pkC_19 pkC_20 pkC_21 pkC_22 pkC_23 pkC_24


structure AckGood (v : Int) (p : Pk) : Prop where
  k : ackK v p.kind = true
  id1 : 0 < p.id
  id2 : p.id < 65536
  may : may p.kind p.code = true
  c1 : 0 ≤ p.code
  c2 : p.code < 256
  old : v = 4 → p.code = 0 ∧ p.props = []
  same : p = ackP p
  bytes : (bytesS p.kind p.props).2 = 0
theorem ackE_good {v : Int} {p : Pk} (x : ackE v p = 0) : AckGood v p := by
  unfold ackE at x
  split at x
  · cases x
  · next h =>
    split at x
    · cases x
    · next h4 =>
      split at x
      · cases x
      · next hs =>
        have hm : Go.Proofs.YtbahnolmlodcdaaGreatDoor.may p.kind p.code = true := by
          cases e : Go.Proofs.YtbahnolmlodcdaaGreatDoor.may p.kind p.code
          · exact absurd (.inr (.inr (.inr e))) h
          · rfl
        have hr := may_range hm
        refine ⟨?_, ?_, ?_, hm, hr.1, hr.2, ?_, Decidable.not_not.1 hs, x⟩
        · cases e : ackK v p.kind
          · exact absurd (.inl e) h
          · rfl
        · exact Int.not_le.1 fun e => h (.inr (.inl e))
        · exact Int.not_le.1 fun e => h (.inr (.inr (.inl e)))
        · intro hv
          refine ⟨Decidable.not_not.1 fun e => h4 ⟨hv, .inl e⟩, ?_⟩
          have := Decidable.not_not.1 fun e => h4 ⟨hv, .inr e⟩
          exact List.eq_nil_of_length_eq_zero this
theorem AckGood.ok {v : Int} {p : Pk} (x : AckGood v p) : ackE v p = 0 := by
  unfold ackE
  rw [if_neg, if_neg, if_neg]
  · exact x.bytes
  · exact fun h => h x.same
  · rintro ⟨h1, h2⟩
    have := x.old h1
    rcases h2 with h2 | h2
    · exact h2 this.1
    · rw [this.2] at h2; exact h2 rfl
  · rintro (h | h | h | h)
    · rw [x.k] at h; cases h
    · have := x.id1; omega
    · have := x.id2; omega
    · rw [x.may] at h; cases h

/-- A body. -/
def ackT (p : Pk) : List UInt8 := if p.code = 0 ∧ p.props.length = 0 then [] else putL p.code.toNat 1 ++ (if p.props.length = 0 then [] else (bytesS p.kind p.props).1)
def ackB (v : Int) (p : Pk) : List UInt8 × Int := if ackE v p = 0 then (putL p.id.toNat 2 ++ ackT p, 0) else ([], ackE v p)
theorem ap2 (a b : List UInt8) : (⟨a.toArray⟩ : ByteArray) ++ ⟨b.toArray⟩ = ⟨(a ++ b).toArray⟩ := by
  apply ByteArray.ext
  simp
theorem ap3 (a b : List UInt8) (c : List UInt8) : (⟨(a ++ b).toArray⟩ : ByteArray) ++ ⟨c.toArray⟩ = ⟨(a ++ (b ++ c)).toArray⟩ := by
  rw [ap2, List.append_assoc]

set_option maxHeartbeats 2000000 in
set_option maxRecDepth 10000 in
theorem ackBody_any (v : Int) (p : Pk) (h : Hs) (w : World) (ip : PkIn w w.heap.size p h) (ok : PkOk p) :
    Calls Tryz.prog 172 #[.int .i64 v, pkV p h] w fun e w' => e = .returned (.tuple #[.string ⟨(ackB v p).1.toArray⟩, .int .i64 (ackB v p).2]) ∧ Below w.heap.size w w' := by
  have IP := Lib.hid ip; have OK := Lib.hid ok; clear ip ok
  have HB := Lib.hid ((Below.refl w.heap.size w).alloc (Nat.le_refl _) (.cells (pkC p h) PkT))
  have HK := Lib.hid (Bk.fresh w PkT (pkC p h))
  have HE : Hid (ackB v p = if ackE v p = 0 then (putL p.id.toNat 2 ++ ackT p, 0) else ([], ackE v p)) := Lib.hid rfl
  go_enter Tryz.func172, Tryz.ntmps172
  go_wp2_with fail
  refine (ackValid_any v p h _ ((IP.out.below HB.out).wider HB.out.size) OK.out).mono ?_
  rintro e w1 ⟨rfl, hb⟩
  have HB1 := Lib.hid (HB.out.trans (hb.mono HB.out.size)); have HK1 := Lib.hid (HK.out.below hb HK.out.lt)
  clear hb
  have k1 := fun i => HK1.out.cell i
  by_cases he : ackE v p = 0
  · have HG := Lib.hid (ackE_good he)
    obtain ⟨n, hn, hw1⟩ : ∃ n : Nat, Hid (p.id.toNat = n) ∧ IntKind.u64.wrap p.id = (n : Int) := ⟨_, Lib.hid rfl, by rw [IntKind.wrap_u64]; have := HG.out.id1; have := HG.out.id2; omega⟩
    obtain ⟨m, hm, hw2⟩ : ∃ m : Nat, Hid (p.code.toNat = m) ∧ IntKind.u64.wrap p.code = (m : Int) := ⟨_, Lib.hid rfl, by rw [IntKind.wrap_u64]; have := HG.out.c1; have := HG.out.c2; omega⟩
    have e0 : (ackE v p != 0) = false := by simpa using he
    have HX : Hid (ackB v p = (putL n 2 ++ ackT p, 0)) := Lib.hid (by rw [HE.out, if_pos he, hn.out])
    clear he
    go_wp2_with fail
    refine (put_any n 2 _ (by have := hn.out; have := HG.out.id2; have := HG.out.id1; omega) (by omega) (by omega)).mono ?_
    rintro e w2 ⟨rfl, hb⟩
    have HB2 := Lib.hid (HB1.out.trans (hb.mono HB1.out.size)); have HK2 := Lib.hid (HK1.out.below hb HK1.out.lt)
    clear hb k1 e0 hw1
    have k2 := fun i => HK2.out.cell i
    by_cases hz : p.code = 0 ∧ p.props.length = 0
    · have HT : Hid (ackT p = []) := Lib.hid (by rw [ackT, if_pos hz])
      have e1 : (p.code != 0) = false := by simpa using hz.1
      have e2 : ((p.props.length : Int) != 0) = false := by simpa using (show (p.props.length : Int) = 0 by omega)
      clear hz
      go_wp2
      go_ret2
      exact ⟨by (rw [HX.out, HT.out, List.append_nil]; first | done | rfl), HB2.out⟩
    · by_cases hp : p.props.length = 0
      · have HT : Hid (ackT p = putL m 1) := Lib.hid (by rw [← hm.out, ackT, if_neg hz, if_pos hp, List.append_nil])
        have e1 : (p.code != 0) = true := bne_iff_ne.2 fun x => hz ⟨x, hp⟩
        have e2 : ((p.props.length : Int) != 0) = false := by simpa using (show (p.props.length : Int) = 0 by omega)
        clear hz hp
        go_wp2_with fail
        refine (put_any m 1 _ (by have := hm.out; have := HG.out.c1; have := HG.out.c2; omega) (by omega) (by omega)).mono ?_
        rintro e w3 ⟨rfl, hb⟩
        have HB3 := Lib.hid (HB2.out.trans (hb.mono HB2.out.size)); have HK3 := Lib.hid (HK2.out.below hb HK2.out.lt)
        clear hb k2
        have k3 := fun i => HK3.out.cell i
        have hs1 : ¬ (9223372036854775807 < (putL n 2).length + (putL m 1).length) := by rw [putL_len, putL_len]; decide
        go_wp2
        go_ret2
        exact ⟨by (rw [HX.out, HT.out, ← ap2]; first | done | rfl), HB3.out⟩
      · have HT : Hid (ackT p = putL m 1 ++ (bytesS p.kind p.props).1) := Lib.hid (by rw [← hm.out, ackT, if_neg hz, if_neg hp])
        have e2 : ((p.props.length : Int) != 0) = true := bne_iff_ne.2 (by omega)
        have e1 : (p.code != 0) = true ∨ (p.code != 0) = false := by cases (p.code != 0) <;> simp
        clear hz hp
        rcases e1 with e1 | e1
        all_goals
          go_wp2_with fail
          refine (put_any m 1 _ (by have := hm.out; have := HG.out.c1; have := HG.out.c2; omega) (by omega) (by omega)).mono ?_
          rintro e w3 ⟨rfl, hb⟩
          have HB3 := Lib.hid (HB2.out.trans (hb.mono HB2.out.size)); have HK3 := Lib.hid (HK2.out.below hb HK2.out.lt)
          clear hb
          have k3 := fun i => HK3.out.cell i
          have hs1 : ¬ (9223372036854775807 < (putL n 2).length + (putL m 1).length) := by rw [putL_len, putL_len]; decide
          have hs2 : ¬ (9223372036854775807 < (putL n 2).length + (putL m 1).length + (bytesS p.kind p.props).fst.length) := by rw [putL_len, putL_len]; have := (bytesS_size p.kind p.props HG.out.bytes).2; omega
          go_wp2_with fail
          refine (bytesP_n p.kind p.props _ rfl OK.out.props h.props.a h.props.c _ ((IP.out.below HB3.out).wider HB3.out.size).props OK.out.len.2.2.2).mono ?_
          rintro e w4 ⟨rfl, hb⟩
          have HB4 := Lib.hid (HB3.out.trans (hb.mono HB3.out.size))
          clear hb
          go_wp2
          go_ret2
          exact ⟨by (rw [HX.out, HT.out, ← ap3, ← ap2]; first | done | rfl), HB4.out⟩
  · have e0 : (ackE v p != 0) = true := bne_iff_ne.2 he
    have HX : Hid (ackB v p = ([], ackE v p)) := Lib.hid (by rw [HE.out, if_neg he])
    clear he
    go_wp2
    go_ret2
    exact ⟨by rw [HX.out]; rfl, HB1.out⟩
end Go.Proofs.YtbahnolmlodcdaaGreatDoor

namespace Go.Proofs.YtbahnolmlodcdaaGreatDoor
open Go.RowKit
attribute [local go_sem ↓] to_ldPk to_bxPk to_bdPk to_alPk to_stPk
attribute [local go_sem] run_bxPk run_bxPk_agg ld_fresh run_alPk run_bd0 run_bdK run_bdKI run_bdKIC run_bdKC run_bdKICP run_stPk_fresh pkC_0 pkC_1 pkC_2 pkC_3 pkC_4 pkC_5 pkC_6 pkC_7 pkC_8 pkC_9 pkC_10 pkC_11 pkC_12 pkC_13 pkC_14 pkC_15 pkC_16 pkC_17 pkC_18 pkC_19 pkC_20 pkC_21 pkC_22 pkC_23 pkC_24


def ackQ (k i c : Int) : Pk := { pk0 with kind := k, id := i, code := c }
theorem PkIn.zero (w : World) (B : Nat) (k i c : Int) : PkIn w B (ackQ k i c) hs0 := ⟨Rd.nil _ _ _ _, Rd.nil _ _ _ _, Rd.nil _ _ _ _, Rd.nil _ _ _ _, Nat.zero_le _, Nat.zero_le _, Nat.zero_le _, Nat.zero_le _⟩
theorem PkOk.zero (k i c : Int) : PkOk (ackQ k i c) := by
  refine ⟨?_, ?_, ?_, ?_, ?_⟩
  · intro q hq; cases hq
  · intro q hq; cases hq
  · intro q hq; cases hq
  · exact ⟨Nat.zero_le _, Nat.zero_le _, Nat.zero_le _, Nat.zero_le _, Nat.zero_le _, Nat.zero_le _, Nat.zero_le _⟩
  · exact ⟨Nat.zero_le _, Nat.zero_le _, Nat.zero_le _, Nat.zero_le _⟩
theorem bytesS_none (k : Int) : bytesS k [] = ([0], 0) := by
  show bytesGo k [] (fun _ => 0) [] = _
  rfl
theorem put_one (i : Int) (h : 0 ≤ i) (h2 : i < 256) : ∃ a : UInt8, putL i.toNat 1 = [a] ∧ (a.toNat : Int) = i := by
  refine ⟨UInt8.ofNat (i.toNat / 2 ^ 0), rfl, ?_⟩
  have e2 : (UInt8.ofNat (i.toNat / 2 ^ 0)).toNat = i.toNat % 256 := by simp
  rw [e2]
  omega

end Go.Proofs.YtbahnolmlodcdaaGreatDoor

namespace Go.Proofs.YtbahnolmlodcdaaGreatDoor
open Go.RowKit
attribute [local go_sem ↓] to_ldPk to_bxPk to_bdPk to_alPk to_stPk
attribute [local go_sem] run_bxPk run_bxPk_agg ld_fresh run_alPk run_bd0 run_bdK run_bdKI run_bdKIC run_bdKC run_bdKICP run_stPk_fresh pkC_0 pkC_1 pkC_2 pkC_3 pkC_4 pkC_5 pkC_6 pkC_7 pkC_8 pkC_9 pkC_10 pkC_11 pkC_12 pkC_13 pkC_14 pkC_15 pkC_16 pkC_17 pkC_18 pkC_19 pkC_20 pkC_21 pkC_22 pkC_23 pkC_24


theorem lv_bk {w : World} {g : Nat} {p : Pk} {h : Hs} (hb : Bk w g PkT (pkC p h)) : (loadVar PkT ⟨g, 0, none⟩).run Tryz.prog w = .ok (pkV p h) w := by
  have hl := ld_bk hb
  unfold ldPk at hl
  generalize pkV p h = V at hl ⊢
  simpa only [Instr.loadAt, Instr.sureAddr, Sem.run_bind, Sem.run_pure, Result.andThen_ok] using hl
theorem then_ok {A B : Type} (r : Result A) (v : A) (w : World) (f : A → World → Result B) (h : r = .ok v w) : r.andThen f = f v w := by rw [h]; rfl
set_option maxRecDepth 100000 in
theorem results_pk {fn : Func} {p u : Tmp} (hr : fn.results = #[.cell p PkT, .tmp u]) (tmps : Array Value) {w : World} {g : Nat} {q : Pk} {h : Hs} (hp : tmps.getD p undef = .pointer (some ⟨g, 0, none⟩)) (hb : Bk w g PkT (pkC q h)) :
    (results fn tmps).run Tryz.prog w = .ok (.tuple #[pkV q h, tmps.getD u undef]) w := by
  rw [results_cell_tmp hr, hp]
  have hl := lv_bk hb
  generalize pkV q h = V at hl ⊢
  exact then_ok _ (⟨g, 0, none⟩ : Addr) w _ rfl |>.trans (then_ok _ V w _ hl)
theorem below_put {B g : Nat} {w w' : World} (x : Below B w w') (hB : B ≤ w'.heap.size) (hg : B ≤ g) (q : Pk) (k : Hs) : Below B w (putPk w' g q k) := x.grown (putPk_mods w' g q k) hB (fun y hy => by cases hy; exact hg)

end Go.Proofs.YtbahnolmlodcdaaGreatDoor

namespace Go.Proofs.YtbahnolmlodcdaaGreatDoor
open Go.RowKit
set_option maxHeartbeats 1000000 in
set_option maxRecDepth 10000 in
theorem kitWill_any (x y : Wl) (hx hy : Hd) (w : World) (rx : Rd w w.heap.size 4 hx.a x.props.length (prs x.props)) (ry : Rd w w.heap.size 4 hy.a y.props.length (prs y.props)) (lx : x.props.length ≤ 4611686018427387904) (ly : y.props.length ≤ 4611686018427387904) :
    Calls Tryz.prog 64 #[wlV x hx, wlV y hy] w fun e w' => e = .returned (.bool (decide (x = y))) ∧ Below w.heap.size w w' := by
  obtain ⟨t, l, q, r, ps⟩ := x
  obtain ⟨t', l', q', r', ps'⟩ := y
  simp only at rx ry lx ly
  simp only [wlV, wlC]
  have RX := Lib.hid rx; have RY := Lib.hid ry; clear rx ry
  go_enter Tryz.func64, Tryz.ntmps64
  go_wp2_with (first | (refine (sameKit_any _ _ _ _ _ _ ps ps' _ rfl rfl (RX.out.two _ _) (RY.out.two _ _) lx ly).mono ?_; rintro e w2 ⟨rfl, hb2⟩))
  all_goals
    go_ret
    refine ⟨ret_bool (by simp_all [wl_eq_iff, toList_inj]), ?_⟩
    first | exact below_two_then hb2 | exact below_two _ _ _
end Go.Proofs.YtbahnolmlodcdaaGreatDoor

namespace Go.Proofs.YtbahnolmlodcdaaGreatDoor
open Go.RowKit
attribute [local go_sem ↓] to_ldPk to_bxPk to_bdPk to_alPk to_stPk
attribute [local go_sem] run_bxPk run_bxPk_agg ld_fresh run_alPk run_bd0 run_bdK run_bdKI run_bdKIC run_bdKC run_bdKICP run_stPk_fresh pkC_0 pkC_1 pkC_2 pkC_3 pkC_4 pkC_5 pkC_6 pkC_7 pkC_8 pkC_9 pkC_10 pkC_11 pkC_12 pkC_13 pkC_14 pkC_15 pkC_16 pkC_17 pkC_18 pkC_19 pkC_20 pkC_21 pkC_22 pkC_23 pkC_24


set_option maxHeartbeats 4000000 in
set_option maxRecDepth 100000 in
theorem samePk_any (p q : Pk) (h k : Hs) (w : World) (ip : PkIn w w.heap.size p h) (iq : PkIn w w.heap.size q k) (lp : PkLen p) (lq : PkLen q) :
    Calls Tryz.prog 17 #[pkV p h, pkV q k] w fun e w' => e = .returned (.bool (decide (p = q))) ∧ Below w.heap.size w w' := by
  have hb2 := below_two w (.cells (pkC p h) PkT) (.cells (pkC q k) PkT)
  have B1 : Bk ((w.alloc (.cells (pkC p h) PkT)).alloc (.cells (pkC q k) PkT)) w.heap.size PkT (pkC p h) := (Bk.fresh w PkT (pkC p h)).alloc _
  have B2 : Bk ((w.alloc (.cells (pkC p h) PkT)).alloc (.cells (pkC q k) PkT)) (w.heap.size + 1) PkT (pkC q k) := by
    simpa using Bk.fresh (w.alloc (.cells (pkC p h) PkT)) PkT (pkC q k)
  have HP := Lib.hid (And.intro ip (And.intro iq (And.intro lp lq)))
  have HB := Lib.hid hb2; have H1 := Lib.hid B1; have H2 := Lib.hid B2
  have HQ := Lib.hid (pk_eq_iff p q)
  clear ip iq lp lq hb2
  have k1 := fun i => B1.cell i
  have k2 := fun i => B2.cell i
  have c0 := kitWill_any p.will q.will h.wp k.wp _ (HP.out.1.next HB.out).wp (HP.out.2.1.next HB.out).wp HP.out.2.2.1.1 HP.out.2.2.2.1
  simp only [wlV, wlC] at c0
  clear B1 B2
  have C0 := Lib.hid c0; clear c0
  go_enter Tryz.func17, Tryz.ntmps17
  go_wp2_with fail
  refine (C0.out).mono ?_
  rintro e w1 ⟨rfl, hb⟩
  have HB1 := Lib.hid (HB.out.trans (hb.mono HB.out.size)); have H11 := Lib.hid (H1.out.below hb H1.out.lt); have H21 := Lib.hid (H2.out.below hb H2.out.lt)
  clear hb k1 k2
  have k1 := fun i => H11.out.cell i
  have k2 := fun i => H21.out.cell i
  by_cases d0 : p.will = q.will
  rotate_left
  · have HF : Hid (decide (p = q) = false) := Lib.hid (decide_eq_false (fun x => d0 (by rw [x])))
    rw [decide_eq_false d0]
    clear d0
    go_wp2
    go_ret
    exact ⟨by (rw [HF.out]; first | done | rfl), HB1.out⟩
  rw [decide_eq_true d0]
  have D0 := Lib.hid d0; clear d0
  go_wp2_with fail
  refine (sameI_any h.codes.a k.codes.a p.codes.length q.codes.length h.codes.c k.codes.c p.codes q.codes _ (HP.out.1.next HB1.out).codes (HP.out.2.1.next HB1.out).codes (Nat.le_trans HP.out.2.2.1.2.1 (by decide)) (Nat.le_trans HP.out.2.2.2.2.1 (by decide))).mono ?_
  rintro e w2 ⟨rfl, hb⟩
  have HB2 := Lib.hid (HB1.out.trans (hb.mono HB1.out.size)); have H12 := Lib.hid (H11.out.below hb H11.out.lt); have H22 := Lib.hid (H21.out.below hb H21.out.lt)
  clear hb k1 k2
  have k1 := fun i => H12.out.cell i
  have k2 := fun i => H22.out.cell i
  by_cases d1 : p.codes = q.codes
  rotate_left
  · have HF : Hid (decide (p = q) = false) := Lib.hid (decide_eq_false (fun x => d1 (by rw [x])))
    rw [decide_eq_false d1]
    clear d1
    go_wp2
    go_ret
    exact ⟨by (rw [HF.out]; first | done | rfl), HB2.out⟩
  rw [decide_eq_true d1]
  have D1 := Lib.hid d1; clear d1
  go_wp2_with fail
  refine (sameF_any h.filters.a k.filters.a p.filters.length q.filters.length h.filters.c k.filters.c p.filters q.filters _ rfl rfl (HP.out.1.next HB2.out).filters (HP.out.2.1.next HB2.out).filters HP.out.2.2.1.2.2.1 HP.out.2.2.2.2.2.1).mono ?_
  rintro e w3 ⟨rfl, hb⟩
  have HB3 := Lib.hid (HB2.out.trans (hb.mono HB2.out.size)); have H13 := Lib.hid (H12.out.below hb H12.out.lt); have H23 := Lib.hid (H22.out.below hb H22.out.lt)
  clear hb k1 k2
  have k1 := fun i => H13.out.cell i
  have k2 := fun i => H23.out.cell i
  by_cases d2 : p.filters = q.filters
  rotate_left
  · have HF : Hid (decide (p = q) = false) := Lib.hid (decide_eq_false (fun x => d2 (by rw [x])))
    rw [decide_eq_false d2]
    clear d2
    go_wp2
    go_ret
    exact ⟨by (rw [HF.out]; first | done | rfl), HB3.out⟩
  rw [decide_eq_true d2]
  have D2 := Lib.hid d2; clear d2
  go_wp2_with fail
  refine (sameKit_any h.props.a k.props.a p.props.length q.props.length h.props.c k.props.c p.props q.props _ rfl rfl (HP.out.1.next HB3.out).props (HP.out.2.1.next HB3.out).props HP.out.2.2.1.2.2.2 HP.out.2.2.2.2.2.2).mono ?_
  rintro e w4 ⟨rfl, hb⟩
  have HB4 := Lib.hid (HB3.out.trans (hb.mono HB3.out.size)); have H14 := Lib.hid (H13.out.below hb H13.out.lt); have H24 := Lib.hid (H23.out.below hb H23.out.lt)
  clear hb k1 k2
  have k1 := fun i => H14.out.cell i
  have k2 := fun i => H24.out.cell i
  by_cases d3 : p.props = q.props
  rotate_left
  · have HF : Hid (decide (p = q) = false) := Lib.hid (decide_eq_false (fun x => d3 (by rw [x])))
    rw [decide_eq_false d3]
    clear d3
    go_wp2
    go_ret
    exact ⟨by (rw [HF.out]; first | done | rfl), HB4.out⟩
  rw [decide_eq_true d3]
  have D3 := Lib.hid d3; clear d3
  go_wp2
  all_goals
    go_ret
    refine ⟨ret_bool ?_, HB4.out⟩
    have D0 := D0.out; have D1 := D1.out; have D2 := D2.out; have D3 := D3.out; have HQ := HQ.out
    clear HB HB1 HB2 HB3 HB4 k1 k2
    by_cases hpq : p = q
    · subst hpq
      simp_all
    · rw [decide_eq_false hpq]
      first | done | (rw [HQ] at hpq; clear HQ; simp_all [toList_inj])
end Go.Proofs.YtbahnolmlodcdaaGreatDoor

namespace Go.Proofs.YtbahnolmlodcdaaGreatDoor
open Go.RowKit
attribute [local go_sem ↓] to_ldPk to_bxPk to_bdPk to_alPk to_stPk
attribute [local go_sem] run_bxPk run_bxPk_agg ld_fresh run_alPk run_bd0 run_bdK run_bdKI run_bdKIC run_bdKC run_bdKICP run_stPk_fresh pkC_0 pkC_1 pkC_2 pkC_3 pkC_4 pkC_5 pkC_6 pkC_7 pkC_8 pkC_9 pkC_10 pkC_11 pkC_12 pkC_13 pkC_14 pkC_15 pkC_16 pkC_17 pkC_18 pkC_19 pkC_20 pkC_21 pkC_22 pkC_23 pkC_24

/-- Nothing in a packet. -/
theorem pk0_in (w : World) (B : Nat) : PkIn w B pk0 hs0 := ⟨Rd.nil _ _ _ _, Rd.nil _ _ _ _, Rd.nil _ _ _ _, Rd.nil _ _ _ _, Nat.zero_le _, Nat.zero_le _, Nat.zero_le _, Nat.zero_le _⟩
theorem pk0_len : PkLen pk0 := ⟨Nat.zero_le _, Nat.zero_le _, Nat.zero_le _, Nat.zero_le _⟩
end Go.Proofs.YtbahnolmlodcdaaGreatDoor

namespace Go.Proofs.YtbahnolmlodcdaaGreatDoor
open Go.RowKit
attribute [local go_sem ↓] to_ldPk to_bxPk to_bdPk to_alPk to_stPk
attribute [local go_sem] run_bxPk run_bxPk_agg ld_fresh run_alPk run_bd0 run_bdK run_bdKI run_bdKIC run_bdKC run_bdKICP run_stPk_fresh pkC_0 pkC_1 pkC_2 pkC_3 pkC_4 pkC_5 pkC_6 pkC_7 pkC_8 pkC_9 pkC_10 pkC_11 pkC_12 pkC_13 pkC_14 pkC_15 pkC_16 pkC_17 pkC_18 pkC_19 pkC_20 pkC_21 pkC_22 pkC_23 pkC_24


def ft (l : List Fi) : Nat := (l.map fun f => f.topic.size).sum
theorem ft_snoc (l : List Fi) (k : Nat) (h : k < l.length) : ft (l.take (k + 1)) = ft (l.take k) + l[k].topic.size := by
  unfold ft
  rw [List.take_succ_eq_append_getElem h, List.map_append, List.sum_append]
  simp only [List.map_cons, List.map_nil, List.sum_cons, List.sum_nil]
  omega
theorem ft_le : ∀ (l : List Fi), (∀ f ∈ l, f.topic.size ≤ 140737488351232) → ft l ≤ l.length * 140737488351232
  | [], _ => by simp [ft]
  | p :: l, h => by
    have h1 := ft_le l (fun q hq => h q (List.mem_cons_of_mem _ hq))
    have h2 := h p (by simp)
    simp [ft] at h1 ⊢
    omega
def szK (p : Pk) : Nat := p.topic.size + p.payload.size + p.client.size + p.user.size + p.pass.size + p.will.topic.size + p.will.payload.size
def lightK (p : Pk) : Bool := lightB p.props && (lightB p.will.props && (decide (p.codes.length ≤ 60) && (decide (p.filters.length ≤ 60) && decide (szK p + ft p.filters ≤ 140000))))
set_option maxHeartbeats 2000000 in
set_option maxRecDepth 10000 in
theorem lightK_any (p : Pk) (h : Hs) (w : World) (ip : PkIn w w.heap.size p h) (ok : PkOk p) :
    Calls Tryz.prog 22 #[pkV p h] w fun e w' => e = .returned (.bool (lightK p)) ∧ Below w.heap.size w w' := by
  have IP := Lib.hid ip; have OK := Lib.hid ok; clear ip ok
  have HB := Lib.hid ((Below.refl w.heap.size w).alloc (Nat.le_refl _) (.cells (pkC p h) PkT))
  have HK := Lib.hid (Bk.fresh w PkT (pkC p h))
  have HE : Hid (lightK p = (lightB p.props && (lightB p.will.props && (decide (p.codes.length ≤ 60) && (decide (p.filters.length ≤ 60) && decide (szK p + ft p.filters ≤ 140000)))))) := Lib.hid rfl
  go_enter Tryz.func22, Tryz.ntmps22
  go_wp2_with fail
  refine (lightP_any p.props h.props.a h.props.c _ ((IP.out.below HB.out).wider HB.out.size).props OK.out.len.2.2.2 (small_of_good OK.out.props)).mono ?_
  rintro e w1 ⟨rfl, hb⟩
  have HB1 := Lib.hid (HB.out.trans (hb.mono HB.out.size)); have HK1 := Lib.hid (HK.out.below hb HK.out.lt)
  clear hb
  have k1 := fun i => HK1.out.cell i
  cases h1 : lightB p.props
  · have HX : Hid (lightK p = false) := Lib.hid (by rw [HE.out, h1]; rfl)
    clear h1
    go_wp2
    go_ret
    exact ⟨by (rw [HX.out]; first | done | rfl), HB1.out⟩
  have HE1 := Lib.hid (HE.out.trans (by rw [h1, Bool.true_and]))
  clear h1
  go_wp2_with fail
  refine (lightP_any p.will.props h.wp.a h.wp.c _ ((IP.out.below HB1.out).wider HB1.out.size).wp OK.out.len.1 (small_of_good OK.out.wp)).mono ?_
  rintro e w2 ⟨rfl, hb⟩
  have HB2 := Lib.hid (HB1.out.trans (hb.mono HB1.out.size)); have HK2 := Lib.hid (HK1.out.below hb HK1.out.lt)
  clear hb k1
  have k2 := fun i => HK2.out.cell i
  cases h2 : lightB p.will.props
  · have HX : Hid (lightK p = false) := Lib.hid (by rw [HE1.out, h2]; rfl)
    clear h2
    go_wp2
    go_ret
    exact ⟨by (rw [HX.out]; first | done | rfl), HB2.out⟩
  have HE2 := Lib.hid (HE1.out.trans (by rw [h2, Bool.true_and]))
  clear h2
  by_cases h3 : p.codes.length ≤ 60
  rotate_left
  · have HX : Hid (lightK p = false) := Lib.hid (by rw [HE2.out, decide_eq_false h3]; rfl)
    have d3 : (60 : Int) < (p.codes.length : Int) := by omega
    clear h3
    go_wp2
    go_ret
    exact ⟨by (rw [HX.out]; first | done | rfl), HB2.out⟩
  have d3 : (p.codes.length : Int) ≤ 60 := by omega
  have HE3 := Lib.hid (HE2.out.trans (by rw [decide_eq_true h3, Bool.true_and]))
  clear h3
  by_cases h4 : p.filters.length ≤ 60
  rotate_left
  · have HX : Hid (lightK p = false) := Lib.hid (by rw [HE3.out, decide_eq_false h4]; rfl)
    have d4 : (60 : Int) < (p.filters.length : Int) := by omega
    clear h4
    go_wp2
    go_ret
    exact ⟨by (rw [HX.out]; first | done | rfl), HB2.out⟩
  have d4 : (p.filters.length : Int) ≤ 60 := by omega
  have HE4 := Lib.hid (HE3.out.trans (by rw [decide_eq_true h4, Bool.true_and]))
  have H4 := Lib.hid h4
  clear h4
  obtain ⟨x1, x2, x3, x4, x5, x6, x7⟩ := OK.out.texts
  have s1 : IntKind.i64.wrap ((p.topic.size : Int) + (p.payload.size : Int)) = (p.topic.size : Int) + (p.payload.size : Int) := by rw [IntKind.wrap_i64]; omega
  have s2 : IntKind.i64.wrap ((p.topic.size : Int) + (p.payload.size : Int) + (p.client.size : Int)) = (p.topic.size : Int) + (p.payload.size : Int) + (p.client.size : Int) := by rw [IntKind.wrap_i64]; omega
  have s3 : IntKind.i64.wrap ((p.topic.size : Int) + (p.payload.size : Int) + (p.client.size : Int) + (p.user.size : Int)) = (p.topic.size : Int) + (p.payload.size : Int) + (p.client.size : Int) + (p.user.size : Int) := by rw [IntKind.wrap_i64]; omega
  have s4 : IntKind.i64.wrap ((p.topic.size : Int) + (p.payload.size : Int) + (p.client.size : Int) + (p.user.size : Int) + (p.pass.size : Int)) = (p.topic.size : Int) + (p.payload.size : Int) + (p.client.size : Int) + (p.user.size : Int) + (p.pass.size : Int) := by rw [IntKind.wrap_i64]; omega
  have s5 : IntKind.i64.wrap ((p.topic.size : Int) + (p.payload.size : Int) + (p.client.size : Int) + (p.user.size : Int) + (p.pass.size : Int) + (p.will.topic.size : Int)) = (p.topic.size : Int) + (p.payload.size : Int) + (p.client.size : Int) + (p.user.size : Int) + (p.pass.size : Int) + (p.will.topic.size : Int) := by rw [IntKind.wrap_i64]; omega
  have s6 : IntKind.i64.wrap ((p.topic.size : Int) + (p.payload.size : Int) + (p.client.size : Int) + (p.user.size : Int) + (p.pass.size : Int) + (p.will.topic.size : Int) + (p.will.payload.size : Int)) = (p.topic.size : Int) + (p.payload.size : Int) + (p.client.size : Int) + (p.user.size : Int) + (p.pass.size : Int) + (p.will.topic.size : Int) + (p.will.payload.size : Int) := by rw [IntKind.wrap_i64]; omega
  have HS : Hid ((p.topic.size : Int) + (p.payload.size : Int) + (p.client.size : Int) + (p.user.size : Int) + (p.pass.size : Int) + (p.will.topic.size : Int) + (p.will.payload.size : Int) = ((szK p : Nat) : Int)) := Lib.hid (by unfold szK; omega)
  have HSL : Hid (szK p ≤ 985162418458624) := Lib.hid (by unfold szK; omega)
  go_wp2
  go_loopw [3, 4] (fun n i wr => ∃ k : Nat, k ≤ p.filters.length ∧ i = .int .i64 k ∧ n = .int .i64 ((szK p : Int) + (ft (p.filters.take k) : Int)) ∧ Below w2.heap.size w2 wr) (fun _ i _ => p.filters.length - (intOf i).toNat)
  case atStart => exact ⟨0, by omega, rfl, by rw [HS.out]; simp [ft], Below.refl _ _⟩
  case round =>
    obtain ⟨k, hk, rfl, rfl, hbel⟩ := hrel
    have HB3 := Lib.hid (HB2.out.trans (hbel.mono HB2.out.size)); have HK3 := Lib.hid (HK2.out.below hbel HK2.out.lt)
    clear k2
    have k3 := fun i => HK3.out.cell i
    by_cases hlt : k < p.filters.length
    · obtain ⟨b, o, hA, hb, c0, c1, c2, c3, c4⟩ := ((IP.out.below HB3.out).filters).atF hlt
      have h2 := OK.out.topics p.filters[k] (List.getElem_mem hlt)
      have h3 := ft_le (p.filters.take k) (fun f hf => OK.out.topics f (List.mem_of_mem_take hf))
      rw [List.length_take] at h3
      have h3' : ft (p.filters.take k) ≤ 8444249301073920 := by have := H4.out; omega
      have h5 := HSL.out
      have HW := Lib.hid (ft_snoc p.filters k hlt)
      clear h3 c1 c2 c3 c4
      generalize ft (p.filters.take k) = q at *
      generalize p.filters[k] = f at *
      have w1 : IntKind.i64.wrap ((szK p : Int) + (q : Int) + (f.topic.size : Int)) = (szK p : Int) + (q : Int) + (f.topic.size : Int) := by rw [IntKind.wrap_i64]; omega
      have b1 : (0 : Int) ≤ (k : Int) := by omega
      have b2 : (k : Int) < (p.filters.length : Int) := by omega
      go_wp2
      go_roundw
      case rel => exact ⟨k + 1, by omega, by go_num, by rw [HW.out]; go_num, hbel⟩
      case measure => simp [intOf]; omega
    · obtain rfl : k = p.filters.length := by omega
      go_wp2
      go_ret
      exact ⟨by rw [HE4.out, List.take_length]; congr 2; simp; omega, HB3.out⟩
end Go.Proofs.YtbahnolmlodcdaaGreatDoor

