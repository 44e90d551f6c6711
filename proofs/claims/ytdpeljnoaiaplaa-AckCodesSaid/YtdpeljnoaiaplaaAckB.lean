/- ack: the walk of Body. -/
import Derived.Test.YtdpeljnoaiaplaaAckA
import Derived.Test.YtdpeljnoaiaplaaReaE
import Derived.Test.YtdpeljnoaiaplaaProM
namespace Go.Proofs.Ytdpeljnoaiaplaa
open Go.RowKit
attribute [local go_sem ↓] to_ldPk to_bxPk to_bdPk to_alPk to_stPk
attribute [local go_sem] run_bxPk run_bxPk_agg ld_fresh run_alPk run_bd0 run_bdK run_bdKI run_bdKIC run_bdKC run_bdKICP run_stPk_fresh pkC_0 pkC_1 pkC_2 pkC_3 pkC_4 pkC_5 pkC_6 pkC_7 pkC_8 pkC_9 pkC_10 pkC_11 pkC_12 pkC_13 pkC_14 pkC_15 pkC_16 pkC_17 pkC_18 pkC_19 pkC_20 pkC_21 pkC_22 pkC_23 pkC_24


structure AckGood (v : Int) (p : Pk) : Prop where
  k : ackK v p.kind = true
  id1 : 0 < p.id
  id2 : p.id < 65536
  may : may p.kind p.code = true
  c1 : 0 ≤ p.code
  c2 : p.code < 256
  old : v = 4 → p.code = 0 ∧ p.props = []
  same : p = ackP p
  bytes : (bytesS p.kind p.props).2 = 0
theorem ackE_good {v : Int} {p : Pk} (x : ackE v p = 0) : AckGood v p := by
  unfold ackE at x
  split at x
  · cases x
  · next h =>
    split at x
    · cases x
    · next h4 =>
      split at x
      · cases x
      · next hs =>
        have hm : Go.Proofs.Ytdpeljnoaiaplaa.may p.kind p.code = true := by
          cases e : Go.Proofs.Ytdpeljnoaiaplaa.may p.kind p.code
          · exact absurd (.inr (.inr (.inr e))) h
          · rfl
        have hr := may_range hm
        refine ⟨?_, ?_, ?_, hm, hr.1, hr.2, ?_, Decidable.not_not.1 hs, x⟩
        · cases e : ackK v p.kind
          · exact absurd (.inl e) h
          · rfl
        · exact Int.not_le.1 fun e => h (.inr (.inl e))
        · exact Int.not_le.1 fun e => h (.inr (.inr (.inl e)))
        · intro hv
          refine ⟨Decidable.not_not.1 fun e => h4 ⟨hv, .inl e⟩, ?_⟩
          have := Decidable.not_not.1 fun e => h4 ⟨hv, .inr e⟩
          exact List.eq_nil_of_length_eq_zero this
theorem AckGood.ok {v : Int} {p : Pk} (x : AckGood v p) : ackE v p = 0 := by
  unfold ackE
  rw [if_neg, if_neg, if_neg]
  · exact x.bytes
  · exact fun h => h x.same
  · rintro ⟨h1, h2⟩
    have := x.old h1
    rcases h2 with h2 | h2
    · exact h2 this.1
    · rw [this.2] at h2; exact h2 rfl
  · rintro (h | h | h | h)
    · rw [x.k] at h; cases h
    · have := x.id1; omega
    · have := x.id2; omega
    · rw [x.may] at h; cases h

/-- A body. -/
def ackT (p : Pk) : List UInt8 := if p.code = 0 ∧ p.props.length = 0 then [] else putL p.code.toNat 1 ++ (if p.props.length = 0 then [] else (bytesS p.kind p.props).1)
def ackB (v : Int) (p : Pk) : List UInt8 × Int := if ackE v p = 0 then (putL p.id.toNat 2 ++ ackT p, 0) else ([], ackE v p)
theorem ap2 (a b : List UInt8) : (⟨a.toArray⟩ : ByteArray) ++ ⟨b.toArray⟩ = ⟨(a ++ b).toArray⟩ := by
  apply ByteArray.ext
  simp
theorem ap3 (a b : List UInt8) (c : List UInt8) : (⟨(a ++ b).toArray⟩ : ByteArray) ++ ⟨c.toArray⟩ = ⟨(a ++ (b ++ c)).toArray⟩ := by
  rw [ap2, List.append_assoc]

set_option maxHeartbeats 2000000 in
set_option maxRecDepth 10000 in
theorem ackBody_any (v : Int) (p : Pk) (h : Hs) (w : World) (ip : PkIn w w.heap.size p h) (ok : PkOk p) :
    Calls Try.prog 16 #[.int .i64 v, pkV p h] w fun e w' => e = .returned (.tuple #[.string ⟨(ackB v p).1.toArray⟩, .int .i64 (ackB v p).2]) ∧ Below w.heap.size w w' := by
  have IP := Lib.hid ip; have OK := Lib.hid ok; clear ip ok
  have HB := Lib.hid ((Below.refl w.heap.size w).alloc (Nat.le_refl _) (.cells (pkC p h) PkT))
  have HK := Lib.hid (Bk.fresh w PkT (pkC p h))
  have HE : Hid (ackB v p = if ackE v p = 0 then (putL p.id.toNat 2 ++ ackT p, 0) else ([], ackE v p)) := Lib.hid rfl
  go_enter Try.func16, Try.ntmps16
  go_wp2_with fail
  refine (ackValid_any v p h _ ((IP.out.below HB.out).wider HB.out.size) OK.out).mono ?_
  rintro e w1 ⟨rfl, hb⟩
  have HB1 := Lib.hid (HB.out.trans (hb.mono HB.out.size)); have HK1 := Lib.hid (HK.out.below hb HK.out.lt)
  clear hb
  have k1 := fun i => HK1.out.cell i
  by_cases he : ackE v p = 0
  · have HG := Lib.hid (ackE_good he)
    obtain ⟨n, hn, hw1⟩ : ∃ n : Nat, Hid (p.id.toNat = n) ∧ IntKind.u64.wrap p.id = (n : Int) := ⟨_, Lib.hid rfl, by rw [IntKind.wrap_u64]; have := HG.out.id1; have := HG.out.id2; omega⟩
    obtain ⟨m, hm, hw2⟩ : ∃ m : Nat, Hid (p.code.toNat = m) ∧ IntKind.u64.wrap p.code = (m : Int) := ⟨_, Lib.hid rfl, by rw [IntKind.wrap_u64]; have := HG.out.c1; have := HG.out.c2; omega⟩
    have e0 : (ackE v p != 0) = false := by simpa using he
    have HX : Hid (ackB v p = (putL n 2 ++ ackT p, 0)) := Lib.hid (by rw [HE.out, if_pos he, hn.out])
    clear he
    go_wp2_with fail
    refine (put_any n 2 _ (by have := hn.out; have := HG.out.id2; have := HG.out.id1; omega) (by omega) (by omega)).mono ?_
    rintro e w2 ⟨rfl, hb⟩
    have HB2 := Lib.hid (HB1.out.trans (hb.mono HB1.out.size)); have HK2 := Lib.hid (HK1.out.below hb HK1.out.lt)
    clear hb k1 e0 hw1
    have k2 := fun i => HK2.out.cell i
    by_cases hz : p.code = 0 ∧ p.props.length = 0
    · have HT : Hid (ackT p = []) := Lib.hid (by rw [ackT, if_pos hz])
      have e1 : (p.code != 0) = false := by simpa using hz.1
      have e2 : ((p.props.length : Int) != 0) = false := by simpa using (show (p.props.length : Int) = 0 by omega)
      clear hz
      go_wp2
      go_ret2
      exact ⟨by (rw [HX.out, HT.out, List.append_nil]; first | done | rfl), HB2.out⟩
    · by_cases hp : p.props.length = 0
      · have HT : Hid (ackT p = putL m 1) := Lib.hid (by rw [← hm.out, ackT, if_neg hz, if_pos hp, List.append_nil])
        have e1 : (p.code != 0) = true := bne_iff_ne.2 fun x => hz ⟨x, hp⟩
        have e2 : ((p.props.length : Int) != 0) = false := by simpa using (show (p.props.length : Int) = 0 by omega)
        clear hz hp
        go_wp2_with fail
        refine (put_any m 1 _ (by have := hm.out; have := HG.out.c1; have := HG.out.c2; omega) (by omega) (by omega)).mono ?_
        rintro e w3 ⟨rfl, hb⟩
        have HB3 := Lib.hid (HB2.out.trans (hb.mono HB2.out.size)); have HK3 := Lib.hid (HK2.out.below hb HK2.out.lt)
        clear hb k2
        have k3 := fun i => HK3.out.cell i
        have hs1 : ¬ (9223372036854775807 < (putL n 2).length + (putL m 1).length) := by rw [putL_len, putL_len]; decide
        go_wp2
        go_ret2
        exact ⟨by (rw [HX.out, HT.out, ← ap2]; first | done | rfl), HB3.out⟩
      · have HT : Hid (ackT p = putL m 1 ++ (bytesS p.kind p.props).1) := Lib.hid (by rw [← hm.out, ackT, if_neg hz, if_neg hp])
        have e2 : ((p.props.length : Int) != 0) = true := bne_iff_ne.2 (by omega)
        have e1 : (p.code != 0) = true ∨ (p.code != 0) = false := by cases (p.code != 0) <;> simp
        clear hz hp
        rcases e1 with e1 | e1
        all_goals
          go_wp2_with fail
          refine (put_any m 1 _ (by have := hm.out; have := HG.out.c1; have := HG.out.c2; omega) (by omega) (by omega)).mono ?_
          rintro e w3 ⟨rfl, hb⟩
          have HB3 := Lib.hid (HB2.out.trans (hb.mono HB2.out.size)); have HK3 := Lib.hid (HK2.out.below hb HK2.out.lt)
          clear hb
          have k3 := fun i => HK3.out.cell i
          have hs1 : ¬ (9223372036854775807 < (putL n 2).length + (putL m 1).length) := by rw [putL_len, putL_len]; decide
          have hs2 : ¬ (9223372036854775807 < (putL n 2).length + (putL m 1).length + (bytesS p.kind p.props).fst.length) := by rw [putL_len, putL_len]; have := (bytesS_size p.kind p.props HG.out.bytes).2; omega
          go_wp2_with fail
          refine (bytesP_n p.kind p.props _ rfl OK.out.props h.props.a h.props.c _ ((IP.out.below HB3.out).wider HB3.out.size).props OK.out.len.2.2.2).mono ?_
          rintro e w4 ⟨rfl, hb⟩
          have HB4 := Lib.hid (HB3.out.trans (hb.mono HB3.out.size))
          clear hb
          go_wp2
          go_ret2
          exact ⟨by (rw [HX.out, HT.out, ← ap3, ← ap2]; first | done | rfl), HB4.out⟩
  · have e0 : (ackE v p != 0) = true := bne_iff_ne.2 he
    have HX : Hid (ackB v p = ([], ackE v p)) := Lib.hid (by rw [HE.out, if_neg he])
    clear he
    go_wp2
    go_ret2
    exact ⟨by rw [HX.out]; rfl, HB1.out⟩
end Go.Proofs.Ytdpeljnoaiaplaa
