/- publish: the walk of Body. -/
import Derived.Test.YtpcaffimahapjaaGreatPubB
namespace Go.Proofs.YtpcaffimahapjaaGreat
open Go.RowKit
attribute [local go_sem ↓] to_ldPk to_bxPk to_bdPk to_alPk to_stPk
attribute [local go_sem] run_bxPk run_bxPk_agg ld_fresh run_alPk run_bd0 run_bdK run_bdKI run_bdKIC run_bdKC run_bdKICP run_stPk_fresh pkC_0 pkC_1 pkC_2 pkC_3 pkC_4 pkC_5 pkC_6 pkC_7 pkC_8 pkC_9 pkC_10 pkC_11 pkC_12 pkC_13 pkC_14 pkC_15 pkC_16 pkC_17 pkC_18 pkC_19 pkC_20 pkC_21 pkC_22 pkC_23 pkC_24
/-- What ustring.Text answers. -/
def textUS (s : ByteArray) : ByteArray × Int := if validB s = true then (framedS s, 0) else (⟨#[]⟩, 6)
set_option maxHeartbeats 400000 in
set_option maxRecDepth 10000 in
theorem textU_any (s : ByteArray) (w : World) (hs : s.size ≤ 4611686018427387904) :
    Calls Tryz.prog 131 #[.string s] w fun e w' => e = .returned (.tuple #[.string (textUS s).1, .int .i64 (textUS s).2]) ∧ Below w.heap.size w w' := by
  go_enter Tryz.func131, Tryz.ntmps131
  go_wp2_with fail
  refine (valid_any s _ hs).mono ?_
  rintro e w1 ⟨rfl, hb⟩
  have HB := Lib.hid hb; clear hb
  cases hv : validB s
  · have HX : Hid (textUS s = (⟨#[]⟩, 6)) := Lib.hid (by unfold textUS; rw [if_neg (by rw [hv]; decide)])
    clear hv
    go_wp2
    go_ret2
    exact ⟨by rw [HX.out]; rfl, HB.out⟩
  · have HX : Hid (textUS s = (framedS s, 0)) := Lib.hid (by unfold textUS; rw [if_pos hv])
    have hz := Lib.hid (valid_size hv)
    clear hv
    go_wp2_with fail
    refine (framed_any s _ hz.out).mono ?_
    rintro e w2 ⟨rfl, hb⟩
    have HB2 := Lib.hid (HB.out.trans (hb.mono HB.out.size)); clear hb
    go_wp2
    go_ret2
    exact ⟨by rw [HX.out]; rfl, HB2.out⟩
/-- A body, where the packet is valid. -/
def pubS1 (p : Pk) : ByteArray := if p.qos ≠ 0 then framedS p.topic ++ ⟨(putL p.id.toNat 2).toArray⟩ else framedS p.topic
def pubS2 (v : Int) (p : Pk) : ByteArray := if v = 5 then pubS1 p ++ ⟨(bytesS p.kind p.props).1.toArray⟩ else pubS1 p
def pubB (v : Int) (p : Pk) : ByteArray × Int := if pubE v p = 0 then (pubS2 v p ++ p.payload, 0) else (⟨#[]⟩, pubE v p)
structure PubGood (v : Int) (p : Pk) : Prop where
  k : v = 4 ∨ v = 5
  kind : p.kind = 3
  flags : badQ p = false
  same : p = pubQ p
  old : v = 4 → p.props = []
  id0 : p.qos = 0 → p.id = 0
  id1 : p.qos ≠ 0 → 0 < p.id ∧ p.id < 65536
  named : pubN v p = true
  topic : validB p.topic = true
  bytes : (bytesS 3 p.props).2 = 0
theorem valid_empty : validB ⟨#[]⟩ = true := by decide +kernel
theorem pubE_good {v : Int} {p : Pk} (x : pubE v p = 0) : PubGood v p := by
  have h : ∀ j, j < 5 → pubL v p j = 0 := by
    intro j hj
    refine Decidable.not_not.1 fun hn => ?_
    by_cases h0 : pubL v p 0 = 0
    · by_cases h1 : pubL v p 1 = 0
      · by_cases h2 : pubL v p 2 = 0
        · by_cases h3 : pubL v p 3 = 0
          · have e : pubE v p = pubL v p 4 := by unfold pubE; rw [if_neg (fun y => y h0), if_neg (fun y => y h1), if_neg (fun y => y h2), if_neg (fun y => y h3)]
            obtain rfl | rfl | rfl | rfl | rfl : j = 0 ∨ j = 1 ∨ j = 2 ∨ j = 3 ∨ j = 4 := by omega
            · exact hn h0
            · exact hn h1
            · exact hn h2
            · exact hn h3
            · exact hn (e ▸ x)
          · rw [pubE_at (k := 3) (by omega) (fun i hi => by obtain rfl | rfl | rfl : i = 0 ∨ i = 1 ∨ i = 2 := by omega
                                                            all_goals assumption) h3] at x
            exact h3 x
        · rw [pubE_at (k := 2) (by omega) (fun i hi => by obtain rfl | rfl : i = 0 ∨ i = 1 := by omega
                                                          all_goals assumption) h2] at x
          exact h2 x
      · rw [pubE_at (k := 1) (by omega) (fun i hi => by obtain rfl : i = 0 := by omega
                                                        assumption) h1] at x
        exact h1 x
    · rw [pubE_at (k := 0) (by omega) (fun i hi => by omega) h0] at x
      exact h0 x
  have l0 := h 0 (by omega)
  have l1 := h 1 (by omega)
  have l2 := h 2 (by omega)
  have l3 := h 3 (by omega)
  have l4 : (bytesS 3 p.props).2 = 0 := h 4 (by omega)
  have hk : hdKnown v = true ∧ p.kind = 3 := Decidable.not_not.1 fun y => by
    have : pubL v p 0 = 2 := if_neg y
    omega
  have hv : v = 4 ∨ v = 5 := of_decide_eq_true hk.1
  have hq : badQ p = false := by
    cases e : badQ p
    · rfl
    · have hki : hdKinds v p.kind = true := decide_eq_true (by omega)
      have : pubL v p 1 = 7 := by
        show (hdFlags v p).2 = 7
        unfold hdFlags
        rw [if_neg (fun y => by rw [hk.1] at y; cases y), if_neg (fun y => by rw [hki] at y; cases y), if_neg (fun y => y hk.2), if_pos e]
      omega
  have hf : pubF v p = true := Decidable.not_not.1 fun y => by
    have : pubL v p 2 = 2 := if_neg y
    omega
  have hn : pubN v p = true := Decidable.not_not.1 fun y => by
    have : pubL v p 3 = 10 := if_neg y
    omega
  obtain ⟨f1, f2, f3, f4⟩ := of_decide_eq_true hf
  refine ⟨hv, hk.2, hq, f1, fun h4 => ?_, f3, f4, hn, ?_, l4⟩
  · have : ¬ 0 < p.props.length := fun y => f2 ⟨h4, y⟩
    exact List.eq_nil_of_length_eq_zero (by omega)
  · unfold pubN at hn
    rcases Bool.or_eq_true_iff.1 hn with hn | hn
    · unfold nameB textB at hn
      simp at hn
      exact hn.1.2
    · have hz : p.topic.size = 0 := of_decide_eq_true (Bool.and_eq_true_iff.1 (Bool.and_eq_true_iff.1 hn).2).2
      have : p.topic = ⟨#[]⟩ := ls_ext (by rw [show ls (⟨#[]⟩ : ByteArray) = [] from rfl]; exact List.eq_nil_of_length_eq_zero (by rw [ls_len]; exact hz))
      rw [this]
      exact valid_empty
theorem PubGood.ok {v : Int} {p : Pk} (x : PubGood v p) : pubE v p = 0 := by
  have hk : hdKnown v = true := decide_eq_true x.k
  have hki : hdKinds v p.kind = true := decide_eq_true (by have := x.kind; omega)
  refine pubE_all fun j hj => ?_
  obtain rfl | rfl | rfl | rfl | rfl : j = 0 ∨ j = 1 ∨ j = 2 ∨ j = 3 ∨ j = 4 := by omega
  · show (if hdKnown v = true ∧ p.kind = 3 then (0 : Int) else 2) = 0
    exact if_pos ⟨hk, x.kind⟩
  · show (hdFlags v p).2 = 0
    unfold hdFlags
    rw [if_neg (fun y => by rw [hk] at y; cases y), if_neg (fun y => by rw [hki] at y; cases y), if_neg (fun y => y x.kind), if_neg (fun y => by rw [x.flags] at y; cases y)]
  · show (if pubF v p = true then (0 : Int) else 2) = 0
    exact if_pos (decide_eq_true ⟨x.same, fun y => by have := x.old y.1; rw [this] at y; exact absurd y.2 (by simp), x.id0, x.id1⟩)
  · show (if pubN v p = true then (0 : Int) else 10) = 0
    exact if_pos x.named
  · exact x.bytes

set_option maxHeartbeats 4000000 in
set_option maxRecDepth 10000 in
theorem pubBody_any (v : Int) (p : Pk) (h : Hs) (w : World) (ip : PkIn w w.heap.size p h) (ok : PkOk p) :
    Calls Tryz.prog 57 #[.int .i64 v, pkV p h] w fun e w' => e = .returned (.tuple #[.string (pubB v p).1, .int .i64 (pubB v p).2]) ∧ Below w.heap.size w w' := by
  have OK := Lib.hid ok
  have S0 := Lib.hid ((St.start w).push ip)
  have HE : Hid (pubB v p = if pubE v p = 0 then (pubS2 v p ++ p.payload, 0) else (⟨#[]⟩, pubE v p)) := Lib.hid rfl
  have H2 : Hid (pubS2 v p = if v = 5 then pubS1 p ++ ⟨(bytesS p.kind p.props).1.toArray⟩ else pubS1 p) := Lib.hid rfl
  have H1 : Hid (pubS1 p = if p.qos ≠ 0 then framedS p.topic ++ ⟨(putL p.id.toNat 2).toArray⟩ else framedS p.topic) := Lib.hid rfl
  clear ip ok
  have hl := S0.out.ld 0 rfl
  go_enter Tryz.func57, Tryz.ntmps57
  go_wp2_with fail
  refine (pubValid_any v p h _ (S0.out.into 0 rfl) OK.out).mono ?_
  rintro e w1 ⟨rfl, hb⟩
  have S1 := Lib.hid (S0.out.below hb); clear hb hl
  by_cases he : pubE v p = 0
  rotate_left
  · have e0 : (pubE v p != 0) = true := bne_iff_ne.2 he
    have HX : Hid (pubB v p = (⟨#[]⟩, pubE v p)) := Lib.hid (by rw [HE.out, if_neg he])
    clear he
    go_wp2
    go_ret2
    exact ⟨by rw [HX.out]; rfl, S1.out.kept⟩
  have HX : Hid (pubB v p = (pubS2 v p ++ p.payload, 0)) := Lib.hid (by rw [HE.out, if_pos he])
  have G := Lib.hid (pubE_good he)
  rw [he]
  have HB := Lib.hid (bytesS_size 3 p.props G.out.bytes).2
  have HT := Lib.hid (valid_size G.out.topic)
  have k1 := S1.out.cell 0 rfl 5
  rw [pkC_5] at k1
  clear he
  go_wp2_with fail
  refine (textU_any p.topic _ (by have := OK.out.texts.1; omega)).mono ?_
  rintro e w2 ⟨rfl, hb⟩
  have S2 := Lib.hid (S1.out.below hb); clear hb k1
  rw [show textUS p.topic = (framedS p.topic, 0) from if_pos G.out.topic]
  simp only
  have hfs : (framedS p.topic).size ≤ 65537 := by rw [framedS_size]; have := HT.out; omega
  obtain ⟨T, hT⟩ : ∃ T, framedS p.topic = T := ⟨_, rfl⟩
  rw [hT] at hfs H1 ⊢
  have HFS := Lib.hid hfs
  obtain ⟨Y, hY⟩ : ∃ Y : ByteArray, p.payload = Y := ⟨_, rfl⟩
  have HY : Hid (Y.size ≤ 140737488351232) := Lib.hid (by rw [← hY]; exact OK.out.texts.2.1)
  obtain ⟨Z, hZ⟩ : ∃ Z : ByteArray, (⟨(bytesS p.kind p.props).1.toArray⟩ : ByteArray) = Z := ⟨_, rfl⟩
  have HZ : Hid (Z.size ≤ 131075004) := Lib.hid (by rw [← hZ, mk_size, G.out.kind]; exact HB.out)
  have HZZ := Lib.hid hZ
  rw [hZ] at H2
  rw [hY] at HX
  have HYY := Lib.hid hY
  clear hT hfs hY hZ
  have k2 := S2.out.cell 0 rfl 3
  rw [pkC_3] at k2
  have k3 := S2.out.cell 0 rfl 4
  rw [pkC_4] at k3
  by_cases hq : p.qos = 0
  · have eq : (p.qos != 0) = false := by simpa using hq
    have H1' : Hid (pubS1 p = T) := Lib.hid (by rw [H1.out, if_neg (fun y => y hq)])
    clear hq k3
    by_cases h5 : v = 5
    · have e5 : (v == 5) = true := beq_iff_eq.2 h5
      have HW : Hid (pubB v p = (T ++ Z ++ Y, 0)) := Lib.hid (by rw [HX.out, H2.out, if_pos h5, H1'.out])
      have k4 := S2.out.cell 0 rfl 0
      rw [pkC_0] at k4
      have k5 := S2.out.cell 0 rfl 24
      rw [pkC_24] at k5
      clear h5
      go_wp2_with fail
      refine (bytesP_n p.kind p.props _ rfl OK.out.props h.props.a h.props.c _ (S2.out.into 0 rfl).props OK.out.len.2.2.2).mono ?_
      rintro e w3 ⟨rfl, hb⟩
      have S3 := Lib.hid (S2.out.below hb); clear hb k2 k4 k5
      rw [HZZ.out]
      have k6 : w3.cell? ⟨w.heap.size, 6, none⟩ = some (.string Y) := by rw [← HYY.out]; exact S3.out.cell 0 rfl 6
      have hs1 : ¬ (9223372036854775807 < T.size + Z.size) := by have := HFS.out; have := HZ.out; omega
      have hs2 : ¬ (9223372036854775807 < T.size + Z.size + Y.size) := by have := HFS.out; have := HZ.out; have := HY.out; omega
      go_wp2
      go_ret2
      exact ⟨by rw [HW.out]; rfl, S3.out.kept⟩
    · have e5 : (v == 5) = false := beq_eq_false_iff_ne.2 h5
      have HW : Hid (pubB v p = (T ++ Y, 0)) := Lib.hid (by rw [HX.out, H2.out, if_neg h5, H1'.out])
      have k6 : w2.cell? ⟨w.heap.size, 6, none⟩ = some (.string Y) := by rw [← HYY.out]; exact S2.out.cell 0 rfl 6
      have hs1 : ¬ (9223372036854775807 < T.size + Y.size) := by have := HFS.out; have := HY.out; omega
      clear h5
      go_wp2
      go_ret2
      exact ⟨by rw [HW.out]; rfl, S2.out.kept⟩
  · have eq : (p.qos != 0) = true := bne_iff_ne.2 hq
    obtain ⟨m, hm, hw1⟩ : ∃ m : Nat, Hid (p.id.toNat = m) ∧ IntKind.u64.wrap p.id = (m : Int) := ⟨_, Lib.hid rfl, by rw [IntKind.wrap_u64]; have := G.out.id1 hq; omega⟩
    have HM : Hid (m < 65536) := Lib.hid (by have := hm.out; have := G.out.id1 hq; omega)
    obtain ⟨X, hX⟩ : ∃ X : ByteArray, (⟨(putL m 2).toArray⟩ : ByteArray) = X := ⟨_, rfl⟩
    have HXX := Lib.hid hX
    have HXS : Hid (X.size = 2) := Lib.hid (by rw [← hX, mk_size, putL_len])
    have H1' : Hid (pubS1 p = T ++ X) := Lib.hid (by rw [H1.out, if_pos hq, hm.out, hX])
    clear hq hX
    go_wp2_with fail
    refine (put_any m 2 _ (by have := HM.out; omega) (by omega) (by omega)).mono ?_
    rintro e w3 ⟨rfl, hb⟩
    have S3 := Lib.hid (S2.out.below hb); clear hb k2 k3
    rw [HXX.out]
    have hs0 : ¬ (9223372036854775807 < T.size + X.size) := by have := HFS.out; have := HXS.out; omega
    by_cases h5 : v = 5
    · have e5 : (v == 5) = true := beq_iff_eq.2 h5
      have HW : Hid (pubB v p = (T ++ X ++ Z ++ Y, 0)) := Lib.hid (by rw [HX.out, H2.out, if_pos h5, H1'.out])
      have k4 := S3.out.cell 0 rfl 0
      rw [pkC_0] at k4
      have k5 := S3.out.cell 0 rfl 24
      rw [pkC_24] at k5
      clear h5
      go_wp2_with fail
      refine (bytesP_n p.kind p.props _ rfl OK.out.props h.props.a h.props.c _ (S3.out.into 0 rfl).props OK.out.len.2.2.2).mono ?_
      rintro e w4 ⟨rfl, hb⟩
      have S4 := Lib.hid (S3.out.below hb); clear hb k4 k5
      rw [HZZ.out]
      have k6 : w4.cell? ⟨w.heap.size, 6, none⟩ = some (.string Y) := by rw [← HYY.out]; exact S4.out.cell 0 rfl 6
      have hs1 : ¬ (9223372036854775807 < T.size + X.size + Z.size) := by have := HFS.out; have := HXS.out; have := HZ.out; omega
      have hs2 : ¬ (9223372036854775807 < T.size + X.size + Z.size + Y.size) := by have := HFS.out; have := HXS.out; have := HZ.out; have := HY.out; omega
      go_wp2
      go_ret2
      exact ⟨by rw [HW.out]; rfl, S4.out.kept⟩
    · have e5 : (v == 5) = false := beq_eq_false_iff_ne.2 h5
      have HW : Hid (pubB v p = (T ++ X ++ Y, 0)) := Lib.hid (by rw [HX.out, H2.out, if_neg h5, H1'.out])
      have k6 : w3.cell? ⟨w.heap.size, 6, none⟩ = some (.string Y) := by rw [← HYY.out]; exact S3.out.cell 0 rfl 6
      have hs1 : ¬ (9223372036854775807 < T.size + X.size + Y.size) := by have := HFS.out; have := HXS.out; have := HY.out; omega
      clear h5
      go_wp2
      go_ret2
      exact ⟨by rw [HW.out]; rfl, S3.out.kept⟩
end Go.Proofs.YtpcaffimahapjaaGreat
