/- subscribe: the walks of Options and Body. -/
import Derived.Test.YtmkkjiogokfnmaaDoorMSubB
import Derived.Test.YtmkkjiogokfnmaaDoorSubM
import Derived.Test.YtmkkjiogokfnmaaDoorMSubP
import Derived.Deep.DeepCutAuto
namespace Go.Proofs.YtmkkjiogokfnmaaDoor
open Go.RowKit
attribute [local go_sem ↓] to_ldPk to_bxPk to_bdPk to_alPk to_stPk
attribute [local go_sem] run_bxPk run_bxPk_agg ld_fresh run_alPk run_bd0 run_bdK run_bdKI run_bdKIC run_bdKC run_bdKICP run_stPk_fresh pkC_0 pkC_1 pkC_2 pkC_3 pkC_4 pkC_5 pkC_6 pkC_7 pkC_8 pkC_9 pkC_10 pkC_11 pkC_12 pkC_13 pkC_14 pkC_15 pkC_16 pkC_17 pkC_18 pkC_19 pkC_20 pkC_21 pkC_22 pkC_23 pkC_24
theorem and3 (q : Int) : bits BinOp.and IntKind.i64 q 3 = q % 4 := by
  show IntKind.i64.wrap ((BitVec.ofInt 64 q &&& BitVec.ofInt 64 3).toNat : Int) = _
  rw [BitVec.toNat_and, show (BitVec.ofInt 64 3).toNat = 2 ^ 2 - 1 from rfl, Nat.and_two_pow_sub_one_eq_mod, BitVec.toNat_ofInt, IntKind.wrap_i64]
  omega
theorem or_none : ∀ a b : Fin 4, bits BinOp.or IntKind.i64 ((a.1 : Nat) : Int) (((b.1 : Nat) : Int) * 16) = ((a.1 : Nat) : Int) + ((b.1 : Nat) : Int) * 16 := by decide +kernel
theorem or_four : ∀ a b : Fin 4, bits BinOp.or IntKind.i64 (((a.1 : Nat) : Int) + ((b.1 : Nat) : Int) * 16) 4 = ((a.1 : Nat) : Int) + ((b.1 : Nat) : Int) * 16 + 4 := by decide +kernel
theorem or_eight : ∀ a b : Fin 4, bits BinOp.or IntKind.i64 (((a.1 : Nat) : Int) + ((b.1 : Nat) : Int) * 16) 8 = ((a.1 : Nat) : Int) + ((b.1 : Nat) : Int) * 16 + 8 := by decide +kernel
theorem or_both : ∀ a b : Fin 4, bits BinOp.or IntKind.i64 (((a.1 : Nat) : Int) + ((b.1 : Nat) : Int) * 16 + 4) 8 = ((a.1 : Nat) : Int) + ((b.1 : Nat) : Int) * 16 + 12 := by decide +kernel
theorem opt_ors (f : Fi) : ∃ A B : Int, f.qos % 4 = A ∧ f.handling % 4 = B ∧ bits BinOp.or IntKind.i64 A (B * 16) = A + B * 16 ∧ bits BinOp.or IntKind.i64 (A + B * 16) 4 = A + B * 16 + 4 ∧ bits BinOp.or IntKind.i64 (A + B * 16) 8 = A + B * 16 + 8 ∧
    bits BinOp.or IntKind.i64 (A + B * 16 + 4) 8 = A + B * 16 + 12 := by
  obtain ⟨a, ha⟩ : ∃ a : Fin 4, f.qos % 4 = ((a.1 : Nat) : Int) := ⟨⟨(f.qos % 4).toNat, by omega⟩, by simp only; omega⟩
  obtain ⟨b, hb⟩ : ∃ b : Fin 4, f.handling % 4 = ((b.1 : Nat) : Int) := ⟨⟨(f.handling % 4).toNat, by omega⟩, by simp only; omega⟩
  exact ⟨_, _, ha, hb, or_none a b, or_four a b, or_eight a b, or_both a b⟩
set_option maxHeartbeats 2000000 in
set_option maxRecDepth 10000 in
theorem optN_any (f : Fi) (w : World) :
    Calls Tryd.prog 23 #[.agg #[.string f.topic, .int .i64 f.qos, .bool f.noLocal, .bool f.asPub, .int .i64 f.handling]] w fun e w' => e = .returned (.int .i64 (optN f)) ∧ Below w.heap.size w w' := by
  obtain ⟨A, B, hA, hB, o1, o2, o3, o4⟩ := opt_ors f
  have HO : Hid (optN f = A + B * 16 + bitN f.noLocal 4 + bitN f.asPub 8) := Lib.hid (by unfold optN; rw [hA, hB])
  have a1 := and3 f.qos
  have a2 := and3 f.handling
  have m2 : 0 ≤ B ∧ B < 4 := by omega
  rw [hA] at a1
  rw [hB] at a2
  have O1 := Lib.hid o1; have O2 := Lib.hid o2; have O3 := Lib.hid o3; have O4 := Lib.hid o4
  clear hA hB o1 o2 o3 o4
  obtain ⟨t, q, nl, ap, hd⟩ := f
  simp only at HO a1 a2 ⊢
  generalize optN ⟨t, q, nl, ap, hd⟩ = R at *
  have HB0 := Lib.hid ((Below.refl w.heap.size w).alloc (Nat.le_refl _) (.cells #[.string t, .int .i64 q, .bool nl, .bool ap, .int .i64 hd] 35))
  cases nl <;> cases ap
  all_goals
    go_enter Tryd.func23, Tryd.ntmps23
    go_wp2
    go_ret
    refine ⟨?_, HB0.out⟩
    have e := HO.out
    simp only [bitN, if_true, if_false, Bool.false_eq_true, Int.add_zero] at e
    rw [e]
    have p1 := O1.out; have p2 := O2.out; have p3 := O3.out; have p4 := O4.out
    show Ending.returned (Value.int .i64 _) = _
    first
    | rw [p1, p2, p4]; congr 2; omega
    | rw [p1, p2]
    | rw [p1, p3]
    | rw [p1]
theorem sbS_part {v : Int} {p : Pk} (k : Nat) : (sbHead v p ++ (p.filters.take k).flatMap (fiL p.kind)).length ≤ (sbS v p).length := by
  unfold sbS
  have : (p.filters.flatMap (fiL p.kind)).length = ((p.filters.take k).flatMap (fiL p.kind)).length + ((p.filters.drop k).flatMap (fiL p.kind)).length := by
    rw [← List.length_append, ← List.flatMap_append, List.take_append_drop]
  rw [List.length_append, List.length_append, List.length_append]
  omega
theorem sbS_part2 {v : Int} {p : Pk} (k : Nat) : (sbHead v p ++ p.filters.flatMap (fiL p.kind) ++ cdL (p.codes.take k)).length ≤ (sbS v p).length := by
  unfold sbS cdL
  simp only [List.length_append, List.length_map, List.length_take]
  omega
theorem fi_next {k : Int} {l : List Fi} {i : Nat} {f : Fi} (hf : l[i]? = some f) : (l.take (i + 1)).flatMap (fiL k) = (l.take i).flatMap (fiL k) ++ fiL k f := by
  rw [List.take_add_one, hf, List.flatMap_append]
  simp
theorem cd_next {l : List Int} {i : Nat} {c : Int} (hc : l[i]? = some c) : cdL (l.take (i + 1)) = cdL (l.take i) ++ [UInt8.ofNat c.toNat] := by
  unfold cdL
  rw [List.take_add_one, hc, List.map_append]
  simp
theorem byte_of {c : Int} (h : 0 ≤ c ∧ c < 256) : ∃ b : UInt8, UInt8.ofNat c.toNat = b ∧ c = (b.toNat : Int) := ⟨_, rfl, by rw [UInt8.toNat_ofNat']; omega⟩
theorem OB_keeps {w w' : World} {r : Option Nat} {g : Nat} {t : TypeId} {cs : Array Value} (hg : w.grownBy w' r) (h : Bk w g t cs) (hne : r ≠ some g) : Bk w' g t cs :=
  (hg.block g h.lt (by first | exact hne | exact hne.symm)).trans h
set_option maxHeartbeats 8000000 in
set_option maxRecDepth 10000 in
theorem sbBody_any (v : Int) (p : Pk) (h : Hs) (w : World) (ip : PkIn w w.heap.size p h) (ok : PkOk p) (hz : (sbS v p).length ≤ 140737488351232) :
    Calls Tryd.prog 11 #[.int .i64 v, pkV p h] w fun e w' => e = .returned (.tuple #[.string (sbB v p).1, .int .i64 (sbB v p).2]) ∧ Below w.heap.size w w' := by
  have OK := Lib.hid ok
  have HZ := Lib.hid hz
  have S0 := Lib.hid ((St.start w).push ip)
  have HE : Hid (sbB v p = if sbE v p = 0 then (⟨(sbS v p).toArray⟩, 0) else (⟨#[]⟩, sbE v p)) := Lib.hid rfl
  have l0 := S0.out.ld 0 rfl
  clear ip ok hz
  go_enter Tryd.func11, Tryd.ntmps11
  go_wp2_with fail
  refine (sbValid_any v p h _ (S0.out.into 0 rfl) OK.out).mono ?_
  rintro e w1 ⟨rfl, hb⟩
  have S1 := Lib.hid (S0.out.below hb); clear hb l0
  by_cases he : sbE v p = 0
  rotate_left
  · have HX : Hid (sbB v p = (⟨#[]⟩, sbE v p)) := Lib.hid (by rw [HE.out, if_neg he])
    have e0 : (sbE v p != 0) = true := bne_iff_ne.2 he
    clear he
    go_wp2
    go_ret2
    exact ⟨by rw [HX.out]; rfl, S1.out.kept⟩
  have HX : Hid (sbB v p = (⟨(sbS v p).toArray⟩, 0)) := Lib.hid (by rw [HE.out, if_pos he])
  have G := Lib.hid (sbE_ok he)
  have e0 : (sbE v p != 0) = false := by rw [he]; rfl
  clear he HE
  have k4 := (S1.out.cell 0 rfl 4).trans (pkC_4 _ _)
  obtain ⟨n, hn, hw1⟩ : ∃ n : Nat, Hid (p.id.toNat = n) ∧ IntKind.u64.wrap p.id = (n : Int) := ⟨_, Lib.hid rfl, by rw [IntKind.wrap_u64]; have := G.out.id1; have := G.out.id2; omega⟩
  go_wp2_with fail
  refine (put_any n 2 _ (by have := hn.out; have := G.out.id2; have := G.out.id1; omega) (by omega) (by omega)).mono ?_
  rintro e w2 ⟨rfl, hb⟩
  have S2 := Lib.hid (S1.out.below hb)
  clear hb k4 hw1 e0
  obtain ⟨v3, w3, hcv, ho3, hb3⟩ := ob_conv (P := Tryd.prog) w2 9 49 5 ⟨(putL n 2).toArray⟩ Tryd.underlying9 Tryd.underlying49 Tryd.underlying5
  rw [ls_mk] at ho3
  have O3 := Lib.hid ho3; have B3 := Lib.hid hb3
  have S3 := Lib.hid (S2.out.below hb3)
  clear ho3 hb3
  have k0 := (S3.out.cell 0 rfl 0).trans (pkC_0 _ _)
  have k24 := (S3.out.cell 0 rfl 24).trans (pkC_24 _ _)
  have HHD : Hid (sbHead v p = putL n 2 ++ tailL8 v p.kind p.props) := Lib.hid (by unfold sbHead; rw [hn.out])
  go_upto_if 28 with fail
  go_cut [7] (fun a wx => OB wx w2.heap.size a (sbHead v p) ∧ Below w2.heap.size w2 wx)
  case first =>
    by_cases h5 : v = 5
    · have e5 : (v == 5) = true := beq_iff_eq.2 h5
      have HT : Hid (sbHead v p = putL n 2 ++ (bytesS p.kind p.props).1) := Lib.hid (by rw [HHD.out]; unfold tailL8; rw [if_neg (by omega)])
      clear h5
      go_wp2_with fail
      refine (bytesP_n p.kind p.props _ rfl OK.out.props h.props.a h.props.c _ (S3.out.into 0 rfl).props OK.out.len.2.2.2).mono ?_
      rintro e w4 ⟨rfl, hb⟩
      have O4 := Lib.hid (O3.out.below hb)
      have B4 := Lib.hid (B3.out.trans (hb.mono B3.out.size))
      have hlen : (bytesS p.kind p.props).1.length ≤ 140737488351232 := by
        have h1 := sbS_part (v := v) (p := p) 0
        have h2 := HZ.out
        rw [List.length_append, HT.out, List.length_append] at h1
        omega
      have HLEN := Lib.hid hlen
      clear hb hlen k0 k24
      go_wp2_with (at_builtin; refine wpList_obS _ rfl (.tmp 37) (.tmp 38) 49 9 rfl w2.heap.size 5 Tryd.underlying49 Tryd.underlying9 info_byte v3 _ rfl O4.out _ rfl (by rw [putL_len, ← ls_len, ls_mk]; have := HLEN.out; omega) B4.out.size ?_; intro v' w5 hob hg)
      have R : OB w5 w2.heap.size v' (sbHead v p) ∧ Below w2.heap.size w2 w5 := by
        refine ⟨?_, below_app B4.out hg B4.out.size (fun g hg' => (O4.out.block g hg').1)⟩
        rw [HT.out]
        rw [ls_mk] at hob
        exact hob
      clear hob hg
      go_wp2
      go_meet
      case rel => exact R
    · have e5 : (v == 5) = false := beq_eq_false_iff_ne.2 h5
      have HT : Hid (sbHead v p = putL n 2) := Lib.hid (by
        have := of_decide_eq_true (show decide ((v = 4 ∨ v = 5) ∧ 8 ≤ p.kind ∧ p.kind ≤ 11) = true from G.out.known)
        rw [HHD.out]; unfold tailL8; rw [if_pos (by omega), List.append_nil])
      clear h5
      go_wp2
      go_meet
      case rel => exact ⟨by rw [HT.out]; exact O3.out, B3.out⟩
  obtain ⟨ho4, hb4⟩ := hcut
  have O4 := Lib.hid ho4; have B4 := Lib.hid hb4
  have S4 := Lib.hid (S2.out.below hb4)
  clear ho4 hb4 k0 k24 hcv
  have HFL := Lib.hid OK.out.len.2.2.1
  have HCL := Lib.hid OK.out.len.2.1
  obtain ⟨N, hN⟩ : ∃ n, p.filters.length = n := ⟨_, rfl⟩
  obtain ⟨M, hM⟩ : ∃ m, p.codes.length = m := ⟨_, rfl⟩
  have k23 := S4.out.cell 0 rfl 23
  rw [pkC_23, hN] at k23
  have HN := Lib.hid hN; have HM := Lib.hid hM
  have hn2 : N ≤ 4611686018427387904 := by have := HFL.out; omega
  have hm2 : M ≤ 4611686018427387904 := by have := HCL.out; omega
  clear hN hM
  go_wp2
  go_loopw [7, 43] (fun o i wr => ∃ k : Nat, k ≤ N ∧ i = .int .i64 k ∧ OB wr w2.heap.size o (sbHead v p ++ (p.filters.take k).flatMap (fiL p.kind)) ∧ Below w2.heap.size w2 wr) (fun _ i _ => N - (intOf i).toNat)
  case atStart => exact ⟨0, by omega, rfl, by rw [List.take_zero, List.flatMap_nil, List.append_nil]; exact O4.out, B4.out⟩
  case round =>
    obtain ⟨k, hk, rfl, hob, hbel⟩ := hrel
    have S5 := Lib.hid (S2.out.below hbel)
    have O5 := Lib.hid hob; have B5 := Lib.hid hbel
    clear hob hbel k23
    have kk := (S5.out.cell 0 rfl 0).trans (pkC_0 _ _)
    have k22 := S5.out.cell 0 rfl 22
    rw [pkC_22, HM.out] at k22
    by_cases hlt : k < N
    · have hp : k < p.filters.length := by rw [HN.out]; exact hlt
      obtain ⟨b, o, hA, hb, c0, c1, c2, c3, c4⟩ := ((S5.out.into 0 rfl).filters).atF hp
      have hts := OK.out.topics p.filters[k] (List.getElem_mem hp)
      have hok := G.out.filters p.filters[k] (List.getElem_mem hp)
      have HNX := Lib.hid (fi_next (k := p.kind) (List.getElem?_eq_getElem hp))
      have HPT := Lib.hid (sbS_part (v := v) (p := p) (k + 1))
      generalize p.filters[k] = f at *
      have HTS := Lib.hid hts
      have HV := Lib.hid (filter_valid hok.1)
      have HTX : Hid (textUS f.topic = (framedS f.topic, 0)) := Lib.hid (by unfold textUS; rw [if_pos HV.out])
      rw [HNX.out, ← List.append_assoc] at HPT
      have HL5 : Hid ((sbHead v p ++ (p.filters.take k).flatMap (fiL p.kind)).length + (fiL p.kind f).length ≤ 140737488351232) := Lib.hid (by
        have := HPT.out; have := HZ.out; rw [List.length_append] at *; rw [List.length_append] at *; omega)
      have b1 : (0 : Int) ≤ (k : Int) := by omega
      have b2 : (k : Int) < (N : Int) := by omega
      clear hp hts hok
      obtain ⟨L, hL⟩ : ∃ L, sbHead v p ++ (p.filters.take k).flatMap (fiL p.kind) = L := ⟨_, rfl⟩
      rw [hL] at HL5 O5
      have HLQ := Lib.hid hL
      clear hL HPT
      have S6 := Lib.hid (S5.out.alloc (.cells #[.string f.topic, .int .i64 f.qos, .bool f.noLocal, .bool f.asPub, .int .i64 f.handling] 35))
      have B6 := Lib.hid (B5.out.alloc B5.out.size (.cells #[.string f.topic, .int .i64 f.qos, .bool f.noLocal, .bool f.asPub, .int .i64 f.handling] 35))
      have O6 := Lib.hid (O5.out.alloc (.cells #[.string f.topic, .int .i64 f.qos, .bool f.noLocal, .bool f.asPub, .int .i64 f.handling] 35))
      have K6 := Lib.hid (Bk.fresh wr 35 #[.string f.topic, .int .i64 f.qos, .bool f.noLocal, .bool f.asPub, .int .i64 f.handling])
      go_wp2_with fail
      refine (textU_any f.topic _ (by have := HTS.out; omega)).mono ?_
      rintro e w6 ⟨rfl, hb6⟩
      have S7 := Lib.hid (S6.out.below hb6)
      have B7 := Lib.hid (B6.out.trans (hb6.mono B6.out.size))
      have O7 := Lib.hid (O6.out.below hb6)
      have K7 := Lib.hid (K6.out.below hb6 K6.out.lt)
      clear hb6 kk k22 c0 c1 c2 c3 c4
      rw [HTX.out]
      simp only
      have HFZ : Hid (L.length + (framedS f.topic).size ≤ 140737488351232) := Lib.hid (by
        have := HL5.out; unfold fiL at this; rw [List.length_append, ls_len] at this; omega)
      have HNE : Hid (u7.ownBlock ≠ some wr.heap.size) := Lib.hid (by
        obtain ⟨g, cap, hv, h1, h2, -⟩ := O5.out
        rw [hv]
        intro e
        have : g = wr.heap.size := Option.some.inj e
        omega)
      by_cases h8 : p.kind = 8
      · have e8 : (p.kind == 8) = true := beq_iff_eq.2 h8
        obtain ⟨y, hy, hyn⟩ := byte_of (c := optN f) (by have := optN_lt f; omega)
        have HFI : Hid (fiL p.kind f = ls (framedS f.topic) ++ [y]) := Lib.hid (by unfold fiL; rw [if_pos h8, hy])
        have hwb : IntKind.u8.wrap (y.toNat : Int) = (y.toNat : Int) := by have := y.toNat_lt; rw [IntKind.wrap_u8]; omega
        have HYN := Lib.hid hyn
        clear h8 hy hyn
        go_wp2_with (at_builtin; refine wpList_obS _ rfl (.tmp 53) (.tmp 54) 49 9 rfl w2.heap.size 5 Tryd.underlying49 Tryd.underlying9 info_byte u7 _ rfl O7.out _ rfl (by have := HFZ.out; omega) B7.out.size ?_; intro v' w8 hob hg; have B8 := Lib.hid (below_app B7.out hg B7.out.size (fun g hg' => (O7.out.block g hg').1)); have O8 := Lib.hid hob; have S8 := Lib.hid (S2.out.below B8.out); have K8 : Hid (Bk w8 wr.heap.size 35 #[.string f.topic, .int .i64 f.qos, .bool f.noLocal, .bool f.asPub, .int .i64 f.handling]) := Lib.hid (OB_keeps hg K7.out HNE.out); clear hob hg; have kk := (S8.out.cell 0 rfl 0).trans (pkC_0 _ _); have c0 := K8.out.cell 0; have c1 := K8.out.cell 1; have c2 := K8.out.cell 2; have c3 := K8.out.cell 3; have c4 := K8.out.cell 4; simp only [List.getElem?_toArray, List.getElem?_cons_succ, List.getElem?_cons_zero] at c0 c1 c2 c3 c4)
        refine (optN_any f _).mono ?_
        rintro e w9 ⟨rfl, hb9⟩
        have S9 := Lib.hid (S8.out.below hb9)
        have B9 := Lib.hid (B8.out.trans (hb9.mono B8.out.size))
        have O9 := Lib.hid (O8.out.below hb9)
        clear hb9 kk c0 c1 c2 c3 c4
        rw [HYN.out]
        go_wp2_with (at_builtin; refine wpList_obR _ rfl (.tmp 59) (.tmp 63) 49 rfl w2.heap.size 5 Tryd.underlying49 info_byte v' _ rfl (O9.out.alloc _) _ _ 1 [y] rfl (Rd.lit _ _ _ rfl (Nat.lt_succ_self _) rfl) (by have := HL5.out; rw [HFI.out, List.length_append] at this; rw [List.length_append]; omega) (B9.out.alloc B9.out.size _).size ?_; intro v'' w10 hob hg)
        have R : OB w10 w2.heap.size v'' (L ++ fiL p.kind f) ∧ Below w2.heap.size w2 w10 := by
          refine ⟨?_, below_app (B9.out.alloc B9.out.size _) hg (B9.out.alloc B9.out.size _).size (fun g hg' => (O9.out.block g hg').1)⟩
          rw [HFI.out, ← List.append_assoc]
          exact hob
        have RR := Lib.hid R
        clear hob hg R
        go_wp2
        go_roundw
        case rel =>
          simp only [hA]
          (repeat apply Exists.intro)
          refine ⟨?_, rfl⟩
          exact ⟨k + 1, by omega, by go_num, by rw [HNX.out, ← List.append_assoc, HLQ.out]; exact RR.out.1, RR.out.2⟩
        case measure => simp [intOf]; omega
      · have e8 : (p.kind == 8) = false := beq_eq_false_iff_ne.2 h8
        have HFI : Hid (fiL p.kind f = ls (framedS f.topic)) := Lib.hid (by unfold fiL; rw [if_neg h8, List.append_nil])
        clear h8
        go_wp2_with (at_builtin; refine wpList_obS _ rfl (.tmp 53) (.tmp 54) 49 9 rfl w2.heap.size 5 Tryd.underlying49 Tryd.underlying9 info_byte u7 _ rfl O7.out _ rfl (by have := HFZ.out; omega) B7.out.size ?_; intro v' w8 hob hg; have B8 := Lib.hid (below_app B7.out hg B7.out.size (fun g hg' => (O7.out.block g hg').1)); have O8 := Lib.hid hob; have S8 := Lib.hid (S2.out.below B8.out); clear hob hg; have kk := (S8.out.cell 0 rfl 0).trans (pkC_0 _ _))
        go_roundw
        case rel =>
          simp only [hA]
          (repeat apply Exists.intro)
          refine ⟨?_, rfl⟩
          exact ⟨k + 1, by omega, by go_num, by rw [HNX.out, ← List.append_assoc, HLQ.out, HFI.out]; exact O8.out, B8.out⟩
        case measure => simp [intOf]; omega
    · obtain rfl : k = N := by omega
      have O6 : Hid (OB wr w2.heap.size u7 (sbHead v p ++ p.filters.flatMap (fiL p.kind))) := Lib.hid (by
        have := O5.out
        rw [← HN.out, List.take_length] at this
        exact this)
      clear O5
      go_wp2
      go_loopw [7, 69] (fun o i wq => ∃ j : Nat, j ≤ M ∧ i = .int .i64 j ∧ OB wq w2.heap.size o (sbHead v p ++ p.filters.flatMap (fiL p.kind) ++ cdL (p.codes.take j)) ∧ Below w2.heap.size w2 wq) (fun _ i _ => M - (intOf i).toNat)
      case atStart => exact ⟨0, by omega, rfl, by rw [List.take_zero]; show OB _ _ _ (_ ++ []); rw [List.append_nil]; exact O6.out, B5.out⟩
      case round =>
        obtain ⟨j, hj, rfl, hob, hbq⟩ := hrel
        have S6 := Lib.hid (S2.out.below hbq)
        have O7 := Lib.hid hob; have B7 := Lib.hid hbq
        clear hob hbq kk k22
        by_cases hlt2 : j < M
        · have hp : j < p.codes.length := by rw [HM.out]; exact hlt2
          obtain ⟨b, o, z, hA, hb, hzz, hc⟩ := ((S6.out.into 0 rfl).codes).atI hp
          have hans := ans_range (G.out.codes z (List.mem_of_getElem? hzz))
          have HNX := Lib.hid (cd_next hzz)
          have HPT := Lib.hid (sbS_part2 (v := v) (p := p) (j + 1))
          obtain ⟨y, hy, hyn⟩ := byte_of hans
          rw [hy] at HNX
          have HYN := Lib.hid hyn
          rw [HNX.out, ← List.append_assoc] at HPT
          have hwb : IntKind.u8.wrap (y.toNat : Int) = (y.toNat : Int) := by have := y.toNat_lt; rw [IntKind.wrap_u8]; omega
          rw [hyn] at hc
          have b1 : (0 : Int) ≤ (j : Int) := by omega
          have b2 : (j : Int) < (M : Int) := by omega
          clear hp hzz hans hy hyn
          obtain ⟨L, hL⟩ : ∃ L, sbHead v p ++ p.filters.flatMap (fiL p.kind) ++ cdL (p.codes.take j) = L := ⟨_, rfl⟩
          rw [hL] at HPT O7
          have HLQ := Lib.hid hL
          clear hL
          go_wp2_with (at_builtin; refine wpList_obR _ rfl (.tmp 73) (.tmp 76) 49 rfl w2.heap.size 5 Tryd.underlying49 info_byte u7 _ rfl (O7.out.alloc _) _ _ 1 [y] rfl (Rd.lit _ _ _ rfl (Nat.lt_succ_self _) rfl) (by have := HPT.out; have := HZ.out; rw [List.length_append] at *; omega) (B7.out.alloc B7.out.size _).size ?_; intro v'' w10 hob hg)
          have R : OB w10 w2.heap.size v'' (L ++ [y]) ∧ Below w2.heap.size w2 w10 :=
            ⟨hob, below_app (B7.out.alloc B7.out.size _) hg (B7.out.alloc B7.out.size _).size (fun g hg' => (O7.out.block g hg').1)⟩
          have RR := Lib.hid R
          clear hob hg R
          go_wp2
          go_roundw
          case rel =>
            simp only [hA]
            (repeat apply Exists.intro)
            refine ⟨?_, rfl⟩
            exact ⟨j + 1, by omega, by go_num, by rw [HNX.out, ← List.append_assoc, HLQ.out]; exact RR.out.1, RR.out.2⟩
          case measure => simp [intOf]; omega
        · obtain rfl : j = M := by omega
          have O8 : Hid (OB wr w2.heap.size u7 (sbS v p)) := Lib.hid (by
            have := O7.out
            rw [← HM.out, List.take_length] at this
            exact this)
          obtain ⟨A, c, rfl, hrd⟩ := O8.out.rd
          have hcv := conv_rd (P := Tryd.prog) 49 9 5 Tryd.underlying49 Tryd.underlying5 Tryd.underlying9 c hrd
          have HRD := Lib.hid hrd
          clear hrd
          go_wp2
          go_ret2
          exact ⟨by rw [HX.out]; rfl, S6.out.kept⟩
end Go.Proofs.YtmkkjiogokfnmaaDoor
