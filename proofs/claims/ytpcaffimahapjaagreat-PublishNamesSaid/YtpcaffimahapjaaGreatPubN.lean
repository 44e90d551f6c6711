/- The law PublishNames: the chapter's examples. -/
import Derived.Test.YtpcaffimahapjaaGreatPubR
import Derived.Test.YtpcaffimahapjaaGreatPubD
import Derived.Test.YtpcaffimahapjaaGreatLex
namespace Go.Proofs.YtpcaffimahapjaaGreat
open Go.RowKit
attribute [local go_sem ↓] to_ldPk to_bxPk to_bdPk to_alPk to_stPk
attribute [local go_sem] run_bxPk run_bxPk_agg ld_fresh run_alPk run_bd0 run_bdK run_bdKI run_bdKIC run_bdKC run_bdKICP run_stPk_fresh pkC_0 pkC_1 pkC_2 pkC_3 pkC_4 pkC_5 pkC_6 pkC_7 pkC_8 pkC_9 pkC_10 pkC_11 pkC_12 pkC_13 pkC_14 pkC_15 pkC_16 pkC_17 pkC_18 pkC_19 pkC_20 pkC_21 pkC_22 pkC_23 pkC_24

def alQ : Pk := { pk0 with kind := 3, retain := true, payload := ⟨#[120]⟩, props := [⟨35, 7, ⟨#[]⟩, ⟨#[]⟩⟩] }
def oneP0 : Pk := { oneP with id := 0 }
def zeroP : Pk := { pk0 with kind := 3, topic := ⟨#[97]⟩, id := 1 }
def dupP : Pk := { pk0 with kind := 3, topic := ⟨#[97]⟩, dup := true }
def oneC : Pk := { oneP with client := ⟨#[99]⟩ }
def fmtP : Pr := ⟨1, 1, ⟨#[]⟩, ⟨#[]⟩⟩
def oneF : Pk := { oneP with props := [fmtP] }
def plusP : Pk := { pk0 with kind := 3, topic := ⟨#[97, 43]⟩ }
theorem run_bdZ (w : World) : (bdPk #[(0, .int .i64 3), (5, .string ⟨#[97]⟩), (4, .int .i64 1)]).run Tryz.prog w = .ok (pkV zeroP hs0) w := by kernel_rfl
theorem run_bdD (w : World) : (bdPk #[(0, .int .i64 3), (5, .string ⟨#[97]⟩), (1, .bool true)]).run Tryz.prog w = .ok (pkV dupP hs0) w := by kernel_rfl
theorem run_bdPl (w : World) : (bdPk #[(0, .int .i64 3), (5, .string ⟨#[97, 43]⟩)]).run Tryz.prog w = .ok (pkV plusP hs0) w := by kernel_rfl
theorem oneP0_ok : PkOk oneP0 := by
  refine ⟨?_, ?_, ?_, ?_, ?_⟩
  · intro q hq; cases hq
  · intro q hq; cases hq
  · intro q hq; cases hq
  · decide +kernel
  · decide +kernel
theorem oneP0_in (w : World) (B : Nat) : PkIn w B oneP0 hs0 := flat_in rfl rfl rfl rfl w B
theorem zeroP_ok : PkOk zeroP := by
  refine ⟨?_, ?_, ?_, ?_, ?_⟩
  · intro q hq; cases hq
  · intro q hq; cases hq
  · intro q hq; cases hq
  · decide +kernel
  · decide +kernel
theorem zeroP_in (w : World) (B : Nat) : PkIn w B zeroP hs0 := flat_in rfl rfl rfl rfl w B
theorem dupP_ok : PkOk dupP := by
  refine ⟨?_, ?_, ?_, ?_, ?_⟩
  · intro q hq; cases hq
  · intro q hq; cases hq
  · intro q hq; cases hq
  · decide +kernel
  · decide +kernel
theorem dupP_in (w : World) (B : Nat) : PkIn w B dupP hs0 := flat_in rfl rfl rfl rfl w B
theorem oneC_ok : PkOk oneC := by
  refine ⟨?_, ?_, ?_, ?_, ?_⟩
  · intro q hq; cases hq
  · intro q hq; cases hq
  · intro q hq; cases hq
  · decide +kernel
  · decide +kernel
theorem oneC_in (w : World) (B : Nat) : PkIn w B oneC hs0 := flat_in rfl rfl rfl rfl w B
theorem plusP_ok : PkOk plusP := by
  refine ⟨?_, ?_, ?_, ?_, ?_⟩
  · intro q hq; cases hq
  · intro q hq; cases hq
  · intro q hq; cases hq
  · decide +kernel
  · decide +kernel
theorem plusP_in (w : World) (B : Nat) : PkIn w B plusP hs0 := flat_in rfl rfl rfl rfl w B
theorem alQ_ok : PkOk alQ := by
  refine ⟨?_, ?_, ?_, ?_, ?_⟩
  · intro q hq; cases hq
  · intro q hq
    rw [List.mem_singleton.1 (show q ∈ [(⟨35, 7, ⟨#[]⟩, ⟨#[]⟩⟩ : Pr)] from hq)]
    exact ⟨by decide, by decide, by decide⟩
  · intro q hq; cases hq
  · decide +kernel
  · decide +kernel
theorem oneF_ok : PkOk oneF := by
  refine ⟨?_, ?_, ?_, ?_, ?_⟩
  · intro q hq; cases hq
  · intro q hq
    rw [List.mem_singleton.1 (show q ∈ [(fmtP : Pr)] from hq)]
    exact ⟨by decide, by decide, by decide⟩
  · intro q hq; cases hq
  · decide +kernel
  · decide +kernel
theorem exp_r0 : pubR 4 2 ⟨#[0, 3, 97, 47, 98, 0, 10, 104, 105]⟩ = (oneP, 0) := by decide +kernel
theorem exp_r1 : pubR 4 6 ⟨#[]⟩ = (pk0, 7) := by decide +kernel
theorem exp_r2 : pubR 4 2 ⟨#[0, 3, 97, 47, 98, 0]⟩ = (pk0, 3) := by decide +kernel
theorem exp_r3 : pubR 4 2 ⟨#[0, 3, 97, 47, 98, 0, 0]⟩ = (pk0, 2) := by decide +kernel
theorem exp_r4 : pubR 4 0 ⟨#[0, 1, 35]⟩ = (pk0, 10) := by decide +kernel
theorem exp_r5 : pubR 5 0 ⟨#[0, 0, 0, 120]⟩ = (pk0, 10) := by decide +kernel
theorem exp_r6 : pubR 5 1 ⟨#[0, 0, 3, 35, 0, 7, 120]⟩ = (alQ, 0) := by decide +kernel
theorem exp_v0 : pubE 5 oneP0 = 2 := by decide +kernel
theorem exp_v1 : pubE 5 zeroP = 2 := by decide +kernel
theorem exp_v2 : pubE 5 dupP = 7 := by decide +kernel
theorem exp_v3 : pubE 5 oneC = 2 := by decide +kernel
theorem exp_v4 : pubE 4 oneF = 2 := by decide +kernel
theorem exp_v5 : pubE 5 oneF = 0 := by decide +kernel
theorem exp_v6 : pubE 3 oneP = 2 := by decide +kernel
theorem exp_v7 : pubE 5 plusP = 10 := by decide +kernel
theorem exp_b : pubB 5 oneP = (⟨#[0, 3, 97, 47, 98, 0, 10, 0, 104, 105]⟩, 0) := by decide +kernel
theorem exp_n : (getR alQ.props 35).n = 7 := by decide +kernel
theorem exp_a : aliasB alQ = true := by decide +kernel
theorem St.push2 {w x : World} {l : List (Nat × Pk × Hs)} {g : Nat} {p : Pk} {h : Hs} (s : St w l x) (hg : g = x.heap.size) (ip : PkIn x x.heap.size p h) : St w (l ++ [(g, p, h)]) (x.alloc (.cells (pkC p h) PkT)) := by
  subst hg
  exact s.push ip
theorem St.add {w x : World} {l : List (Nat × Pk × Hs)} {g : Nat} {p : Pk} {h : Hs} (s : St w l x) (hg : w.heap.size ≤ g) (hb : Bk x g PkT (pkC p h)) (ip : PkIn x x.heap.size p h) : St w (l ++ [(g, p, h)]) x := by
  refine ⟨s.kept, fun i g' p' h' e => ?_⟩
  rcases Nat.lt_or_ge i l.length with hi | hi
  · rw [List.getElem?_append_left hi] at e
    exact s.pks i g' p' h' e
  · rw [List.getElem?_append_right hi] at e
    obtain rfl | ⟨k, hk⟩ : i = l.length ∨ ∃ k, i = l.length + (k + 1) := by
      rcases Nat.eq_or_lt_of_le hi with h | h
      · exact .inl h.symm
      · exact .inr ⟨i - l.length - 1, by omega⟩
    · simp only [Nat.sub_self, List.getElem?_cons_zero, Option.some.injEq, Prod.mk.injEq] at e
      obtain ⟨rfl, rfl, rfl⟩ := e
      exact ⟨hg, hb, ip⟩
    · subst hk
      rw [show l.length + (k + 1) - l.length = k + 1 by omega] at e
      simp at e
/-- A reading whose answer is known. -/
theorem pubRead_ex (v f : Int) (s t : ByteArray) {r : Pk × Int} (hr : pubR v f t = r) (hst : s = t) (hs : t.size ≤ 1000) (w : World) :
    Calls Tryz.prog 59 #[.int .i64 v, .int .i64 f, .string s] w (PkOut r w) := by
  subst hst hr
  exact pubRead_any v f s w (by omega)
theorem pubValid_ex (v : Int) (p : Pk) (h : Hs) (w : World) (ip : PkIn w w.heap.size p h) (hk : PkOk p) {x : Int} (hx : pubE v p = x) :
    Calls Tryz.prog 61 #[.int .i64 v, pkV p h] w fun e w' => e = .returned (.int .i64 x) ∧ Below w.heap.size w w' := by
  subst hx
  exact pubValid_any v p h w ip hk
theorem oneP_fl {x : World} : PkIn x x.heap.size oneP hs0 := flat_in rfl rfl rfl rfl _ _
theorem plusP_fl {x : World} : PkIn x x.heap.size plusP hs0 := flat_in rfl rfl rfl rfl _ _
set_option maxHeartbeats 8000000 in
set_option maxRecDepth 100000 in
theorem publishNames_any (w : World) : Calls Tryz.prog 6 #[] w fun e w' => e = .returned (.bool true) ∧ Below w.heap.size w w' := by
  have hz := run_bdZ
  have hd := run_bdD
  have hp := run_bdPl
  go_enter Tryz.func6, Tryz.ntmps6
  go_wp2_with fail
  refine (lives9_any _).mono ?_
  rintro e w1 ⟨rfl, hb⟩
  have S1 := Lib.hid ((St.start w).below hb); clear hb
  go_wp2_with fail
  refine (one9_any _).mono ?_
  rintro e w2 ⟨rfl, hb⟩
  have S2 := Lib.hid (S1.out.below hb); clear hb S1
  go_wp2_with fail
  refine (pubBody_any 5 oneP hs0 _ (flat_in rfl rfl rfl rfl _ _) oneP_ok).mono ?_
  rintro e w3 ⟨rfl, hb⟩
  have S3 := Lib.hid (S2.out.below hb); clear hb S2
  rw [exp_b]
  simp only
  go_wp2_with fail
  refine (pubRead_ex 4 2 _ _ exp_r0 (by first | rfl | decide +kernel) (by decide) _).mono ?_
  rintro e x0 ⟨k0, rfl, hi, hb⟩
  have S4 := Lib.hid ((S3.out.below hb).push hi)
  clear hi hb S3
  simp only
  go_wp2_with fail
  refine (pubRead_ex 4 6 _ _ exp_r1 (by first | rfl | decide +kernel) (by decide) _).mono ?_
  rintro e x1 ⟨k1, rfl, hi, hb⟩
  have S5 := Lib.hid ((S4.out.below hb).alloc (.cells (pkC pk0 k1) PkT))
  clear hi hb S4
  simp only
  go_wp2_with fail
  refine (pubRead_ex 4 2 _ _ exp_r2 (by first | rfl | decide +kernel) (by decide) _).mono ?_
  rintro e x2 ⟨k2, rfl, hi, hb⟩
  have S6 := Lib.hid ((S5.out.below hb).alloc (.cells (pkC pk0 k2) PkT))
  clear hi hb S5
  simp only
  as_aux_lemma =>
    go_wp2_with fail
    refine (pubRead_ex 4 2 _ _ exp_r3 (by first | rfl | decide +kernel) (by decide) _).mono ?_
    rintro e x3 ⟨k3, rfl, hi, hb⟩
    have S7 := Lib.hid ((S6.out.below hb).alloc (.cells (pkC pk0 k3) PkT))
    clear hi hb S6
    simp only
    go_wp2_with fail
    refine (pubRead_ex 4 0 _ _ exp_r4 (by first | rfl | decide +kernel) (by decide) _).mono ?_
    rintro e x4 ⟨k4, rfl, hi, hb⟩
    have S8 := Lib.hid ((S7.out.below hb).alloc (.cells (pkC pk0 k4) PkT))
    clear hi hb S7
    simp only
    as_aux_lemma =>
      go_wp2_with fail
      refine (pubRead_ex 5 0 _ _ exp_r5 (by first | rfl | decide +kernel) (by decide) _).mono ?_
      rintro e x5 ⟨k5, rfl, hi, hb⟩
      have S9 := Lib.hid ((S8.out.below hb).alloc (.cells (pkC pk0 k5) PkT))
      clear hi hb S8
      simp only
      go_wp2_with fail
      refine (pubRead_ex 5 1 _ _ exp_r6 (by first | rfl | decide +kernel) (by decide) _).mono ?_
      rintro e x6 ⟨k6, rfl, hi, hb⟩
      have S10 := Lib.hid ((S9.out.below hb).push hi)
      clear hi hb S9
      simp only
      as_aux_lemma =>
        have hl := S10.out.ld 1 rfl
        go_wp2_with fail
        refine (alias_any alQ k6 _ (S10.out.into 1 rfl) alQ_ok).mono ?_
        rintro e y0 ⟨rfl, hb⟩
        have T0 := Lib.hid (S10.out.below hb); clear hb S10 hl
        rw [exp_n, exp_a]
        go_wp2_with fail
        refine (one9_any _).mono ?_
        rintro e y1 ⟨rfl, hb⟩
        have T1 := Lib.hid (T0.out.below hb); clear hb T0
        have T2 : Hid (St w [(x0.heap.size, oneP, k0), (x6.heap.size, alQ, k6), (y1.heap.size, oneP0, hs0)] (y1.alloc (.cells ((pkC oneP hs0).setIfInBounds 4 (.int .i64 0)) PkT))) := Lib.hid (T1.out.push2 (p := oneP0) (h := hs0) rfl (oneP0_in _ _))
        have T3 := Lib.hid (T2.out.push2 (g := y1.heap.size + 1) (p := zeroP) (h := hs0) (by simp) (zeroP_in _ _))
        have T4 := Lib.hid (T3.out.push2 (g := y1.heap.size + 2) (p := dupP) (h := hs0) (by simp) (dupP_in _ _))
        have hs1 : (stPk (.pointer (some ⟨y1.heap.size + 1, 0, none⟩)) (pkV zeroP hs0)).run Tryz.prog ((y1.alloc (.cells ((pkC oneP hs0).setIfInBounds 4 (.int .i64 0)) PkT)).alloc (.cells (pkC pk0 hs0) PkT)) = .ok () ((y1.alloc (.cells ((pkC oneP hs0).setIfInBounds 4 (.int .i64 0)) PkT)).alloc (.cells (pkC zeroP hs0) PkT)) := by
          have := run_stPk_fresh (y1.alloc (.cells ((pkC oneP hs0).setIfInBounds 4 (.int .i64 0)) PkT)) pk0 zeroP hs0 hs0
          rw [heap_alloc_size] at this
          exact this
        have hs2 : (stPk (.pointer (some ⟨y1.heap.size + 2, 0, none⟩)) (pkV dupP hs0)).run Tryz.prog (((y1.alloc (.cells ((pkC oneP hs0).setIfInBounds 4 (.int .i64 0)) PkT)).alloc (.cells (pkC zeroP hs0) PkT)).alloc (.cells (pkC pk0 hs0) PkT)) = .ok () (((y1.alloc (.cells ((pkC oneP hs0).setIfInBounds 4 (.int .i64 0)) PkT)).alloc (.cells (pkC zeroP hs0) PkT)).alloc (.cells (pkC dupP hs0) PkT)) := by
          have := run_stPk_fresh ((y1.alloc (.cells ((pkC oneP hs0).setIfInBounds 4 (.int .i64 0)) PkT)).alloc (.cells (pkC zeroP hs0) PkT)) pk0 dupP hs0 hs0
          rw [heap_alloc_size, heap_alloc_size] at this
          exact this
        clear T1 T2 T3
        as_aux_lemma =>
          go_wp2_with fail
          refine (one9_any _).mono ?_
          rintro e y2 ⟨rfl, hb⟩
          have T5 := Lib.hid (T4.out.below hb); clear hb T4 hs1 hs2
          have T6 : Hid (St w _ (y2.alloc (.cells ((pkC oneP hs0).setIfInBounds 9 (.string ⟨#[99]⟩)) PkT))) := Lib.hid (T5.out.push2 (g := y2.heap.size) (p := oneC) (h := hs0) rfl (oneC_in _ _))
          clear T5
          go_wp2_with fail
          refine (one9_any _).mono ?_
          rintro e y3 ⟨rfl, hb⟩
          have T7 := Lib.hid (T6.out.below hb); clear hb T6
          as_aux_lemma =>
            go_wp2_with fail
            obtain ⟨h5, hh5⟩ : ∃ h : Hs, h = { hs0 with props := ⟨some ⟨y3.heap.size + 1, 0, none⟩, 1⟩ } := ⟨_, rfl⟩
            have T8 : Hid (St w [(x0.heap.size, oneP, k0), (x6.heap.size, alQ, k6), (y1.heap.size, oneP0, hs0), (y1.heap.size + 1, zeroP, hs0), (y1.heap.size + 1 + 1, dupP, hs0), (y2.heap.size, oneC, hs0), (y3.heap.size, oneF, h5)] ((y3.alloc (.cells ((pkC oneP hs0).setIfInBounds 24 (.slice (some ⟨y3.heap.size + 1, 0, none⟩) 1 1)) PkT)).alloc (.cells #[.int .i64 1, .int .u32 1, .string ⟨#[]⟩, .string ⟨#[]⟩] 24))) := Lib.hid (by
              subst hh5
              have s := (T7.out.alloc (.cells ((pkC oneP hs0).setIfInBounds 24 (.slice (some ⟨y3.heap.size + 1, 0, none⟩) 1 1)) PkT)).alloc (.cells #[.int .i64 1, .int .u32 1, .string ⟨#[]⟩, .string ⟨#[]⟩] 24)
              have rd := Rd.one4 (y3.alloc (.cells ((pkC oneP hs0).setIfInBounds 24 (.slice (some ⟨y3.heap.size + 1, 0, none⟩) 1 1)) PkT)) fmtP
              rw [heap_alloc_size] at rd
              refine s.add (g := y3.heap.size) (p := oneF) T7.out.kept.size ((Bk.fresh y3 PkT _).alloc _) ⟨Rd.nil _ _ _ _, Rd.nil _ _ _ _, Rd.nil _ _ _ _, ?_, Nat.zero_le _, Nat.zero_le _, Nat.zero_le _, Nat.le_refl 1⟩
              rw [heap_alloc_size, heap_alloc_size]
              exact rd)
            generalize hW : ((y3.alloc (.cells ((pkC oneP hs0).setIfInBounds 24 (.slice (some ⟨y3.heap.size + 1, 0, none⟩) 1 1)) PkT)).alloc (.cells #[.int .i64 1, .int .u32 1, .string ⟨#[]⟩, .string ⟨#[]⟩] 24)) = W at *
            clear hW T7 hh5
            have HK := Lib.hid T8.out.kept
            have q0 := regrown (W := W) (fun x _ => one9_any x)
            have q1 := regrown (W := W) (fun x hx => samePk_any oneP oneP k0 hs0 x ((T8.out.below hx).into 0 rfl) oneP_fl oneP_ok.len oneP_ok.len)
            rw [decide_eq_true rfl] at q1
            have q2 := regrown (W := W) (fun x hx => pubValid_ex 5 oneP0 hs0 x ((T8.out.below hx).into 2 rfl) oneP0_ok exp_v0)
            have q3 := regrown (W := W) (fun x hx => pubValid_ex 5 zeroP hs0 x ((T8.out.below hx).into 3 rfl) zeroP_ok exp_v1)
            have q4 := regrown (W := W) (fun x hx => pubValid_ex 5 dupP hs0 x ((T8.out.below hx).into 4 rfl) dupP_ok exp_v2)
            have q5 := regrown (W := W) (fun x hx => pubValid_ex 5 oneC hs0 x ((T8.out.below hx).into 5 rfl) oneC_ok exp_v3)
            have q6 := regrown (W := W) (fun x hx => pubValid_ex 4 oneF h5 x ((T8.out.below hx).into 6 rfl) oneF_ok exp_v4)
            have q7 := regrown (W := W) (fun x hx => pubValid_ex 5 oneF h5 x ((T8.out.below hx).into 6 rfl) oneF_ok exp_v5)
            have q8 := regrown (W := W) (fun x _ => pubValid_ex 3 oneP hs0 x oneP_fl oneP_ok exp_v6)
            have q9 := regrown (W := W) (fun x _ => pubValid_ex 5 plusP hs0 x plusP_fl plusP_ok exp_v7)
            have d0 := ld_regrown (T8.out.bk 0 rfl)
            have d2 := ld_regrown (T8.out.bk 2 rfl)
            have d3 := ld_regrown (T8.out.bk 3 rfl)
            have d4 := ld_regrown (T8.out.bk 4 rfl)
            have d5 := ld_regrown (T8.out.bk 5 rfl)
            have d6 := ld_regrown (T8.out.bk 6 rfl)
            have e12 := fun d os => (bk_regrown (T8.out.bk 1 rfl) d os 2).trans (show (pkC alQ k6)[2]? = some (.bool true) from rfl)
            have e16 := fun d os => (bk_regrown (T8.out.bk 1 rfl) d os 6).trans (show (pkC alQ k6)[6]? = some (.string ⟨#[120]⟩) from rfl)
            have e15 := fun d os => (bk_regrown (T8.out.bk 1 rfl) d os 5).trans (show (pkC alQ k6)[5]? = some (.string ⟨#[]⟩) from rfl)
            have HBQ := Lib.hid (fun d os => below_regrown W d os)
            clear T8
            as_aux_lemma =>
              simp only [List.append]
              refine wp_region_quiet_below (by as_aux_lemma => kernel_rfl) (lexB_fast (by as_aux_lemma => kernel_rfl)) ?_
              repeat (go_big_quiet_step (first | with_reducible exact q0 _ _ | with_reducible exact q1 _ _ | with_reducible exact q2 _ _ | with_reducible exact q3 _ _ | with_reducible exact q4 _ _ | with_reducible exact q5 _ _ | with_reducible exact q6 _ _ | with_reducible exact q7 _ _ | with_reducible exact q8 _ _ | with_reducible exact q9 _ _))
              refine wpQuiet_nil ?_
              intro _ hw'
              obtain ⟨⟨dq, osq⟩, hw''⟩ := hw'
              subst hw''
              have KF := Lib.hid (HBQ.out dq osq)
              clear q0 q1 q2 q3 q4 q5 q6 q7 q8 q9 d0 d2 d3 d4 d5 d6 e12 e16 e15 HBQ
              generalize Sort.grow (redrawn _ dq) osq = wq at *
              go_wp2
              go_ret
              exact ⟨rfl, HK.out.trans (KF.out.mono HK.out.size)⟩
end Go.Proofs.YtpcaffimahapjaaGreat
