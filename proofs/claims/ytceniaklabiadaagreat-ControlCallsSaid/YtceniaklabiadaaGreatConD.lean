/- control: the walks of Valid, Body. -/
import Derived.Test.YtceniaklabiadaaGreatConC
import Derived.Test.YtceniaklabiadaaGreatMTai
import Derived.BigRegion
namespace Go.Proofs.YtceniaklabiadaaGreat
open Go.RowKit
attribute [local go_sem ↓] to_ldPk to_bxPk to_bdPk to_alPk to_stPk
attribute [local go_sem] run_bxPk run_bxPk_agg ld_fresh run_alPk run_bd0 run_bdK run_bdKI run_bdKIC run_bdKC run_bdKICP run_stPk_fresh pkC_0 pkC_1 pkC_2 pkC_3 pkC_4 pkC_5 pkC_6 pkC_7 pkC_8 pkC_9 pkC_10 pkC_11 pkC_12 pkC_13 pkC_14 pkC_15 pkC_16 pkC_17 pkC_18 pkC_19 pkC_20 pkC_21 pkC_22 pkC_23 pkC_24
theorem run_bdKP (k : Int) (l : List Pr) (A : Option Addr) (n : Nat) (w : World) : (bdPk #[(0, .int .i64 k), (20, .slice A l.length n)]).run Tryz.prog w = .ok (pkV { pk0 with kind := k, props := l } { hs0 with props := ⟨A, n⟩ }) w := by kernel_rfl
theorem ackR1_k (k : Int) : ({ pk0 with kind := k } : Pk) = ackR1 k 0 0 [] := rfl
theorem conQ_in {w : World} {B : Nat} {p : Pk} {h : Hs} (x : PkIn w B p h) : PkIn w B (ackR1 p.kind 0 p.code p.props) (ackH h) := ⟨Rd.nil _ _ _ _, Rd.nil _ _ _ _, Rd.nil _ _ _ _, x.props, Nat.zero_le _, Nat.zero_le _, Nat.zero_le _, x.caps.2.2.2⟩
theorem conQ_len {p : Pk} (x : PkLen p) : PkLen (ackR1 p.kind 0 p.code p.props) := ⟨Nat.zero_le _, Nat.zero_le _, Nat.zero_le _, x.2.2.2⟩
/-- Code, properties stored. -/
theorem conQ_put {w : World} {g : Nat} {k c : Int} {l : List Pr} {A : Option Addr} {n : Nat} (h : Bk w g PkT (pkC (ackR1 k 0 0 []) hs0)) : Bk ((w.setCell ⟨g, 21, none⟩ (.int .i64 c)).setCell ⟨g, 24, none⟩ (.slice A l.length n)) g PkT (pkC (ackR1 k 0 c l) { hs0 with props := ⟨A, n⟩ }) :=
  (h.upd 21 _ (pk_code k 0 0 c [] hs0)).upd 24 _ (pk_props k 0 c [] l A n hs0)

theorem St.conQ {w x : World} {g0 g : Nat} {p : Pk} {h : Hs} (s : St w [(g0, p, h), (g, ackR1 p.kind 0 0 [], hs0)] x) (ip : PkIn w w.heap.size p h) (hne : g0 ≠ g) :
    St w [(g0, p, h), (g, ackR1 p.kind 0 p.code p.props, ackH h)] ((x.setCell ⟨g, 21, none⟩ (.int .i64 p.code)).setCell ⟨g, 24, none⟩ (.slice h.props.a p.props.length h.props.c)) := by
  have hg := (s.pks 1 g _ _ rfl).1
  have hm := (mod_set x g 21 (.int .i64 p.code)).trans (mod_set _ g 24 (.slice h.props.a p.props.length h.props.c))
  have hk : Below w.heap.size w ((x.setCell ⟨g, 21, none⟩ (.int .i64 p.code)).setCell ⟨g, 24, none⟩ (.slice h.props.a p.props.length h.props.c)) := below_mod s.kept hm s.kept.size hg
  refine ⟨hk, fun i g' q k e => ?_⟩
  rcases i with _ | _ | i
  · simp only [List.getElem?_cons_zero, Option.some.injEq, Prod.mk.injEq] at e
    obtain ⟨rfl, rfl, rfl⟩ := e
    exact ⟨(s.pks 0 g0 p h rfl).1, ((s.bk 0 rfl).other hne _).other hne _, (ip.below hk).wider hk.size⟩
  · simp only [List.getElem?_cons_succ, List.getElem?_cons_zero, Option.some.injEq, Prod.mk.injEq] at e
    obtain ⟨rfl, rfl, rfl⟩ := e
    exact ⟨hg, conQ_put (s.bk 1 rfl), conQ_in ((ip.below hk).wider hk.size)⟩
  · simp at e

set_option maxHeartbeats 4000000 in
set_option maxRecDepth 10000 in
theorem conValid_any (v : Int) (p : Pk) (h : Hs) (w : World) (ip : PkIn w w.heap.size p h) (ok : PkOk p) :
    Calls Tryz.prog 27 #[.int .i64 v, pkV p h] w fun e w' => e = .returned (.int .i64 (conE v p)) ∧ Below w.heap.size w w' := by
  have OK := Lib.hid ok
  have IP := Lib.hid ip
  have S0 := Lib.hid ((St.start w).push ip)
  have HE : Hid (conE v p = if conK v p.kind ≠ 0 then conK v p.kind else if conMay v p.kind = true ∧ may p.kind p.code = false then 2 else if p ≠ conQ v p then 2 else (bytesS p.kind p.props).2) := Lib.hid rfl
  clear ip ok
  go_enter Tryz.func27, Tryz.ntmps27
  go_wp2_with fail
  refine (conKnown_any v p.kind _).mono ?_
  rintro e w1 ⟨rfl, hb⟩
  have S1 := Lib.hid (S0.out.below hb); clear hb
  by_cases hk : conK v p.kind = 0
  rotate_left
  · have HX : Hid (conE v p = conK v p.kind) := Lib.hid (by rw [HE.out, if_pos hk])
    have e0 : (conK v p.kind != 0) = true := bne_iff_ne.2 hk
    clear hk
    go_wp2
    go_ret
    exact ⟨by rw [HX.out]; rfl, S1.out.kept⟩
  have HE1 : Hid (conE v p = if conMay v p.kind = true ∧ may p.kind p.code = false then 2 else if p ≠ conQ v p then 2 else (bytesS p.kind p.props).2) := Lib.hid (by rw [HE.out, if_neg (fun x => x hk)])
  rw [hk]
  clear hk
  have k1 := S1.out.cell 0 rfl 0
  rw [pkC_0] at k1
  have S2 : Hid (St w [(w.heap.size, p, h), (w1.heap.size, ackR1 p.kind 0 0 [], hs0)] (w1.alloc (.cells (pkC (ackR1 p.kind 0 0 []) hs0) PkT))) := Lib.hid (S1.out.push (PkIn.R1 (Rd.nil _ _ _ _) (Nat.zero_le _) _ _ _))
  have k2 : (w1.alloc (.cells (pkC { pk0 with kind := p.kind } hs0) PkT)).cell? ⟨w.heap.size, 0, none⟩ = some (.int .i64 p.kind) := (S2.out.cell 0 rfl 0).trans (pkC_0 _ _)
  go_wp2_with fail
  rw [ackR1_k]
  refine (says_any v p.kind _).mono ?_
  rintro e w2 ⟨rfl, hb⟩
  have S3 := Lib.hid (S2.out.below hb); clear hb k1 k2
  cases hm : conMay v p.kind
  · have HQ : Hid (conQ v p = ackR1 p.kind 0 0 []) := Lib.hid (by unfold conQ; rw [if_neg (by rw [hm]; decide)])
    have HE2 : Hid (conE v p = if p ≠ ackR1 p.kind 0 0 [] then 2 else (bytesS p.kind p.props).2) := Lib.hid (by rw [HE1.out, if_neg (fun x => by rw [hm] at x; cases x.1), HQ.out])
    have hl0 := S3.out.ld 0 rfl
    have hl1 := S3.out.ld 1 rfl
    clear hm
    go_wp2_with fail
    refine (same_any p (ackR1 p.kind 0 0 []) h hs0 _ (S3.out.into 0 rfl) (S3.out.into 1 rfl) OK.out.len ⟨Nat.zero_le _, Nat.zero_le _, Nat.zero_le _, Nat.zero_le _⟩).mono ?_
    rintro e w3 ⟨rfl, hb⟩
    have S4 := Lib.hid (S3.out.below hb); clear hb hl0 hl1
    by_cases hs : p = ackR1 p.kind 0 0 []
    · rw [decide_eq_true hs]
      have HX : Hid (conE v p = (bytesS p.kind p.props).2) := Lib.hid (by rw [HE2.out, if_neg (fun x => x hs)])
      have k4 := S4.out.cell 0 rfl 0
      rw [pkC_0] at k4
      have k5 := S4.out.cell 0 rfl 24
      rw [pkC_24] at k5
      clear hs
      go_wp2_with fail
      refine (validP_n p.kind p.props _ rfl OK.out.props h.props.a h.props.c _ (S4.out.into 0 rfl).props OK.out.len.2.2.2).mono ?_
      rintro e w4 ⟨rfl, hb⟩
      have S5 := Lib.hid (S4.out.below hb); clear hb k4 k5
      go_wp2
      go_ret
      exact ⟨by rw [HX.out]; rfl, S5.out.kept⟩
    · rw [decide_eq_false hs]
      have HX : Hid (conE v p = 2) := Lib.hid (by rw [HE2.out, if_pos hs])
      clear hs
      go_wp2
      go_ret
      exact ⟨by rw [HX.out]; rfl, S4.out.kept⟩
  · have HQ : Hid (conQ v p = ackR1 p.kind 0 p.code p.props) := Lib.hid (by unfold conQ; rw [if_pos hm])
    have HE2 : Hid (conE v p = if may p.kind p.code = false then 2 else if p ≠ ackR1 p.kind 0 p.code p.props then 2 else (bytesS p.kind p.props).2) := Lib.hid (by rw [HE1.out, HQ.out, hm]; simp)
    have k3 := S3.out.cell 0 rfl 0
    rw [pkC_0] at k3
    have k4 := S3.out.cell 0 rfl 21
    rw [pkC_21] at k4
    clear hm
    go_wp2_with fail
    refine (may_any p.kind p.code _).mono ?_
    rintro e w3 ⟨rfl, hb⟩
    have S4 := Lib.hid (S3.out.below hb); clear hb k3 k4
    cases hy : may p.kind p.code
    · have HX : Hid (conE v p = 2) := Lib.hid (by rw [HE2.out, if_pos hy])
      clear hy
      go_wp2
      go_ret
      exact ⟨by rw [HX.out]; rfl, S4.out.kept⟩
    have HE3 : Hid (conE v p = if p ≠ ackR1 p.kind 0 p.code p.props then 2 else (bytesS p.kind p.props).2) := Lib.hid (by rw [HE2.out, if_neg (by rw [hy]; decide)])
    have k4 := S4.out.cell 0 rfl 21
    rw [pkC_21] at k4
    have k5 := S4.out.cell 0 rfl 24
    rw [pkC_24] at k5
    have j4 : w3.cell? ⟨w1.heap.size, 21, none⟩ = some (.int .i64 0) := S4.out.cell 1 rfl 21
    have j5 : w3.cell? ⟨w1.heap.size, 24, none⟩ = some (.slice none 0 0) := S4.out.cell 1 rfl 24
    have f4 := (S4.out.bk 1 rfl).free 21
    have f5 := (S4.out.bk 1 rfl).free 24
    have hne : (w.heap.size == w1.heap.size) = false := beq_eq_false_iff_ne.2 (by have := S1.out.kept.size; have := (S1.out.bk 0 rfl).lt; omega)
    clear hy
    go_wp2_with fail
    go_region
    have S5 := Lib.hid ((S4.out.conQ IP.out (by simpa using hne)).drew)
    have hl0 := S5.out.ld 0 rfl
    have hl1 := S5.out.ld 1 rfl
    clear k4 k5 j4 j5 f4 f5 hne
    generalize ((w3.setCell ⟨w1.heap.size, 21, none⟩ (.int .i64 p.code)).setCell ⟨w1.heap.size, 24, none⟩ (.slice h.props.a p.props.length h.props.c)).drew = w5 at *
    go_wp2_with fail
    refine (same_any p (ackR1 p.kind 0 p.code p.props) h (ackH h) _ (S5.out.into 0 rfl) (S5.out.into 1 rfl) OK.out.len (conQ_len OK.out.len)).mono ?_
    rintro e w6 ⟨rfl, hb⟩
    have S6 := Lib.hid (S5.out.below hb); clear hb hl0 hl1
    by_cases hs : p = ackR1 p.kind 0 p.code p.props
    · rw [decide_eq_true hs]
      have HX : Hid (conE v p = (bytesS p.kind p.props).2) := Lib.hid (by rw [HE3.out, if_neg (fun x => x hs)])
      have k6 := S6.out.cell 0 rfl 0
      rw [pkC_0] at k6
      have k7 := S6.out.cell 0 rfl 24
      rw [pkC_24] at k7
      clear hs
      go_wp2_with fail
      refine (validP_n p.kind p.props _ rfl OK.out.props h.props.a h.props.c _ (S6.out.into 0 rfl).props OK.out.len.2.2.2).mono ?_
      rintro e w7 ⟨rfl, hb⟩
      have S7 := Lib.hid (S6.out.below hb); clear hb k6 k7
      go_wp2
      go_ret
      exact ⟨by rw [HX.out]; rfl, S7.out.kept⟩
    · rw [decide_eq_false hs]
      have HX : Hid (conE v p = 2) := Lib.hid (by rw [HE3.out, if_pos hs])
      clear hs
      go_wp2
      go_ret
      exact ⟨by rw [HX.out]; rfl, S6.out.kept⟩
end Go.Proofs.YtceniaklabiadaaGreat
