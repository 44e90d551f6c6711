/- A part of what the laws stand on: ConD, ConE, MqB. -/
import Derived.Test.YtbahnolmlodcdaaGreatDoorMcHdC
import Derived.Test.YtbahnolmlodcdaaGreatDoorMcMTai
import Derived.BigRegion
import Derived.Test.YtbahnolmlodcdaaGreatDoorMcMSubG
import Derived.Test.YtbahnolmlodcdaaGreatDoorMcMSubP
namespace Go.Proofs.YtbahnolmlodcdaaGreatDoor
open Go.RowKit
attribute [local go_sem ↓] to_ldPk to_bxPk to_bdPk to_alPk to_stPk
attribute [local go_sem] run_bxPk run_bxPk_agg ld_fresh run_alPk run_bd0 run_bdK run_bdKI run_bdKIC run_bdKC run_bdKICP run_stPk_fresh pkC_0 pkC_1 pkC_2 pkC_3 pkC_4 pkC_5 pkC_6 pkC_7 pkC_8 pkC_9 pkC_10 pkC_11 pkC_12 pkC_13 pkC_14 pkC_15 pkC_16 pkC_17 pkC_18 pkC_19 pkC_20 pkC_21 pkC_22 pkC_23 pkC_24
theorem ackR1_k (k : Int) : ({ pk0 with kind := k } : Pk) = ackR1 k 0 0 [] := rfl
theorem conQ_in {w : World} {B : Nat} {p : Pk} {h : Hs} (x : PkIn w B p h) : PkIn w B (ackR1 p.kind 0 p.code p.props) (ackH h) := ⟨Rd.nil _ _ _ _, Rd.nil _ _ _ _, Rd.nil _ _ _ _, x.props, Nat.zero_le _, Nat.zero_le _, Nat.zero_le _, x.caps.2.2.2⟩
theorem conQ_len {p : Pk} (x : PkLen p) : PkLen (ackR1 p.kind 0 p.code p.props) := ⟨Nat.zero_le _, Nat.zero_le _, Nat.zero_le _, x.2.2.2⟩
/-- Code, properties stored. -/
theorem conQ_put {w : World} {g : Nat} {k c : Int} {l : List Pr} {A : Option Addr} {n : Nat} (h : Bk w g PkT (pkC (ackR1 k 0 0 []) hs0)) : Bk ((w.setCell ⟨g, 21, none⟩ (.int .i64 c)).setCell ⟨g, 24, none⟩ (.slice A l.length n)) g PkT (pkC (ackR1 k 0 c l) { hs0 with props := ⟨A, n⟩ }) :=
  (h.upd 21 _ (pk_code k 0 0 c [] hs0)).upd 24 _ (pk_props k 0 c [] l A n hs0)

theorem St.conQ {w x : World} {g0 g : Nat} {p : Pk} {h : Hs} (s : St w [(g0, p, h), (g, ackR1 p.kind 0 0 [], hs0)] x) (ip : PkIn w w.heap.size p h) (hne : g0 ≠ g) :
    St w [(g0, p, h), (g, ackR1 p.kind 0 p.code p.props, ackH h)] ((x.setCell ⟨g, 21, none⟩ (.int .i64 p.code)).setCell ⟨g, 24, none⟩ (.slice h.props.a p.props.length h.props.c)) := by
  have hg := (s.pks 1 g _ _ rfl).1
  have hm := (mod_set x g 21 (.int .i64 p.code)).trans (mod_set _ g 24 (.slice h.props.a p.props.length h.props.c))
  have hk : Below w.heap.size w ((x.setCell ⟨g, 21, none⟩ (.int .i64 p.code)).setCell ⟨g, 24, none⟩ (.slice h.props.a p.props.length h.props.c)) := below_mod s.kept hm s.kept.size hg
  refine ⟨hk, fun i g' q k e => ?_⟩
  rcases i with _ | _ | i
  · simp only [List.getElem?_cons_zero, Option.some.injEq, Prod.mk.injEq] at e
    obtain ⟨rfl, rfl, rfl⟩ := e
    exact ⟨(s.pks 0 g0 p h rfl).1, ((s.bk 0 rfl).other hne _).other hne _, (ip.below hk).wider hk.size⟩
  · simp only [List.getElem?_cons_succ, List.getElem?_cons_zero, Option.some.injEq, Prod.mk.injEq] at e
    obtain ⟨rfl, rfl, rfl⟩ := e
    exact ⟨hg, conQ_put (s.bk 1 rfl), conQ_in ((ip.below hk).wider hk.size)⟩
  · simp at e

set_option maxHeartbeats 4000000 in
set_option maxRecDepth 10000 in
theorem conValid_any (v : Int) (p : Pk) (h : Hs) (w : World) (ip : PkIn w w.heap.size p h) (ok : PkOk p) :
    Calls Tryz.prog 237 #[.int .i64 v, pkV p h] w fun e w' => e = .returned (.int .i64 (conE v p)) ∧ Below w.heap.size w w' := by
  have OK := Lib.hid ok
  have IP := Lib.hid ip
  have S0 := Lib.hid ((St.start w).push ip)
  have HE : Hid (conE v p = if conK v p.kind ≠ 0 then conK v p.kind else if conMay v p.kind = true ∧ may p.kind p.code = false then 2 else if p ≠ conQ v p then 2 else (bytesS p.kind p.props).2) := Lib.hid rfl
  clear ip ok
  go_enter Tryz.func237, Tryz.ntmps237
  go_wp2_with fail
  refine (conKnown_any v p.kind _).mono ?_
  rintro e w1 ⟨rfl, hb⟩
  have S1 := Lib.hid (S0.out.below hb); clear hb
  by_cases hk : conK v p.kind = 0
  rotate_left
  · have HX : Hid (conE v p = conK v p.kind) := Lib.hid (by rw [HE.out, if_pos hk])
    have e0 : (conK v p.kind != 0) = true := bne_iff_ne.2 hk
    clear hk
    go_wp2
    go_ret
    exact ⟨by rw [HX.out]; rfl, S1.out.kept⟩
  have HE1 : Hid (conE v p = if conMay v p.kind = true ∧ may p.kind p.code = false then 2 else if p ≠ conQ v p then 2 else (bytesS p.kind p.props).2) := Lib.hid (by rw [HE.out, if_neg (fun x => x hk)])
  rw [hk]
  clear hk
  have k1 := S1.out.cell 0 rfl 0
  rw [pkC_0] at k1
  have S2 : Hid (St w [(w.heap.size, p, h), (w1.heap.size, ackR1 p.kind 0 0 [], hs0)] (w1.alloc (.cells (pkC (ackR1 p.kind 0 0 []) hs0) PkT))) := Lib.hid (S1.out.push (PkIn.R1 (Rd.nil _ _ _ _) (Nat.zero_le _) _ _ _))
  have k2 : (w1.alloc (.cells (pkC { pk0 with kind := p.kind } hs0) PkT)).cell? ⟨w.heap.size, 0, none⟩ = some (.int .i64 p.kind) := (S2.out.cell 0 rfl 0).trans (pkC_0 _ _)
  go_wp2_with fail
  rw [ackR1_k]
  refine (says_any v p.kind _).mono ?_
  rintro e w2 ⟨rfl, hb⟩
  have S3 := Lib.hid (S2.out.below hb); clear hb k1 k2
  cases hm : conMay v p.kind
  · have HQ : Hid (conQ v p = ackR1 p.kind 0 0 []) := Lib.hid (by unfold conQ; rw [if_neg (by rw [hm]; decide)])
    have HE2 : Hid (conE v p = if p ≠ ackR1 p.kind 0 0 [] then 2 else (bytesS p.kind p.props).2) := Lib.hid (by rw [HE1.out, if_neg (fun x => by rw [hm] at x; cases x.1), HQ.out])
    have hl0 := S3.out.ld 0 rfl
    have hl1 := S3.out.ld 1 rfl
    clear hm
    go_wp2_with fail
    refine (same_any p (ackR1 p.kind 0 0 []) h hs0 _ (S3.out.into 0 rfl) (S3.out.into 1 rfl) OK.out.len ⟨Nat.zero_le _, Nat.zero_le _, Nat.zero_le _, Nat.zero_le _⟩).mono ?_
    rintro e w3 ⟨rfl, hb⟩
    have S4 := Lib.hid (S3.out.below hb); clear hb hl0 hl1
    by_cases hs : p = ackR1 p.kind 0 0 []
    · rw [decide_eq_true hs]
      have HX : Hid (conE v p = (bytesS p.kind p.props).2) := Lib.hid (by rw [HE2.out, if_neg (fun x => x hs)])
      have k4 := S4.out.cell 0 rfl 0
      rw [pkC_0] at k4
      have k5 := S4.out.cell 0 rfl 24
      rw [pkC_24] at k5
      clear hs
      go_wp2_with fail
      refine (validP_n p.kind p.props _ rfl OK.out.props h.props.a h.props.c _ (S4.out.into 0 rfl).props OK.out.len.2.2.2).mono ?_
      rintro e w4 ⟨rfl, hb⟩
      have S5 := Lib.hid (S4.out.below hb); clear hb k4 k5
      go_wp2
      go_ret
      exact ⟨by rw [HX.out]; rfl, S5.out.kept⟩
    · rw [decide_eq_false hs]
      have HX : Hid (conE v p = 2) := Lib.hid (by rw [HE2.out, if_pos hs])
      clear hs
      go_wp2
      go_ret
      exact ⟨by rw [HX.out]; rfl, S4.out.kept⟩
  · have HQ : Hid (conQ v p = ackR1 p.kind 0 p.code p.props) := Lib.hid (by unfold conQ; rw [if_pos hm])
    have HE2 : Hid (conE v p = if may p.kind p.code = false then 2 else if p ≠ ackR1 p.kind 0 p.code p.props then 2 else (bytesS p.kind p.props).2) := Lib.hid (by rw [HE1.out, HQ.out, hm]; simp)
    have k3 := S3.out.cell 0 rfl 0
    rw [pkC_0] at k3
    have k4 := S3.out.cell 0 rfl 21
    rw [pkC_21] at k4
    clear hm
    go_wp2_with fail
    refine (may_any p.kind p.code _).mono ?_
    rintro e w3 ⟨rfl, hb⟩
    have S4 := Lib.hid (S3.out.below hb); clear hb k3 k4
    cases hy : may p.kind p.code
    · have HX : Hid (conE v p = 2) := Lib.hid (by rw [HE2.out, if_pos hy])
      clear hy
      go_wp2
      go_ret
      exact ⟨by rw [HX.out]; rfl, S4.out.kept⟩
    have HE3 : Hid (conE v p = if p ≠ ackR1 p.kind 0 p.code p.props then 2 else (bytesS p.kind p.props).2) := Lib.hid (by rw [HE2.out, if_neg (by rw [hy]; decide)])
    have k4 := S4.out.cell 0 rfl 21
    rw [pkC_21] at k4
    have k5 := S4.out.cell 0 rfl 24
    rw [pkC_24] at k5
    have j4 : w3.cell? ⟨w1.heap.size, 21, none⟩ = some (.int .i64 0) := S4.out.cell 1 rfl 21
    have j5 : w3.cell? ⟨w1.heap.size, 24, none⟩ = some (.slice none 0 0) := S4.out.cell 1 rfl 24
    have f4 := (S4.out.bk 1 rfl).free 21
    have f5 := (S4.out.bk 1 rfl).free 24
    have hne : (w.heap.size == w1.heap.size) = false := beq_eq_false_iff_ne.2 (by have := S1.out.kept.size; have := (S1.out.bk 0 rfl).lt; omega)
    clear hy
    go_wp2_with fail
    go_region
    have S5 := Lib.hid ((S4.out.conQ IP.out (by simpa using hne)).drew)
    have hl0 := S5.out.ld 0 rfl
    have hl1 := S5.out.ld 1 rfl
    clear k4 k5 j4 j5 f4 f5 hne
    generalize ((w3.setCell ⟨w1.heap.size, 21, none⟩ (.int .i64 p.code)).setCell ⟨w1.heap.size, 24, none⟩ (.slice h.props.a p.props.length h.props.c)).drew = w5 at *
    go_wp2_with fail
    refine (same_any p (ackR1 p.kind 0 p.code p.props) h (ackH h) _ (S5.out.into 0 rfl) (S5.out.into 1 rfl) OK.out.len (conQ_len OK.out.len)).mono ?_
    rintro e w6 ⟨rfl, hb⟩
    have S6 := Lib.hid (S5.out.below hb); clear hb hl0 hl1
    by_cases hs : p = ackR1 p.kind 0 p.code p.props
    · rw [decide_eq_true hs]
      have HX : Hid (conE v p = (bytesS p.kind p.props).2) := Lib.hid (by rw [HE3.out, if_neg (fun x => x hs)])
      have k6 := S6.out.cell 0 rfl 0
      rw [pkC_0] at k6
      have k7 := S6.out.cell 0 rfl 24
      rw [pkC_24] at k7
      clear hs
      go_wp2_with fail
      refine (validP_n p.kind p.props _ rfl OK.out.props h.props.a h.props.c _ (S6.out.into 0 rfl).props OK.out.len.2.2.2).mono ?_
      rintro e w7 ⟨rfl, hb⟩
      have S7 := Lib.hid (S6.out.below hb); clear hb k6 k7
      go_wp2
      go_ret
      exact ⟨by rw [HX.out]; rfl, S7.out.kept⟩
    · rw [decide_eq_false hs]
      have HX : Hid (conE v p = 2) := Lib.hid (by rw [HE3.out, if_pos hs])
      clear hs
      go_wp2
      go_ret
      exact ⟨by rw [HX.out]; rfl, S6.out.kept⟩
end Go.Proofs.YtbahnolmlodcdaaGreatDoor

namespace Go.Proofs.YtbahnolmlodcdaaGreatDoor
open Go.RowKit
attribute [local go_sem ↓] to_ldPk to_bxPk to_bdPk to_alPk to_stPk
attribute [local go_sem] run_bxPk run_bxPk_agg ld_fresh run_alPk run_bd0 run_bdK run_bdKI run_bdKIC run_bdKC run_bdKICP run_stPk_fresh pkC_0 pkC_1 pkC_2 pkC_3 pkC_4 pkC_5 pkC_6 pkC_7 pkC_8 pkC_9 pkC_10 pkC_11 pkC_12 pkC_13 pkC_14 pkC_15 pkC_16 pkC_17 pkC_18 pkC_19 pkC_20 pkC_21 pkC_22 pkC_23 pkC_24
set_option maxHeartbeats 2000000 in
set_option maxRecDepth 10000 in
theorem conBody_any (v : Int) (p : Pk) (h : Hs) (w : World) (ip : PkIn w w.heap.size p h) (ok : PkOk p) :
    Calls Tryz.prog 174 #[.int .i64 v, pkV p h] w fun e w' => e = .returned (.tuple #[.string ⟨(conB v p).1.toArray⟩, .int .i64 (conB v p).2]) ∧ Below w.heap.size w w' := by
  have OK := Lib.hid ok
  have S0 := Lib.hid ((St.start w).push ip)
  have HE : Hid (conB v p = if conE v p = 0 then (tailS p.code p.props p.kind, 0) else ([], conE v p)) := Lib.hid rfl
  clear ip ok
  go_enter Tryz.func174, Tryz.ntmps174
  go_wp2_with fail
  refine (conValid_any v p h _ (S0.out.into 0 rfl) OK.out).mono ?_
  rintro e w1 ⟨rfl, hb⟩
  have S1 := Lib.hid (S0.out.below hb); clear hb
  by_cases he : conE v p = 0
  · have HX : Hid (conB v p = (tailS p.code p.props p.kind, 0)) := Lib.hid (by rw [HE.out, if_pos he])
    rw [he]
    have k0 := S1.out.cell 0 rfl 0
    rw [pkC_0] at k0
    have k1 := S1.out.cell 0 rfl 21
    rw [pkC_21] at k1
    have k2 := S1.out.cell 0 rfl 24
    rw [pkC_24] at k2
    clear he
    go_wp2_with fail
    refine (tailS_any p.code p.kind p.props _ rfl OK.out.props h.props.a h.props.c _ (S1.out.into 0 rfl).props OK.out.len.2.2.2).mono ?_
    rintro e w2 ⟨rfl, hb⟩
    have S2 := Lib.hid (S1.out.below hb); clear hb
    go_wp2
    go_ret2
    exact ⟨by rw [HX.out]; rfl, S2.out.kept⟩
  · have e0 : (conE v p != 0) = true := bne_iff_ne.2 he
    have HX : Hid (conB v p = ([], conE v p)) := Lib.hid (by rw [HE.out, if_neg he])
    clear he
    go_wp2
    go_ret2
    exact ⟨by rw [HX.out]; rfl, S1.out.kept⟩

/-- What stands while a packet is read: the result's block, the packet's. -/
structure RC (w : World) (g gp : Nat) (k c : Int) (l : List Pr) (A : Option Addr) (n : Nat) (x : World) : Prop where
  kept : Below w.heap.size w x
  res : Bk x g PkT (pkC pk0 hs0)
  pk : Bk x gp PkT (pkC (ackR1 k 0 c l) { hs0 with props := ⟨A, n⟩ })
  rd : Rd x x.heap.size 4 A l.length (prs l)
  cap : l.length ≤ n
  ne : g ≠ gp
  base : w.heap.size ≤ g ∧ w.heap.size ≤ gp
section
variable {w x y : World} {g gp : Nat} {k c : Int} {l : List Pr} {A : Option Addr} {n : Nat}
theorem RC.below (h : RC w g gp k c l A n x) (hb : Below x.heap.size x y) : RC w g gp k c l A n y :=
  ⟨h.kept.trans (hb.mono h.kept.size), h.res.below hb h.res.lt, h.pk.below hb h.pk.lt, (h.rd.below hb).wider hb.size, h.cap, h.ne, h.base⟩
theorem RC.into (h : RC w g gp k c l A n x) : PkIn x x.heap.size (ackR1 k 0 c l) { hs0 with props := ⟨A, n⟩ } := PkIn.R1 h.rd h.cap k 0 c
theorem RC.none (h : RC w g gp k c l A n x) : Below w.heap.size w (putPk x g pk0 hs0) ∧ Bk (putPk x g pk0 hs0) g PkT (pkC pk0 hs0) := ⟨below_put h.kept h.kept.size h.base.1 _ _, put_bk h.res _ _⟩
theorem RC.some (h : RC w g gp k c l A n x) : Below w.heap.size w (putPk x g (ackR1 k 0 c l) { hs0 with props := ⟨A, n⟩ }) ∧ Bk (putPk x g (ackR1 k 0 c l) { hs0 with props := ⟨A, n⟩ }) g PkT (pkC (ackR1 k 0 c l) { hs0 with props := ⟨A, n⟩ }) ∧
    PkIn (putPk x g (ackR1 k 0 c l) { hs0 with props := ⟨A, n⟩ }) (putPk x g (ackR1 k 0 c l) { hs0 with props := ⟨A, n⟩ }).heap.size (ackR1 k 0 c l) { hs0 with props := ⟨A, n⟩ } :=
  ⟨below_put h.kept h.kept.size h.base.1 _ _, put_bk h.res _ _, PkIn.R1 ((h.rd.other h.res (pk_no32 _ _) (putPk_mods _ _ _ _) (Nat.le_refl _)).wider (putPk_mods _ _ _ _).size) h.cap k 0 c⟩
/-- Code, properties stored. -/
theorem RC.put (h : RC w g gp k 0 [] Option.none 0 x) {A' : Option Addr} {n' : Nat} {l' : List Pr} {c' : Int} (hr : Rd x x.heap.size 4 A' l'.length (prs l')) (hn : l'.length ≤ n') :
    RC w g gp k c' l' A' n' ((x.setCell ⟨gp, 21, .none⟩ (.int .i64 c')).setCell ⟨gp, 24, .none⟩ (.slice A' l'.length n')) := by
  have hm := (mod_set x gp 21 (.int .i64 c')).trans (mod_set _ gp 24 (.slice A' l'.length n'))
  exact ⟨below_mod h.kept hm h.kept.size h.base.2, (h.res.other h.ne _).other h.ne _, conQ_put h.pk, (hr.other h.pk (pk_no32 _ _) hm (Nat.le_refl _)).wider hm.size, hn, h.ne, h.base⟩
end
theorem conR_last {v k : Int} {s : ByteArray} (hk : conK v k = 0) :
    ((if (toldV v k s).2.2 = 0 then conE v (conPre v k s) else (toldV v k s).2.2) = 0 ∧ conR v k s = (conPre v k s, 0)) ∨ ((if (toldV v k s).2.2 = 0 then conE v (conPre v k s) else (toldV v k s).2.2) ≠ 0 ∧ conR v k s = (pk0, (if (toldV v k s).2.2 = 0 then conE v (conPre v k s) else (toldV v k s).2.2))) := by
  have e1 : conR v k s = if (toldV v k s).2.2 ≠ 0 then (pk0, (toldV v k s).2.2) else if conE v (conPre v k s) ≠ 0 then (pk0, conE v (conPre v k s)) else (conPre v k s, 0) := by
    unfold conR
    rw [if_neg (fun x => x hk)]
  rw [e1]
  by_cases h3 : (toldV v k s).2.2 = 0
  · rw [if_pos h3, if_neg (fun x => x h3)]
    by_cases h4 : conE v (conPre v k s) = 0
    · rw [if_neg (fun x => x h4)]
      exact .inl ⟨h4, rfl⟩
    · rw [if_pos h4]
      exact .inr ⟨h4, rfl⟩
  · rw [if_neg h3, if_pos h3]
    exact .inr ⟨h3, rfl⟩
set_option maxHeartbeats 4000000 in
set_option maxRecDepth 10000 in
theorem conRead_any (v k : Int) (s : ByteArray) (w : World) (hs : s.size ≤ 140737488351232) :
    Calls Tryz.prog 175 #[.int .i64 v, .int .i64 k, .string s] w (PkOut (conR v k s) w) := by
  have HS := Lib.hid hs
  have HB0 := Lib.hid ((Below.refl w.heap.size w).alloc (Nat.le_refl _) (.cells (pkC pk0 hs0) PkT))
  have H60 := Lib.hid (Bk.fresh w PkT (pkC pk0 hs0))
  go_enter Tryz.func175, Tryz.ntmps175
  go_wp2_with fail
  refine (conKnown_any v k _).mono ?_
  rintro e w1 ⟨rfl, hb⟩
  have HB1 := Lib.hid (HB0.out.trans (hb.mono HB0.out.size)); have H61 := Lib.hid (H60.out.below hb H60.out.lt); clear hb
  by_cases hk : conK v k = 0
  rotate_left
  · have HX : Hid (conR v k s = (pk0, conK v k)) := Lib.hid (by unfold conR; rw [if_pos hk])
    have e0 : (conK v k != 0) = true := bne_iff_ne.2 hk
    have hst := run_stPk H61.out
    generalize conK v k = E at *
    clear hk
    go_wp2
    refine bodyPost_ret (results_pk rfl _ rfl (put_bk H61.out pk0 hs0)) rfl ?_
    exact pkOut_bad HX.out (below_put HB1.out HB1.out.size (Nat.le_refl _) _ _)
  have HW0 := Lib.hid (conR_last (s := s) hk)
  rw [hk]
  clear hk
  have I1 : Hid (RC w w.heap.size w1.heap.size k 0 [] none 0 (w1.alloc (.cells (pkC (ackR1 k 0 0 []) hs0) PkT))) := Lib.hid
    ⟨HB1.out.alloc HB1.out.size _, H61.out.alloc _, Bk.fresh _ _ _, Rd.nil _ _ _ _, Nat.le_refl _, by have := H61.out.lt; omega, Nat.le_refl _, HB1.out.size⟩
  go_wp2_with fail
  rw [ackR1_k]
  refine (says_any v k _).mono ?_
  rintro e w2 ⟨rfl, hb⟩
  have I2 := Lib.hid (I1.out.below hb); clear hb
  cases hm : conMay v k
  · have hem := empty_iff s
    have ht : toldV v k s = (0, [], if s.size ≠ 0 then 5 else 0) := by unfold toldV; rw [if_neg (by rw [hm]; decide)]
    have hp : conPre v k s = ackR1 k 0 0 [] := by unfold conPre; rw [ht]
    by_cases hz : s.size = 0
    · rw [decide_eq_true hz] at hem
      have HW : Hid ((conE v (ackR1 k 0 0 []) = 0 ∧ conR v k s = (ackR1 k 0 0 [], 0)) ∨ (conE v (ackR1 k 0 0 []) ≠ 0 ∧ conR v k s = (pk0, conE v (ackR1 k 0 0 [])))) := Lib.hid (by simpa [ht, hp, hz] using HW0.out)
      have hl := ld_bk I2.out.pk
      clear hm hz ht hp
      go_wp2_with fail
      refine (conValid_any v (ackR1 k 0 0 []) _ _ I2.out.into (pkOk_R1 (by simp) (by simp))).mono ?_
      rintro e w3 ⟨rfl, hb⟩
      have IG := Lib.hid (I2.out.below hb); clear hb hl
      have HW2 := HW
      generalize conE v (ackR1 k 0 0 []) = E2 at *
      have hl := ld_bk IG.out.pk
      have hst := run_stPk IG.out.res
      rcases HW2.out with ⟨h2, hr⟩ | ⟨h2, hr⟩
      · subst h2
        have HR := Lib.hid hr; clear hr
        go_wp2
        refine bodyPost_ret (results_pk rfl _ rfl IG.out.some.2.1) rfl ?_
        exact pkOut_ok HR.out IG.out.some.2.2 IG.out.some.1
      · have e0 : (E2 != 0) = true := bne_iff_ne.2 h2
        have HR := Lib.hid hr; clear hr h2
        go_wp2
        refine bodyPost_ret (results_pk rfl _ rfl IG.out.none.2) rfl ?_
        exact pkOut_bad HR.out IG.out.none.1
    · rw [decide_eq_false hz] at hem
      have HR : Hid (conR v k s = (pk0, 5)) := Lib.hid (by simpa [ht, hp, hz] using HW0.out)
      have hst := run_stPk I2.out.res
      clear hm hz ht hp
      go_wp2
      refine bodyPost_ret (results_pk rfl _ rfl I2.out.none.2) rfl ?_
      exact pkOut_bad HR.out I2.out.none.1
  · have ht : toldV v k s = toldS k s := by unfold toldV; rw [if_pos hm]
    have hp : conPre v k s = ackR1 k 0 (toldS k s).1 (toldS k s).2.1 := by unfold conPre; rw [ht]
    have hgd := toldV_good (v := v) (k := k) HS.out
    rw [ht] at hgd
    have HOK0 : Hid (PkOk (ackR1 k 0 (toldS k s).1 (toldS k s).2.1)) := Lib.hid (pkOk_R1 hgd.1 (by have := hgd.2; omega))
    have HW1 := HW0.out
    rw [hp, ht] at HW1
    have HW := Lib.hid HW1
    clear hm ht hp hgd HW1
    go_wp2_with fail
    refine (told_any k s _ HS.out).mono ?_
    rintro e w3 ⟨A, n, rfl, hcap, hrd, hb⟩
    have I3 := Lib.hid (I2.out.below hb)
    generalize toldS k s = R at *
    obtain ⟨c, l, x⟩ := R
    simp only at hcap hrd HW HOK0 ⊢
    have I4 := Lib.hid (I3.out.put (c' := c) hrd hcap)
    have f1 : w3.cell? ⟨w1.heap.size, 21, none⟩ = some (.int .i64 0) := I3.out.pk.cell 21
    have f2 : w3.cell? ⟨w1.heap.size, 24, none⟩ = some (.slice none 0 0) := I3.out.pk.cell 24
    have g1 := I3.out.pk.free 21
    have g2 := I3.out.pk.free 24
    have HOK := HOK0
    clear hcap hrd hb
    by_cases hx : x = 0
    · subst hx
      have HW3 : Hid ((conE v (ackR1 k 0 c l) = 0 ∧ conR v k s = (ackR1 k 0 c l, 0)) ∨ (conE v (ackR1 k 0 c l) ≠ 0 ∧ conR v k s = (pk0, conE v (ackR1 k 0 c l)))) := Lib.hid (by have := HW.out; rwa [if_pos rfl] at this)
      have hl := ld_bk I4.out.pk
      go_wp2_with fail
      refine (conValid_any v (ackR1 k 0 c l) _ _ I4.out.into HOK.out).mono ?_
      rintro e w4 ⟨rfl, hb⟩
      have IG := Lib.hid (I4.out.below hb); clear hb hl f1 f2 g1 g2
      have HW2 := HW3
      clear HW
      generalize conE v (ackR1 k 0 c l) = E2 at *
      have hl := ld_bk IG.out.pk
      have hst := run_stPk IG.out.res
      rcases HW2.out with ⟨h2, hr⟩ | ⟨h2, hr⟩
      · subst h2
        have HR := Lib.hid hr; clear hr
        go_wp2
        refine bodyPost_ret (results_pk rfl _ rfl IG.out.some.2.1) rfl ?_
        exact pkOut_ok HR.out IG.out.some.2.2 IG.out.some.1
      · have e0 : (E2 != 0) = true := bne_iff_ne.2 h2
        have HR := Lib.hid hr; clear hr h2
        go_wp2
        refine bodyPost_ret (results_pk rfl _ rfl IG.out.none.2) rfl ?_
        exact pkOut_bad HR.out IG.out.none.1
    · have e0 : (x == 0) = false := beq_eq_false_iff_ne.2 hx
      have e1 : (x != 0) = true := bne_iff_ne.2 hx
      have HR : Hid (conR v k s = (pk0, x)) := Lib.hid (by
        have := HW.out
        rw [if_neg hx] at this
        rcases this with ⟨h, _⟩ | ⟨_, h⟩
        · exact absurd h hx
        · exact h)
      have hst := run_stPk I4.out.res
      clear hx HW
      go_wp2
      refine bodyPost_ret (results_pk rfl _ rfl I4.out.none.2) rfl ?_
      exact pkOut_bad HR.out I4.out.none.1
end Go.Proofs.YtbahnolmlodcdaaGreatDoor

namespace Go.Proofs.YtbahnolmlodcdaaGreatDoor
open Go.RowKit
attribute [local go_sem ↓] to_ldPk to_bxPk to_bdPk to_alPk to_stPk
attribute [local go_sem] run_bxPk run_bxPk_agg ld_fresh run_alPk run_bd0 run_bdK run_bdKI run_bdKIC run_bdKC run_bdKICP run_stPk_fresh pkC_0 pkC_1 pkC_2 pkC_3 pkC_4 pkC_5 pkC_6 pkC_7 pkC_8 pkC_9 pkC_10 pkC_11 pkC_12 pkC_13 pkC_14 pkC_15 pkC_16 pkC_17 pkC_18 pkC_19 pkC_20 pkC_21 pkC_22 pkC_23 pkC_24
abbrev DfT : TypeId := 161
abbrev WrT : TypeId := 123
abbrev ChT : TypeId := 119
/-- A draft's cells. -/
def dfC (v : Int) (p : Pk) (h : Hs) : Array Value := #[.int .i64 v] ++ pkC p h
def dfV (v : Int) (p : Pk) (h : Hs) : Value := .agg (dfC v p h)
def bdDf (v : Array (Nat × Value)) : Sem Value := Instr.build DfT v
def bxDf (v : Value) : Sem Value := Instr.box DfT v
theorem to_bdDf (v : Array (Nat × Value)) : Instr.build DfT v = bdDf v := rfl
theorem to_bxDf (v : Value) : Instr.box DfT v = bxDf v := rfl
theorem run_bdDf (v : Int) (p : Pk) (h : Hs) (w : World) : (bdDf #[(0, .int .i64 v), (1, pkV p h)]).run Tryz.prog w = .ok (dfV v p h) w := by kernel_rfl
theorem run_bxDf (v : Int) (p : Pk) (h : Hs) (w : World) : (bxDf (dfV v p h)).run Tryz.prog w = .ok (.pointer (some ⟨w.heap.size, 0, none⟩)) (w.alloc (.cells (dfC v p h) DfT)) := rfl
theorem df_0 {w : World} {g : Nat} {v : Int} {p : Pk} {h : Hs} (hb : Bk w g DfT (dfC v p h)) : w.cell? ⟨g, 0, none⟩ = some (.int .i64 v) := by
  rw [hb.cell]
  unfold dfC
  rw [Array.getElem?_append_left (by simp)]
  rfl
theorem ld_df {w : World} {g : Nat} {v : Int} {p : Pk} {h : Hs} (hb : Bk w g DfT (dfC v p h)) : (ldPk (.pointer (some ⟨g, 1, none⟩))).run Tryz.prog w = .ok (pkV p h) w := by
  unfold ldPk
  have hc : w.rangeAt g 1 (pkC p h).toList := fun j u hu => by
    rw [hb.cell]
    unfold dfC
    rw [Array.getElem?_append_right (by simp)]
    simpa using hu
  exact run_loadAt_mid w g 1 PkT (pkC p h).toList _ hc Tryz.underlying29 rfl (by rw [Array.length_toList, pkC_size]; exact info_pk)
attribute [local go_sem ↓] to_bdDf to_bxDf
attribute [local go_sem] run_bdDf run_bxDf
theorem Rd.otherF {w w' : World} {B g : Nat} {A : Option Addr} {l : List Fi} {p : Pk} {k : Hs} (h : Rd w B 5 A l.length (fis l)) (hbk : Bk w g PkT (pkC p k)) (hm : w.grownBy w' (some g)) (hB : B ≤ w.heap.size) : Rd w' B 5 A l.length (fis l) := by
  refine h.grown hm hB ?_
  rintro b o rfl hx rfl
  cases l with
  | nil => exact hx rfl
  | cons f l =>
    obtain ⟨b', o', e, -, h0, h1, h2, h3, -⟩ := h.atF (i := 0) (by simp)
    simp only [Option.some.injEq, Addr.mk.injEq] at e
    obtain ⟨rfl, rfl, -⟩ := e
    rw [hbk.cell] at h0 h1 h2 h3
    simp only [Nat.zero_mul, Nat.add_zero, List.getElem_cons_zero] at h0 h1 h2 h3
    have ho : o < 25 := by
      rcases Nat.lt_or_ge o 25 with h | h
      · exact h
      · rw [Array.getElem?_eq_none (by rw [pkC_size]; exact h)] at h0; cases h0
    rcases o with _ | _ | _ | _ | _ | _ | _ | _ | _ | _ | _ | _ | _ | _ | _ | _ | _ | _ | _ | _ | _ | _ | _ | _ | _ | o
    all_goals first | (simp [pkC] at h0; done) | (simp [pkC] at h1; done) | (simp [pkC] at h2; done) | (simp [pkC] at h3; done) | omega
/-- What a packet's codes may lie in: nothing that was there. -/
def PkFresh (w : World) (p : Pk) (h : Hs) : Prop := p.codes = [] ∨ ∀ b o, h.codes.a = some ⟨b, o, none⟩ → w.heap.size ≤ b
theorem PkFresh.mono {w x : World} {p : Pk} {h : Hs} (hf : PkFresh x p h) (hx : w.heap.size ≤ x.heap.size) : PkFresh w p h := hf.imp id fun g b o e => Nat.le_trans hx (g b o e)
theorem PkIn.put {w x y : World} {g : Nat} {p p0 : Pk} {h h0 : Hs} (hi : PkIn x x.heap.size p h) (hbk : Bk x g PkT (pkC p0 h0)) (hm : x.grownBy y (some g)) (hf : PkFresh w p h) (hg : g < w.heap.size) : PkIn y y.heap.size p h := by
  refine ⟨(hi.wp.other hbk (pk_no32 _ _) hm (Nat.le_refl _)).wider hm.size, ?_, (hi.filters.otherF hbk hm (Nat.le_refl _)).wider hm.size, (hi.props.other hbk (pk_no32 _ _) hm (Nat.le_refl _)).wider hm.size, hi.caps⟩
  refine (hi.codes.grown hm (Nat.le_refl _) ?_).wider hm.size
  intro b o e hx
  rcases hf with h | h
  · rw [h] at hx
    exact absurd rfl hx
  · have := h b o e
    omega
/-- What a reading of a packet leaves; its codes in memory of its own. -/
def PkOutD (r : Pk × Int) (w : World) (e : Ending) (w' : World) : Prop := ∃ h, e = .returned (.tuple #[pkV r.1 h, .int .i64 r.2]) ∧ PkIn w' w'.heap.size r.1 h ∧ Below w.heap.size w w' ∧ PkFresh w r.1 h
theorem PkOut.plain {r : Pk × Int} {w w' : World} {e : Ending} (x : PkOut r w e w') (hc : r.1.codes = []) : PkOutD r w e w' := by
  obtain ⟨h, he, hi, hb⟩ := x
  exact ⟨h, he, hi, hb, .inl hc⟩
theorem PkOutC.plain {r : Pk × Int} {w w' : World} {e : Ending} (x : PkOutC r w e w') : PkOutD r w e w' := by
  obtain ⟨h, he, hi, hb, hf⟩ := x
  exact ⟨h, he, hi, hb, .inr hf⟩
theorem cntR_codes (v k : Int) (s : ByteArray) : (cntR v k s).1.codes = [] := by
  rcases cntR_ways (v := v) (k := k) (s := s) with ⟨-, h1⟩ | ⟨-, -, -, -, h5, h6⟩
  · rw [h1]; rfl
  · rw [h6]
    rcases cnt_kind h5 with h | h
    · rw [(cnGood_of h5 h).same]
      unfold cntQ
      split <;> rfl
    · rw [(caGood_of h5 h).same]; rfl
theorem pubR_codes (v f : Int) (s : ByteArray) : (pubR v f s).1.codes = [] := by
  unfold pubR
  repeat' split
  all_goals rfl
theorem ackR_codes (v k : Int) (s : ByteArray) : (ackR v k s).1.codes = [] := by
  unfold ackR
  repeat' split
  all_goals rfl
theorem conR_codes (v k : Int) (s : ByteArray) : (conR v k s).1.codes = [] := by
  unfold conR
  repeat' split
  all_goals rfl
def mqFn (f : FuncId) : Value := .func (.func f) #[] #[]
def wrV (v : Int) (x : Hdr) (s : ByteArray) : Value := .agg #[.int .i64 v, .int .i64 x.k, .int .i64 x.f, .int .i64 x.n, .string s]
set_option maxHeartbeats 400000 in
set_option maxRecDepth 10000 in
theorem dfConnect_any (v : Int) (p : Pk) (h : Hs) (w : World) (ip : PkIn w w.heap.size p h) (ok : PkOk p) :
    Calls Tryz.prog 126 #[dfV v p h] w fun e w' => e = .returned (.tuple #[.string (cntB v p).1, .int .i64 (cntB v p).2]) ∧ Below w.heap.size w w' := by
  have HK := Lib.hid (Bk.fresh w DfT (dfC v p h))
  have hb0 := (Below.refl w.heap.size w).alloc (Nat.le_refl _) (.cells (dfC v p h) DfT)
  have HB := Lib.hid hb0
  have HIP := Lib.hid (ip.next hb0)
  have HOK := Lib.hid ok
  have c0 := df_0 HK.out
  have l1 := ld_df HK.out
  clear ip ok hb0
  go_enter Tryz.func126, Tryz.ntmps126
  go_wp2_with fail
  refine (cntBody_any v p h _ HIP.out HOK.out).mono ?_
  rintro e w1 ⟨rfl, hb⟩
  have HB1 := Lib.hid (HB.out.trans (hb.mono HB.out.size))
  clear hb c0 l1
  go_wp2
  go_ret2
  exact ⟨rfl, HB1.out⟩
set_option maxHeartbeats 400000 in
set_option maxRecDepth 10000 in
theorem dfPublish_any (v : Int) (p : Pk) (h : Hs) (w : World) (ip : PkIn w w.heap.size p h) (ok : PkOk p) :
    Calls Tryz.prog 134 #[dfV v p h] w fun e w' => e = .returned (.tuple #[.string (pubB v p).1, .int .i64 (pubB v p).2]) ∧ Below w.heap.size w w' := by
  have HK := Lib.hid (Bk.fresh w DfT (dfC v p h))
  have hb0 := (Below.refl w.heap.size w).alloc (Nat.le_refl _) (.cells (dfC v p h) DfT)
  have HB := Lib.hid hb0
  have HIP := Lib.hid (ip.next hb0)
  have HOK := Lib.hid ok
  have c0 := df_0 HK.out
  have l1 := ld_df HK.out
  clear ip ok hb0
  go_enter Tryz.func134, Tryz.ntmps134
  go_wp2_with fail
  refine (pubBody_any v p h _ HIP.out HOK.out).mono ?_
  rintro e w1 ⟨rfl, hb⟩
  have HB1 := Lib.hid (HB.out.trans (hb.mono HB.out.size))
  clear hb c0 l1
  go_wp2
  go_ret2
  exact ⟨rfl, HB1.out⟩
set_option maxHeartbeats 400000 in
set_option maxRecDepth 10000 in
theorem dfAck_any (v : Int) (p : Pk) (h : Hs) (w : World) (ip : PkIn w w.heap.size p h) (ok : PkOk p) :
    Calls Tryz.prog 128 #[dfV v p h] w fun e w' => e = .returned (.tuple #[.string ⟨(ackB v p).1.toArray⟩, .int .i64 (ackB v p).2]) ∧ Below w.heap.size w w' := by
  have HK := Lib.hid (Bk.fresh w DfT (dfC v p h))
  have hb0 := (Below.refl w.heap.size w).alloc (Nat.le_refl _) (.cells (dfC v p h) DfT)
  have HB := Lib.hid hb0
  have HIP := Lib.hid (ip.next hb0)
  have HOK := Lib.hid ok
  have c0 := df_0 HK.out
  have l1 := ld_df HK.out
  clear ip ok hb0
  go_enter Tryz.func128, Tryz.ntmps128
  go_wp2_with fail
  refine (ackBody_any v p h _ HIP.out HOK.out).mono ?_
  rintro e w1 ⟨rfl, hb⟩
  have HB1 := Lib.hid (HB.out.trans (hb.mono HB.out.size))
  clear hb c0 l1
  go_wp2
  go_ret2
  exact ⟨rfl, HB1.out⟩
set_option maxHeartbeats 400000 in
set_option maxRecDepth 10000 in
theorem dfSubscribe_any (v : Int) (p : Pk) (h : Hs) (w : World) (ip : PkIn w w.heap.size p h) (ok : PkOk p) (hz : (sbS v p).length ≤ 140737488351232) :
    Calls Tryz.prog 130 #[dfV v p h] w fun e w' => e = .returned (.tuple #[.string (sbB v p).1, .int .i64 (sbB v p).2]) ∧ Below w.heap.size w w' := by
  have HK := Lib.hid (Bk.fresh w DfT (dfC v p h))
  have hb0 := (Below.refl w.heap.size w).alloc (Nat.le_refl _) (.cells (dfC v p h) DfT)
  have HB := Lib.hid hb0
  have HIP := Lib.hid (ip.next hb0)
  have HOK := Lib.hid ok
  have c0 := df_0 HK.out
  have l1 := ld_df HK.out
  clear ip ok hb0
  go_enter Tryz.func130, Tryz.ntmps130
  go_wp2_with fail
  refine (sbBody_any v p h _ HIP.out HOK.out hz).mono ?_
  rintro e w1 ⟨rfl, hb⟩
  have HB1 := Lib.hid (HB.out.trans (hb.mono HB.out.size))
  clear hb c0 l1
  go_wp2
  go_ret2
  exact ⟨rfl, HB1.out⟩
set_option maxHeartbeats 400000 in
set_option maxRecDepth 10000 in
theorem dfControl_any (v : Int) (p : Pk) (h : Hs) (w : World) (ip : PkIn w w.heap.size p h) (ok : PkOk p) :
    Calls Tryz.prog 132 #[dfV v p h] w fun e w' => e = .returned (.tuple #[.string ⟨(conB v p).1.toArray⟩, .int .i64 (conB v p).2]) ∧ Below w.heap.size w w' := by
  have HK := Lib.hid (Bk.fresh w DfT (dfC v p h))
  have hb0 := (Below.refl w.heap.size w).alloc (Nat.le_refl _) (.cells (dfC v p h) DfT)
  have HB := Lib.hid hb0
  have HIP := Lib.hid (ip.next hb0)
  have HOK := Lib.hid ok
  have c0 := df_0 HK.out
  have l1 := ld_df HK.out
  clear ip ok hb0
  go_enter Tryz.func132, Tryz.ntmps132
  go_wp2_with fail
  refine (conBody_any v p h _ HIP.out HOK.out).mono ?_
  rintro e w1 ⟨rfl, hb⟩
  have HB1 := Lib.hid (HB.out.trans (hb.mono HB.out.size))
  clear hb c0 l1
  go_wp2
  go_ret2
  exact ⟨rfl, HB1.out⟩
set_option maxHeartbeats 400000 in
set_option maxRecDepth 10000 in
theorem wrConnect_any (v : Int) (x : Hdr) (s : ByteArray) (w : World) (hs : s.size ≤ 1000000000000) :
    Calls Tryz.prog 127 #[wrV v x s] w (PkOutD (cntR v x.k s) w) := by
  have HS := Lib.hid hs
  have HB := Lib.hid (((Below.refl w.heap.size w).alloc (Nat.le_refl _) (.cells #[.int .i64 v, .int .i64 x.k, .int .i64 x.f, .int .i64 x.n, .string s] WrT)).alloc (by simp) (.cells (pkC pk0 hs0) PkT))
  have K0 := Lib.hid ((Bk.fresh w WrT #[.int .i64 v, .int .i64 x.k, .int .i64 x.f, .int .i64 x.n, .string s]).alloc (.cells (pkC pk0 hs0) PkT))
  have K1 := Lib.hid (Bk.fresh (w.alloc (.cells #[.int .i64 v, .int .i64 x.k, .int .i64 x.f, .int .i64 x.n, .string s] WrT)) PkT (pkC pk0 hs0))
  have c0 := K0.out.cell 0; have c1 := K0.out.cell 1; have c2 := K0.out.cell 2; have c4 := K0.out.cell 4
  simp only [List.getElem?_toArray, List.getElem?_cons_succ, List.getElem?_cons_zero] at c0 c1 c2 c4
  clear hs
  unfold wrV
  go_enter Tryz.func127, Tryz.ntmps127
  go_wp2_with fail
  refine (cntRead_any v x.k s _ (by have := HS.out; omega)).mono ?_
  rintro e w1 hO
  obtain ⟨hh, rfl, hi, hb, hf⟩ := hO.plain (cntR_codes _ _ _)
  have HF := Lib.hid hf
  have HB1 := Lib.hid (HB.out.trans (hb.mono HB.out.size))
  have HI1 := Lib.hid hi
  have K2 := Lib.hid (K1.out.below hb K1.out.lt)
  clear c0 c1 c2 c4
  have hsz : (w.alloc (.cells #[.int .i64 v, .int .i64 x.k, .int .i64 x.f, .int .i64 x.n, .string s] WrT)).heap.size = w.heap.size + 1 := by simp
  rw [hsz] at K2
  clear hsz
  have hst := run_stPk K2.out (cntR v x.k s).1 hh
  have HG : Hid (w.heap.size ≤ w.heap.size + 1) := Lib.hid (by omega)
  clear hi hb hf hO
  generalize cntR v x.k s = R at *
  go_wp2
  refine bodyPost_ret (results_pk rfl _ rfl (put_bk K2.out R.1 hh)) rfl ?_
  have hb2 := below_put HB1.out HB1.out.size HG.out R.1 hh
  exact ⟨hh, rfl, HI1.out.put K2.out (putPk_mods _ _ _ _) HF.out (by simp), hb2, HF.out.mono (by simp; omega)⟩
set_option maxHeartbeats 400000 in
set_option maxRecDepth 10000 in
theorem wrPublish_any (v : Int) (x : Hdr) (s : ByteArray) (w : World) (hs : s.size ≤ 1000000000000) :
    Calls Tryz.prog 135 #[wrV v x s] w (PkOutD (pubR v x.f s) w) := by
  have HS := Lib.hid hs
  have HB := Lib.hid (((Below.refl w.heap.size w).alloc (Nat.le_refl _) (.cells #[.int .i64 v, .int .i64 x.k, .int .i64 x.f, .int .i64 x.n, .string s] WrT)).alloc (by simp) (.cells (pkC pk0 hs0) PkT))
  have K0 := Lib.hid ((Bk.fresh w WrT #[.int .i64 v, .int .i64 x.k, .int .i64 x.f, .int .i64 x.n, .string s]).alloc (.cells (pkC pk0 hs0) PkT))
  have K1 := Lib.hid (Bk.fresh (w.alloc (.cells #[.int .i64 v, .int .i64 x.k, .int .i64 x.f, .int .i64 x.n, .string s] WrT)) PkT (pkC pk0 hs0))
  have c0 := K0.out.cell 0; have c1 := K0.out.cell 1; have c2 := K0.out.cell 2; have c4 := K0.out.cell 4
  simp only [List.getElem?_toArray, List.getElem?_cons_succ, List.getElem?_cons_zero] at c0 c1 c2 c4
  clear hs
  unfold wrV
  go_enter Tryz.func135, Tryz.ntmps135
  go_wp2_with fail
  refine (pubRead_any v x.f s _ (by have := HS.out; omega)).mono ?_
  rintro e w1 hO
  obtain ⟨hh, rfl, hi, hb, hf⟩ := hO.plain (pubR_codes _ _ _)
  have HF := Lib.hid hf
  have HB1 := Lib.hid (HB.out.trans (hb.mono HB.out.size))
  have HI1 := Lib.hid hi
  have K2 := Lib.hid (K1.out.below hb K1.out.lt)
  clear c0 c1 c2 c4
  have hsz : (w.alloc (.cells #[.int .i64 v, .int .i64 x.k, .int .i64 x.f, .int .i64 x.n, .string s] WrT)).heap.size = w.heap.size + 1 := by simp
  rw [hsz] at K2
  clear hsz
  have hst := run_stPk K2.out (pubR v x.f s).1 hh
  have HG : Hid (w.heap.size ≤ w.heap.size + 1) := Lib.hid (by omega)
  clear hi hb hf hO
  generalize pubR v x.f s = R at *
  go_wp2
  refine bodyPost_ret (results_pk rfl _ rfl (put_bk K2.out R.1 hh)) rfl ?_
  have hb2 := below_put HB1.out HB1.out.size HG.out R.1 hh
  exact ⟨hh, rfl, HI1.out.put K2.out (putPk_mods _ _ _ _) HF.out (by simp), hb2, HF.out.mono (by simp; omega)⟩
set_option maxHeartbeats 400000 in
set_option maxRecDepth 10000 in
theorem wrAck_any (v : Int) (x : Hdr) (s : ByteArray) (w : World) (hs : s.size ≤ 1000000000000) :
    Calls Tryz.prog 129 #[wrV v x s] w (PkOutD (ackR v x.k s) w) := by
  have HS := Lib.hid hs
  have HB := Lib.hid (((Below.refl w.heap.size w).alloc (Nat.le_refl _) (.cells #[.int .i64 v, .int .i64 x.k, .int .i64 x.f, .int .i64 x.n, .string s] WrT)).alloc (by simp) (.cells (pkC pk0 hs0) PkT))
  have K0 := Lib.hid ((Bk.fresh w WrT #[.int .i64 v, .int .i64 x.k, .int .i64 x.f, .int .i64 x.n, .string s]).alloc (.cells (pkC pk0 hs0) PkT))
  have K1 := Lib.hid (Bk.fresh (w.alloc (.cells #[.int .i64 v, .int .i64 x.k, .int .i64 x.f, .int .i64 x.n, .string s] WrT)) PkT (pkC pk0 hs0))
  have c0 := K0.out.cell 0; have c1 := K0.out.cell 1; have c2 := K0.out.cell 2; have c4 := K0.out.cell 4
  simp only [List.getElem?_toArray, List.getElem?_cons_succ, List.getElem?_cons_zero] at c0 c1 c2 c4
  clear hs
  unfold wrV
  go_enter Tryz.func129, Tryz.ntmps129
  go_wp2_with fail
  refine (ackRead_any v x.k s _ (by have := HS.out; omega)).mono ?_
  rintro e w1 hO
  obtain ⟨hh, rfl, hi, hb, hf⟩ := hO.plain (ackR_codes _ _ _)
  have HF := Lib.hid hf
  have HB1 := Lib.hid (HB.out.trans (hb.mono HB.out.size))
  have HI1 := Lib.hid hi
  have K2 := Lib.hid (K1.out.below hb K1.out.lt)
  clear c0 c1 c2 c4
  have hsz : (w.alloc (.cells #[.int .i64 v, .int .i64 x.k, .int .i64 x.f, .int .i64 x.n, .string s] WrT)).heap.size = w.heap.size + 1 := by simp
  rw [hsz] at K2
  clear hsz
  have hst := run_stPk K2.out (ackR v x.k s).1 hh
  have HG : Hid (w.heap.size ≤ w.heap.size + 1) := Lib.hid (by omega)
  clear hi hb hf hO
  generalize ackR v x.k s = R at *
  go_wp2
  refine bodyPost_ret (results_pk rfl _ rfl (put_bk K2.out R.1 hh)) rfl ?_
  have hb2 := below_put HB1.out HB1.out.size HG.out R.1 hh
  exact ⟨hh, rfl, HI1.out.put K2.out (putPk_mods _ _ _ _) HF.out (by simp), hb2, HF.out.mono (by simp; omega)⟩
set_option maxHeartbeats 400000 in
set_option maxRecDepth 10000 in
theorem wrSubscribe_any (v : Int) (x : Hdr) (s : ByteArray) (w : World) (hs : s.size ≤ 1000000000000) :
    Calls Tryz.prog 131 #[wrV v x s] w (PkOutD (sbR v x.k s) w) := by
  have HS := Lib.hid hs
  have HB := Lib.hid (((Below.refl w.heap.size w).alloc (Nat.le_refl _) (.cells #[.int .i64 v, .int .i64 x.k, .int .i64 x.f, .int .i64 x.n, .string s] WrT)).alloc (by simp) (.cells (pkC pk0 hs0) PkT))
  have K0 := Lib.hid ((Bk.fresh w WrT #[.int .i64 v, .int .i64 x.k, .int .i64 x.f, .int .i64 x.n, .string s]).alloc (.cells (pkC pk0 hs0) PkT))
  have K1 := Lib.hid (Bk.fresh (w.alloc (.cells #[.int .i64 v, .int .i64 x.k, .int .i64 x.f, .int .i64 x.n, .string s] WrT)) PkT (pkC pk0 hs0))
  have c0 := K0.out.cell 0; have c1 := K0.out.cell 1; have c2 := K0.out.cell 2; have c4 := K0.out.cell 4
  simp only [List.getElem?_toArray, List.getElem?_cons_succ, List.getElem?_cons_zero] at c0 c1 c2 c4
  clear hs
  unfold wrV
  go_enter Tryz.func131, Tryz.ntmps131
  go_wp2_with fail
  refine (sbReadC_any v x.k s _ HS.out).mono ?_
  rintro e w1 hO
  obtain ⟨hh, rfl, hi, hb, hf⟩ := hO.plain
  have HF := Lib.hid hf
  have HB1 := Lib.hid (HB.out.trans (hb.mono HB.out.size))
  have HI1 := Lib.hid hi
  have K2 := Lib.hid (K1.out.below hb K1.out.lt)
  clear c0 c1 c2 c4
  have hsz : (w.alloc (.cells #[.int .i64 v, .int .i64 x.k, .int .i64 x.f, .int .i64 x.n, .string s] WrT)).heap.size = w.heap.size + 1 := by simp
  rw [hsz] at K2
  clear hsz
  have hst := run_stPk K2.out (sbR v x.k s).1 hh
  have HG : Hid (w.heap.size ≤ w.heap.size + 1) := Lib.hid (by omega)
  clear hi hb hf hO
  generalize sbR v x.k s = R at *
  go_wp2
  refine bodyPost_ret (results_pk rfl _ rfl (put_bk K2.out R.1 hh)) rfl ?_
  have hb2 := below_put HB1.out HB1.out.size HG.out R.1 hh
  exact ⟨hh, rfl, HI1.out.put K2.out (putPk_mods _ _ _ _) HF.out (by simp), hb2, HF.out.mono (by simp; omega)⟩
set_option maxHeartbeats 400000 in
set_option maxRecDepth 10000 in
theorem wrControl_any (v : Int) (x : Hdr) (s : ByteArray) (w : World) (hs : s.size ≤ 1000000000000) :
    Calls Tryz.prog 133 #[wrV v x s] w (PkOutD (conR v x.k s) w) := by
  have HS := Lib.hid hs
  have HB := Lib.hid (((Below.refl w.heap.size w).alloc (Nat.le_refl _) (.cells #[.int .i64 v, .int .i64 x.k, .int .i64 x.f, .int .i64 x.n, .string s] WrT)).alloc (by simp) (.cells (pkC pk0 hs0) PkT))
  have K0 := Lib.hid ((Bk.fresh w WrT #[.int .i64 v, .int .i64 x.k, .int .i64 x.f, .int .i64 x.n, .string s]).alloc (.cells (pkC pk0 hs0) PkT))
  have K1 := Lib.hid (Bk.fresh (w.alloc (.cells #[.int .i64 v, .int .i64 x.k, .int .i64 x.f, .int .i64 x.n, .string s] WrT)) PkT (pkC pk0 hs0))
  have c0 := K0.out.cell 0; have c1 := K0.out.cell 1; have c2 := K0.out.cell 2; have c4 := K0.out.cell 4
  simp only [List.getElem?_toArray, List.getElem?_cons_succ, List.getElem?_cons_zero] at c0 c1 c2 c4
  clear hs
  unfold wrV
  go_enter Tryz.func133, Tryz.ntmps133
  go_wp2_with fail
  refine (conRead_any v x.k s _ (by have := HS.out; omega)).mono ?_
  rintro e w1 hO
  obtain ⟨hh, rfl, hi, hb, hf⟩ := hO.plain (conR_codes _ _ _)
  have HF := Lib.hid hf
  have HB1 := Lib.hid (HB.out.trans (hb.mono HB.out.size))
  have HI1 := Lib.hid hi
  have K2 := Lib.hid (K1.out.below hb K1.out.lt)
  clear c0 c1 c2 c4
  have hsz : (w.alloc (.cells #[.int .i64 v, .int .i64 x.k, .int .i64 x.f, .int .i64 x.n, .string s] WrT)).heap.size = w.heap.size + 1 := by simp
  rw [hsz] at K2
  clear hsz
  have hst := run_stPk K2.out (conR v x.k s).1 hh
  have HG : Hid (w.heap.size ≤ w.heap.size + 1) := Lib.hid (by omega)
  clear hi hb hf hO
  generalize conR v x.k s = R at *
  go_wp2
  refine bodyPost_ret (results_pk rfl _ rfl (put_bk K2.out R.1 hh)) rfl ?_
  have hb2 := below_put HB1.out HB1.out.size HG.out R.1 hh
  exact ⟨hh, rfl, HI1.out.put K2.out (putPk_mods _ _ _ _) HF.out (by simp), hb2, HF.out.mono (by simp; omega)⟩
end Go.Proofs.YtbahnolmlodcdaaGreatDoor

