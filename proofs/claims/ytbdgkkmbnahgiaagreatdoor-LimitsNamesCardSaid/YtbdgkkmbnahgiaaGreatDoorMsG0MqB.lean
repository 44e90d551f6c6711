/- A part of what the laws stand on: MqB, PkR, MsR, MqJ, MsA, MqC. -/
import Derived.Test.YtbdgkkmbnahgiaaGreatDoorMsG0SubJ
namespace Go.Proofs.YtbdgkkmbnahgiaaGreatDoor
open Go.RowKit
attribute [local go_sem ↓] to_ldPk to_bxPk to_bdPk to_alPk to_stPk
attribute [local go_sem] run_bxPk run_bxPk_agg ld_fresh run_alPk run_bd0 run_bdK run_bdKI run_bdKIC run_bdKC run_bdKICP run_stPk_fresh pkC_0 pkC_1 pkC_2 pkC_3 pkC_4 pkC_5 pkC_6 pkC_7 pkC_8 pkC_9 pkC_10 pkC_11 pkC_12 pkC_13 pkC_14 pkC_15 pkC_16 pkC_17 pkC_18 pkC_19 pkC_20 pkC_21 pkC_22 pkC_23 pkC_24
abbrev DfT : TypeId := 163
abbrev WrT : TypeId := 124
abbrev ChT : TypeId := 120
/-- A draft's cells. -/
def dfC (v : Int) (p : Pk) (h : Hs) : Array Value := #[.int .i64 v] ++ pkC p h
def dfV (v : Int) (p : Pk) (h : Hs) : Value := .agg (dfC v p h)
def bdDf (v : Array (Nat × Value)) : Sem Value := Instr.build DfT v
def bxDf (v : Value) : Sem Value := Instr.box DfT v
theorem to_bdDf (v : Array (Nat × Value)) : Instr.build DfT v = bdDf v := rfl
theorem to_bxDf (v : Value) : Instr.box DfT v = bxDf v := rfl
theorem run_bdDf (v : Int) (p : Pk) (h : Hs) (w : World) : (bdDf #[(0, .int .i64 v), (1, pkV p h)]).run Tryz.prog w = .ok (dfV v p h) w := by kernel_rfl
theorem run_bxDf (v : Int) (p : Pk) (h : Hs) (w : World) : (bxDf (dfV v p h)).run Tryz.prog w = .ok (.pointer (some ⟨w.heap.size, 0, none⟩)) (w.alloc (.cells (dfC v p h) DfT)) := rfl
theorem df_0 {w : World} {g : Nat} {v : Int} {p : Pk} {h : Hs} (hb : Bk w g DfT (dfC v p h)) : w.cell? ⟨g, 0, none⟩ = some (.int .i64 v) := by
  rw [hb.cell]
  unfold dfC
  rw [Array.getElem?_append_left (by simp)]
  rfl
theorem ld_df {w : World} {g : Nat} {v : Int} {p : Pk} {h : Hs} (hb : Bk w g DfT (dfC v p h)) : (ldPk (.pointer (some ⟨g, 1, none⟩))).run Tryz.prog w = .ok (pkV p h) w := by
  unfold ldPk
  have hc : w.rangeAt g 1 (pkC p h).toList := fun j u hu => by
    rw [hb.cell]
    unfold dfC
    rw [Array.getElem?_append_right (by simp)]
    simpa using hu
  exact run_loadAt_mid w g 1 PkT (pkC p h).toList _ hc Tryz.underlying29 rfl (by rw [Array.length_toList, pkC_size]; exact info_pk)
attribute [local go_sem ↓] to_bdDf to_bxDf
attribute [local go_sem] run_bdDf run_bxDf
theorem Rd.otherF {w w' : World} {B g : Nat} {A : Option Addr} {l : List Fi} {p : Pk} {k : Hs} (h : Rd w B 5 A l.length (fis l)) (hbk : Bk w g PkT (pkC p k)) (hm : w.grownBy w' (some g)) (hB : B ≤ w.heap.size) : Rd w' B 5 A l.length (fis l) := by
  refine h.grown hm hB ?_
  rintro b o rfl hx rfl
  cases l with
  | nil => exact hx rfl
  | cons f l =>
    obtain ⟨b', o', e, -, h0, h1, h2, h3, -⟩ := h.atF (i := 0) (by simp)
    simp only [Option.some.injEq, Addr.mk.injEq] at e
    obtain ⟨rfl, rfl, -⟩ := e
    rw [hbk.cell] at h0 h1 h2 h3
    simp only [Nat.zero_mul, Nat.add_zero, List.getElem_cons_zero] at h0 h1 h2 h3
    have ho : o < 25 := by
      rcases Nat.lt_or_ge o 25 with h | h
      · exact h
      · rw [Array.getElem?_eq_none (by rw [pkC_size]; exact h)] at h0; cases h0
    rcases o with _ | _ | _ | _ | _ | _ | _ | _ | _ | _ | _ | _ | _ | _ | _ | _ | _ | _ | _ | _ | _ | _ | _ | _ | _ | o
    all_goals first | (simp [pkC] at h0; done) | (simp [pkC] at h1; done) | (simp [pkC] at h2; done) | (simp [pkC] at h3; done) | omega
/-- What a packet's codes may lie in: nothing that was there. -/
def PkFresh (w : World) (p : Pk) (h : Hs) : Prop := p.codes = [] ∨ ∀ b o, h.codes.a = some ⟨b, o, none⟩ → w.heap.size ≤ b
theorem PkFresh.mono {w x : World} {p : Pk} {h : Hs} (hf : PkFresh x p h) (hx : w.heap.size ≤ x.heap.size) : PkFresh w p h := hf.imp id fun g b o e => Nat.le_trans hx (g b o e)
theorem PkIn.put {w x y : World} {g : Nat} {p p0 : Pk} {h h0 : Hs} (hi : PkIn x x.heap.size p h) (hbk : Bk x g PkT (pkC p0 h0)) (hm : x.grownBy y (some g)) (hf : PkFresh w p h) (hg : g < w.heap.size) : PkIn y y.heap.size p h := by
  refine ⟨(hi.wp.other hbk (pk_no32 _ _) hm (Nat.le_refl _)).wider hm.size, ?_, (hi.filters.otherF hbk hm (Nat.le_refl _)).wider hm.size, (hi.props.other hbk (pk_no32 _ _) hm (Nat.le_refl _)).wider hm.size, hi.caps⟩
  refine (hi.codes.grown hm (Nat.le_refl _) ?_).wider hm.size
  intro b o e hx
  rcases hf with h | h
  · rw [h] at hx
    exact absurd rfl hx
  · have := h b o e
    omega
/-- What a reading of a packet leaves; its codes in memory of its own. -/
def PkOutD (r : Pk × Int) (w : World) (e : Ending) (w' : World) : Prop := ∃ h, e = .returned (.tuple #[pkV r.1 h, .int .i64 r.2]) ∧ PkIn w' w'.heap.size r.1 h ∧ Below w.heap.size w w' ∧ PkFresh w r.1 h
theorem PkOut.plain {r : Pk × Int} {w w' : World} {e : Ending} (x : PkOut r w e w') (hc : r.1.codes = []) : PkOutD r w e w' := by
  obtain ⟨h, he, hi, hb⟩ := x
  exact ⟨h, he, hi, hb, .inl hc⟩
theorem PkOutC.plain {r : Pk × Int} {w w' : World} {e : Ending} (x : PkOutC r w e w') : PkOutD r w e w' := by
  obtain ⟨h, he, hi, hb, hf⟩ := x
  exact ⟨h, he, hi, hb, .inr hf⟩
theorem cntR_codes (v k : Int) (s : ByteArray) : (cntR v k s).1.codes = [] := by
  rcases cntR_ways (v := v) (k := k) (s := s) with ⟨-, h1⟩ | ⟨-, -, -, -, h5, h6⟩
  · rw [h1]; rfl
  · rw [h6]
    rcases cnt_kind h5 with h | h
    · rw [(cnGood_of h5 h).same]
      unfold cntQ
      split <;> rfl
    · rw [(caGood_of h5 h).same]; rfl
theorem pubR_codes (v f : Int) (s : ByteArray) : (pubR v f s).1.codes = [] := by
  unfold pubR
  repeat' split
  all_goals rfl
theorem ackR_codes (v k : Int) (s : ByteArray) : (ackR v k s).1.codes = [] := by
  unfold ackR
  repeat' split
  all_goals rfl
theorem conR_codes (v k : Int) (s : ByteArray) : (conR v k s).1.codes = [] := by
  unfold conR
  repeat' split
  all_goals rfl
def mqFn (f : FuncId) : Value := .func (.func f) #[] #[]
def wrV (v : Int) (x : Hdr) (s : ByteArray) : Value := .agg #[.int .i64 v, .int .i64 x.k, .int .i64 x.f, .int .i64 x.n, .string s]
set_option maxHeartbeats 400000 in
set_option maxRecDepth 10000 in
theorem dfConnect_any (v : Int) (p : Pk) (h : Hs) (w : World) (ip : PkIn w w.heap.size p h) (ok : PkOk p) :
    Calls Tryz.prog 136 #[dfV v p h] w fun e w' => e = .returned (.tuple #[.string (cntB v p).1, .int .i64 (cntB v p).2]) ∧ Below w.heap.size w w' := by
  have HK := Lib.hid (Bk.fresh w DfT (dfC v p h))
  have hb0 := (Below.refl w.heap.size w).alloc (Nat.le_refl _) (.cells (dfC v p h) DfT)
  have HB := Lib.hid hb0
  have HIP := Lib.hid (ip.next hb0)
  have HOK := Lib.hid ok
  have c0 := df_0 HK.out
  have l1 := ld_df HK.out
  clear ip ok hb0
  go_enter Tryz.func136, Tryz.ntmps136
  go_wp2_with fail
  refine (cntBody_any v p h _ HIP.out HOK.out).mono ?_
  rintro e w1 ⟨rfl, hb⟩
  have HB1 := Lib.hid (HB.out.trans (hb.mono HB.out.size))
  clear hb c0 l1
  go_wp2
  go_ret2
  exact ⟨rfl, HB1.out⟩
set_option maxHeartbeats 400000 in
set_option maxRecDepth 10000 in
theorem dfPublish_any (v : Int) (p : Pk) (h : Hs) (w : World) (ip : PkIn w w.heap.size p h) (ok : PkOk p) :
    Calls Tryz.prog 144 #[dfV v p h] w fun e w' => e = .returned (.tuple #[.string (pubB v p).1, .int .i64 (pubB v p).2]) ∧ Below w.heap.size w w' := by
  have HK := Lib.hid (Bk.fresh w DfT (dfC v p h))
  have hb0 := (Below.refl w.heap.size w).alloc (Nat.le_refl _) (.cells (dfC v p h) DfT)
  have HB := Lib.hid hb0
  have HIP := Lib.hid (ip.next hb0)
  have HOK := Lib.hid ok
  have c0 := df_0 HK.out
  have l1 := ld_df HK.out
  clear ip ok hb0
  go_enter Tryz.func144, Tryz.ntmps144
  go_wp2_with fail
  refine (pubBody_any v p h _ HIP.out HOK.out).mono ?_
  rintro e w1 ⟨rfl, hb⟩
  have HB1 := Lib.hid (HB.out.trans (hb.mono HB.out.size))
  clear hb c0 l1
  go_wp2
  go_ret2
  exact ⟨rfl, HB1.out⟩
set_option maxHeartbeats 400000 in
set_option maxRecDepth 10000 in
theorem dfAck_any (v : Int) (p : Pk) (h : Hs) (w : World) (ip : PkIn w w.heap.size p h) (ok : PkOk p) :
    Calls Tryz.prog 138 #[dfV v p h] w fun e w' => e = .returned (.tuple #[.string ⟨(ackB v p).1.toArray⟩, .int .i64 (ackB v p).2]) ∧ Below w.heap.size w w' := by
  have HK := Lib.hid (Bk.fresh w DfT (dfC v p h))
  have hb0 := (Below.refl w.heap.size w).alloc (Nat.le_refl _) (.cells (dfC v p h) DfT)
  have HB := Lib.hid hb0
  have HIP := Lib.hid (ip.next hb0)
  have HOK := Lib.hid ok
  have c0 := df_0 HK.out
  have l1 := ld_df HK.out
  clear ip ok hb0
  go_enter Tryz.func138, Tryz.ntmps138
  go_wp2_with fail
  refine (ackBody_any v p h _ HIP.out HOK.out).mono ?_
  rintro e w1 ⟨rfl, hb⟩
  have HB1 := Lib.hid (HB.out.trans (hb.mono HB.out.size))
  clear hb c0 l1
  go_wp2
  go_ret2
  exact ⟨rfl, HB1.out⟩
set_option maxHeartbeats 400000 in
set_option maxRecDepth 10000 in
theorem dfSubscribe_any (v : Int) (p : Pk) (h : Hs) (w : World) (ip : PkIn w w.heap.size p h) (ok : PkOk p) (hz : (sbS v p).length ≤ 140737488351232) :
    Calls Tryz.prog 140 #[dfV v p h] w fun e w' => e = .returned (.tuple #[.string (sbB v p).1, .int .i64 (sbB v p).2]) ∧ Below w.heap.size w w' := by
  have HK := Lib.hid (Bk.fresh w DfT (dfC v p h))
  have hb0 := (Below.refl w.heap.size w).alloc (Nat.le_refl _) (.cells (dfC v p h) DfT)
  have HB := Lib.hid hb0
  have HIP := Lib.hid (ip.next hb0)
  have HOK := Lib.hid ok
  have c0 := df_0 HK.out
  have l1 := ld_df HK.out
  clear ip ok hb0
  go_enter Tryz.func140, Tryz.ntmps140
  go_wp2_with fail
  refine (sbBody_any v p h _ HIP.out HOK.out hz).mono ?_
  rintro e w1 ⟨rfl, hb⟩
  have HB1 := Lib.hid (HB.out.trans (hb.mono HB.out.size))
  clear hb c0 l1
  go_wp2
  go_ret2
  exact ⟨rfl, HB1.out⟩
set_option maxHeartbeats 400000 in
set_option maxRecDepth 10000 in
theorem dfControl_any (v : Int) (p : Pk) (h : Hs) (w : World) (ip : PkIn w w.heap.size p h) (ok : PkOk p) :
    Calls Tryz.prog 142 #[dfV v p h] w fun e w' => e = .returned (.tuple #[.string ⟨(conB v p).1.toArray⟩, .int .i64 (conB v p).2]) ∧ Below w.heap.size w w' := by
  have HK := Lib.hid (Bk.fresh w DfT (dfC v p h))
  have hb0 := (Below.refl w.heap.size w).alloc (Nat.le_refl _) (.cells (dfC v p h) DfT)
  have HB := Lib.hid hb0
  have HIP := Lib.hid (ip.next hb0)
  have HOK := Lib.hid ok
  have c0 := df_0 HK.out
  have l1 := ld_df HK.out
  clear ip ok hb0
  go_enter Tryz.func142, Tryz.ntmps142
  go_wp2_with fail
  refine (conBody_any v p h _ HIP.out HOK.out).mono ?_
  rintro e w1 ⟨rfl, hb⟩
  have HB1 := Lib.hid (HB.out.trans (hb.mono HB.out.size))
  clear hb c0 l1
  go_wp2
  go_ret2
  exact ⟨rfl, HB1.out⟩
set_option maxHeartbeats 400000 in
set_option maxRecDepth 10000 in
theorem wrConnect_any (v : Int) (x : Hdr) (s : ByteArray) (w : World) (hs : s.size ≤ 1000000000000) :
    Calls Tryz.prog 137 #[wrV v x s] w (PkOutD (cntR v x.k s) w) := by
  have HS := Lib.hid hs
  have HB := Lib.hid (((Below.refl w.heap.size w).alloc (Nat.le_refl _) (.cells #[.int .i64 v, .int .i64 x.k, .int .i64 x.f, .int .i64 x.n, .string s] WrT)).alloc (by simp) (.cells (pkC pk0 hs0) PkT))
  have K0 := Lib.hid ((Bk.fresh w WrT #[.int .i64 v, .int .i64 x.k, .int .i64 x.f, .int .i64 x.n, .string s]).alloc (.cells (pkC pk0 hs0) PkT))
  have K1 := Lib.hid (Bk.fresh (w.alloc (.cells #[.int .i64 v, .int .i64 x.k, .int .i64 x.f, .int .i64 x.n, .string s] WrT)) PkT (pkC pk0 hs0))
  have c0 := K0.out.cell 0; have c1 := K0.out.cell 1; have c2 := K0.out.cell 2; have c4 := K0.out.cell 4
  simp only [List.getElem?_toArray, List.getElem?_cons_succ, List.getElem?_cons_zero] at c0 c1 c2 c4
  clear hs
  unfold wrV
  go_enter Tryz.func137, Tryz.ntmps137
  go_wp2_with fail
  refine (cntRead_any v x.k s _ (by have := HS.out; omega)).mono ?_
  rintro e w1 hO
  obtain ⟨hh, rfl, hi, hb, hf⟩ := hO.plain (cntR_codes _ _ _)
  have HF := Lib.hid hf
  have HB1 := Lib.hid (HB.out.trans (hb.mono HB.out.size))
  have HI1 := Lib.hid hi
  have K2 := Lib.hid (K1.out.below hb K1.out.lt)
  clear c0 c1 c2 c4
  have hsz : (w.alloc (.cells #[.int .i64 v, .int .i64 x.k, .int .i64 x.f, .int .i64 x.n, .string s] WrT)).heap.size = w.heap.size + 1 := by simp
  rw [hsz] at K2
  clear hsz
  have hst := run_stPk K2.out (cntR v x.k s).1 hh
  have HG : Hid (w.heap.size ≤ w.heap.size + 1) := Lib.hid (by omega)
  clear hi hb hf hO
  generalize cntR v x.k s = R at *
  go_wp2
  refine bodyPost_ret (results_pk rfl _ rfl (put_bk K2.out R.1 hh)) rfl ?_
  have hb2 := below_put HB1.out HB1.out.size HG.out R.1 hh
  exact ⟨hh, rfl, HI1.out.put K2.out (putPk_mods _ _ _ _) HF.out (by simp), hb2, HF.out.mono (by simp; omega)⟩
set_option maxHeartbeats 400000 in
set_option maxRecDepth 10000 in
theorem wrPublish_any (v : Int) (x : Hdr) (s : ByteArray) (w : World) (hs : s.size ≤ 1000000000000) :
    Calls Tryz.prog 145 #[wrV v x s] w (PkOutD (pubR v x.f s) w) := by
  have HS := Lib.hid hs
  have HB := Lib.hid (((Below.refl w.heap.size w).alloc (Nat.le_refl _) (.cells #[.int .i64 v, .int .i64 x.k, .int .i64 x.f, .int .i64 x.n, .string s] WrT)).alloc (by simp) (.cells (pkC pk0 hs0) PkT))
  have K0 := Lib.hid ((Bk.fresh w WrT #[.int .i64 v, .int .i64 x.k, .int .i64 x.f, .int .i64 x.n, .string s]).alloc (.cells (pkC pk0 hs0) PkT))
  have K1 := Lib.hid (Bk.fresh (w.alloc (.cells #[.int .i64 v, .int .i64 x.k, .int .i64 x.f, .int .i64 x.n, .string s] WrT)) PkT (pkC pk0 hs0))
  have c0 := K0.out.cell 0; have c1 := K0.out.cell 1; have c2 := K0.out.cell 2; have c4 := K0.out.cell 4
  simp only [List.getElem?_toArray, List.getElem?_cons_succ, List.getElem?_cons_zero] at c0 c1 c2 c4
  clear hs
  unfold wrV
  go_enter Tryz.func145, Tryz.ntmps145
  go_wp2_with fail
  refine (pubRead_any v x.f s _ (by have := HS.out; omega)).mono ?_
  rintro e w1 hO
  obtain ⟨hh, rfl, hi, hb, hf⟩ := hO.plain (pubR_codes _ _ _)
  have HF := Lib.hid hf
  have HB1 := Lib.hid (HB.out.trans (hb.mono HB.out.size))
  have HI1 := Lib.hid hi
  have K2 := Lib.hid (K1.out.below hb K1.out.lt)
  clear c0 c1 c2 c4
  have hsz : (w.alloc (.cells #[.int .i64 v, .int .i64 x.k, .int .i64 x.f, .int .i64 x.n, .string s] WrT)).heap.size = w.heap.size + 1 := by simp
  rw [hsz] at K2
  clear hsz
  have hst := run_stPk K2.out (pubR v x.f s).1 hh
  have HG : Hid (w.heap.size ≤ w.heap.size + 1) := Lib.hid (by omega)
  clear hi hb hf hO
  generalize pubR v x.f s = R at *
  go_wp2
  refine bodyPost_ret (results_pk rfl _ rfl (put_bk K2.out R.1 hh)) rfl ?_
  have hb2 := below_put HB1.out HB1.out.size HG.out R.1 hh
  exact ⟨hh, rfl, HI1.out.put K2.out (putPk_mods _ _ _ _) HF.out (by simp), hb2, HF.out.mono (by simp; omega)⟩
set_option maxHeartbeats 400000 in
set_option maxRecDepth 10000 in
theorem wrAck_any (v : Int) (x : Hdr) (s : ByteArray) (w : World) (hs : s.size ≤ 1000000000000) :
    Calls Tryz.prog 139 #[wrV v x s] w (PkOutD (ackR v x.k s) w) := by
  have HS := Lib.hid hs
  have HB := Lib.hid (((Below.refl w.heap.size w).alloc (Nat.le_refl _) (.cells #[.int .i64 v, .int .i64 x.k, .int .i64 x.f, .int .i64 x.n, .string s] WrT)).alloc (by simp) (.cells (pkC pk0 hs0) PkT))
  have K0 := Lib.hid ((Bk.fresh w WrT #[.int .i64 v, .int .i64 x.k, .int .i64 x.f, .int .i64 x.n, .string s]).alloc (.cells (pkC pk0 hs0) PkT))
  have K1 := Lib.hid (Bk.fresh (w.alloc (.cells #[.int .i64 v, .int .i64 x.k, .int .i64 x.f, .int .i64 x.n, .string s] WrT)) PkT (pkC pk0 hs0))
  have c0 := K0.out.cell 0; have c1 := K0.out.cell 1; have c2 := K0.out.cell 2; have c4 := K0.out.cell 4
  simp only [List.getElem?_toArray, List.getElem?_cons_succ, List.getElem?_cons_zero] at c0 c1 c2 c4
  clear hs
  unfold wrV
  go_enter Tryz.func139, Tryz.ntmps139
  go_wp2_with fail
  refine (ackRead_any v x.k s _ (by have := HS.out; omega)).mono ?_
  rintro e w1 hO
  obtain ⟨hh, rfl, hi, hb, hf⟩ := hO.plain (ackR_codes _ _ _)
  have HF := Lib.hid hf
  have HB1 := Lib.hid (HB.out.trans (hb.mono HB.out.size))
  have HI1 := Lib.hid hi
  have K2 := Lib.hid (K1.out.below hb K1.out.lt)
  clear c0 c1 c2 c4
  have hsz : (w.alloc (.cells #[.int .i64 v, .int .i64 x.k, .int .i64 x.f, .int .i64 x.n, .string s] WrT)).heap.size = w.heap.size + 1 := by simp
  rw [hsz] at K2
  clear hsz
  have hst := run_stPk K2.out (ackR v x.k s).1 hh
  have HG : Hid (w.heap.size ≤ w.heap.size + 1) := Lib.hid (by omega)
  clear hi hb hf hO
  generalize ackR v x.k s = R at *
  go_wp2
  refine bodyPost_ret (results_pk rfl _ rfl (put_bk K2.out R.1 hh)) rfl ?_
  have hb2 := below_put HB1.out HB1.out.size HG.out R.1 hh
  exact ⟨hh, rfl, HI1.out.put K2.out (putPk_mods _ _ _ _) HF.out (by simp), hb2, HF.out.mono (by simp; omega)⟩
set_option maxHeartbeats 400000 in
set_option maxRecDepth 10000 in
theorem wrSubscribe_any (v : Int) (x : Hdr) (s : ByteArray) (w : World) (hs : s.size ≤ 1000000000000) :
    Calls Tryz.prog 141 #[wrV v x s] w (PkOutD (sbR v x.k s) w) := by
  have HS := Lib.hid hs
  have HB := Lib.hid (((Below.refl w.heap.size w).alloc (Nat.le_refl _) (.cells #[.int .i64 v, .int .i64 x.k, .int .i64 x.f, .int .i64 x.n, .string s] WrT)).alloc (by simp) (.cells (pkC pk0 hs0) PkT))
  have K0 := Lib.hid ((Bk.fresh w WrT #[.int .i64 v, .int .i64 x.k, .int .i64 x.f, .int .i64 x.n, .string s]).alloc (.cells (pkC pk0 hs0) PkT))
  have K1 := Lib.hid (Bk.fresh (w.alloc (.cells #[.int .i64 v, .int .i64 x.k, .int .i64 x.f, .int .i64 x.n, .string s] WrT)) PkT (pkC pk0 hs0))
  have c0 := K0.out.cell 0; have c1 := K0.out.cell 1; have c2 := K0.out.cell 2; have c4 := K0.out.cell 4
  simp only [List.getElem?_toArray, List.getElem?_cons_succ, List.getElem?_cons_zero] at c0 c1 c2 c4
  clear hs
  unfold wrV
  go_enter Tryz.func141, Tryz.ntmps141
  go_wp2_with fail
  refine (sbReadC_any v x.k s _ HS.out).mono ?_
  rintro e w1 hO
  obtain ⟨hh, rfl, hi, hb, hf⟩ := hO.plain
  have HF := Lib.hid hf
  have HB1 := Lib.hid (HB.out.trans (hb.mono HB.out.size))
  have HI1 := Lib.hid hi
  have K2 := Lib.hid (K1.out.below hb K1.out.lt)
  clear c0 c1 c2 c4
  have hsz : (w.alloc (.cells #[.int .i64 v, .int .i64 x.k, .int .i64 x.f, .int .i64 x.n, .string s] WrT)).heap.size = w.heap.size + 1 := by simp
  rw [hsz] at K2
  clear hsz
  have hst := run_stPk K2.out (sbR v x.k s).1 hh
  have HG : Hid (w.heap.size ≤ w.heap.size + 1) := Lib.hid (by omega)
  clear hi hb hf hO
  generalize sbR v x.k s = R at *
  go_wp2
  refine bodyPost_ret (results_pk rfl _ rfl (put_bk K2.out R.1 hh)) rfl ?_
  have hb2 := below_put HB1.out HB1.out.size HG.out R.1 hh
  exact ⟨hh, rfl, HI1.out.put K2.out (putPk_mods _ _ _ _) HF.out (by simp), hb2, HF.out.mono (by simp; omega)⟩
set_option maxHeartbeats 400000 in
set_option maxRecDepth 10000 in
theorem wrControl_any (v : Int) (x : Hdr) (s : ByteArray) (w : World) (hs : s.size ≤ 1000000000000) :
    Calls Tryz.prog 143 #[wrV v x s] w (PkOutD (conR v x.k s) w) := by
  have HS := Lib.hid hs
  have HB := Lib.hid (((Below.refl w.heap.size w).alloc (Nat.le_refl _) (.cells #[.int .i64 v, .int .i64 x.k, .int .i64 x.f, .int .i64 x.n, .string s] WrT)).alloc (by simp) (.cells (pkC pk0 hs0) PkT))
  have K0 := Lib.hid ((Bk.fresh w WrT #[.int .i64 v, .int .i64 x.k, .int .i64 x.f, .int .i64 x.n, .string s]).alloc (.cells (pkC pk0 hs0) PkT))
  have K1 := Lib.hid (Bk.fresh (w.alloc (.cells #[.int .i64 v, .int .i64 x.k, .int .i64 x.f, .int .i64 x.n, .string s] WrT)) PkT (pkC pk0 hs0))
  have c0 := K0.out.cell 0; have c1 := K0.out.cell 1; have c2 := K0.out.cell 2; have c4 := K0.out.cell 4
  simp only [List.getElem?_toArray, List.getElem?_cons_succ, List.getElem?_cons_zero] at c0 c1 c2 c4
  clear hs
  unfold wrV
  go_enter Tryz.func143, Tryz.ntmps143
  go_wp2_with fail
  refine (conRead_any v x.k s _ (by have := HS.out; omega)).mono ?_
  rintro e w1 hO
  obtain ⟨hh, rfl, hi, hb, hf⟩ := hO.plain (conR_codes _ _ _)
  have HF := Lib.hid hf
  have HB1 := Lib.hid (HB.out.trans (hb.mono HB.out.size))
  have HI1 := Lib.hid hi
  have K2 := Lib.hid (K1.out.below hb K1.out.lt)
  clear c0 c1 c2 c4
  have hsz : (w.alloc (.cells #[.int .i64 v, .int .i64 x.k, .int .i64 x.f, .int .i64 x.n, .string s] WrT)).heap.size = w.heap.size + 1 := by simp
  rw [hsz] at K2
  clear hsz
  have hst := run_stPk K2.out (conR v x.k s).1 hh
  have HG : Hid (w.heap.size ≤ w.heap.size + 1) := Lib.hid (by omega)
  clear hi hb hf hO
  generalize conR v x.k s = R at *
  go_wp2
  refine bodyPost_ret (results_pk rfl _ rfl (put_bk K2.out R.1 hh)) rfl ?_
  have hb2 := below_put HB1.out HB1.out.size HG.out R.1 hh
  exact ⟨hh, rfl, HI1.out.put K2.out (putPk_mods _ _ _ _) HF.out (by simp), hb2, HF.out.mono (by simp; omega)⟩
end Go.Proofs.YtbdgkkmbnahgiaaGreatDoor

namespace Go.Proofs.YtbdgkkmbnahgiaaGreatDoor
open Go.RowKit

def pks (L : List (Pk × Hs)) : List Value := L.flatMap fun x => (pkC x.1 x.2).toList
theorem pkl_len (x : Pk × Hs) : ((pkC x.1 x.2).toList).length = 25 := rfl
theorem pks_len (L : List (Pk × Hs)) : (pks L).length = L.length * 25 := flat_len pkl_len L
theorem pks_nil : pks [] = [] := rfl
theorem pks_cons (x : Pk × Hs) (L : List (Pk × Hs)) : pks (x :: L) = (pkC x.1 x.2).toList ++ pks L := rfl
theorem pks_app (L M : List (Pk × Hs)) : pks (L ++ M) = pks L ++ pks M := by
  unfold pks
  rw [List.flatMap_append]
theorem pks_at (L : List (Pk × Hs)) (i r : Nat) (h : i < L.length) (hr : r < 25) : (pks L)[i * 25 + r]? = (pkC L[i].1 L[i].2)[r]? := by
  have := flat_at pkl_len L i r h hr
  rw [show pks L = L.flatMap fun x => (pkC x.1 x.2).toList from rfl, this]
  simp
theorem pks_take : ∀ (L : List (Pk × Hs)) (n : Nat), (pks L).take (n * 25) = pks (L.take n)
  | L, 0 => by simp [pks]
  | [], n + 1 => by simp [pks]
  | x :: L, n + 1 => by
    rw [List.take_succ_cons, pks_cons, pks_cons, List.take_append, List.take_of_length_le (by rw [pkl_len x]; omega), pkl_len x, show (n + 1) * 25 - 25 = n * 25 by omega, pks_take L n]
theorem pks_drop : ∀ (L : List (Pk × Hs)) (n : Nat), (pks L).drop (n * 25) = pks (L.drop n)
  | L, 0 => by simp
  | [], n + 1 => by simp [pks]
  | x :: L, n + 1 => by
    rw [List.drop_succ_cons, pks_cons, List.drop_append, List.drop_of_length_le (by rw [pkl_len x]; omega), pkl_len x, show (n + 1) * 25 - 25 = n * 25 by omega, pks_drop L n, List.nil_append]
theorem pks_one (L : List (Pk × Hs)) : ∀ u ∈ pks L, u.oneCell' = true := by
  intro u hu
  obtain ⟨x, -, hx⟩ := List.mem_flatMap.1 hu
  have h := pkC_one x.1 x.2
  rw [Array.all_eq_true_iff_forall_mem] at h
  exact h u (by simpa using hx)
theorem pks_idx {L : List (Pk × Hs)} {o : Nat} {v : Value} (h : (pks L)[o]? = some v) : ∃ i r, o = i * 25 + r ∧ r < 25 ∧ i < L.length := by
  have hlt := (List.getElem?_eq_some_iff.1 h).1
  rw [pks_len] at hlt
  exact ⟨o / 25, o % 25, by omega, by omega, by omega⟩
theorem pks_no32 (L : List (Pk × Hs)) : ∀ (i : Nat) (n : Int), (pks L).toArray[i]? ≠ some (Value.int IntKind.u32 n) := by
  intro o n h
  rw [List.getElem?_toArray] at h
  obtain ⟨i, r, rfl, hr, hi⟩ := pks_idx h
  rw [pks_at L i r hi hr] at h
  exact pk_no32 _ _ _ _ h
theorem pks_nofi (L : List (Pk × Hs)) (o : Nat) (a : ByteArray) (b : Int) (_c d : Bool) (h0 : (pks L).toArray[o]? = some (.string a)) (h1 : (pks L).toArray[o + 1]? = some (.int .i64 b)) (h3 : (pks L).toArray[o + 3]? = some (.bool d)) : False := by
  rw [List.getElem?_toArray] at h0 h1 h3
  obtain ⟨i, r, rfl, hr, hi⟩ := pks_idx h0
  rw [pks_at L i r hi hr] at h0
  have g1 : r + 1 < 25 → (pkC L[i].1 L[i].2)[r + 1]? = some (.int .i64 b) := fun h => by rw [← pks_at L i (r + 1) hi h, ← Nat.add_assoc]; exact h1
  have g3 : r + 3 < 25 → (pkC L[i].1 L[i].2)[r + 3]? = some (.bool d) := fun h => by rw [← pks_at L i (r + 3) hi h, ← Nat.add_assoc]; exact h3
  clear h1 h3
  generalize L[i] = x at *
  rcases r with _ | _ | _ | _ | _ | _ | _ | _ | _ | _ | _ | _ | _ | _ | _ | _ | _ | _ | _ | _ | _ | _ | _ | _ | _ | r
  all_goals first | (simp [pkC] at h0; done) | (simp [pkC] at g1; done) | (simp [pkC] at g3; done) | omega
theorem pks_zero (n : Nat) : (Builtin.zeroCells (pkC pk0 hs0) n).toList = pks (List.replicate n (pk0, hs0)) := by
  apply List.ext_getElem?
  intro j
  by_cases hj : j < n * 25
  · have h := pks_at (List.replicate n (pk0, hs0)) (j / 25) (j % 25) (by simp; omega) (by omega)
    rw [show j / 25 * 25 + j % 25 = j by omega] at h
    have h2 : (pkC pk0 hs0)[j % 25]? = some ((pkC pk0 hs0)[j % 25]!) := by
      have hlt : j % 25 < (pkC pk0 hs0).size := by rw [pkC_size]; omega
      rw [Array.getElem?_eq_getElem hlt, getElem!_pos (pkC pk0 hs0) (j % 25) hlt]
    rw [h, List.getElem_replicate, h2]
    simp [Builtin.zeroCells, pkC_size, hj]
  · rw [List.getElem?_eq_none (by rw [Array.length_toList, size_zeroCells, pkC_size]; omega), List.getElem?_eq_none (by rw [pks_len, List.length_replicate]; omega)]

theorem Rd.otherN {w w' : World} {B g : Nat} {A : Option Addr} {l : List Fi} {t : TypeId} {cs : Array Value} (h : Rd w B 5 A l.length (fis l)) (hbk : Bk w g t cs)
    (hcs : ∀ (o : Nat) (a : ByteArray) (b : Int) (_c d : Bool), cs[o]? = some (.string a) → cs[o + 1]? = some (.int .i64 b) → cs[o + 3]? = some (.bool d) → False) (hm : w.grownBy w' (some g)) (hB : B ≤ w.heap.size) : Rd w' B 5 A l.length (fis l) := by
  refine h.grown hm hB ?_
  rintro b o rfl hx rfl
  cases l with
  | nil => exact hx rfl
  | cons f l =>
    obtain ⟨b', o', e, -, h0, h1, h2, h3, -⟩ := h.atF (i := 0) (by simp)
    simp only [Option.some.injEq, Addr.mk.injEq] at e
    obtain ⟨rfl, rfl, -⟩ := e
    rw [hbk.cell] at h0 h1 h2 h3
    simp only [Nat.zero_mul, Nat.add_zero, List.getElem_cons_zero] at h0 h1 h2 h3
    exact hcs o _ _ false _ h0 h1 h3
/-- A packet's codes lie in another block than g. -/
def Apart (g : Nat) (x : Pk × Hs) : Prop := x.1.codes = [] ∨ ∀ b o, x.2.codes.a = some ⟨b, o, none⟩ → b ≠ g
theorem iv_nil {l : List Int} (h : iv l = []) : l = [] := by
  cases l with
  | nil => rfl
  | cons z l => simp [iv] at h
theorem PkIn.apart {w : World} {p : Pk} {h : Hs} {B : Nat} (hi : PkIn w B p h) {g : Nat} (hg : B ≤ g) : Apart g (p, h) := by
  rcases hi.codes.2 with h0 | ⟨b, o, hA, hb, -⟩
  · exact .inl (iv_nil h0)
  · refine .inr fun b' o' e => ?_
    dsimp only at e
    rw [hA] at e
    cases e
    omega
theorem PkFresh.apart {w : World} {p : Pk} {h : Hs} (hf : PkFresh w p h) {g : Nat} (hg : g < w.heap.size) : Apart g (p, h) := by
  rcases hf with h0 | h0
  · exact .inl h0
  · exact .inr fun b o e => by have := h0 b o e; omega
theorem PkIn.row {x y : World} {g : Nat} {p : Pk} {h : Hs} {L : List (Pk × Hs)} (hi : PkIn x x.heap.size p h) (hbk : Bk x g PkT (pks L).toArray) (hm : x.grownBy y (some g)) (hf : Apart g (p, h)) : PkIn y y.heap.size p h := by
  refine ⟨(hi.wp.other hbk (pks_no32 L) hm (Nat.le_refl _)).wider hm.size, ?_, (hi.filters.otherN hbk (pks_nofi L) hm (Nat.le_refl _)).wider hm.size, (hi.props.other hbk (pks_no32 L) hm (Nat.le_refl _)).wider hm.size, hi.caps⟩
  refine (hi.codes.grown hm (Nat.le_refl _) ?_).wider hm.size
  intro b o e hx
  rcases hf with h | h
  · dsimp only at h
    rw [h] at hx
    exact absurd rfl hx
  · exact h b o e

structure RowK (w0 w : World) (A : Option Addr) (n c : Nat) (L : List (Pk × Hs)) : Prop where
  len : L.length = n
  lies : (A = none ∧ n = 0 ∧ c = 0) ∨ ∃ g M, A = some ⟨g, 0, none⟩ ∧ w0.heap.size ≤ g ∧ Bk w g PkT (pks M).toArray ∧ M.length = c ∧ n ≤ c ∧ c ≤ maxLen ∧ M.take n = L
section
variable {w0 w y : World} {A : Option Addr} {n c : Nat} {L : List (Pk × Hs)}
theorem RowK.start (w0 w : World) : RowK w0 w none 0 0 [] := ⟨rfl, .inl ⟨rfl, rfl, rfl⟩⟩
theorem RowK.below (h : RowK w0 w A n c L) (hb : Below w.heap.size w y) : RowK w0 y A n c L := by
  refine ⟨h.len, ?_⟩
  rcases h.lies with h1 | ⟨g, M, h1, h2, h3, h4⟩
  · exact .inl h1
  · exact .inr ⟨g, M, h1, h2, h3.below hb h3.lt, h4⟩
theorem RowK.block (h : RowK w0 w A n c L) {g o : Nat} (e : A = some ⟨g, o, none⟩) : w0.heap.size ≤ g ∧ g < w.heap.size := by
  rcases h.lies with ⟨h1, -⟩ | ⟨g', M, h1, h2, h3, -⟩
  · rw [h1] at e; cases e
  · rw [h1] at e; cases e
    exact ⟨h2, h3.lt⟩
theorem RowK.own (h : RowK w0 w A n c L) {g : Nat} (e : (Value.slice A n c).ownBlock = some g) : w0.heap.size ≤ g ∧ g < w.heap.size := by
  cases A with
  | none => cases e
  | some a =>
    obtain ⟨b, o, s⟩ := a
    rcases h.lies with ⟨h1, -⟩ | ⟨g', M, h1, h2, h3, -⟩
    · cases h1
    · cases h1
      simp only [Value.ownBlock, Option.some.injEq] at e
      subst e
      exact ⟨h2, h3.lt⟩
theorem RowK.cap (h : RowK w0 w A n c L) : n ≤ c := by
  rcases h.lies with ⟨-, h1, -⟩ | ⟨g, M, h1, h2, h3, h4, h5, h6, h7⟩ <;> omega
theorem RowK.rd (h : RowK w0 w A n c L) : Rd w w.heap.size 25 A n (pks L) := by
  refine ⟨by rw [pks_len, h.len], ?_⟩
  rcases h.lies with ⟨-, h1, -⟩ | ⟨g, M, h1, h2, h3, h4, h5, h6, h7⟩
  · refine .inl ?_
    have := h.len
    rw [List.eq_nil_of_length_eq_zero (by omega : L.length = 0)]
    rfl
  · refine .inr ⟨g, 0, h1, h3.lt, fun j u hu => ?_⟩
    rw [Nat.zero_add, h3.cell, List.getElem?_toArray]
    rw [← h7, ← pks_take, List.getElem?_take] at hu
    split at hu
    · exact hu
    · cases hu
/-- What was read before reads behind an append onto the row. -/
theorem RowK.keep (h : RowK w0 w A n c L) (hm : w.grownBy y (Value.slice A n c).ownBlock) {p : Pk} {k : Hs} (hi : PkIn w w.heap.size p k) (ha : ∀ g o, A = some ⟨g, o, none⟩ → Apart g (p, k)) : PkIn y y.heap.size p k := by
  rcases h.lies with ⟨rfl, -⟩ | ⟨g, M, rfl, -, h3, -⟩
  · exact hi.next ⟨hm.os, hm.tape, hm.output, hm.size, fun i hi => hm.block i hi (by simp [Value.ownBlock])⟩
  · exact hi.row h3 hm (ha g 0 rfl)
end
theorem info_row : (Tryz.prog.info? PkT).map (fun i => (i.zero, i.size, i.bytes)) = some (some (pkV pk0 hs0), 25, 312) := by kernel_rfl
theorem run_appK {w0 w : World} {A : Option Addr} {n c : Nat} {L : List (Pk × Hs)} (hr : RowK w0 w A n c L) (h0 : w0.heap.size ≤ w.heap.size) (ty : TypeId) (X : Addr) (N : List (Pk × Hs)) (m cx B : Nat) (hN : N.length = m) (hm : 0 < m) (hs : Rd w B 25 (some X) m (pks N)) (hb : n + m ≤ 100000000000) :
    ∃ g c' w', (Builtin.append_ #[48, 48] ty #[.slice A n c, .slice (some X) m cx]).run Tryz.prog w = .ok (.slice (some ⟨g, 0, none⟩) (n + m) c') w' ∧
      RowK w0 w' (some ⟨g, 0, none⟩) (n + m) c' (L ++ N) ∧ w.grownBy w' (Value.slice A n c).ownBlock ∧ ((Value.slice A n c).ownBlock = some g ∨ g = w.heap.size) ∧ g < w'.heap.size := by
  obtain ⟨i, hi, hz, hsize, hby⟩ := info_parts info_row
  have ht := Tryz.underlying48
  have hzc : (pkV pk0 hs0).cells = pkC pk0 hs0 := rfl
  have hlen : (pks N).length = m * i.size := by rw [pks_len, hN, hsize]
  have hlenA : (L ++ N).length = n + m := by rw [List.length_append, hr.len, hN]
  have hsrc : ∀ j u, (pks N)[j]? = some u → w.cell? (X.add j) = some u := by
    obtain ⟨ad, e, -, hc⟩ := hs.addr (by
      intro e
      have := pks_len N
      rw [e] at this
      simp at this
      omega)
    cases e
    exact hc
  have grown : ∀ (need old : Nat), need = n + m → old < need → RowK w0 (w.drew.alloc (.cells ((pks L).toArray ++ (pks N).toArray ++ Builtin.zeroCells (pkV pk0 hs0).cells (grownCap w need old PkT - need)) PkT)) (some ⟨w.heap.size, 0, none⟩) need (grownCap w need old PkT) (L ++ N) ∧
      (∀ row, w.grownBy (w.drew.alloc (.cells ((pks L).toArray ++ (pks N).toArray ++ Builtin.zeroCells (pkV pk0 hs0).cells (grownCap w need old PkT - need)) PkT)) row) ∧ w.heap.size < (w.drew.alloc (.cells ((pks L).toArray ++ (pks N).toArray ++ Builtin.zeroCells (pkV pk0 hs0).cells (grownCap w need old PkT - need)) PkT)).heap.size := by
    intro need old hneed hold
    have hge := grownCap_ge w need old PkT
    have hcm : grownCap w need old PkT ≤ maxLen := grownCap_le_maxLen w need old PkT (by unfold maxLen; omega)
    refine ⟨⟨by rw [hlenA, hneed], .inr ⟨w.heap.size, L ++ N ++ List.replicate (grownCap w need old PkT - need) (pk0, hs0), rfl, h0, ?_, ?_, hge, hcm, ?_⟩⟩, fun row => ⟨rfl, rfl, rfl, by simp, fun k hk _ => heap_alloc_old w.drew _ hk⟩, by simp⟩
    · have : (pks L).toArray ++ (pks N).toArray ++ Builtin.zeroCells (pkV pk0 hs0).cells (grownCap w need old PkT - need) = (pks (L ++ N ++ List.replicate (grownCap w need old PkT - need) (pk0, hs0))).toArray := by
        apply Array.toList_inj.1
        rw [hzc, Array.toList_append, Array.toList_append, pks_zero, pks_app, pks_app]
      rw [this]
      exact Bk.fresh w.drew _ _
    · rw [List.length_append, hlenA, List.length_replicate]; omega
    · rw [List.take_append_of_le_length (by rw [hlenA]; omega), List.take_of_length_le (by rw [hlenA]; omega)]
  rcases hr.lies with ⟨rfl, rfl, rfl⟩ | ⟨g, M, rfl, h2, h3, h4, h5, h6, h7⟩
  · have hL : L = [] := List.eq_nil_of_length_eq_zero hr.len
    subst hL
    have hrun := run_append_nil (P := Tryz.prog) w 48 ty PkT i (pkV pk0 hs0) ht hi hz X m cx (pks N) hlen hsrc hm (by omega) (by rw [hby]; omega)
    obtain ⟨g1, g2, g3⟩ := grown m 0 (by omega) hm
    rw [show (pks []).toArray = #[] from rfl] at g1 g2 g3
    simp only [Array.empty_append] at g1 g2 g3
    rw [Nat.zero_add]
    exact ⟨_, _, _, hrun, g1, g2 _, .inr rfl, g3⟩
  · by_cases hroom : n + m ≤ c
    · have hrun := run_append_room (P := Tryz.prog) w 48 ty PkT i ht hi g n c (pks M).toArray h3 X m cx (pks N) hlen hsrc (pks_one N) hroom (by rw [hsize, pks_len, hN, List.size_toArray, pks_len, h4]; omega)
      refine ⟨g, c, _, hrun, ⟨hlenA, .inr ⟨g, M.take n ++ N ++ M.drop (n + m), rfl, h2, ?_, ?_, hroom, h6, ?_⟩⟩, ⟨rfl, rfl, rfl, by simp, fun k _ hk => setRow_other w g k _ (fun e => hk (by simp [Value.ownBlock, e]))⟩, .inl rfl, ?_⟩
      · have := setRow_heap w g (pks M).toArray ((pks M).take (n * i.size) ++ pks N ++ (pks M).drop (n * i.size + (pks N).length)).toArray PkT (0, 0) h3
        unfold Bk
        rw [pks_app, pks_app, ← pks_take, ← pks_drop]
        rw [hlen, hsize, ← Nat.add_mul] at this ⊢
        exact this
      · rw [List.length_append, List.length_append, List.length_take, List.length_drop, hN, h4]; omega
      · rw [List.take_append_of_le_length (by rw [List.length_append, List.length_take, hN, h4]; omega), List.take_of_length_le (by rw [List.length_append, List.length_take, hN, h4]; omega), h7]
      · simpa using h3.lt
    · have hlo : (pks L).length = n * i.size := by rw [pks_len, hr.len, hsize]
      have hrd := hr.rd
      have hol : ∀ j u, (pks L)[j]? = some u → w.cell? ((⟨g, 0, none⟩ : Addr).add j) = some u := by
        intro j u hu
        rw [Addr.add_lit, Nat.zero_add, h3.cell, List.getElem?_toArray]
        rw [← h7, ← pks_take, List.getElem?_take] at hu
        split at hu
        · exact hu
        · cases hu
      have hrun := run_append_grow (P := Tryz.prog) w 48 ty PkT i (pkV pk0 hs0) ht hi hz ⟨g, 0, none⟩ n c (pks L) hlo hol X m cx (pks N) hlen hsrc (by omega) (by omega) (growslice_fits (by omega) (by rw [hby]; omega))
      obtain ⟨g1, g2, g3⟩ := grown (n + m) c rfl (by omega)
      exact ⟨_, _, _, hrun, g1, g2 _, .inr rfl, g3⟩
theorem wp_appK {w : World} {o : Oper} {a : Act} {K : Act → World → Prop} {Q : Exit → Act → World → Prop} (s x : Operand)
    (ho : o.op = .call { callee := .builtin .append, args := #[s, x], argTypes := #[48, 48] })
    {w0 : World} {A : Option Addr} {n c : Nat} {L : List (Pk × Hs)} (hs : a.eval s = .slice A n c) (hr : RowK w0 w A n c L) (h0 : w0.heap.size ≤ w.heap.size) (X : Addr) (N : List (Pk × Hs)) (m cx B : Nat) (hx : a.eval x = .slice (some X) m cx) (hN : N.length = m) (hm : 0 < m) (hsr : Rd w B 25 (some X) m (pks N)) (hb : n + m ≤ 100000000000)
    (h : ∀ g c' w', RowK w0 w' (some ⟨g, 0, none⟩) (n + m) c' (L ++ N) → w.grownBy w' (Value.slice A n c).ownBlock → ((Value.slice A n c).ownBlock = some g ∨ g = w.heap.size) → g < w'.heap.size → K (a.put o.dst (.slice (some ⟨g, 0, none⟩) (n + m) c')) w') : o.wp Tryz.prog a w K Q := by
  obtain ⟨g, c', w', hrun, h1, h2, h3, h4⟩ := run_appK hr h0 o.type X N m cx B hN hm hsr hb
  unfold Oper.wp execOp
  simp only [ho, resolve, invoke, builtin, Sem.run_bind, Sem.run_pure, Result.andThen_ok, List.map_toArray, List.map_cons, List.map_nil, hs, hx, hrun]
  exact h g c' w' h1 h2 h3 h4
theorem wpList_appK {w : World} {ops : Array Oper} {rest : List Oper} {o : Oper} {a : Act} {Q : Exit → Act → World → Prop} (hgd : o.guard = none) (s x : Operand)
    (ho : o.op = .call { callee := .builtin .append, args := #[s, x], argTypes := #[48, 48] })
    {w0 : World} {A : Option Addr} {n c : Nat} {L : List (Pk × Hs)} (hs : a.eval s = .slice A n c) (hr : RowK w0 w A n c L) (h0 : w0.heap.size ≤ w.heap.size) (X : Addr) (N : List (Pk × Hs)) (m cx B : Nat) (hx : a.eval x = .slice (some X) m cx) (hN : N.length = m) (hm : 0 < m) (hsr : Rd w B 25 (some X) m (pks N)) (hb : n + m ≤ 100000000000)
    (h : ∀ g c' w', RowK w0 w' (some ⟨g, 0, none⟩) (n + m) c' (L ++ N) → w.grownBy w' (Value.slice A n c).ownBlock → ((Value.slice A n c).ownBlock = some g ∨ g = w.heap.size) → g < w'.heap.size → wpList Tryz.prog ops Q rest (a.put o.dst (.slice (some ⟨g, 0, none⟩) (n + m) c')) w') : wpList Tryz.prog ops Q (o :: rest) a w :=
  wpList_plain hgd fun _ hK => wp_appK s x ho hs hr h0 X N m cx B hx hN hm hsr hb fun g c' w' h1 h2 h3 h4 => hK _ _ (h g c' w' h1 h2 h3 h4)
def bsPk (v : Array (Nat × Value)) : Sem Value := Instr.buildSlice 48 1 v
theorem to_bsPk (v : Array (Nat × Value)) : Instr.buildSlice 48 1 v = bsPk v := rfl
theorem run_bsPk (p : Pk) (h : Hs) (w : World) : (bsPk #[(0, pkV p h)]).run Tryz.prog w = .ok (.slice (some ⟨w.heap.size, 0, none⟩) 1 1) (w.alloc (.cells (pkC p h) PkT)) := by kernel_rfl
/-- A slice of one packet, as it is built. -/
theorem rd_pk1 (W : World) (p : Pk) (h : Hs) {g : Nat} (hg : W.heap.size = g) : Rd (W.alloc (.cells (pkC p h) PkT)) (g + 1) 25 (some ⟨g, 0, none⟩) 1 (pks [(p, h)]) := by
  subst hg
  refine ⟨by rw [pks_len]; rfl, .inr ⟨_, 0, rfl, Nat.lt_succ_self _, fun j u hu => ?_⟩⟩
  rw [Nat.zero_add, (Bk.fresh W PkT (pkC p h)).cell]
  have e : pks [(p, h)] = (pkC p h).toList := by rw [pks_cons, pks_nil, List.append_nil]
  rw [e] at hu
  simpa using hu

structure RdK (w : World) (A : Option Addr) (n : Nat) (L : List (Pk × Hs)) : Prop where
  rd : Rd w w.heap.size 25 A n (pks L)
  ins : ∀ x ∈ L, PkIn w w.heap.size x.1 x.2
theorem RdK.below {w y : World} {A : Option Addr} {n : Nat} {L : List (Pk × Hs)} (h : RdK w A n L) (hb : Below w.heap.size w y) : RdK y A n L := ⟨(h.rd.below hb).wider hb.size, fun x hx => (h.ins x hx).next hb⟩
theorem RdK.len {w : World} {A : Option Addr} {n : Nat} {L : List (Pk × Hs)} (h : RdK w A n L) : L.length = n := by
  have h1 := h.rd.1
  rw [pks_len] at h1
  omega
theorem RdK.at {w : World} {A : Option Addr} {n : Nat} {L : List (Pk × Hs)} (h : RdK w A n L) {i : Nat} (hi : i < n) : ∃ b o p k, A = some ⟨b, o, none⟩ ∧ L[i]? = some (p, k) ∧ b < w.heap.size ∧
    (∀ y, Below w.heap.size w y → (ldPk (.pointer (some ⟨b, o + i * 25, none⟩))).run Tryz.prog y = .ok (pkV p k) y) ∧ PkIn w w.heap.size p k := by
  have hl := h.len
  have hlt : i < L.length := by omega
  rcases h.rd.2 with h0 | ⟨b, o, rfl, hb, hc⟩
  · have := pks_len L
    rw [h0] at this
    simp at this
    omega
  · refine ⟨b, o, L[i].1, L[i].2, rfl, List.getElem?_eq_getElem hlt, hb, fun y hy => ?_, h.ins _ (List.getElem_mem hlt)⟩
    unfold ldPk
    refine run_loadAt_mid y b (o + i * 25) PkT (pkC L[i].1 L[i].2).toList _ ?_ Tryz.underlying29 rfl (by rw [Array.length_toList, pkC_size]; exact info_pk)
    intro j u hu
    have hj : j < 25 := by
      rcases Nat.lt_or_ge j 25 with h | h
      · exact h
      · rw [List.getElem?_eq_none (by rw [pkl_len]; exact h)] at hu; cases hu
    rw [Nat.add_assoc, hy.cell (p := ⟨b, o + (i * 25 + j), none⟩) hb]
    refine hc (i * 25 + j) u ?_
    rw [pks_at L i j hlt hj]
    simpa using hu
/-- A row of the call's own, whose packets read. -/
structure RowI (w0 w : World) (A : Option Addr) (n c : Nat) (L : List (Pk × Hs)) : Prop where
  row : RowK w0 w A n c L
  ins : ∀ x ∈ L, PkIn w w.heap.size x.1 x.2
  apart : ∀ x ∈ L, ∀ g o, A = some ⟨g, o, none⟩ → Apart g x
section
variable {w0 w y : World} {A : Option Addr} {n c : Nat} {L : List (Pk × Hs)}
theorem RowI.start (w0 w : World) : RowI w0 w none 0 0 [] := ⟨RowK.start _ _, by simp, by simp⟩
theorem RowI.below (h : RowI w0 w A n c L) (hb : Below w.heap.size w y) : RowI w0 y A n c L := ⟨h.row.below hb, fun x hx => (h.ins x hx).next hb, h.apart⟩
theorem RowI.read (h : RowI w0 w A n c L) : RdK w A n L := ⟨h.row.rd, h.ins⟩
theorem RowI.more (h : RowI w0 w A n c L) {g c' m : Nat} {N : List (Pk × Hs)} (hr : RowK w0 y (some ⟨g, 0, none⟩) (n + m) c' (L ++ N)) (hm : w.grownBy y (Value.slice A n c).ownBlock) (hg : (Value.slice A n c).ownBlock = some g ∨ g = w.heap.size)
    (hi : ∀ x ∈ N, PkIn w w.heap.size x.1 x.2) (ha : ∀ x ∈ N, ∀ g o, A = some ⟨g, o, none⟩ → Apart g x) : RowI w0 y (some ⟨g, 0, none⟩) (n + m) c' (L ++ N) := by
  have hin : ∀ x ∈ L ++ N, PkIn w w.heap.size x.1 x.2 := fun x hx => (List.mem_append.1 hx).elim (h.ins x) (hi x)
  have hap : ∀ x ∈ L ++ N, ∀ g o, A = some ⟨g, o, none⟩ → Apart g x := fun x hx => (List.mem_append.1 hx).elim (h.apart x) (ha x)
  refine ⟨hr, fun x hx => h.row.keep hm (hin x hx) (hap x hx), fun x hx g' o e => ?_⟩
  cases e
  rcases hg with hg | hg
  · cases A with
    | none => cases hg
    | some a =>
      obtain ⟨b, o, s⟩ := a
      rcases h.row.lies with ⟨h1, -⟩ | ⟨g', M, h1, -⟩
      · cases h1
      · cases h1
        simp only [Value.ownBlock, Option.some.injEq] at hg
        subst hg
        exact hap x hx _ 0 rfl
  · exact (hin x hx).apart (by omega)
end
end Go.Proofs.YtbdgkkmbnahgiaaGreatDoor

namespace Go.Proofs.YtbdgkkmbnahgiaaGreatDoor
open Go.RowKit

abbrev U8 : TypeId := 5
theorem bys_take (l : List UInt8) (n : Nat) : (bys l).take n = bys (l.take n) := by simp [bys, List.map_take]
theorem bys_drop (l : List UInt8) (n : Nat) : (bys l).drop n = bys (l.drop n) := by simp [bys, List.map_drop]
theorem bys_str (s : ByteArray) : Lib.strCells s = bys (ls s) := rfl
theorem bys_zero (n : Nat) : (Builtin.zeroCells (Value.int .u8 0).cells n).toList = bys (List.replicate n 0) := by
  apply List.ext_getElem?
  intro j
  have hc : (Value.int .u8 0).cells = #[.int .u8 0] := rfl
  rw [hc]
  by_cases hj : j < n
  · simp [Builtin.zeroCells, bys, hj, Nat.mod_one]
  · rw [List.getElem?_eq_none (by rw [Array.length_toList, size_zeroCells]; simp; omega), List.getElem?_eq_none (by rw [bys_len, List.length_replicate]; omega)]
theorem bys_kind (l : List UInt8) {i : Nat} {u : Value} (h : (bys l).toArray[i]? = some u) : ∃ b : UInt8, u = .int .u8 (b.toNat : Int) := by
  rw [List.getElem?_toArray] at h
  unfold bys at h
  rw [List.getElem?_map] at h
  obtain ⟨b, -, h2⟩ := Option.map_eq_some_iff.1 h
  exact ⟨b, h2.symm⟩
/-- What a packet's slices read reads on, whatever turns in a block of bytes. -/
theorem PkIn.bytes {x y : World} {g : Nat} {p : Pk} {h : Hs} {M : List UInt8} (hi : PkIn x x.heap.size p h) (hbk : Bk x g U8 (bys M).toArray) (hm : x.grownBy y (some g)) : PkIn y y.heap.size p h := by
  have h32 : ∀ (i : Nat) (n : Int), (bys M).toArray[i]? ≠ some (Value.int IntKind.u32 n) := fun i n e => by
    obtain ⟨b, hb⟩ := bys_kind M e
    cases hb
  refine ⟨(hi.wp.other hbk h32 hm (Nat.le_refl _)).wider hm.size, ?_, (hi.filters.otherN hbk ?_ hm (Nat.le_refl _)).wider hm.size, (hi.props.other hbk h32 hm (Nat.le_refl _)).wider hm.size, hi.caps⟩
  · refine (hi.codes.grown hm (Nat.le_refl _) ?_).wider hm.size
    rintro b o hA hx rfl
    rcases hi.codes.2 with h0 | ⟨b', o', e, -, hc⟩
    · exact hx h0
    · rw [hA] at e
      cases e
      cases hcd : p.codes with
      | nil => rw [hcd] at hx; exact hx rfl
      | cons z l =>
        have := hc 0 (.int .i64 z) (by rw [hcd]; rfl)
        rw [hbk.cell] at this
        obtain ⟨b, hb⟩ := bys_kind M this
        cases hb
  · intro o a b c d h0 h1 h3
    obtain ⟨z, hz⟩ := bys_kind M h0
    cases hz
/-- A slice of bytes that a call has made, that reads as t. -/
structure Kp (w0 w : World) (K : Option Addr) (n c : Nat) (t : List UInt8) : Prop where
  len : t.length = n
  cap : n ≤ c
  lies : (K = none ∧ n = 0 ∧ c = 0) ∨ ∃ g o M, K = some ⟨g, o, none⟩ ∧ w0.heap.size ≤ g ∧ Bk w g U8 (bys M).toArray ∧ (M.drop o).take n = t ∧ o + n ≤ M.length ∧ (c = n ∨ (o = 0 ∧ M.length = c ∧ c ≤ maxLen))
section
variable {w0 w y : World} {K : Option Addr} {n c : Nat} {t : List UInt8}
theorem Kp.none (w0 w : World) : Kp w0 w none 0 0 [] := ⟨rfl, Nat.le_refl _, .inl ⟨rfl, rfl, rfl⟩⟩
theorem Kp.below (h : Kp w0 w K n c t) (hb : Below w.heap.size w y) : Kp w0 y K n c t := by
  refine ⟨h.len, h.cap, ?_⟩
  rcases h.lies with h1 | ⟨g, o, M, h1, h2, h3, h4⟩
  · exact .inl h1
  · exact .inr ⟨g, o, M, h1, h2, h3.below hb h3.lt, h4⟩
theorem Kp.rd (h : Kp w0 w K n c t) : Rd w w.heap.size 1 K n (bys t) := by
  refine ⟨by rw [bys_len, h.len, Nat.mul_one], ?_⟩
  rcases h.lies with ⟨-, h1, -⟩ | ⟨g, o, M, h1, h2, h3, h4, h5, h6⟩
  · refine .inl ?_
    have := h.len
    rw [List.eq_nil_of_length_eq_zero (by omega : t.length = 0)]
    rfl
  · refine .inr ⟨g, o, h1, h3.lt, fun j u hu => ?_⟩
    rw [h3.cell, List.getElem?_toArray]
    rw [← h4, ← bys_take, ← bys_drop, List.getElem?_take] at hu
    split at hu
    · rw [List.getElem?_drop] at hu
      exact hu
    · cases hu
theorem Kp.own (h : Kp w0 w K n c t) {g : Nat} (e : (Value.slice K n c).ownBlock = some g) : w0.heap.size ≤ g ∧ g < w.heap.size := by
  cases K with
  | none => cases e
  | some a =>
    obtain ⟨b, o, s⟩ := a
    rcases h.lies with ⟨h1, -⟩ | ⟨g', o', M, h1, h2, h3, -⟩
    · cases h1
    · cases h1
      simp only [Value.ownBlock, Option.some.injEq] at e
      subst e
      exact ⟨h2, h3.lt⟩
theorem Kp.keep (h : Kp w0 w K n c t) (hm : w.grownBy y (Value.slice K n c).ownBlock) {p : Pk} {k : Hs} (hi : PkIn w w.heap.size p k) : PkIn y y.heap.size p k := by
  rcases h.lies with ⟨rfl, -⟩ | ⟨g, o, M, rfl, -, h3, -⟩
  · exact hi.next ⟨hm.os, hm.tape, hm.output, hm.size, fun i hi => hm.block i hi (by simp [Value.ownBlock])⟩
  · exact hi.bytes h3 hm
/-- A block of another type is as it was. -/
theorem Kp.bk (h : Kp w0 w K n c t) (hm : w.grownBy y (Value.slice K n c).ownBlock) {g : Nat} {ty : TypeId} {cs : Array Value} (hb : Bk w g ty cs) (hne : ty ≠ U8) : Bk y g ty cs := by
  refine (hm.block g hb.lt fun e => ?_).trans hb
  rcases h.lies with ⟨rfl, -⟩ | ⟨g', o, M, rfl, -, h3, -⟩
  · cases e
  · simp only [Value.ownBlock, Option.some.injEq] at e
    subst e
    unfold Bk at hb h3
    rw [hb] at h3
    simp only [Option.some.injEq, Obj.cells.injEq] at h3
    exact hne h3.2.1
/-- What is behind its first k bytes. -/
theorem Kp.drop (h : Kp w0 w K n c t) {k : Nat} (hk : k ≤ n) : Kp w0 w (cutA K n k 1) (n - k) (n - k) (t.drop k) := by
  refine ⟨by rw [List.length_drop, h.len], Nat.le_refl _, ?_⟩
  rcases h.lies with ⟨rfl, rfl, rfl⟩ | ⟨g, o, M, rfl, h2, h3, h4, h5, h6⟩
  · obtain rfl : k = 0 := by omega
    exact .inl ⟨rfl, rfl, rfl⟩
  · unfold cutA
    split
    · rename_i e
      subst e
      refine .inr ⟨g, o, M, rfl, h2, h3, ?_, by omega, .inl rfl⟩
      rw [Nat.sub_self, List.take_zero, List.drop_of_length_le (by rw [h.len]; exact Nat.le_refl _)]
    · refine .inr ⟨g, o + k, M, by simp [Addr.add], h2, h3, ?_, by omega, .inl rfl⟩
      rw [← h4, List.drop_take, List.drop_drop]
end
theorem run_app0 {P : Program} (w : World) (t u ty e : TypeId) (i : TypeInfo) (ht : P.underlying t = some (.slice e)) (hu : P.underlying u = some .string) (hi : P.info? e = some i) (A : Option Addr) (n c : Nat) (hn : n ≤ c) (s : ByteArray) (hs : s.size = 0) :
    (Builtin.append_ #[t, u] ty #[.slice A n c, .string s]).run P w = .ok (.slice A n c) w := by
  have hz : s = ⟨#[]⟩ := by
    apply ByteArray.ext
    exact Array.eq_empty_of_size_eq_zero hs
  subst hz
  have h0 : (⟨#[]⟩ : ByteArray).size = 0 := rfl
  simp [Builtin.append_, run_underlying ht, run_underlying hu, sizeOf, typeInfo, hi, Builtin.lenOf, Builtin.firstCells, hn, h0, storeCells]
  cases A <;> rfl
theorem info_u8 : (Tryz.prog.info? U8).map (fun i => (i.zero, i.size, i.bytes)) = some (some (.int .u8 0), 1, 1) := by kernel_rfl
/-- append(kept, s...). -/
theorem run_appB {w0 w : World} {K : Option Addr} {n c : Nat} {t : List UInt8} (hr : Kp w0 w K n c t) (h0 : w0.heap.size ≤ w.heap.size) (ty : TypeId) (s : ByteArray) (hb : n + s.size ≤ 1000000000000) :
    ∃ K' c' w', (Builtin.append_ #[80, 9] ty #[.slice K n c, .string s]).run Tryz.prog w = .ok (.slice K' (n + s.size) c') w' ∧ Kp w0 w' K' (n + s.size) c' (t ++ ls s) ∧ w.grownBy w' (Value.slice K n c).ownBlock := by
  obtain ⟨i, hi, hz, hsize, hby⟩ := info_parts info_u8
  have ht := Tryz.underlying80
  have hu := Tryz.underlying9
  have hlen : (t ++ ls s).length = n + s.size := by rw [List.length_append, hr.len, ls_len]
  by_cases hs : s.size = 0
  · have hl : ls s = [] := List.eq_nil_of_length_eq_zero (by rw [ls_len]; exact hs)
    refine ⟨K, c, w, ?_, ?_, World.grownBy.refl w _⟩
    · rw [run_app0 w _ _ ty _ i ht hu hi K n c hr.cap s hs, hs, Nat.add_zero]
    · rw [hs, hl, List.append_nil, Nat.add_zero]
      exact hr
  have grown : ∀ (need old : Nat), need = n + s.size → old < need → Kp w0 (w.drew.alloc (.cells ((bys t).toArray ++ (Lib.strCells s).toArray ++ Builtin.zeroCells (Value.int .u8 0).cells (grownCap w need old U8 - need)) U8)) (some ⟨w.heap.size, 0, none⟩) need (grownCap w need old U8) (t ++ ls s) ∧
      (∀ row, w.grownBy (w.drew.alloc (.cells ((bys t).toArray ++ (Lib.strCells s).toArray ++ Builtin.zeroCells (Value.int .u8 0).cells (grownCap w need old U8 - need)) U8)) row) := by
    intro need old hneed hold
    have hge := grownCap_ge w need old U8
    have hcm : grownCap w need old U8 ≤ maxLen := grownCap_le_maxLen w need old U8 (by unfold maxLen; omega)
    refine ⟨⟨by rw [hlen, hneed], hge, .inr ⟨w.heap.size, 0, t ++ ls s ++ List.replicate (grownCap w need old U8 - need) 0, rfl, h0, ?_, ?_, ?_, .inr ⟨rfl, ?_, hcm⟩⟩⟩, fun row => ⟨rfl, rfl, rfl, by simp, fun k hk _ => heap_alloc_old w.drew _ hk⟩⟩
    · have : (bys t).toArray ++ (Lib.strCells s).toArray ++ Builtin.zeroCells (Value.int .u8 0).cells (grownCap w need old U8 - need) = (bys (t ++ ls s ++ List.replicate (grownCap w need old U8 - need) 0)).toArray := by
        apply Array.toList_inj.1
        rw [Array.toList_append, Array.toList_append, bys_zero, bys_app, bys_app, bys_str]
      rw [this]
      exact Bk.fresh w.drew _ _
    · rw [List.drop_zero, List.take_append_of_le_length (by rw [hlen]; omega), List.take_of_length_le (by rw [hlen]; omega)]
    · rw [List.length_append, hlen, List.length_replicate]; omega
    · rw [List.length_append, hlen, List.length_replicate]; omega
  have hfits : ∀ old, old < n + s.size → Builtin.nextslicecap (n + s.size) old * i.bytes ≤ 281474976710656 := fun old ho => growslice_fits ho (by rw [hby]; omega)
  rcases hr.lies with ⟨rfl, rfl, rfl⟩ | ⟨g, o, M, rfl, h2, h3, h4, h5, h6⟩
  · have hL : t = [] := List.eq_nil_of_length_eq_zero hr.len
    subst hL
    have hrun := run_append_nil_string (P := Tryz.prog) w 80 9 ty U8 i (.int .u8 0) ht hu hi hz s (by omega) (by omega) (by rw [hby]; omega)
    obtain ⟨g1, g2⟩ := grown s.size 0 (by omega) (by omega)
    rw [show (bys []).toArray = #[] from rfl] at g1 g2
    simp only [Array.empty_append] at g1 g2
    rw [Nat.zero_add]
    refine ⟨_, _, _, hrun.trans ?_, g1, g2 _⟩
    have : s.data.map (fun b => Value.int .u8 (b.toNat : Int)) = (Lib.strCells s).toArray := by
      apply Array.toList_inj.1
      simp [Lib.strCells]
    rw [this]
  · by_cases hroom : n + s.size ≤ c
    · rcases h6 with h6 | ⟨rfl, h7, h8⟩
      · omega
      have hrun := Lib.run_append_room_string (P := Tryz.prog) w 80 9 ty U8 i ht hu hi hsize g n c (bys M).toArray h3 s hroom (by rw [List.size_toArray, bys_len, h7]; exact hroom)
      rw [List.drop_zero] at h4
      refine ⟨some ⟨g, 0, none⟩, c, _, hrun, ⟨hlen, hroom, .inr ⟨g, 0, M.take n ++ ls s ++ M.drop (n + s.size), rfl, h2, ?_, ?_, ?_, .inr ⟨rfl, ?_, h8⟩⟩⟩, ⟨rfl, rfl, rfl, by simp, fun k _ hk => setRow_other w g k _ (fun e => hk (by simp [Value.ownBlock, e]))⟩⟩
      · have := setRow_heap w g (bys M).toArray ((bys M).take n ++ Lib.strCells s ++ (bys M).drop (n + s.size)).toArray U8 (0, 0) h3
        unfold Bk
        rw [bys_app, bys_app, ← bys_take, ← bys_drop, ← bys_str]
        exact this
      · rw [List.drop_zero, List.take_append_of_le_length (by rw [List.length_append, List.length_take, ls_len]; omega), List.take_of_length_le (by rw [List.length_append, List.length_take, ls_len]; omega), h4]
      · rw [List.length_append, List.length_append, List.length_take, List.length_drop, ls_len]; omega
      · rw [List.length_append, List.length_append, List.length_take, List.length_drop, ls_len]; omega
    · have hrd := hr.rd
      have hol : ∀ j u, (bys t)[j]? = some u → w.cell? ((⟨g, o, none⟩ : Addr).add j) = some u := by
        intro j u hu
        rw [Addr.add_lit, h3.cell, List.getElem?_toArray]
        rw [← h4, ← bys_take, ← bys_drop, List.getElem?_take] at hu
        split at hu
        · rw [List.getElem?_drop] at hu
          exact hu
        · cases hu
      have hrun := Lib.run_append_grow_string (P := Tryz.prog) w 80 9 ty U8 i (.int .u8 0) ht hu hi hz ⟨g, o, none⟩ n c (bys t) (by rw [bys_len, hr.len, hsize, Nat.mul_one]) hol s (by omega) (by omega) (hfits c (by omega))
      obtain ⟨g1, g2⟩ := grown (n + s.size) c rfl (by omega)
      exact ⟨_, _, _, hrun, g1, g2 _⟩
section
variable {P : Program} {t e : TypeId} {s : Nat} (ht : P.underlying t = some (.slice e)) (hz : ∀ w, (sizeOf e).run P w = .ok s w)
include ht hz
/-- x[k:n:n] -/
theorem run_cut3 (A : Option Addr) (n c k : Nat) (hk : k ≤ n) (hn : n ≤ c) (W : World) : (Instr.slice t (.slice A n c) (some (.int .i64 (k : Int))) (some (.int .i64 (n : Int))) (some (.int .i64 (n : Int)))).run P W = .ok (.slice (cutA A n k s) (n - k) (n - k)) W := by
  have h0 : (0 : Int) ≤ (k : Int) := by omega
  have h1 : (k : Int) ≤ (n : Int) := by omega
  have h2 : (n : Int) ≤ (c : Int) := by omega
  have h3 : (0 : Int) ≤ (n : Int) := by omega
  simp [Instr.slice, run_underlying ht, Instr.sliceBounds, run_sliceBound, hz, cutA, hk, hn]
end
end Go.Proofs.YtbdgkkmbnahgiaaGreatDoor

namespace Go.Proofs.YtbdgkkmbnahgiaaGreatDoor
open Go.RowKit

/-- Where packets' bytes end. -/
def endsL (v : Int) : Nat → List Pk → List Nat
  | _, [] => []
  | a, p :: l => (a + (mqS v p).size) :: endsL v (a + (mqS v p).size) l
/-- The packets that are valid. -/
def goodP (v : Int) (l : List Pk) : List Pk := l.filter fun p => decide (mqE v p = 0)
end Go.Proofs.YtbdgkkmbnahgiaaGreatDoor

namespace Go.Proofs.YtbdgkkmbnahgiaaGreatDoor
open Go.RowKit

/-- How many bytes the next packet has. -/
def smZ (v : Int) (t : ByteArray) : Nat × Int :=
  if (hdR v (t.extract 0 (min t.size 5))).2.2 ≠ 0 then (0, (hdR v (t.extract 0 (min t.size 5))).2.2)
  else ((hdR v (t.extract 0 (min t.size 5))).2.1 + (hdR v (t.extract 0 (min t.size 5))).1.n, 0)
def smN (v most : Int) (t : ByteArray) : Pk × Nat × Int :=
  if (smZ v t).2 ≠ 0 then (pk0, 0, (smZ v t).2)
  else if most < ((smZ v t).1 : Nat) then (pk0, 0, 4)
  else if t.size < (smZ v t).1 then (pk0, 0, 3)
  else mqR v (t.extract 0 (smZ v t).1)
/-- What a feed leaves: packets, kept bytes, how many bytes the packets had, how many packets there were, an error. -/
def smF (v most : Int) : Nat → ByteArray → Nat → Nat → List Pk → List Pk × ByteArray × Nat × Nat × Int
  | 0, t, a, k, l => (l, t, a, k, 0)
  | f + 1, t, a, k, l =>
    if (smN v most t).2.2 = 0 then smF v most f (t.extract (smN v most t).2.1 t.size) (a + (smN v most t).2.1) (k + 1) (l ++ [(smN v most t).1])
    else if (smN v most t).2.2 = 3 then (l, t, a, k, 0)
    else (l, ⟨#[]⟩, a, k, (smN v most t).2.2)
theorem smF_step (v most : Int) (f : Nat) (t : ByteArray) (a k : Nat) (l : List Pk) : smF v most (f + 1) t a k l =
    if (smN v most t).2.2 = 0 then smF v most f (t.extract (smN v most t).2.1 t.size) (a + (smN v most t).2.1) (k + 1) (l ++ [(smN v most t).1])
    else if (smN v most t).2.2 = 3 then (l, t, a, k, 0)
    else (l, ⟨#[]⟩, a, k, (smN v most t).2.2) := rfl
theorem smN_step {v most : Int} {t : ByteArray} (h : (smN v most t).2.2 = 0) : 2 ≤ (smN v most t).2.1 ∧ (smN v most t).2.1 ≤ t.size := by
  unfold smN at h ⊢
  split
  · rename_i h1; rw [if_pos h1] at h; exact absurd h h1
  rename_i h1; rw [if_neg h1] at h
  split
  · rename_i h2; rw [if_pos h2] at h; cases h
  rename_i h2; rw [if_neg h2] at h
  split
  · rename_i h3; rw [if_pos h3] at h; cases h
  rename_i h3; rw [if_neg h3] at h
  obtain ⟨a, b⟩ := mqR_step h
  rw [ByteArray.size_extract] at b
  omega
theorem smN_ok {v most : Int} {t : ByteArray} (ht : t.size ≤ 1000000000000) : PkOk (smN v most t).1 := by
  have hz : PkOk pk0 := PkOk.zero 0 0 0
  unfold smN
  split
  · exact hz
  split
  · exact hz
  split
  · exact hz
  · exact mqR_okP (by rw [ByteArray.size_extract]; omega)
end Go.Proofs.YtbdgkkmbnahgiaaGreatDoor

namespace Go.Proofs.YtbdgkkmbnahgiaaGreatDoor
open Go.RowKit
/-- A kind's functions. -/
def wF (k : Int) : FuncId := if k ≤ 2 then 136 else if k = 3 then 144 else if k ≤ 7 then 138 else if k ≤ 11 then 140 else 142
def rF (k : Int) : FuncId := if k ≤ 2 then 137 else if k = 3 then 145 else if k ≤ 7 then 139 else if k ≤ 11 then 141 else 143
def chTab : List (Int × Value) := [(1, .agg #[.func (.func 136) #[] #[], .func (.func 137) #[] #[]]), (2, .agg #[.func (.func 136) #[] #[], .func (.func 137) #[] #[]]), (3, .agg #[.func (.func 144) #[] #[], .func (.func 145) #[] #[]]), (4, .agg #[.func (.func 138) #[] #[], .func (.func 139) #[] #[]]), (5, .agg #[.func (.func 138) #[] #[], .func (.func 139) #[] #[]]), (6, .agg #[.func (.func 138) #[] #[], .func (.func 139) #[] #[]]), (7, .agg #[.func (.func 138) #[] #[], .func (.func 139) #[] #[]]), (8, .agg #[.func (.func 140) #[] #[], .func (.func 141) #[] #[]]), (9, .agg #[.func (.func 140) #[] #[], .func (.func 141) #[] #[]]), (10, .agg #[.func (.func 140) #[] #[], .func (.func 141) #[] #[]]), (11, .agg #[.func (.func 140) #[] #[], .func (.func 141) #[] #[]]), (12, .agg #[.func (.func 142) #[] #[], .func (.func 143) #[] #[]]), (13, .agg #[.func (.func 142) #[] #[], .func (.func 143) #[] #[]]), (14, .agg #[.func (.func 142) #[] #[], .func (.func 143) #[] #[]]), (15, .agg #[.func (.func 142) #[] #[], .func (.func 143) #[] #[]])]
def chIn (k : Int) : Bool := decide (1 ≤ k ∧ k ≤ 15)
theorem fifteen {k : Int} (h : 1 ≤ k ∧ k ≤ 15) : k = 1 ∨ k = 2 ∨ k = 3 ∨ k = 4 ∨ k = 5 ∨ k = 6 ∨ k = 7 ∨ k = 8 ∨ k = 9 ∨ k = 10 ∨ k = 11 ∨ k = 12 ∨ k = 13 ∨ k = 14 ∨ k = 15 := by omega
theorem look_ch (k : Int) : ∃ a b, (lookI chTab k).getD (.agg #[.nilFunc, .nilFunc]) = .agg #[a, b] ∧ (lookI chTab k).isSome = chIn k ∧ (chIn k = true → a = mqFn (wF k) ∧ b = mqFn (rF k)) ∧ a.oneCell' = true ∧ b.oneCell' = true := by
  by_cases h : 1 ≤ k ∧ k ≤ 15
  · have hi : chIn k = true := decide_eq_true h
    rcases fifteen h with rfl | rfl | rfl | rfl | rfl | rfl | rfl | rfl | rfl | rfl | rfl | rfl | rfl | rfl | rfl
    all_goals exact ⟨_, _, rfl, hi.symm ▸ rfl, fun _ => ⟨rfl, rfl⟩, rfl, rfl⟩
  · have hi : chIn k = false := decide_eq_false h
    have hn : lookI chTab k = none := by
      unfold lookI
      rw [List.find?_eq_none.2]
      · rfl
      · intro q hq
        simp only [chTab, List.mem_cons, List.not_mem_nil, or_false] at hq
        intro e
        have e1 := eq_of_beq e
        rcases hq with rfl | rfl | rfl | rfl | rfl | rfl | rfl | rfl | rfl | rfl | rfl | rfl | rfl | rfl | rfl
        all_goals (simp only at e1; omega)
    rw [hn]
    exact ⟨_, _, rfl, hi.symm ▸ rfl, fun x => by (rw [hi] at x; cases x), rfl, rfl⟩
theorem enter_wF {k : Int} (args : Array Value) (w : World) : (callFunc (wF k) args).run Tryz.prog w = .ok (.enter (wF k) args) w := by
  unfold wF
  repeat' split
  · exact run_enter Tryz.func136 (by kernel_rfl) rfl args w
  · exact run_enter Tryz.func144 (by kernel_rfl) rfl args w
  · exact run_enter Tryz.func138 (by kernel_rfl) rfl args w
  · exact run_enter Tryz.func140 (by kernel_rfl) rfl args w
  · exact run_enter Tryz.func142 (by kernel_rfl) rfl args w
theorem enter_rF {k : Int} (args : Array Value) (w : World) : (callFunc (rF k) args).run Tryz.prog w = .ok (.enter (rF k) args) w := by
  unfold rF
  repeat' split
  · exact run_enter Tryz.func137 (by kernel_rfl) rfl args w
  · exact run_enter Tryz.func145 (by kernel_rfl) rfl args w
  · exact run_enter Tryz.func139 (by kernel_rfl) rfl args w
  · exact run_enter Tryz.func141 (by kernel_rfl) rfl args w
  · exact run_enter Tryz.func143 (by kernel_rfl) rfl args w
def stCh (a v : Value) : Sem Unit := Instr.storeAt ChT a v
theorem to_stCh (a v : Value) : Instr.storeAt ChT a v = stCh a v := rfl
theorem info_ch : (Tryz.prog.info? ChT).map (·.size) = some 2 := by kernel_rfl
theorem run_stCh {w : World} {g : Nat} {x y : Value} (hb : Bk w g ChT #[x, y]) {a b : Value} (ha : a.oneCell' = true) (hb' : b.oneCell' = true) : (stCh (.pointer (some ⟨g, 0, none⟩)) (.agg #[a, b])).run Tryz.prog w = .ok () (w.setCells g 0 [a, b]) := by
  unfold stCh
  refine run_storeAt_mid w g 0 ChT #[a, b] ?_ info_ch (by simp [ha, hb'])
  intro j hj
  rw [Nat.zero_add, hb.cell, hb.free]
  refine ⟨?_, rfl⟩
  rw [Array.getElem?_eq_getElem (show j < #[x, y].size from hj)]
  rfl
theorem run_stCh_at (w : World) {n : Nat} (hn : w.heap.size = n) (x y : Value) {a b : Value} (ha : a.oneCell' = true) (hb : b.oneCell' = true) : (stCh (.pointer (some ⟨n, 0, none⟩)) (.agg #[a, b])).run Tryz.prog (w.alloc (.cells #[x, y] ChT)) = .ok () (w.alloc (.cells #[a, b] ChT)) := by
  subst hn
  rw [run_stCh (Bk.fresh w ChT #[x, y]) ha hb, setCells_fresh]
  rfl
attribute [local go_sem ↓] to_stCh
/-- The four chapters that have variables, in their blocks. -/
structure ChK (W : World) (g : Nat) : Prop where
  b0 : Bk W (g + 0) ChT #[.func (.func 136) #[] #[], .func (.func 137) #[] #[]]
  b1 : Bk W (g + 1) ChT #[.func (.func 138) #[] #[], .func (.func 139) #[] #[]]
  b2 : Bk W (g + 2) ChT #[.func (.func 140) #[] #[], .func (.func 141) #[] #[]]
  b3 : Bk W (g + 3) ChT #[.func (.func 142) #[] #[], .func (.func 143) #[] #[]]
theorem ChK.next {W w1 : World} {g : Nat} (h : ChK W g) (hg : W.grownBy w1 (some (g + 4))) : ChK w1 g :=
  ⟨h.b0.mods (S := fun z => z = g + 4) (Mods.of_grown hg rfl) (by omega), h.b1.mods (S := fun z => z = g + 4) (Mods.of_grown hg rfl) (by omega), h.b2.mods (S := fun z => z = g + 4) (Mods.of_grown hg rfl) (by omega), h.b3.mods (S := fun z => z = g + 4) (Mods.of_grown hg rfl) (by omega)⟩
theorem ChK.cells {W : World} {g : Nat} (h : ChK W g) : W.cell? ⟨g, 0, none⟩ = some (.func (.func 136) #[] #[]) ∧ W.cell? ⟨g, 1, none⟩ = some (.func (.func 137) #[] #[]) ∧ W.cell? ⟨g + 1, 0, none⟩ = some (.func (.func 138) #[] #[]) ∧ W.cell? ⟨g + 1, 1, none⟩ = some (.func (.func 139) #[] #[]) ∧ W.cell? ⟨g + 2, 0, none⟩ = some (.func (.func 140) #[] #[]) ∧ W.cell? ⟨g + 2, 1, none⟩ = some (.func (.func 141) #[] #[]) ∧ W.cell? ⟨g + 3, 0, none⟩ = some (.func (.func 142) #[] #[]) ∧ W.cell? ⟨g + 3, 1, none⟩ = some (.func (.func 143) #[] #[]) :=
  ⟨h.b0.cell 0, h.b0.cell 1, h.b1.cell 0, h.b1.cell 1, h.b2.cell 0, h.b2.cell 1, h.b3.cell 0, h.b3.cell 1⟩
set_option maxHeartbeats 2000000 in
set_option maxRecDepth 10000 in
theorem chapters_any (w : World) : Calls Tryz.prog 89 #[] w fun e w' => ∃ r, e = .returned (.map (some r)) ∧ IMap .i64 w' r chTab ∧ Below w.heap.size w w' := by
  have hmm := @run_makeMap Tryz.prog
  obtain ⟨W4, hW4⟩ : ∃ W4, ((((w.alloc (.cells #[.func (.func 136) #[] #[], .func (.func 137) #[] #[]] ChT)).alloc (.cells #[.func (.func 138) #[] #[], .func (.func 139) #[] #[]] ChT)).alloc (.cells #[.func (.func 140) #[] #[], .func (.func 141) #[] #[]] ChT)).alloc (.cells #[.func (.func 142) #[] #[], .func (.func 143) #[] #[]] ChT)) = W4 := ⟨_, rfl⟩
  have hs4 : W4.heap.size = w.heap.size + 4 := by rw [← hW4]; simp
  have HB : Hid (Below w.heap.size w (W4.alloc (.map #[] 0))) := Lib.hid (by
    rw [← hW4]
    exact (((((Below.refl w.heap.size w).alloc (Nat.le_refl _) _).alloc (by simp) _).alloc (by simp; omega) _).alloc (by simp; omega) _).alloc (by simp; omega) _)
  have HT : Hid (IMap .i64 (W4.alloc (.map #[] 0)) (w.heap.size + 4) []) := Lib.hid (by rw [← hs4]; exact IMap.made W4 .i64)
  have HKK : Hid (ChK (W4.alloc (.map #[] 0)) w.heap.size) := Lib.hid (by
    rw [← hW4]
    have e1 : (w.alloc (.cells #[.func (.func 136) #[] #[], .func (.func 137) #[] #[]] ChT)).heap.size = w.heap.size + 1 := by simp
    have e2 : ((w.alloc (.cells #[.func (.func 136) #[] #[], .func (.func 137) #[] #[]] ChT)).alloc (.cells #[.func (.func 138) #[] #[], .func (.func 139) #[] #[]] ChT)).heap.size = w.heap.size + 2 := by simp
    have e3 : (((w.alloc (.cells #[.func (.func 136) #[] #[], .func (.func 137) #[] #[]] ChT)).alloc (.cells #[.func (.func 138) #[] #[], .func (.func 139) #[] #[]] ChT)).alloc (.cells #[.func (.func 140) #[] #[], .func (.func 141) #[] #[]] ChT)).heap.size = w.heap.size + 3 := by simp
    refine ⟨((((Bk.fresh w ChT _).alloc _).alloc _).alloc _).alloc _, ?_, ?_, ?_⟩
    · rw [← e1]; exact (((Bk.fresh _ ChT _).alloc _).alloc _).alloc _
    · rw [← e2]; exact ((Bk.fresh _ ChT _).alloc _).alloc _
    · rw [← e3]; exact (Bk.fresh _ ChT _).alloc _)
  obtain ⟨c0, c1, c2, c3, c4, c5, c6, c7⟩ := HKK.out.cells
  rw [← hW4] at c0 c1 c2 c3 c4 c5 c6 c7 HB HT HKK
  clear hW4 hs4
  clear W4
  have st0 := run_stCh_at w (n := w.heap.size) (by simp) .nilFunc .nilFunc (a := .func (.func 136) #[] #[]) (b := .func (.func 137) #[] #[]) rfl rfl
  have st1 := run_stCh_at (w.alloc (.cells #[.func (.func 136) #[] #[], .func (.func 137) #[] #[]] ChT)) (n := w.heap.size + 1) (by simp) .nilFunc .nilFunc (a := .func (.func 138) #[] #[]) (b := .func (.func 139) #[] #[]) rfl rfl
  have st2 := run_stCh_at ((w.alloc (.cells #[.func (.func 136) #[] #[], .func (.func 137) #[] #[]] ChT)).alloc (.cells #[.func (.func 138) #[] #[], .func (.func 139) #[] #[]] ChT)) (n := w.heap.size + 2) (by simp) .nilFunc .nilFunc (a := .func (.func 140) #[] #[]) (b := .func (.func 141) #[] #[]) rfl rfl
  have st3 := run_stCh_at (((w.alloc (.cells #[.func (.func 136) #[] #[], .func (.func 137) #[] #[]] ChT)).alloc (.cells #[.func (.func 138) #[] #[], .func (.func 139) #[] #[]] ChT)).alloc (.cells #[.func (.func 140) #[] #[], .func (.func 141) #[] #[]] ChT)) (n := w.heap.size + 3) (by simp) .nilFunc .nilFunc (a := .func (.func 142) #[] #[]) (b := .func (.func 143) #[] #[]) rfl rfl
  go_enter Tryz.func89, Tryz.ntmps89
  go_wp2_with (refine wpList_mput _ rfl _ _ _ 121 rfl 3 ChT (by kernel_rfl) (by kernel_rfl) (w.heap.size + 4) _ rfl HT.out _ _ rfl rfl rfl ?_; intro w1 hT hg; have hb := HB.out.grown hg (HB.out.size) (fun k hk => by cases hk; exact Nat.le_add_right _ _); have hk := HKK.out.next hg; clear HT HB hg HKK c0 c1 c2 c3 c4 c5 c6 c7; have HT := Lib.hid hT; have HB := Lib.hid hb; have HKK := Lib.hid hk; obtain ⟨c0, c1, c2, c3, c4, c5, c6, c7⟩ := hk.cells; clear hT hb hk)
  go_ret
  exact ⟨_, rfl, HT.out, HB.out⟩
end Go.Proofs.YtbdgkkmbnahgiaaGreatDoor

