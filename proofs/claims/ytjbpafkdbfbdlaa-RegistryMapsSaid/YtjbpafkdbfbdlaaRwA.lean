/-
  The registry, walked: what a call leaves; need.
-/
import Derived.Test.YtjbpafkdbfbdlaaRegZ

namespace Go.Proofs.Ytjbpafkdbfbdlaa
open Go.RowKit Go.Maps Go.WideShapes
/-- The registry in memory, by what it has; K: a bound. -/
def RgSt (w : World) (F : Nat → Prop) (gp : Nat) (L : Rg) (K : Nat) : Prop :=
  ∃ bm M, RgI w F gp bm M ∧ L = rgOf M ∧ M.length ≤ K ∧ ∀ x ∈ M, x.2.cl.back.length + x.2.cl.all.length ≤ K
theorem RgSt.keep {w w' : World} {F : Nat → Prop} {gp K : Nat} {L : Rg} (h : RgSt w F gp L K) (hs : w.heap.size ≤ w'.heap.size) (hk : ∀ i, F i → w'.heap[i]? = w.heap[i]?) : RgSt w' F gp L K := by
  obtain ⟨bm, M, a, b⟩ := h
  exact ⟨bm, M, a.keep _ _ _ _ _ hs hk, b⟩
theorem RgSt.lt {w : World} {F : Nat → Prop} {gp K : Nat} {L : Rg} (h : RgSt w F gp L K) : ∀ i, F i → i < w.heap.size := by
  obtain ⟨bm, M, a, b⟩ := h
  exact a.lt
theorem RgSt.below {w w' : World} {F : Nat → Prop} {gp K : Nat} {L : Rg} (h : RgSt w F gp L K) (hb : Below w.heap.size w w') : RgSt w' F gp L K := h.keep hb.size fun i hi => hb.block i (h.lt i hi)
theorem RgSt.ok {w : World} {F : Nat → Prop} {gp K : Nat} {L : Rg} (h : RgSt w F gp L K) : RgOk L := by
  obtain ⟨bm, M, a, rfl, _⟩ := h
  exact a.ok
theorem RgSt.more {w : World} {F : Nat → Prop} {gp K K' : Nat} {L : Rg} (h : RgSt w F gp L K) (hK : K ≤ K') : RgSt w F gp L K' := by
  obtain ⟨bm, M, a, b, c, d⟩ := h
  exact ⟨bm, M, a, b, Nat.le_trans c hK, fun x hx => Nat.le_trans (d x hx) hK⟩
/-- What a call leaves. -/
def RgTo (w : World) (F : Nat → Prop) (gp : Nat) (L' : Rg) (K' : Nat) (w' : World) : Prop :=
  ∃ F', RgSt w' F' gp L' K' ∧ (∀ i, F' i → F i ∨ w.heap.size ≤ i) ∧ Mods F w w'
theorem RgSt.to {w w' : World} {F : Nat → Prop} {gp K K' : Nat} {L : Rg} (h : RgSt w F gp L K) (hb : Below w.heap.size w w') (hK : K ≤ K') : RgTo w F gp L K' w' := ⟨F, (h.below hb).more hK, fun _ hi => .inl hi, Mods.of_below hb⟩
theorem RgTo.front {w w1 w' : World} {F : Nat → Prop} {gp K : Nat} {L : Rg} (hb : Below w.heap.size w w1) (h : RgTo w1 F gp L K w') : RgTo w F gp L K w' := by
  obtain ⟨F', a, b, c⟩ := h
  exact ⟨F', a, fun i hi => (b i hi).imp id (Nat.le_trans hb.size), (Mods.of_below hb).trans c⟩
theorem RgTo.back {w w1 w' : World} {F : Nat → Prop} {gp K : Nat} {L : Rg} (h : RgTo w F gp L K w1) (hb : Below w1.heap.size w1 w') : RgTo w F gp L K w' := by
  obtain ⟨F', a, b, c⟩ := h
  exact ⟨F', a.below hb, b, c.trans (Mods.of_below hb)⟩
theorem rgSet_same {L : Rg} (h : RgOk L) {c : ByteArray} (hn : rgT L c ≠ []) : rgSet L c (rgT L c) = L := by
  unfold rgSet
  rw [if_neg hn]
  refine kvPut_same h.up ?_
  unfold rgT at hn ⊢
  cases e : kvAt c L with
  | none => rw [e] at hn; exact absurd rfl hn
  | some l => rfl
/-- What need hands back, and what may be done with it. -/
structure NeedOut (w : World) (F : Nat → Prop) (gp : Nat) (L : Rg) (K : Nat) (c : ByteArray) (w1 : World) (Fc : Nat → Prop) (g : Nat) (cl : Cl) (bi ba : Nat) (v : Value) (D : DataW Nat) : Prop where
  inn : ClI w1 Fc g cl bi ba v D
  ok : ClOk cl
  all : cl.all = rgT L c
  len : cl.back.length + cl.all.length ≤ K
  same : cl.all ≠ [] → w1 = w
  mods : Mods F w w1
  close : ∀ w2 cl' v' D', ClI w2 Fc g cl' bi ba v' D' → ClOk cl' → cl'.all ≠ [] → cl'.back.length + cl'.all.length ≤ K + 1 → Mods Fc w1 w2 → RgTo w F gp (rgSet L c cl'.all) (K + 1) w2
theorem need_any {w : World} {F : Nat → Prop} {gp K : Nat} {L : Rg} (h : RgSt w F gp L K) (c : ByteArray) (hc : c.size ≤ maxLen) (hK : K < maxLen) :
    Calls Try.prog 26 #[.pointer (some ⟨gp, 0, none⟩), .string c] w fun e w1 => ∃ g Fc cl bi ba v D, e = .returned (.pointer (some ⟨g, 0, none⟩)) ∧ NeedOut w F gp L K c w1 Fc g cl bi ba v D := by
  obtain ⟨bm, M, hR, rfl, hM, hB⟩ := h
  cases e : kvAt c M with
  | some en =>
    refine (need_had hR c hc e).mono ?_
    rintro _ w1 ⟨rfl, rfl⟩
    have hm := kvAt_mem e
    obtain ⟨⟨bi, ba, v, D, hC⟩, ok, hne, hin⟩ := hR.each _ hm
    refine ⟨en.g, en.F, en.cl, bi, ba, v, D, rfl, hC, ok, by rw [rgT_of, e]; rfl, hB _ hm, fun _ => rfl, Mods.refl w, fun w2 cl' v' D' h2 ok2 ne2 len2 hM2 => ?_⟩
    have hu := hR.upd (en' := ⟨en.g, cl', en.F⟩) e rfl ⟨bi, ba, v', D', h2⟩ ok2 ne2 (fun i hi => .inl hi) (fun i hi hn => hM2.block i hi hn) hM2.size
    refine ⟨_, ⟨bm, _, hu, (rgOf_upd (en' := ⟨en.g, cl', en.F⟩) ne2).symm, ?_, fun x hx => ?_⟩, fun i hi => hi.imp id (·.1), hM2.mono fun i _ hs => (hin i hs).1⟩
    · rw [kvPut_len hR.up e]
      omega
    · rcases mem_kvPut.1 hx with rfl | ⟨hx, _⟩
      · exact len2
      · exact Nat.le_succ_of_le (hB x hx)
  | none =>
    refine (need_new hR c hc e (by omega)).mono ?_
    rintro _ w1 ⟨rfl, hC, hown, hMd, hsz⟩
    refine ⟨w.heap.size + 2, _, cl0, _, _, _, _, rfl, hC, ClOk.new, by rw [rgT_of, e]; rfl, Nat.zero_le _, fun hn => absurd rfl hn, hMd.mono (fun i _ hs => by rw [hs]; exact hR.fm), fun w2 cl' v' D' h2 ok2 ne2 len2 hM2 => ?_⟩
    have hbm := hR.lt bm hR.fm
    have ho2 := ownsMap_keep Try.prog hown (hM2.block bm (by omega) (fun hf => by omega))
    have hu := hR.add (en' := ⟨w.heap.size + 2, cl', fun i => w.heap.size ≤ i ∧ i < w.heap.size + 3⟩) e ho2 ⟨_, _, v', D', h2⟩ ok2 ne2 (fun i hi => hi.1)
      (fun i hi hn => (hM2.block i (by omega) (fun hf => by omega)).trans (hMd.block i hi hn)) (by have := hM2.size; omega)
    refine ⟨_, ⟨bm, _, hu, (rgOf_upd (en' := ⟨w.heap.size + 2, cl', fun i => w.heap.size ≤ i ∧ i < w.heap.size + 3⟩) ne2).symm, ?_, fun x hx => ?_⟩, fun i hi => hi.imp id (·.1), ?_⟩
    · unfold kvPut
      rw [kvDel_none e, kvIns_len]
      omega
    · rcases mem_kvPut.1 hx with rfl | ⟨hx, _⟩
      · exact len2
      · exact Nat.le_succ_of_le (hB x hx)
    · exact ⟨hM2.os.trans hMd.os, hM2.tape.trans hMd.tape, hM2.output.trans hMd.output, by have := hM2.size; omega, fun i hi hs => (hM2.block i (by omega) (fun hf => by omega)).trans (hMd.block i hi fun hb => hs (by rw [hb]; exact hR.fm))⟩
theorem of_st {w : World} {F : Nat → Prop} {gp K : Nat} {L : Rg} (h : RgSt w F gp L K) (c : ByteArray) (hc : c.size ≤ maxLen) :
    Calls Try.prog 18 #[.pointer (some ⟨gp, 0, none⟩), .string c] w fun e w1 => ∃ o, e = .returned (.pointer o) ∧ w = w1 ∧
      ((o = none ∧ rgT L c = []) ∨ ∃ g Fc cl bi ba v D, o = some ⟨g, 0, none⟩ ∧ ClI w Fc g cl bi ba v D ∧ ClOk cl ∧ cl.all = rgT L c ∧ cl.all ≠ [] ∧ cl.back.length + cl.all.length ≤ K ∧ ∀ i, Fc i → F i) := by
  obtain ⟨bm, M, hR, rfl, hM, hB⟩ := h
  refine (of_any hR c hc).mono ?_
  rintro _ w1 ⟨rfl, rfl⟩
  refine ⟨_, rfl, rfl, ?_⟩
  cases e : kvAt c M with
  | none => exact .inl ⟨rfl, by rw [rgT_of, e]; rfl⟩
  | some en =>
    have hm := kvAt_mem e
    obtain ⟨⟨bi, ba, v, D, hC⟩, ok, hne, hin⟩ := hR.each _ hm
    exact .inr ⟨en.g, en.F, en.cl, bi, ba, v, D, rfl, hC, ok, by rw [rgT_of, e]; rfl, hne, hB _ hm, fun i hi => (hin i hi).1⟩
end Go.Proofs.Ytjbpafkdbfbdlaa
