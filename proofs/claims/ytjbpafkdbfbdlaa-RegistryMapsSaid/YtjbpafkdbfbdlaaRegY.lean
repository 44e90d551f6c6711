/-
  The registry's clients, walked: put; least.
-/
import Derived.Test.YtjbpafkdbfbdlaaRegX
import Derived.Deep.RegionLaw

namespace Go.Proofs.Ytjbpafkdbfbdlaa
open Go.RowKit Go.Maps Go.WideShapes
theorem mod_two {S : Nat → Prop} {w w' : World} {i : Nat} (h : w.drew.grownBy w' (some i)) (hs : S i) : Mods S w w' := ⟨h.os, h.tape, h.output, h.size, fun j hj hn => h.block j hj fun e => hn (by injection e with e; rw [e]; exact hs)⟩
theorem grown_undrew {w w' : World} {r : Option Nat} (h : w.drew.grownBy w' r) : w.grownBy w' r := ⟨h.os, h.tape, h.output, h.size, h.block⟩
theorem wf_id {n : Nat} (h : n ≤ 65534) : (Lit.int .i64 (n : Int)).wf = true := WalkArith.wf_i64 (by omega)
set_option maxRecDepth 10000 in
set_option maxHeartbeats 2000000 in
theorem cput_any {w : World} {F : Nat → Prop} {g bi ba : Nat} {c : Cl} {v : Value} {D : DataW Nat} (h : ClI w F g c bi ba v D) (t : Tp) (ht : t.id ≤ 65534) (hs : t.name.size ≤ maxLen) (hn : c.all.length < maxLen) (hi : ∀ x ∈ c.all, x.id ≠ t.id) (hm : ∀ x ∈ c.all, x.name ≠ t.name) :
    Calls Try.prog 27 #[.pointer (some ⟨g, 0, none⟩), tpV t] w fun e w' => e = .returned (.tuple #[]) ∧ (∃ D', ClI w' F g { c with all := tpIns t c.all } bi ba v D') ∧ Mods (fun i => i = bi ∨ i = ba) w w' := by
  have HC := Lib.hid h
  have hb := h.blk.alloc (.cells #[.int .i64 (t.id : Int), .string t.name, .bool t.fixed] 39)
  have hf := Bk.fresh w 39 #[.int .i64 (t.id : Int), .string t.name, .bool t.fixed]
  have HI := Lib.hid (h.ids.alloc (.cells #[.int .i64 (t.id : Int), .string t.name, .bool t.fixed] 39))
  have HA := Lib.hid (h.all.alloc (.cells #[.int .i64 (t.id : Int), .string t.name, .bool t.fixed] 39))
  have HM := Lib.hid ((Mods.refl (S := fun i => i = bi ∨ i = ba) w).alloc (.cells #[.int .i64 (t.id : Int), .string t.name, .bool t.fixed] 39))
  have h1 := h.lt bi h.fi
  have h2 := h.lt ba h.fa
  have h3 := h.lt g h.fg
  have hne := h.ne
  clear h
  unfold tpV
  go_enter Try.func27, Try.ntmps27
  go_wp2
  generalize hW : w.alloc (.cells #[.int .i64 (t.id : Int), .string t.name, .bool t.fixed] 39) = W1 at hb hf HI HA HM ⊢
  have HW := Lib.hid hW
  clear hW
  have hc := hb.client
  have hd := hf.three.1
  have HB := Lib.hid hb
  have HF := Lib.hid hf
  clear hb hf
  obtain ⟨w2, hrun, hown2, hgrow2⟩ := (HI.out.drew).update lawS Try.underlying56 hn (WideMaps.keyOf_string_mk Try.underlying9 hs) (plainElem_int Try.underlying3 (wf_id ht))
  have HO2 := Lib.hid hown2
  have HG2 := Lib.hid hgrow2
  clear hown2 hgrow2
  go_region
  have hs2 : W1.heap.size ≤ w2.heap.size := HG2.out.size
  have hk2 : ∀ i, i < W1.heap.size → i ≠ bi → w2.heap[i]? = W1.heap[i]? := fun i hi hne => HG2.out.block i hi fun e => hne (by injection e)
  have hbW : W1.heap.size = w.heap.size + 1 := by rw [← HW.out]; simp
  have hb2 : Bk w2 g 60 #[.map (some bi), .map (some ba), v, .int .i64 (c.next : Int)] := (hk2 g (by omega) (Ne.symm hne.2.1)).trans HB.out
  have hf2 : Bk w2 w.heap.size 39 #[.int .i64 (t.id : Int), .string t.name, .bool t.fixed] := (hk2 w.heap.size (by omega) (by omega)).trans HF.out
  have HA2 : Hid (w2.ownsMap Try.prog 3 tpR ba c.all.length (tpD tpE c.all)) := Lib.hid (ownsMap_keep Try.prog HA.out (hk2 ba (by omega) hne.1.symm))
  have hc2 := hb2.client
  have hd2 := hf2.three.1
  clear hk2 hb2
  obtain ⟨w3, hrun3, hown3, hgrow3⟩ := (HA2.out.drew).update lawI Try.underlying55 hn (keyOf_int_mk Try.underlying3 (wf_id ht)) (tpR_mk t)
  unfold tpV at hrun3
  have HO3 := Lib.hid hown3
  have HG3 := Lib.hid hgrow3
  clear hown3 hgrow3
  go_wp2
  go_region
  go_end0
  refine ⟨rfl, ⟨D.put (.string t.name.data.toList) (.lit (.int .i64 (t.id : Int))), ?_⟩, ?_⟩
  · have hC1 : ClI W1.drew F g c bi ba v D := HC.out.keep _ _ _ _ (by show w.heap.size ≤ W1.heap.size; omega) fun i hi => by
      show W1.heap[i]? = _
      rw [← HW.out]
      exact Below.heap_alloc _ _ _ (HC.out.lt i hi)
    exact hC1.put lawS hi hm HO2.out HG2.out HO3.out (grown_undrew HG3.out)
  · exact HM.out.trans ((mod_two HG2.out (.inl rfl)).trans (mod_two HG3.out (.inr rfl)))
end Go.Proofs.Ytjbpafkdbfbdlaa
