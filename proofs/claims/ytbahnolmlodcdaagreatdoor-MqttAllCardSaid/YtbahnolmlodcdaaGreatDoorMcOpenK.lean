/- A part of what the laws stand on: OpenK, MqH, RhA, VerP. -/
import Derived.Test.YtbahnolmlodcdaaGreatDoorMcMPk
import Derived.Test.YtbahnolmlodcdaaGreatDoorMcOpen
import Derived.Test.YtbahnolmlodcdaaGreatDoorMcMqC
import Derived.Test.YtbahnolmlodcdaaGreatDoorMcHdC
import Derived.Test.YtbahnolmlodcdaaGreatDoorMcRfM
import Derived.Test.YtbahnolmlodcdaaGreatDoorMcConD
namespace Go.Proofs.YtbahnolmlodcdaaGreatDoor
open Go.ChangeShapes Go.WideShapes Go.ChangeAt Go.RowKit Go.Deep
set_option maxRecDepth 100000

section
variable {H : Type} {enc : TypeId × Value → H} {P : Program} {w : World} {base : Nat} {spare : Nat → Bool} {held : Bool}
theorem field_at {fs : Array Field} {n : Nat} {cs : List Value} {xs : List (DataW H × List MemPlace)}
    (hf : ∀ (i : Nat) (f : Field), fs[i]? = some f → DataW.trod enc P w base spare held n f.type ((cs.drop f.offset).take (P.cellsOf f.type)) = xs[i]?)
    (i : Nat) {t : TypeId} {o k : Nat} (hi : (fs[i]?.map fun f => (f.type, f.offset, P.cellsOf f.type)) = some (t, o, k)) : DataW.trod enc P w base spare held n t ((cs.drop o).take k) = xs[i]? := by
  obtain ⟨f, hfi, he⟩ := Option.map_eq_some_iff.1 hi
  simp only [Prod.mk.injEq] at he
  obtain ⟨rfl, rfl, rfl⟩ := he
  exact hf i f hfi
theorem Sized.field {t : TypeId} {fs : Array Field} {ds : List (DataW H)} (ht : P.underlying t = some (.struct fs)) (h : Sized P t (.agg ds)) {i : Nat} {u : TypeId} {d : DataW H} (hu : (fs.toList.map (·.type))[i]? = some u) (hd : ds[i]? = some d) : Sized P u d := fun z hz => h z (by
  simp only [DataW.weights, ht]
  exact DataW.weights_mem_each hu hd z hz)
theorem Sized.text {t : TypeId} {s : ByteArray} (h : Sized P t (.lit (.string s.data.toList) : DataW H)) : s.size ≤ 140737488351232 := by
  have := h.str
  simpa [reachBytes] using this
end
section
variable {H : Type} {enc : TypeId × Value → H} {w : World} {base : Nat} {spare : Nat → Bool} {held : Bool}
set_option maxRecDepth 100000 in
theorem open_fi {n : Nat} {cs : List Value} {D : DataW H} {Pl : List MemPlace} (h : DataW.trod enc Tryz.prog w base spare held n 32 cs = some (D, Pl)) (hs : Sized Tryz.prog 32 D) : ∃ f, cs = fiC f ∧ f.topic.size ≤ 140737488351232 := by
  obtain ⟨xs, n', rfl, hx, hlen, hxl, hf⟩ := DataW.trod_struct Tryz.underlying32 h
  simp only [Prod.mk.injEq] at hx
  obtain ⟨rfl, rfl⟩ := hx
  have hc4 : Tryz.prog.cellsOf 32 = 5 := by kernel_rfl
  rw [hc4] at hlen
  match cs, hlen with
  | [c0, c1, c2, c3, c4], _ =>
    match xs, hxl with
    | [y0, y1, y2, y3, y4], _ =>
      have h0 := field_at hf 0 (t := 9) (o := 0) (k := 1) (by kernel_rfl)
      have h1 := field_at hf 1 (t := 3) (o := 1) (k := 1) (by kernel_rfl)
      have h2 := field_at hf 2 (t := 4) (o := 2) (k := 1) (by kernel_rfl)
      have h3 := field_at hf 3 (t := 4) (o := 3) (k := 1) (by kernel_rfl)
      have h4 := field_at hf 4 (t := 3) (o := 4) (k := 1) (by kernel_rfl)
      obtain ⟨z0, e0, rfl, _⟩ := DataW.trod_string Tryz.underlying9 h0
      obtain ⟨z1, e1, rfl, _⟩ := DataW.trod_int Tryz.underlying3 h1
      obtain ⟨z2, e2, rfl⟩ := DataW.trod_bool Tryz.underlying4 h2
      obtain ⟨z3, e3, rfl⟩ := DataW.trod_bool Tryz.underlying4 h3
      obtain ⟨z4, e4, rfl, _⟩ := DataW.trod_int Tryz.underlying3 h4
      simp only [List.drop_zero, List.drop_succ_cons, List.take_succ_cons, List.take_zero, List.cons.injEq, and_true] at e0 e1 e2 e3 e4
      subst e0 e1 e2 e3 e4
      exact ⟨⟨z0, z1, z2, z3, z4⟩, rfl, (hs.field Tryz.underlying32 (i := 0) rfl rfl).text⟩
theorem iv_flat (l : List Int) : l.flatMap (fun z => [Value.int .i64 z]) = iv l := by
  induction l with
  | nil => rfl
  | cons z l ih => simp only [List.flatMap_cons, ih]; rfl
set_option maxRecDepth 100000 in
theorem open_codes {fuel : Nat} {cs : List Value} {d : DataW H} {ps : List MemPlace} (h : DataW.trod enc Tryz.prog w base spare held fuel 26 cs = some (d, ps)) (hs : Sized Tryz.prog 26 d) (hlt : ∀ x ∈ ps, x.block < w.heap.size) :
    ∃ (A : Option Addr) (l : List Int) (c : Nat), cs = [.slice A l.length c] ∧ Rd w w.heap.size 1 A l.length (iv l) ∧ l.length ≤ 140737488351232 ∧ l.length ≤ c := by
  obtain ⟨A, l, c, h1, h2, h3, h4, h5, h6⟩ := open_rows (X := Int) (k := 1) (fun z => [Value.int .i64 z]) (fun _ => rfl) (by omega) Tryz.underlying26 (by kernel_rfl) (fun _ => True)
    (fun n cs D Pl h hs _ => by obtain ⟨z, rfl, _⟩ := DataW.trod_int Tryz.underlying3 h; exact ⟨z, rfl, trivial⟩) h hs hlt
  rw [iv_flat] at h2
  refine ⟨A, l, c, h1, h2, ?_, h5⟩
  have hb : Tryz.prog.bytesOf 3 = 8 := by kernel_rfl
  rw [hb, reachBytes] at h4
  omega
set_option maxRecDepth 100000 in
theorem open_filters {fuel : Nat} {cs : List Value} {d : DataW H} {ps : List MemPlace} (h : DataW.trod enc Tryz.prog w base spare held fuel 27 cs = some (d, ps)) (hs : Sized Tryz.prog 27 d) (hlt : ∀ x ∈ ps, x.block < w.heap.size) :
    ∃ (A : Option Addr) (l : List Fi) (c : Nat), cs = [.slice A l.length c] ∧ Rd w w.heap.size 5 A l.length (fis l) ∧ (∀ f ∈ l, f.topic.size ≤ 140737488351232) ∧ l.length ≤ 140737488351232 ∧ l.length ≤ c := by
  obtain ⟨A, l, c, h1, h2, h3, h4, h5, h6⟩ := open_rows fiC fiC_len (by omega) Tryz.underlying27 (by kernel_rfl) (fun f => f.topic.size ≤ 140737488351232) (fun n cs D Pl h hs _ => open_fi h hs) h hs hlt
  refine ⟨A, l, c, h1, h2, h3, ?_, h5⟩
  have hb : Tryz.prog.bytesOf 32 = 40 := by kernel_rfl
  rw [hb, reachBytes] at h4
  omega
set_option maxRecDepth 100000 in
theorem open_will {n : Nat} {cs : List Value} {D : DataW H} {Pl : List MemPlace} (h : DataW.trod enc Tryz.prog w base spare held n 25 cs = some (D, Pl)) (hs : Sized Tryz.prog 25 D) (hlt : ∀ x ∈ Pl, x.block < w.heap.size) :
    ∃ (x : Wl) (k : Hd), cs = [.string x.topic, .string x.payload, .int .i64 x.qos, .bool x.retain, .slice k.a x.props.length k.c] ∧ Rd w w.heap.size 4 k.a x.props.length (prs x.props) ∧ (∀ p ∈ x.props, prGood p) ∧ x.props.length ≤ 2932031007317 ∧ x.props.length ≤ k.c ∧ x.topic.size ≤ 140737488351232 ∧ x.payload.size ≤ 140737488351232 := by
  obtain ⟨xs, n', rfl, hx, hlen, hxl, hf⟩ := DataW.trod_struct Tryz.underlying25 h
  simp only [Prod.mk.injEq] at hx
  obtain ⟨rfl, rfl⟩ := hx
  have hc4 : Tryz.prog.cellsOf 25 = 5 := by kernel_rfl
  rw [hc4] at hlen
  match cs, hlen with
  | [c0, c1, c2, c3, c4], _ =>
    match xs, hxl with
    | [y0, y1, y2, y3, y4], _ =>
      have h0 := field_at hf 0 (t := 9) (o := 0) (k := 1) (by kernel_rfl)
      have h1 := field_at hf 1 (t := 9) (o := 1) (k := 1) (by kernel_rfl)
      have h2 := field_at hf 2 (t := 3) (o := 2) (k := 1) (by kernel_rfl)
      have h3 := field_at hf 3 (t := 4) (o := 3) (k := 1) (by kernel_rfl)
      have h4 := field_at hf 4 (t := 23) (o := 4) (k := 1) (by kernel_rfl)
      obtain ⟨z0, e0, rfl, _⟩ := DataW.trod_string Tryz.underlying9 h0
      obtain ⟨z1, e1, rfl, _⟩ := DataW.trod_string Tryz.underlying9 h1
      obtain ⟨z2, e2, rfl, _⟩ := DataW.trod_int Tryz.underlying3 h2
      obtain ⟨z3, e3, rfl⟩ := DataW.trod_bool Tryz.underlying4 h3
      obtain ⟨y4d, y4p⟩ := y4
      obtain ⟨A, l, c, e4, g1, g2, g3, g4, _⟩ := open_propL h4 (hs.field Tryz.underlying25 (i := 4) rfl rfl) (fun x hx => hlt x (by simp [hx]))
      simp only [List.drop_zero, List.drop_succ_cons, List.take_succ_cons, List.take_zero, List.cons.injEq, and_true] at e0 e1 e2 e3 e4
      subst e0 e1 e2 e3 e4
      exact ⟨⟨z0, z1, z2, z3, l⟩, ⟨A, c⟩, rfl, g1, g2, g3, g4, (hs.field Tryz.underlying25 (i := 0) rfl rfl).text, (hs.field Tryz.underlying25 (i := 1) rfl rfl).text⟩
set_option maxRecDepth 100000 in
theorem open_pkC {n : Nat} {cs : List Value} {D : DataW H} {Pl : List MemPlace} (h : DataW.trod enc Tryz.prog w base spare held n PkT cs = some (D, Pl)) (hs : Sized Tryz.prog PkT D) (hlt : ∀ x ∈ Pl, x.block < w.heap.size) :
    ∃ (p : Pk) (k : Hs), cs = (pkC p k).toList ∧ PkIn w w.heap.size p k ∧ PkOk p := by
  obtain ⟨xs, n', rfl, hx, hlen, hxl, hf⟩ := DataW.trod_struct Tryz.underlying29 h
  simp only [Prod.mk.injEq] at hx
  obtain ⟨rfl, rfl⟩ := hx
  have hc4 : Tryz.prog.cellsOf PkT = 25 := by kernel_rfl
  rw [hc4] at hlen
  match cs, hlen with
  | [c0, c1, c2, c3, c4, c5, c6, c7, c8, c9, c10, c11, c12, c13, c14, c15, c16, c17, c18, c19, c20, c21, c22, c23, c24], _ =>
    match xs, hxl with
    | [y0, y1, y2, y3, y4, y5, y6, y7, y8, y9, y10, y11, y12, y13, y14, y15, y16, y17, y18, y19, y20], _ =>
      have h0 := field_at hf 0 (t := 3) (o := 0) (k := 1) (by kernel_rfl)
      have h1 := field_at hf 1 (t := 4) (o := 1) (k := 1) (by kernel_rfl)
      have h2 := field_at hf 2 (t := 4) (o := 2) (k := 1) (by kernel_rfl)
      have h3 := field_at hf 3 (t := 3) (o := 3) (k := 1) (by kernel_rfl)
      have h4 := field_at hf 4 (t := 3) (o := 4) (k := 1) (by kernel_rfl)
      have h5 := field_at hf 5 (t := 9) (o := 5) (k := 1) (by kernel_rfl)
      have h6 := field_at hf 6 (t := 9) (o := 6) (k := 1) (by kernel_rfl)
      have h7 := field_at hf 7 (t := 4) (o := 7) (k := 1) (by kernel_rfl)
      have h8 := field_at hf 8 (t := 3) (o := 8) (k := 1) (by kernel_rfl)
      have h9 := field_at hf 9 (t := 9) (o := 9) (k := 1) (by kernel_rfl)
      have h10 := field_at hf 10 (t := 4) (o := 10) (k := 1) (by kernel_rfl)
      have h11 := field_at hf 11 (t := 9) (o := 11) (k := 1) (by kernel_rfl)
      have h12 := field_at hf 12 (t := 4) (o := 12) (k := 1) (by kernel_rfl)
      have h13 := field_at hf 13 (t := 9) (o := 13) (k := 1) (by kernel_rfl)
      have h14 := field_at hf 14 (t := 4) (o := 14) (k := 1) (by kernel_rfl)
      have h15 := field_at hf 15 (t := 25) (o := 15) (k := 5) (by kernel_rfl)
      have h16 := field_at hf 16 (t := 4) (o := 20) (k := 1) (by kernel_rfl)
      have h17 := field_at hf 17 (t := 3) (o := 21) (k := 1) (by kernel_rfl)
      have h18 := field_at hf 18 (t := 26) (o := 22) (k := 1) (by kernel_rfl)
      have h19 := field_at hf 19 (t := 27) (o := 23) (k := 1) (by kernel_rfl)
      have h20 := field_at hf 20 (t := 23) (o := 24) (k := 1) (by kernel_rfl)
      obtain ⟨z0, e0, rfl, _⟩ := DataW.trod_int Tryz.underlying3 h0
      obtain ⟨z1, e1, rfl⟩ := DataW.trod_bool Tryz.underlying4 h1
      obtain ⟨z2, e2, rfl⟩ := DataW.trod_bool Tryz.underlying4 h2
      obtain ⟨z3, e3, rfl, _⟩ := DataW.trod_int Tryz.underlying3 h3
      obtain ⟨z4, e4, rfl, _⟩ := DataW.trod_int Tryz.underlying3 h4
      obtain ⟨z5, e5, rfl, _⟩ := DataW.trod_string Tryz.underlying9 h5
      obtain ⟨z6, e6, rfl, _⟩ := DataW.trod_string Tryz.underlying9 h6
      obtain ⟨z7, e7, rfl⟩ := DataW.trod_bool Tryz.underlying4 h7
      obtain ⟨z8, e8, rfl, _⟩ := DataW.trod_int Tryz.underlying3 h8
      obtain ⟨z9, e9, rfl, _⟩ := DataW.trod_string Tryz.underlying9 h9
      obtain ⟨z10, e10, rfl⟩ := DataW.trod_bool Tryz.underlying4 h10
      obtain ⟨z11, e11, rfl, _⟩ := DataW.trod_string Tryz.underlying9 h11
      obtain ⟨z12, e12, rfl⟩ := DataW.trod_bool Tryz.underlying4 h12
      obtain ⟨z13, e13, rfl, _⟩ := DataW.trod_string Tryz.underlying9 h13
      obtain ⟨z14, e14, rfl⟩ := DataW.trod_bool Tryz.underlying4 h14
      obtain ⟨d15, p15⟩ := y15
      obtain ⟨x15, k15, e15, a1, a2, a3, a4, a5, a6⟩ := open_will h15 (hs.field Tryz.underlying29 (i := 15) rfl rfl) (fun x hx => hlt x (by simp [hx]))
      obtain ⟨z16, e16, rfl⟩ := DataW.trod_bool Tryz.underlying4 h16
      obtain ⟨z17, e17, rfl, _⟩ := DataW.trod_int Tryz.underlying3 h17
      obtain ⟨d18, p18⟩ := y18
      obtain ⟨A18, l18, k18, e18, b1, b2, b3⟩ := open_codes h18 (hs.field Tryz.underlying29 (i := 18) rfl rfl) (fun x hx => hlt x (by simp [hx]))
      obtain ⟨d19, p19⟩ := y19
      obtain ⟨A19, l19, k19, e19, f1, f2, f3, f4⟩ := open_filters h19 (hs.field Tryz.underlying29 (i := 19) rfl rfl) (fun x hx => hlt x (by simp [hx]))
      obtain ⟨d20, p20⟩ := y20
      obtain ⟨A20, l20, k20, e20, r1, r2, r3, r4, _⟩ := open_propL h20 (hs.field Tryz.underlying29 (i := 20) rfl rfl) (fun x hx => hlt x (by simp [hx]))
      simp only [List.drop_zero, List.drop_succ_cons, List.take_succ_cons, List.take_zero, List.cons.injEq, and_true] at e0 e1 e2 e3 e4 e5 e6 e7 e8 e9 e10 e11 e12 e13 e14 e15 e16 e17 e18 e19 e20
      obtain ⟨q0, q1, q2, q3, q4⟩ := e15
      subst e0 e1 e2 e3 e4 e5 e6 e7 e8 e9 e10 e11 e12 e13 e14 e16 e17 e18 e19 e20 q0 q1 q2 q3 q4
      refine ⟨⟨z0, z1, z2, z3, z4, z5, z6, z7, z8, z9, z10, z11, z12, z13, z14, x15, z16, z17, l18, l19, l20⟩, ⟨k15, ⟨A18, k18⟩, ⟨A19, k19⟩, ⟨A20, k20⟩⟩, rfl, ⟨a1, b1, f1, r1, a4, b3, f4, r4⟩, ⟨a2, r2, f2, ⟨(hs.field Tryz.underlying29 (i := 5) rfl rfl).text, (hs.field Tryz.underlying29 (i := 6) rfl rfl).text, (hs.field Tryz.underlying29 (i := 9) rfl rfl).text, (hs.field Tryz.underlying29 (i := 11) rfl rfl).text, (hs.field Tryz.underlying29 (i := 13) rfl rfl).text, a5, a6⟩, ⟨Nat.le_trans a3 (by decide), b2, f3, Nat.le_trans r3 (by decide)⟩⟩⟩
/-- An argument that is a packet. -/
theorem open_packet {r : Reach} {b0 : Nat} {v : Value} {d : DataW H} {ps : List MemPlace} (hval : Value.okWide Tryz.prog w r b0 PkT v) (hd : DataW.Trod enc Tryz.prog w base spare held PkT v d ps) (hs : Sized Tryz.prog PkT d) (hlt : ∀ x ∈ ps, x.block < w.heap.size) :
    ∃ (p : Pk) (k : Hs), v = pkV p k ∧ PkIn w w.heap.size p k ∧ PkOk p := by
  have hv : ∃ cs, v = .agg cs := by
    simp only [Value.okWide, show Tryz.prog.underlying PkT = _ from Tryz.underlying29] at hval
    obtain ⟨cs, h, _⟩ := hval
    exact ⟨cs, h⟩
  obtain ⟨cs, rfl⟩ := hv
  obtain ⟨fuel, hf⟩ := hd
  obtain ⟨p, k, h1, h2⟩ := open_pkC hf hs hlt
  refine ⟨p, k, ?_, h2⟩
  have h1 : cs.toList = (pkC p k).toList := h1
  rw [pkV, Array.toList_inj.1 h1]
end
end Go.Proofs.YtbahnolmlodcdaaGreatDoor

namespace Go.Proofs.YtbahnolmlodcdaaGreatDoor
open Go.RowKit
attribute [local go_sem ↓] to_ldPk to_bxPk to_bdPk to_alPk to_stPk
attribute [local go_sem] run_bxPk run_bxPk_agg ld_fresh run_alPk run_bd0 run_bdK run_bdKI run_bdKIC run_bdKC run_bdKICP run_stPk_fresh pkC_0 pkC_1 pkC_2 pkC_3 pkC_4 pkC_5 pkC_6 pkC_7 pkC_8 pkC_9 pkC_10 pkC_11 pkC_12 pkC_13 pkC_14 pkC_15 pkC_16 pkC_17 pkC_18 pkC_19 pkC_20 pkC_21 pkC_22 pkC_23 pkC_24
theorem example_mq : mqR 4 ⟨#[192, 0]⟩ = ({ pk0 with kind := 12 }, 2, 0) := by decide +kernel
theorem pkK_in (k : Int) (w : World) (B : Nat) : PkIn w B { pk0 with kind := k } hs0 := ⟨Rd.nil _ _ _ _, Rd.nil _ _ _ _, Rd.nil _ _ _ _, Rd.nil _ _ _ _, Nat.zero_le _, Nat.zero_le _, Nat.zero_le _, Nat.zero_le _⟩
theorem pkK_len (k : Int) : PkLen { pk0 with kind := k } := pk0_len
set_option maxHeartbeats 1000000 in
set_option maxRecDepth 10000 in
theorem lives13_any (w : World) : Calls Tryz.prog 21 #[] w fun e w' => e = .returned (.bool true) ∧ Below w.heap.size w w' := by
  have HR := Lib.hid (mqRead_any 4 ⟨#[192, 0]⟩ w (by decide))
  rw [example_mq] at HR
  go_enter Tryz.func21, Tryz.ntmps21
  go_wp2_with fail
  refine HR.out.mono ?_
  rintro e w1 hO
  obtain ⟨K, rfl, hi, hb, -⟩ := hO
  have S1 := Lib.hid (((St.start w).below hb).push hi)
  clear hi hb
  have hl := S1.out.ld 0 rfl
  simp only at hl ⊢
  go_wp2_with fail
  refine (samePk_any { pk0 with kind := 12 } { pk0 with kind := 12 } K hs0 _ (S1.out.into 0 rfl) (pkK_in 12 _ _) (pkK_len 12) (pkK_len 12)).mono ?_
  rintro e w2 ⟨rfl, hb⟩
  have S2 := Lib.hid (S1.out.below hb)
  clear hb hl
  rw [decide_eq_true rfl]
  go_wp2
  go_ret
  exact ⟨rfl, S2.out.kept⟩
theorem mqB_e (v : Int) (p : Pk) : (mqB v p).2 = mqE v p := by
  unfold mqB
  split
  · rename_i h; exact h.symm
  · rfl
theorem mqS_le {v : Int} {p : Pk} (h : mqE v p = 0) : (mqS v p).size ≤ 268435460 := by
  have h1 := (mqE_ok h).2.2.2
  have h2 := hdS_two p.kind (mqF p) (chB v p).1.size
  rw [mqS_size]
  omega
end Go.Proofs.YtbahnolmlodcdaaGreatDoor

namespace Go.Proofs.YtbahnolmlodcdaaGreatDoor
open Go.RowKit

set_option maxHeartbeats 1000000 in
set_option maxRecDepth 10000 in
theorem refFlagged_any (k f : Int) (w : World) : Calls Tryz.prog 125 #[.int .i64 k, .int .i64 f] w fun e w' => e = .returned (.bool (hdFlagged k f)) ∧ w = w' := by
  by_cases h3 : k = 3
  · subst h3
    rw [show hdFlagged 3 f = hdFlag3 f from if_pos rfl]
    exact refFlags3_any f w
  have q3 : (k == 3) = false := beq_eq_false_iff_ne.2 h3
  have HX0 : Hid (hdFlagged k f = decide (f = hdFixed k)) := Lib.hid (if_neg h3)
  clear h3
  by_cases h2 : k = 6 ∨ k = 8 ∨ k = 10
  · have HF : Hid (hdFixed k = 2) := Lib.hid (if_pos h2)
    have HQ : Hid (hdFlagged k f = (f == 2)) := Lib.hid (by rw [HX0.out, HF.out]; by_cases e : f = 2 <;> simp [e])
    clear HF HX0
    obtain ⟨b, hb⟩ : ∃ b, (f == 2) = b := ⟨_, rfl⟩
    rw [hb] at HQ
    rcases h2 with rfl | rfl | rfl
    all_goals
      clear q3
      go_enter Tryz.func125, Tryz.ntmps125
      go_wp2
      go_ret
      exact ⟨by rw [HQ.out]; rfl, rfl⟩
  · have HF : Hid (hdFixed k = 0) := Lib.hid (if_neg h2)
    have HQ : Hid (hdFlagged k f = (f == 0)) := Lib.hid (by rw [HX0.out, HF.out]; by_cases e : f = 0 <;> simp [e])
    have q6 : (k == 6) = false := beq_eq_false_iff_ne.2 (by omega)
    have q8 : (k == 8) = false := beq_eq_false_iff_ne.2 (by omega)
    have q10 : (k == 10) = false := beq_eq_false_iff_ne.2 (by omega)
    clear HF HX0 h2
    obtain ⟨b, hb⟩ : ∃ b, (f == 0) = b := ⟨_, rfl⟩
    rw [hb] at HQ
    go_enter Tryz.func125, Tryz.ntmps125
    go_wp2
    go_ret
    exact ⟨by rw [HQ.out]; rfl, rfl⟩

set_option maxHeartbeats 1000000 in
set_option maxRecDepth 10000 in
theorem refCheck_any (v k f : Int) (n : Nat) (w : World) (hn : n ≤ 268435455) : Calls Tryz.prog 79 #[.int .i64 v, hdrV ⟨k, f, n⟩] w fun e w' => e = .returned (.int .i64 (hdChk v k f)) ∧ Below w.heap.size w w' := by
  have HE : Hid (hdChk v k f = if hdKnown v = false then 2 else if hdKinds v k = false then 8 else if hdFlagged k f = false then 7 else 0) := Lib.hid rfl
  have HB := Lib.hid ((Below.refl w.heap.size w).alloc (Nat.le_refl _) (.cells #[.int .i64 k, .int .i64 f, .int .i64 n] 44))
  have HN := Lib.hid hn
  clear hn
  show Calls _ _ #[.int .i64 v, .agg #[.int .i64 k, .int .i64 f, .int .i64 n]] _ _
  go_enter Tryz.func79, Tryz.ntmps79
  go_wp2_with fail
  refine (refVersion_any v _).mono ?_
  rintro e w1 ⟨rfl, rfl⟩
  cases hk : hdKnown v
  · have HX : Hid (hdChk v k f = 2) := Lib.hid (by rw [HE.out, if_pos hk])
    clear hk
    go_wp2
    go_ret
    exact ⟨by rw [HX.out]; rfl, HB.out⟩
  have HE1 : Hid (hdChk v k f = if hdKinds v k = false then 8 else if hdFlagged k f = false then 7 else 0) := Lib.hid (by rw [HE.out, if_neg (fun x => by rw [hk] at x; cases x)])
  clear hk HE
  have k1 : (w.alloc (.cells #[.int .i64 k, .int .i64 f, .int .i64 n] 44)).cell? ⟨w.heap.size, 0, none⟩ = some (.int .i64 k) := (Bk.fresh w 44 _).cell 0
  have k2 : (w.alloc (.cells #[.int .i64 k, .int .i64 f, .int .i64 n] 44)).cell? ⟨w.heap.size, 1, none⟩ = some (.int .i64 f) := (Bk.fresh w 44 _).cell 1
  have k3 : (w.alloc (.cells #[.int .i64 k, .int .i64 f, .int .i64 n] 44)).cell? ⟨w.heap.size, 2, none⟩ = some (.int .i64 n) := (Bk.fresh w 44 _).cell 2
  go_wp2_with fail
  refine (refKind_any v k _).mono ?_
  rintro e w1 ⟨rfl, rfl⟩
  cases hk : hdKinds v k
  · have HX : Hid (hdChk v k f = 8) := Lib.hid (by rw [HE1.out, if_pos hk])
    clear hk
    go_wp2
    go_ret
    exact ⟨by rw [HX.out]; rfl, HB.out⟩
  have HE2 : Hid (hdChk v k f = if hdFlagged k f = false then 7 else 0) := Lib.hid (by rw [HE1.out, if_neg (fun x => by rw [hk] at x; cases x)])
  clear hk HE1
  go_wp2_with fail
  refine (refFlagged_any k f _).mono ?_
  rintro e w1 ⟨rfl, rfl⟩
  cases hk : hdFlagged k f
  · have HX : Hid (hdChk v k f = 7) := Lib.hid (by rw [HE2.out, if_pos hk])
    clear hk
    go_wp2
    go_ret
    exact ⟨by rw [HX.out]; rfl, HB.out⟩
  have HX : Hid (hdChk v k f = 0) := Lib.hid (by rw [HE2.out, if_neg (fun x => by rw [hk] at x; cases x)])
  have d1 : decide ((n : Int) < 0) = false := decide_eq_false (by omega)
  have d2 : decide ((268435455 : Int) < (n : Int)) = false := decide_eq_false (by have := HN.out; omega)
  clear hk HE2
  go_wp2
  go_ret
  exact ⟨by rw [HX.out]; rfl, HB.out⟩
set_option maxHeartbeats 1000000 in
set_option maxRecDepth 10000 in
theorem refHdRead_any (v : Int) (s : ByteArray) (w : World) (hs : s.size ≤ 1000000000000) : Calls Tryz.prog 25 #[.int .i64 v, .string s] w fun e w' => e = .returned (.tuple #[hdrV (hdR v s).1, .int .i64 ((hdR v s).2.1 : Nat), .int .i64 (hdR v s).2.2]) ∧ Below w.heap.size w w' := by
  have HE : Hid (hdR v s = if hdKnown v = false then (hdr0, 0, 2)
    else if s.size = 0 then (hdr0, 0, 3)
    else if hdChk v (hdByte s / 16 : Nat) (hdByte s % 16 : Nat) ≠ 0 then (hdr0, 0, hdChk v (hdByte s / 16 : Nat) (hdByte s % 16 : Nat))
    else if (readV (ls (s.extract 1 s.size))).2.2 ≠ 0 then (hdr0, 0, (readV (ls (s.extract 1 s.size))).2.2)
    else (⟨(hdByte s / 16 : Nat), (hdByte s % 16 : Nat), (readV (ls (s.extract 1 s.size))).1⟩, (readV (ls (s.extract 1 s.size))).2.1 + 1, 0)) := Lib.hid rfl
  have HS := Lib.hid hs
  have HB := Lib.hid ((Below.refl w.heap.size w).alloc (Nat.le_refl _) (.cells #[.int .i64 0, .int .i64 0, .int .i64 0] 44))
  have HK := Lib.hid (Bk.fresh w 44 #[.int .i64 0, .int .i64 0, .int .i64 0])
  clear hs
  go_enter Tryz.func25, Tryz.ntmps25
  go_wp2_with fail
  refine (refVersion_any v _).mono ?_
  rintro e w1 ⟨rfl, rfl⟩
  cases hk : hdKnown v
  · have HX : Hid (hdR v s = (hdr0, 0, 2)) := Lib.hid (by rw [HE.out, if_pos hk])
    clear hk
    go_wp2
    refine bodyPost_ret (results_hd rfl _ rfl HK.out) rfl ?_
    exact ⟨by rw [HX.out]; rfl, HB.out⟩
  by_cases h0 : s.size = 0
  · have HX : Hid (hdR v s = (hdr0, 0, 3)) := Lib.hid (by rw [HE.out, if_neg (fun x => by rw [hk] at x; cases x), if_pos h0])
    have em := emptyB_iff s
    rw [decide_eq_true h0] at em
    clear hk h0
    go_wp2
    refine bodyPost_ret (results_hd rfl _ rfl HK.out) rfl ?_
    exact ⟨by rw [HX.out]; rfl, HB.out⟩
  have hpos0 : 0 < s.size := by omega
  obtain ⟨b, hb⟩ : ∃ b, s[0]'hpos0 = b := ⟨_, rfl⟩
  have HBY : Hid (hdByte s = b.toNat) := Lib.hid (by
    unfold hdByte
    rw [List.headD_eq_head?_getD, List.head?_eq_getElem?, List.getElem?_eq_getElem (by rw [ls_len]; omega), ls_at s 0 (by omega), hb]
    rfl)
  have HE1 : Hid (hdR v s = if hdChk v (hdByte s / 16 : Nat) (hdByte s % 16 : Nat) ≠ 0 then (hdr0, 0, hdChk v (hdByte s / 16 : Nat) (hdByte s % 16 : Nat))
    else if (readV (ls (s.extract 1 s.size))).2.2 ≠ 0 then (hdr0, 0, (readV (ls (s.extract 1 s.size))).2.2)
    else (⟨(hdByte s / 16 : Nat), (hdByte s % 16 : Nat), (readV (ls (s.extract 1 s.size))).1⟩, (readV (ls (s.extract 1 s.size))).2.1 + 1, 0)) := Lib.hid (by rw [HE.out, if_neg (fun x => by rw [hk] at x; cases x), if_neg h0])
  have hpos : (0 : Int) < (s.size : Int) := by omega
  have em := emptyB_iff s
  rw [decide_eq_false h0] at em
  have hb8 := b.toNat_lt
  have HPOS : Hid (1 ≤ s.size) := Lib.hid (by omega)
  clear hk HE h0
  go_wp2_with fail
  go_region
  have HX0 : Hid (∃ kn fn : Nat, b.toNat / 16 = kn ∧ b.toNat % 16 = fn) := Lib.hid ⟨_, _, rfl, rfl⟩
  obtain ⟨kn, fn, hkn, hfn⟩ := HX0.out
  rw [show ((b.toNat : Int) / 16) = (kn : Int) by omega, show ((b.toNat : Int) % 16) = (fn : Int) by omega]
  have HE2 : Hid (hdR v s = if hdChk v kn fn ≠ 0 then (hdr0, 0, hdChk v kn fn)
    else if (readV (ls (s.extract 1 s.size))).2.2 ≠ 0 then (hdr0, 0, (readV (ls (s.extract 1 s.size))).2.2)
    else (⟨kn, fn, (readV (ls (s.extract 1 s.size))).1⟩, (readV (ls (s.extract 1 s.size))).2.1 + 1, 0)) := Lib.hid (by rw [HE1.out, HBY.out, hkn, hfn])
  obtain ⟨W0, hW0⟩ : ∃ W0, ((w.alloc (.cells #[.int .i64 0, .int .i64 0, .int .i64 0] 44)).alloc (.cells #[.int .i64 kn, .int .i64 fn, .int .i64 0] 44)).drew = W0 := ⟨_, rfl⟩
  have HB1 : Hid (Below w.heap.size w W0) := Lib.hid (by rw [← hW0]; exact below_drawn (HB.out.alloc HB.out.size _) 1)
  have HR1 : Hid (Bk W0 w.heap.size 44 #[.int .i64 0, .int .i64 0, .int .i64 0]) := Lib.hid (by rw [← hW0]; exact (HK.out.alloc _).drewN 1)
  have HK1 : Hid (Bk W0 (w.heap.size + 1) 44 #[.int .i64 kn, .int .i64 fn, .int .i64 0]) := Lib.hid (by
    rw [← hW0]
    have := (Bk.fresh (w.alloc (.cells #[.int .i64 0, .int .i64 0, .int .i64 0] 44)) 44 #[.int .i64 kn, .int .i64 fn, .int .i64 0]).drewN 1
    rwa [show (w.alloc (.cells #[.int .i64 0, .int .i64 0, .int .i64 0] 44)).heap.size = w.heap.size + 1 by simp] at this)
  rw [hW0]
  have HCK := Lib.hid (fun W => refCheck_any v kn fn 0 W (by omega))
  simp only [hdrV] at HCK
  clear HX0 HE1 HBY hkn hfn hb hb8 HK HB em hW0
  have c0 := HK1.out.cell 0; have c1 := HK1.out.cell 1; have c2 := HK1.out.cell 2
  simp only [List.getElem?_toArray, List.getElem?_cons_succ, List.getElem?_cons_zero] at c0 c1 c2
  go_wp2_with fail
  refine (HCK.out _).mono ?_
  rintro e w1 ⟨rfl, hb⟩
  have HB2 := Lib.hid (HB1.out.trans (hb.mono HB1.out.size))
  have HK2 := Lib.hid (HK1.out.below hb HK1.out.lt)
  have HR2 := Lib.hid (HR1.out.below hb HR1.out.lt)
  clear hb c0 c1 c2 HCK HK1 HB1 HR1
  have r0 := HR2.out.cell 0; have r1 := HR2.out.cell 1; have r2 := HR2.out.cell 2
  have q0 := HR2.out.free 0; have q1 := HR2.out.free 1; have q2 := HR2.out.free 2
  simp only [List.getElem?_toArray, List.getElem?_cons_succ, List.getElem?_cons_zero] at r0 r1 r2
  by_cases hc : hdChk v kn fn = 0
  rotate_left
  · have HX : Hid (hdR v s = (hdr0, 0, hdChk v kn fn)) := Lib.hid (by rw [HE2.out, if_pos hc])
    generalize hdChk v kn fn = x at *
    have e0 : (x != 0) = true := bne_iff_ne.2 hc
    clear hc HE2
    go_wp2
    refine bodyPost_ret (results_hd rfl _ rfl (((HR2.out.put 0 (.int .i64 0)).put 1 (.int .i64 0)).put 2 (.int .i64 0))) rfl ?_
    exact ⟨by rw [HX.out]; rfl, ((HB2.out.setCell (Nat.le_refl _) _).setCell (Nat.le_refl _) _).setCell (Nat.le_refl _) _⟩
  rw [hc]
  have HE3 : Hid (hdR v s = if (readV (ls (s.extract 1 s.size))).2.2 ≠ 0 then (hdr0, 0, (readV (ls (s.extract 1 s.size))).2.2)
    else (⟨kn, fn, (readV (ls (s.extract 1 s.size))).1⟩, (readV (ls (s.extract 1 s.size))).2.1 + 1, 0)) := Lib.hid (by rw [HE2.out, if_neg (fun x => x hc)])
  clear hc HE2 r0 r1 r2 q0 q1 q2
  have v1 : (0 : Int) ≤ 1 := by decide
  have v2 : (1 : Int) ≤ (s.size : Int) := by have := HPOS.out; omega
  have HRV := Lib.hid (fun W => ref2Read_any (s.extract 1 s.size) W (by rw [ByteArray.size_extract]; have := HS.out; omega))
  have HLT := Lib.hid (readV_size (ls (s.extract 1 s.size)))
  rw [ls_len, ByteArray.size_extract] at HLT
  go_wp2_with fail
  refine (HRV.out _).mono ?_
  rintro e w2 ⟨rfl, rfl⟩
  obtain ⟨⟨rn, ra, re⟩, hr⟩ : ∃ r, readV (ls (s.extract 1 s.size)) = r := ⟨_, rfl⟩
  rw [hr] at HE3 HLT ⊢
  dsimp only at HLT ⊢
  clear hr HRV
  have r0 := HR2.out.cell 0; have r1 := HR2.out.cell 1; have r2 := HR2.out.cell 2
  have q0 := HR2.out.free 0; have q1 := HR2.out.free 1; have q2 := HR2.out.free 2
  simp only [List.getElem?_toArray, List.getElem?_cons_succ, List.getElem?_cons_zero] at r0 r1 r2
  by_cases hz : re = 0
  rotate_left
  · have HX : Hid (hdR v s = (hdr0, 0, re)) := Lib.hid (by rw [HE3.out, if_pos hz])
    have e0 : (re != 0) = true := bne_iff_ne.2 hz
    clear HE3 hz
    go_wp2
    refine bodyPost_ret (results_hd rfl _ rfl (((HR2.out.put 0 (.int .i64 0)).put 1 (.int .i64 0)).put 2 (.int .i64 0))) rfl ?_
    exact ⟨by rw [HX.out]; rfl, ((HB2.out.setCell (Nat.le_refl _) _).setCell (Nat.le_refl _) _).setCell (Nat.le_refl _) _⟩
  have HX : Hid (hdR v s = (⟨kn, fn, rn⟩, ra + 1, 0)) := Lib.hid (by rw [HE3.out, if_neg (fun x => x hz)])
  subst hz
  have hra : wrap64 (1 + (ra : Int)) = ((ra + 1 : Nat) : Int) := by have := HLT.out; have := HS.out; unfold wrap64; omega
  clear HE3 r0 r1 r2 q0 q1 q2
  have c2 := HK2.out.cell 2
  have f2 := HK2.out.free 2
  simp only [List.getElem?_toArray, List.getElem?_cons_succ, List.getElem?_cons_zero] at c2
  go_upto_region 13 with fail
  have HB4 := Lib.hid (HB2.out.setCell (p := ⟨w.heap.size + 1, 2, none⟩) (Nat.le_succ _) (.int .i64 rn))
  have HK4 := Lib.hid (HK2.out.put 2 (.int .i64 rn))
  have HR4 := Lib.hid (HR2.out.other (p := ⟨w.heap.size + 1, 2, none⟩) (by simp) (.int .i64 rn))
  clear HB2 HK2 HR2 c2 f2
  generalize w1.setCell ⟨w.heap.size + 1, 2, none⟩ (.int .i64 rn) = W9 at *
  have c0 := HK4.out.cell 0; have c1 := HK4.out.cell 1; have c2 := HK4.out.cell 2
  have r0 := HR4.out.cell 0; have r1 := HR4.out.cell 1; have r2 := HR4.out.cell 2
  have q0 := HR4.out.free 0; have q1 := HR4.out.free 1; have q2 := HR4.out.free 2
  simp only [List.setIfInBounds_toArray, List.set_cons_succ, List.set_cons_zero, List.getElem?_toArray, List.getElem?_cons_succ, List.getElem?_cons_zero] at c0 c1 c2 r0 r1 r2
  go_wp2
  refine bodyPost_ret (results_hd rfl _ rfl (((HR4.out.put 0 (.int .i64 kn)).put 1 (.int .i64 fn)).put 2 (.int .i64 rn))) rfl ?_
  refine ⟨?_, ((HB4.out.setCell (Nat.le_refl _) _).setCell (Nat.le_refl _) _).setCell (Nat.le_refl _) _⟩
  rw [HX.out]
  simp [hdrV]
  try omega
end Go.Proofs.YtbahnolmlodcdaaGreatDoor

namespace Go.Proofs.YtbahnolmlodcdaaGreatDoor
open Go.RowKit

/-- How many lists of properties a packet of 5 has, if only their length. -/
def moreN (p : Pk) : Nat := if p.kind = 1 then (if p.hasWill = true then 2 else 1) else if p.kind = 2 ∨ p.kind = 3 ∨ (8 ≤ p.kind ∧ p.kind ≤ 11) then 1 else 0
theorem ver_ack {p : Pk} (h : ackE 4 p = 0) : ackE 5 p = 0 ∧ ackB 5 p = ackB 4 p ∧ (ackB 4 p).1.length ≤ 2 := by
  have h5 : ackE 5 p = 0 := by
    unfold ackE at h ⊢
    split at h
    · cases h
    rename_i h1
    split at h
    · cases h
    rename_i h2
    split at h
    · cases h
    rename_i h3
    have hk : ackK 5 p.kind = ackK 4 p.kind := by
      unfold ackK
      rw [decide_eq_decide]
      omega
    rw [hk, if_neg h1, if_neg (fun x => absurd x.1 (by decide)), if_neg h3]
    exact h
  refine ⟨h5, by unfold ackB; rw [if_pos h5, if_pos h], ?_⟩
  unfold ackE at h
  split at h
  · cases h
  split at h
  · cases h
  rename_i h2
  have hc : p.code = 0 ∧ p.props.length = 0 := by
    refine ⟨Classical.not_not.1 fun x => h2 ⟨rfl, .inl x⟩, Classical.not_not.1 fun x => h2 ⟨rfl, .inr x⟩⟩
  unfold ackB
  split
  · rw [List.length_append, putL_len, ackT, if_pos hc]
    simp
  · simp
theorem ver_con {p : Pk} (h : conE 4 p = 0) : conE 5 p = 0 ∧ conB 5 p = conB 4 p ∧ (conB 4 p).1.length ≤ 2 := by
  have h0 := h
  unfold conE at h
  split at h
  · rename_i x; exact absurd h x
  rename_i h1
  split at h
  · cases h
  split at h
  · cases h
  rename_i h3
  have k1 := Classical.not_not.1 h1
  have hm : conMay 4 p.kind = false := by
    unfold conMay
    exact decide_eq_false (by omega)
  have e : p = ackR1 p.kind 0 0 [] := by
    have := Classical.not_not.1 h3
    unfold conQ at this
    rwa [if_neg (by rw [hm]; decide)] at this
  have hc : p.code = 0 := (congrArg Pk.code e).trans rfl
  have hp : p.props = [] := (congrArg Pk.props e).trans rfl
  unfold conK at k1
  split at k1
  · cases k1
  rename_i k2
  split at k1
  · cases k1
  rename_i k3
  have k5 : conK 5 p.kind = 0 := by
    unfold conK
    rw [if_neg (fun x => k2 (x.imp id fun y => absurd (.inr rfl) y)), if_neg (fun x => absurd x.2 (by decide))]
  have hz : (bytesS p.kind p.props).2 = 0 := by rw [hp, bytesS_none]
  have h5 : conE 5 p = 0 := by
    unfold conE
    rw [if_neg (fun x => x k5), if_neg ?_, if_neg ?_]
    · exact hz
    · intro x
      refine x ?_
      unfold conQ
      rw [hc, hp]
      split <;> exact e
    · rintro ⟨x, y⟩
      have hk : p.kind = 14 ∨ p.kind = 15 := (of_decide_eq_true (show decide ((p.kind = 14 ∨ p.kind = 15) ∧ (5 : Int) = 5) = true from x)).1
      have hk14 : p.kind = 14 := hk.resolve_right fun z => k3 ⟨z, rfl⟩
      rw [hk14, hc] at y
      revert y
      decide +kernel
  refine ⟨h5, by unfold conB; rw [if_pos h5, if_pos h0], ?_⟩
  unfold conB
  rw [if_pos h0, hc, hp]
  unfold tailS
  split
  · simp
  · unfold tailL
    rw [if_pos ⟨rfl, rfl⟩]
    simp
theorem one_size (k : Int) : (⟨(bytesS k []).1.toArray⟩ : ByteArray).size = 1 := by rw [bytesS_none]; rfl
theorem ver_pub {p : Pk} (h : pubE 4 p = 0) : pubE 5 p = 0 ∧ (pubB 5 p).1.size = (pubB 4 p).1.size + 1 ∧ (pubB 4 p).1.size ≤ 4 + p.topic.size + p.payload.size := by
  have g := pubE_good h
  have h5 : pubE 5 p = 0 := by
    refine pubE_all fun j hj => ?_
    obtain rfl | rfl | rfl | rfl | rfl : j = 0 ∨ j = 1 ∨ j = 2 ∨ j = 3 ∨ j = 4 := by omega
    · unfold pubL
      rw [if_pos rfl, if_pos ⟨by decide, g.kind⟩]
    · unfold pubL
      rw [if_neg (by decide), if_pos rfl]
      unfold hdFlags
      rw [if_neg (by decide), if_neg (by rw [g.kind]; decide), if_neg (by rw [g.kind]; decide), if_neg (by rw [g.flags]; decide)]
    · unfold pubL
      rw [if_neg (by decide), if_neg (by decide), if_pos rfl, if_pos]
      exact decide_eq_true ⟨g.same, fun x => absurd x.1 (by decide), g.id0, g.id1⟩
    · unfold pubL
      rw [if_neg (by decide), if_neg (by decide), if_neg (by decide), if_pos rfl, if_pos]
      have hn := g.named
      unfold pubN at hn ⊢
      rw [show decide ((4 : Int) = 5) = false by decide, Bool.false_and, Bool.or_false] at hn
      rw [hn, Bool.true_or]
    · unfold pubL
      rw [if_neg (by decide), if_neg (by decide), if_neg (by decide), if_neg (by decide)]
      exact g.bytes
  have hS : (pubS2 5 p).size = (pubS2 4 p).size + 1 := by
    unfold pubS2
    rw [if_pos rfl, if_neg (by decide), g.old rfl, ByteArray.size_append, one_size]
  have hf : (framedS p.topic).size = 2 + p.topic.size := by
    rw [← ls_len, framed_ls, List.length_append, putL_len, ls_len]
  have h2 : (⟨(putL p.id.toNat 2).toArray⟩ : ByteArray).size = 2 := by rw [← ls_len, ls_mk, putL_len]
  refine ⟨h5, ?_, ?_⟩
  · unfold pubB
    rw [if_pos h5, if_pos h]
    simp only [ByteArray.size_append]
    omega
  · unfold pubB
    rw [if_pos h]
    simp only [ByteArray.size_append]
    unfold pubS2 pubS1
    rw [if_neg (by decide)]
    split
    · rw [ByteArray.size_append, hf, h2]; omega
    · rw [hf]; omega
theorem vdataB_size (s : ByteArray) : (dataB s).size ≤ 2 + s.size := by
  unfold dataB
  split
  · rw [← ls_len, framed_ls, List.length_append, putL_len, ls_len]
    omega
  · exact Nat.zero_le _
theorem tail_four (k : Int) (l : List Pr) : (tail8 4 k l).size = 0 := rfl
theorem tail_five (k : Int) : (tail8 5 k []).size = 1 := one_size k
theorem put_size (m n : Nat) : (⟨(putL m n).toArray⟩ : ByteArray).size = n := by rw [← ls_len, ls_mk, putL_len]
theorem ver_cnt {p : Pk} (h : cntE 4 p = 0) : (cntE 5 p ≠ 0 → p.kind = 2 ∧ p.code ≠ 0) ∧ (cntE 5 p = 0 → (cntB 5 p).1.size = (cntB 4 p).1.size + moreN p) ∧ (cntB 4 p).1.size ≤ 100 + szK p := by
  obtain ⟨g1, g2, g3, g4⟩ := cntE_rng h
  obtain ⟨-, ⟨c1, c2⟩, c3, ⟨c4, c5⟩, c6, c7⟩ := cntE_parts h
  have hE : cntRng 5 p = true → cntE 5 p = 0 := fun hr => by
    unfold cntE
    have ha : cntArg 5 p = true := by
      unfold cntArg
      rw [hr, g2, decide_eq_true g3]
      rfl
    rw [if_neg (by rw [ha]; decide), if_neg (fun y => y.elim (fun z => by rw [c1] at z; cases z) (fun z => by rw [c2] at z; cases z)), if_neg (fun y => by have := c3 y.1; rw [this] at y; cases y.2), if_neg (by omega), if_neg (fun y => y c6)]
    exact c7
  rcases cnt_kind h with k1 | k2
  · have g := cnGood_of h k1
    have hr : cntRng 5 p = true := by
      unfold cntRng at g4 ⊢
      split at g4
      · cases g4
      rw [if_neg (by omega)] at g4
      split at g4
      · cases g4
      rw [if_neg (fun x => absurd x.1 (by decide)), if_neg (by omega), if_neg (fun x => absurd x.1 (by decide))]
      exact g4
    have h5 := hE hr
    obtain ⟨p1, p2⟩ := g.old rfl
    have d1 := vdataB_size p.client; have d2 := vdataB_size p.user; have d3 := vdataB_size p.pass; have d4 := vdataB_size p.will.topic; have d5 := vdataB_size p.will.payload
    have hn : cntName.size = 6 := rfl
    refine ⟨fun x => absurd h5 x, fun _ => ?_, ?_⟩
    · rw [cntB_zero h5, cntB_zero h, if_neg (by omega), if_neg (by omega)]
      unfold moreN cntS cntS3 cntS2 cntS1
      rw [if_pos k1]
      simp only [p1, p2]
      by_cases w1 : p.hasWill = true <;> by_cases w2 : p.hasUser = true <;> by_cases w3 : p.hasPass = true <;>
        simp only [w1, w2, w3, Bool.false_eq_true, if_false, reduceIte, catL_size, List.map_cons, List.map_nil, List.sum_cons, List.sum_nil, tail_four, tail_five, put_size] <;> omega
    · rw [cntB_zero h, if_neg (by omega)]
      unfold cntS cntS3 cntS2 cntS1 szK
      by_cases w1 : p.hasWill = true <;> by_cases w2 : p.hasUser = true <;> by_cases w3 : p.hasPass = true <;>
        simp only [w1, w2, w3, Bool.false_eq_true, if_false, reduceIte, catL_size, List.map_cons, List.map_nil, List.sum_cons, List.sum_nil, tail_four, put_size] <;> omega
  · have g := caGood_of h k2
    refine ⟨fun x => ⟨k2, fun hc => x (hE ?_)⟩, fun h5 => ?_, ?_⟩
    · unfold cntRng cntCode
      rw [if_neg (fun x => absurd x.1 (by decide)), if_pos k2, if_neg (by decide), k2, hc, show may 2 0 = true by decide +kernel]
      simp
    · rw [cntB_zero h5, cntB_zero h, if_pos k2, if_pos k2]
      rw [show moreN p = 1 by unfold moreN; rw [if_neg (by omega), if_pos (.inl k2)]]
      unfold ackS8
      rw [g.old rfl]
      simp only [catL_size, List.map_cons, List.map_nil, List.sum_cons, List.sum_nil, tail_four, tail_five, put_size]
      rfl
    · rw [cntB_zero h, if_pos k2]
      unfold ackS8
      simp only [catL_size, List.map_cons, List.map_nil, List.sum_cons, List.sum_nil, tail_four, put_size]
      have : (⟨#[if p.session = true then (1 : UInt8) else 0]⟩ : ByteArray).size = 1 := rfl
      omega
theorem ver_opt {k : Int} {f : Fi} (h : optB 4 k f = true) : optB 5 k f = true := by
  unfold optB at h ⊢
  split
  · rename_i hk
    rwa [if_pos hk] at h
  · rename_i hk
    rw [if_neg hk, if_pos rfl, Bool.and_eq_true] at h
    rw [if_neg (by decide), h.2]
    have hf := of_decide_eq_true (show decide (f = ⟨f.topic, f.qos, false, false, 0⟩) = true from h.1)
    have h1 : f.handling = 0 := (congrArg Fi.handling hf).trans rfl
    have h2 : f.noLocal = false := (congrArg Fi.noLocal hf).trans rfl
    rw [h1, h2, Bool.and_false]
    rfl
theorem ver_code {c : Int} (h : grantB c = true) : may 9 c = true := by
  unfold grantB at h
  simp only [Bool.or_eq_true, beq_iff_eq] at h
  rcases h with ((rfl | rfl) | rfl) | rfl <;> decide +kernel
theorem ver_sub {p : Pk} (h : sbE 4 p = 0) : (sbE 5 p ≠ 0 → p.kind = 11) ∧ (sbE 5 p = 0 → (sbB 5 p).1.size = (sbB 4 p).1.size + 1) := by
  have g := sbE_ok h
  have hk := of_decide_eq_true (show decide (((4 : Int) = 4 ∨ (4 : Int) = 5) ∧ 8 ≤ p.kind ∧ p.kind ≤ 11) = true from g.known)
  have hK5 : sbKnown 5 p.kind = true := decide_eq_true ⟨.inr rfl, hk.2⟩
  have hpr := g.old rfl
  have hs5 : sbSil 5 p.kind = false := decide_eq_false (fun x => absurd x.2 (by decide))
  refine ⟨fun x => ?_, fun h5 => ?_⟩
  · refine Classical.not_not.1 fun hn => x (sbE_of ?_)
    have hs4 : sbSil 4 p.kind = false := decide_eq_false (fun y => hn y.1)
    have hh := g.have'
    have hq := g.same
    unfold sbHave at hh
    unfold sbQ at hq
    rw [hs4] at hh hq
    refine ⟨hK5, g.id1, g.id2, fun y => absurd y (by decide), ?_, ?_, g.props, fun f hf => ⟨(g.filters f hf).1, ver_opt (g.filters f hf).2⟩, fun c hc => ?_⟩
    · unfold sbHave
      rw [hs5]
      exact hh
    · unfold sbQ
      rw [hs5]
      exact hq
    · have h4 := g.codes c hc
      unfold ansB at h4 ⊢
      rw [if_pos rfl] at h4
      rw [if_neg (by decide)]
      by_cases ha : sbAsk p.kind = true
      · rw [if_pos ha] at hq
        have : p.codes = [] := (congrArg Pk.codes hq).trans rfl
        rw [this] at hc
        cases hc
      · have hk9 : p.kind = 9 := by
          have : ¬ (p.kind = 8 ∨ p.kind = 10) := fun y => ha (decide_eq_true y)
          omega
        rw [hk9]
        exact ver_code h4
  · have g5 := sbE_ok h5
    unfold sbB
    rw [if_pos h5, if_pos h]
    show (⟨(sbS 5 p).toArray⟩ : ByteArray).size = (⟨(sbS 4 p).toArray⟩ : ByteArray).size + 1
    rw [← ls_len, ← ls_len, ls_mk, ls_mk]
    unfold sbS sbHead tailL8
    rw [hpr, if_neg (by decide), if_pos rfl, bytesS_none]
    simp only [List.length_append, List.length_cons, List.length_nil]
    omega
theorem ls_size (l : List UInt8) : (⟨l.toArray⟩ : ByteArray).size = l.length := by rw [← ls_len, ls_mk]
/-- 3.1.1's body, and 5's. -/
theorem ver_ch {p : Pk} (hl : lightK p = true) (h : chE 4 p = 0) : (chE 5 p ≠ 0 → p.kind = 11 ∨ (p.kind = 2 ∧ p.code ≠ 0)) ∧ (chE 5 p = 0 → (chB 5 p).1.size = (chB 4 p).1.size + moreN p ∧ (moreN p = 0 → (chB 5 p).1 = (chB 4 p).1)) ∧ (chB 4 p).1.size ≤ 200000000 := by
  have hsz : szK p ≤ 140000 := by
    unfold lightK at hl
    simp only [Bool.and_eq_true, decide_eq_true_eq] at hl
    omega
  have hls := light_size 4 hl
  unfold chE at h
  split at h
  · rename_i k1
    obtain ⟨a, b, c⟩ := ver_cnt h
    simp only [chE, chB, if_pos k1]
    refine ⟨fun x => .inr (a x), fun x => ⟨b x, fun hm => ?_⟩, by omega⟩
    have := cnt_kind h
    unfold moreN at hm
    split at hm
    · split at hm <;> omega
    · rw [if_pos (.inl (by omega))] at hm; omega
  rename_i k1
  split at h
  · rename_i k2
    obtain ⟨a, b, c⟩ := ver_pub h
    simp only [chE, chB, if_neg k1, if_pos k2]
    have hm : moreN p = 1 := by unfold moreN; rw [if_neg (by omega), if_pos (.inr (.inl k2))]
    have h2 : p.topic.size + p.payload.size ≤ szK p := by unfold szK; omega
    exact ⟨fun x => absurd a x, fun _ => ⟨by rw [hm]; exact b, fun hz => by omega⟩, by omega⟩
  rename_i k2
  split at h
  · rename_i k3
    obtain ⟨a, b, c⟩ := ver_ack h
    simp only [chE, chB, if_neg k1, if_neg k2, if_pos k3]
    have hm : moreN p = 0 := by unfold moreN; rw [if_neg (by omega), if_neg (by omega)]
    exact ⟨fun x => absurd a x, fun _ => ⟨by rw [b, hm]; rfl, fun _ => by rw [b]⟩, by rw [ls_size]; omega⟩
  rename_i k3
  split at h
  · rename_i k4
    obtain ⟨a, b⟩ := ver_sub h
    simp only [chE, chB, if_neg k1, if_neg k2, if_neg k3, if_pos k4]
    have hm : moreN p = 1 := by unfold moreN; rw [if_neg (by omega), if_pos (by omega)]
    refine ⟨fun x => .inl (a x), fun x => ⟨by rw [hm]; exact b x, fun hz => by omega⟩, ?_⟩
    unfold sbB
    rw [if_pos h]
    rw [ls_size]
    omega
  rename_i k4
  obtain ⟨a, b, c⟩ := ver_con h
  simp only [chE, chB, if_neg k1, if_neg k2, if_neg k3, if_neg k4]
  have hm : moreN p = 0 := by unfold moreN; rw [if_neg (by omega), if_neg (by omega)]
  exact ⟨fun x => absurd a x, fun _ => ⟨by rw [b, hm]; rfl, fun _ => by rw [b]⟩, by rw [ls_size]; omega⟩
/-- 3.1.1's bytes, and 5's. -/
theorem ver_mq {p : Pk} (hl : lightK p = true) (h : mqE 4 p = 0) : (mqE 5 p ≠ 0 → p.kind = 11 ∨ (p.kind = 2 ∧ p.code ≠ 0)) ∧
    (mqE 5 p = 0 → (chB 5 p).1.size = (chB 4 p).1.size + moreN p ∧ (moreN p = 0 → mqS 5 p = mqS 4 p) ∧
      ∃ a b, hdR 4 (mqS 4 p) = (⟨p.kind, mqF p, (chB 4 p).1.size⟩, a, 0) ∧ hdR 5 (mqS 5 p) = (⟨p.kind, mqF p, (chB 5 p).1.size⟩, b, 0)) := by
  obtain ⟨h1, h2, h3, h4⟩ := mqE_ok h
  obtain ⟨a, b, c⟩ := ver_ch hl h3
  have k5 : hdKinds 5 p.kind = true := by
    have := of_decide_eq_true (show decide (1 ≤ p.kind ∧ (p.kind ≤ 14 ∨ (p.kind = 15 ∧ (4 : Int) = 5))) = true from h2)
    exact decide_eq_true ⟨this.1, .inl (this.2.elim id fun x => absurd x.2 (by decide))⟩
  have hmore : moreN p ≤ 2 := by unfold moreN; repeat' split
                                 all_goals omega
  refine ⟨fun x => a fun h5 => ?_, fun h5 => ?_⟩
  · obtain ⟨b1, -⟩ := b h5
    exact x (mqE_of (by decide) k5 h5 (by omega))
  · obtain ⟨m1, m2, m3, m4⟩ := mqE_ok h5
    obtain ⟨b1, b2⟩ := b m3
    refine ⟨b1, fun hz => ?_, _, _, hdR_front (ch_flags h1 h2 h3).2 h4 (mqS_ls 4 p), hdR_front (ch_flags m1 m2 m3).2 m4 (mqS_ls 5 p)⟩
    unfold mqS
    rw [b2 hz]
end Go.Proofs.YtbahnolmlodcdaaGreatDoor

