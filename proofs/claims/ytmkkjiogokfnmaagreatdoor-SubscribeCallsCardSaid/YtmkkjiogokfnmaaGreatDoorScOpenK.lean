/- A packet that came in, opened. -/
import Derived.Test.YtmkkjiogokfnmaaGreatDoorScMPk
import Derived.Test.YtmkkjiogokfnmaaGreatDoorScOpen
namespace Go.Proofs.YtmkkjiogokfnmaaGreatDoor
open Go.ChangeShapes Go.WideShapes Go.ChangeAt Go.RowKit Go.Deep
set_option maxRecDepth 100000

section
variable {H : Type} {enc : TypeId × Value → H} {P : Program} {w : World} {base : Nat} {spare : Nat → Bool} {held : Bool}
theorem field_at {fs : Array Field} {n : Nat} {cs : List Value} {xs : List (DataW H × List MemPlace)}
    (hf : ∀ (i : Nat) (f : Field), fs[i]? = some f → DataW.trod enc P w base spare held n f.type ((cs.drop f.offset).take (P.cellsOf f.type)) = xs[i]?)
    (i : Nat) {t : TypeId} {o k : Nat} (hi : (fs[i]?.map fun f => (f.type, f.offset, P.cellsOf f.type)) = some (t, o, k)) : DataW.trod enc P w base spare held n t ((cs.drop o).take k) = xs[i]? := by
  obtain ⟨f, hfi, he⟩ := Option.map_eq_some_iff.1 hi
  simp only [Prod.mk.injEq] at he
  obtain ⟨rfl, rfl, rfl⟩ := he
  exact hf i f hfi
theorem Sized.field {t : TypeId} {fs : Array Field} {ds : List (DataW H)} (ht : P.underlying t = some (.struct fs)) (h : Sized P t (.agg ds)) {i : Nat} {u : TypeId} {d : DataW H} (hu : (fs.toList.map (·.type))[i]? = some u) (hd : ds[i]? = some d) : Sized P u d := fun z hz => h z (by
  simp only [DataW.weights, ht]
  exact DataW.weights_mem_each hu hd z hz)
theorem Sized.text {t : TypeId} {s : ByteArray} (h : Sized P t (.lit (.string s.data.toList) : DataW H)) : s.size ≤ 140737488351232 := by
  have := h.str
  simpa [reachBytes] using this
end
section
variable {H : Type} {enc : TypeId × Value → H} {w : World} {base : Nat} {spare : Nat → Bool} {held : Bool}
set_option maxRecDepth 100000 in
theorem open_fi {n : Nat} {cs : List Value} {D : DataW H} {Pl : List MemPlace} (h : DataW.trod enc Tryz.prog w base spare held n 32 cs = some (D, Pl)) (hs : Sized Tryz.prog 32 D) : ∃ f, cs = fiC f ∧ f.topic.size ≤ 140737488351232 := by
  obtain ⟨xs, n', rfl, hx, hlen, hxl, hf⟩ := DataW.trod_struct Tryz.underlying32 h
  simp only [Prod.mk.injEq] at hx
  obtain ⟨rfl, rfl⟩ := hx
  have hc4 : Tryz.prog.cellsOf 32 = 5 := by kernel_rfl
  rw [hc4] at hlen
  match cs, hlen with
  | [c0, c1, c2, c3, c4], _ =>
    match xs, hxl with
    | [y0, y1, y2, y3, y4], _ =>
      have h0 := field_at hf 0 (t := 9) (o := 0) (k := 1) (by kernel_rfl)
      have h1 := field_at hf 1 (t := 3) (o := 1) (k := 1) (by kernel_rfl)
      have h2 := field_at hf 2 (t := 4) (o := 2) (k := 1) (by kernel_rfl)
      have h3 := field_at hf 3 (t := 4) (o := 3) (k := 1) (by kernel_rfl)
      have h4 := field_at hf 4 (t := 3) (o := 4) (k := 1) (by kernel_rfl)
      obtain ⟨z0, e0, rfl, _⟩ := DataW.trod_string Tryz.underlying9 h0
      obtain ⟨z1, e1, rfl, _⟩ := DataW.trod_int Tryz.underlying3 h1
      obtain ⟨z2, e2, rfl⟩ := DataW.trod_bool Tryz.underlying4 h2
      obtain ⟨z3, e3, rfl⟩ := DataW.trod_bool Tryz.underlying4 h3
      obtain ⟨z4, e4, rfl, _⟩ := DataW.trod_int Tryz.underlying3 h4
      simp only [List.drop_zero, List.drop_succ_cons, List.take_succ_cons, List.take_zero, List.cons.injEq, and_true] at e0 e1 e2 e3 e4
      subst e0 e1 e2 e3 e4
      exact ⟨⟨z0, z1, z2, z3, z4⟩, rfl, (hs.field Tryz.underlying32 (i := 0) rfl rfl).text⟩
theorem iv_flat (l : List Int) : l.flatMap (fun z => [Value.int .i64 z]) = iv l := by
  induction l with
  | nil => rfl
  | cons z l ih => simp only [List.flatMap_cons, ih]; rfl
set_option maxRecDepth 100000 in
theorem open_codes {fuel : Nat} {cs : List Value} {d : DataW H} {ps : List MemPlace} (h : DataW.trod enc Tryz.prog w base spare held fuel 26 cs = some (d, ps)) (hs : Sized Tryz.prog 26 d) (hlt : ∀ x ∈ ps, x.block < w.heap.size) :
    ∃ (A : Option Addr) (l : List Int) (c : Nat), cs = [.slice A l.length c] ∧ Rd w w.heap.size 1 A l.length (iv l) ∧ l.length ≤ 140737488351232 ∧ l.length ≤ c := by
  obtain ⟨A, l, c, h1, h2, h3, h4, h5, h6⟩ := open_rows (X := Int) (k := 1) (fun z => [Value.int .i64 z]) (fun _ => rfl) (by omega) Tryz.underlying26 (by kernel_rfl) (fun _ => True)
    (fun n cs D Pl h hs _ => by obtain ⟨z, rfl, _⟩ := DataW.trod_int Tryz.underlying3 h; exact ⟨z, rfl, trivial⟩) h hs hlt
  rw [iv_flat] at h2
  refine ⟨A, l, c, h1, h2, ?_, h5⟩
  have hb : Tryz.prog.bytesOf 3 = 8 := by kernel_rfl
  rw [hb, reachBytes] at h4
  omega
set_option maxRecDepth 100000 in
theorem open_filters {fuel : Nat} {cs : List Value} {d : DataW H} {ps : List MemPlace} (h : DataW.trod enc Tryz.prog w base spare held fuel 27 cs = some (d, ps)) (hs : Sized Tryz.prog 27 d) (hlt : ∀ x ∈ ps, x.block < w.heap.size) :
    ∃ (A : Option Addr) (l : List Fi) (c : Nat), cs = [.slice A l.length c] ∧ Rd w w.heap.size 5 A l.length (fis l) ∧ (∀ f ∈ l, f.topic.size ≤ 140737488351232) ∧ l.length ≤ 140737488351232 ∧ l.length ≤ c := by
  obtain ⟨A, l, c, h1, h2, h3, h4, h5, h6⟩ := open_rows fiC fiC_len (by omega) Tryz.underlying27 (by kernel_rfl) (fun f => f.topic.size ≤ 140737488351232) (fun n cs D Pl h hs _ => open_fi h hs) h hs hlt
  refine ⟨A, l, c, h1, h2, h3, ?_, h5⟩
  have hb : Tryz.prog.bytesOf 32 = 40 := by kernel_rfl
  rw [hb, reachBytes] at h4
  omega
set_option maxRecDepth 100000 in
theorem open_will {n : Nat} {cs : List Value} {D : DataW H} {Pl : List MemPlace} (h : DataW.trod enc Tryz.prog w base spare held n 25 cs = some (D, Pl)) (hs : Sized Tryz.prog 25 D) (hlt : ∀ x ∈ Pl, x.block < w.heap.size) :
    ∃ (x : Wl) (k : Hd), cs = [.string x.topic, .string x.payload, .int .i64 x.qos, .bool x.retain, .slice k.a x.props.length k.c] ∧ Rd w w.heap.size 4 k.a x.props.length (prs x.props) ∧ (∀ p ∈ x.props, prGood p) ∧ x.props.length ≤ 2932031007317 ∧ x.props.length ≤ k.c ∧ x.topic.size ≤ 140737488351232 ∧ x.payload.size ≤ 140737488351232 := by
  obtain ⟨xs, n', rfl, hx, hlen, hxl, hf⟩ := DataW.trod_struct Tryz.underlying25 h
  simp only [Prod.mk.injEq] at hx
  obtain ⟨rfl, rfl⟩ := hx
  have hc4 : Tryz.prog.cellsOf 25 = 5 := by kernel_rfl
  rw [hc4] at hlen
  match cs, hlen with
  | [c0, c1, c2, c3, c4], _ =>
    match xs, hxl with
    | [y0, y1, y2, y3, y4], _ =>
      have h0 := field_at hf 0 (t := 9) (o := 0) (k := 1) (by kernel_rfl)
      have h1 := field_at hf 1 (t := 9) (o := 1) (k := 1) (by kernel_rfl)
      have h2 := field_at hf 2 (t := 3) (o := 2) (k := 1) (by kernel_rfl)
      have h3 := field_at hf 3 (t := 4) (o := 3) (k := 1) (by kernel_rfl)
      have h4 := field_at hf 4 (t := 23) (o := 4) (k := 1) (by kernel_rfl)
      obtain ⟨z0, e0, rfl, _⟩ := DataW.trod_string Tryz.underlying9 h0
      obtain ⟨z1, e1, rfl, _⟩ := DataW.trod_string Tryz.underlying9 h1
      obtain ⟨z2, e2, rfl, _⟩ := DataW.trod_int Tryz.underlying3 h2
      obtain ⟨z3, e3, rfl⟩ := DataW.trod_bool Tryz.underlying4 h3
      obtain ⟨y4d, y4p⟩ := y4
      obtain ⟨A, l, c, e4, g1, g2, g3, g4, _⟩ := open_propL h4 (hs.field Tryz.underlying25 (i := 4) rfl rfl) (fun x hx => hlt x (by simp [hx]))
      simp only [List.drop_zero, List.drop_succ_cons, List.take_succ_cons, List.take_zero, List.cons.injEq, and_true] at e0 e1 e2 e3 e4
      subst e0 e1 e2 e3 e4
      exact ⟨⟨z0, z1, z2, z3, l⟩, ⟨A, c⟩, rfl, g1, g2, g3, g4, (hs.field Tryz.underlying25 (i := 0) rfl rfl).text, (hs.field Tryz.underlying25 (i := 1) rfl rfl).text⟩
set_option maxRecDepth 100000 in
theorem open_pkC {n : Nat} {cs : List Value} {D : DataW H} {Pl : List MemPlace} (h : DataW.trod enc Tryz.prog w base spare held n PkT cs = some (D, Pl)) (hs : Sized Tryz.prog PkT D) (hlt : ∀ x ∈ Pl, x.block < w.heap.size) :
    ∃ (p : Pk) (k : Hs), cs = (pkC p k).toList ∧ PkIn w w.heap.size p k ∧ PkOk p := by
  obtain ⟨xs, n', rfl, hx, hlen, hxl, hf⟩ := DataW.trod_struct Tryz.underlying29 h
  simp only [Prod.mk.injEq] at hx
  obtain ⟨rfl, rfl⟩ := hx
  have hc4 : Tryz.prog.cellsOf PkT = 25 := by kernel_rfl
  rw [hc4] at hlen
  match cs, hlen with
  | [c0, c1, c2, c3, c4, c5, c6, c7, c8, c9, c10, c11, c12, c13, c14, c15, c16, c17, c18, c19, c20, c21, c22, c23, c24], _ =>
    match xs, hxl with
    | [y0, y1, y2, y3, y4, y5, y6, y7, y8, y9, y10, y11, y12, y13, y14, y15, y16, y17, y18, y19, y20], _ =>
      have h0 := field_at hf 0 (t := 3) (o := 0) (k := 1) (by kernel_rfl)
      have h1 := field_at hf 1 (t := 4) (o := 1) (k := 1) (by kernel_rfl)
      have h2 := field_at hf 2 (t := 4) (o := 2) (k := 1) (by kernel_rfl)
      have h3 := field_at hf 3 (t := 3) (o := 3) (k := 1) (by kernel_rfl)
      have h4 := field_at hf 4 (t := 3) (o := 4) (k := 1) (by kernel_rfl)
      have h5 := field_at hf 5 (t := 9) (o := 5) (k := 1) (by kernel_rfl)
      have h6 := field_at hf 6 (t := 9) (o := 6) (k := 1) (by kernel_rfl)
      have h7 := field_at hf 7 (t := 4) (o := 7) (k := 1) (by kernel_rfl)
      have h8 := field_at hf 8 (t := 3) (o := 8) (k := 1) (by kernel_rfl)
      have h9 := field_at hf 9 (t := 9) (o := 9) (k := 1) (by kernel_rfl)
      have h10 := field_at hf 10 (t := 4) (o := 10) (k := 1) (by kernel_rfl)
      have h11 := field_at hf 11 (t := 9) (o := 11) (k := 1) (by kernel_rfl)
      have h12 := field_at hf 12 (t := 4) (o := 12) (k := 1) (by kernel_rfl)
      have h13 := field_at hf 13 (t := 9) (o := 13) (k := 1) (by kernel_rfl)
      have h14 := field_at hf 14 (t := 4) (o := 14) (k := 1) (by kernel_rfl)
      have h15 := field_at hf 15 (t := 25) (o := 15) (k := 5) (by kernel_rfl)
      have h16 := field_at hf 16 (t := 4) (o := 20) (k := 1) (by kernel_rfl)
      have h17 := field_at hf 17 (t := 3) (o := 21) (k := 1) (by kernel_rfl)
      have h18 := field_at hf 18 (t := 26) (o := 22) (k := 1) (by kernel_rfl)
      have h19 := field_at hf 19 (t := 27) (o := 23) (k := 1) (by kernel_rfl)
      have h20 := field_at hf 20 (t := 23) (o := 24) (k := 1) (by kernel_rfl)
      obtain ⟨z0, e0, rfl, _⟩ := DataW.trod_int Tryz.underlying3 h0
      obtain ⟨z1, e1, rfl⟩ := DataW.trod_bool Tryz.underlying4 h1
      obtain ⟨z2, e2, rfl⟩ := DataW.trod_bool Tryz.underlying4 h2
      obtain ⟨z3, e3, rfl, _⟩ := DataW.trod_int Tryz.underlying3 h3
      obtain ⟨z4, e4, rfl, _⟩ := DataW.trod_int Tryz.underlying3 h4
      obtain ⟨z5, e5, rfl, _⟩ := DataW.trod_string Tryz.underlying9 h5
      obtain ⟨z6, e6, rfl, _⟩ := DataW.trod_string Tryz.underlying9 h6
      obtain ⟨z7, e7, rfl⟩ := DataW.trod_bool Tryz.underlying4 h7
      obtain ⟨z8, e8, rfl, _⟩ := DataW.trod_int Tryz.underlying3 h8
      obtain ⟨z9, e9, rfl, _⟩ := DataW.trod_string Tryz.underlying9 h9
      obtain ⟨z10, e10, rfl⟩ := DataW.trod_bool Tryz.underlying4 h10
      obtain ⟨z11, e11, rfl, _⟩ := DataW.trod_string Tryz.underlying9 h11
      obtain ⟨z12, e12, rfl⟩ := DataW.trod_bool Tryz.underlying4 h12
      obtain ⟨z13, e13, rfl, _⟩ := DataW.trod_string Tryz.underlying9 h13
      obtain ⟨z14, e14, rfl⟩ := DataW.trod_bool Tryz.underlying4 h14
      obtain ⟨d15, p15⟩ := y15
      obtain ⟨x15, k15, e15, a1, a2, a3, a4, a5, a6⟩ := open_will h15 (hs.field Tryz.underlying29 (i := 15) rfl rfl) (fun x hx => hlt x (by simp [hx]))
      obtain ⟨z16, e16, rfl⟩ := DataW.trod_bool Tryz.underlying4 h16
      obtain ⟨z17, e17, rfl, _⟩ := DataW.trod_int Tryz.underlying3 h17
      obtain ⟨d18, p18⟩ := y18
      obtain ⟨A18, l18, k18, e18, b1, b2, b3⟩ := open_codes h18 (hs.field Tryz.underlying29 (i := 18) rfl rfl) (fun x hx => hlt x (by simp [hx]))
      obtain ⟨d19, p19⟩ := y19
      obtain ⟨A19, l19, k19, e19, f1, f2, f3, f4⟩ := open_filters h19 (hs.field Tryz.underlying29 (i := 19) rfl rfl) (fun x hx => hlt x (by simp [hx]))
      obtain ⟨d20, p20⟩ := y20
      obtain ⟨A20, l20, k20, e20, r1, r2, r3, r4, _⟩ := open_propL h20 (hs.field Tryz.underlying29 (i := 20) rfl rfl) (fun x hx => hlt x (by simp [hx]))
      simp only [List.drop_zero, List.drop_succ_cons, List.take_succ_cons, List.take_zero, List.cons.injEq, and_true] at e0 e1 e2 e3 e4 e5 e6 e7 e8 e9 e10 e11 e12 e13 e14 e15 e16 e17 e18 e19 e20
      obtain ⟨q0, q1, q2, q3, q4⟩ := e15
      subst e0 e1 e2 e3 e4 e5 e6 e7 e8 e9 e10 e11 e12 e13 e14 e16 e17 e18 e19 e20 q0 q1 q2 q3 q4
      refine ⟨⟨z0, z1, z2, z3, z4, z5, z6, z7, z8, z9, z10, z11, z12, z13, z14, x15, z16, z17, l18, l19, l20⟩, ⟨k15, ⟨A18, k18⟩, ⟨A19, k19⟩, ⟨A20, k20⟩⟩, rfl, ⟨a1, b1, f1, r1, a4, b3, f4, r4⟩, ⟨a2, r2, f2, ⟨(hs.field Tryz.underlying29 (i := 5) rfl rfl).text, (hs.field Tryz.underlying29 (i := 6) rfl rfl).text, (hs.field Tryz.underlying29 (i := 9) rfl rfl).text, (hs.field Tryz.underlying29 (i := 11) rfl rfl).text, (hs.field Tryz.underlying29 (i := 13) rfl rfl).text, a5, a6⟩, ⟨Nat.le_trans a3 (by decide), b2, f3, Nat.le_trans r3 (by decide)⟩⟩⟩
/-- An argument that is a packet. -/
theorem open_packet {r : Reach} {b0 : Nat} {v : Value} {d : DataW H} {ps : List MemPlace} (hval : Value.okWide Tryz.prog w r b0 PkT v) (hd : DataW.Trod enc Tryz.prog w base spare held PkT v d ps) (hs : Sized Tryz.prog PkT d) (hlt : ∀ x ∈ ps, x.block < w.heap.size) :
    ∃ (p : Pk) (k : Hs), v = pkV p k ∧ PkIn w w.heap.size p k ∧ PkOk p := by
  have hv : ∃ cs, v = .agg cs := by
    simp only [Value.okWide, show Tryz.prog.underlying PkT = _ from Tryz.underlying29] at hval
    obtain ⟨cs, h, _⟩ := hval
    exact ⟨cs, h⟩
  obtain ⟨cs, rfl⟩ := hv
  obtain ⟨fuel, hf⟩ := hd
  obtain ⟨p, k, h1, h2⟩ := open_pkC hf hs hlt
  refine ⟨p, k, ?_, h2⟩
  have h1 : cs.toList = (pkC p k).toList := h1
  rw [pkV, Array.toList_inj.1 h1]
end
end Go.Proofs.YtmkkjiogokfnmaaGreatDoor

