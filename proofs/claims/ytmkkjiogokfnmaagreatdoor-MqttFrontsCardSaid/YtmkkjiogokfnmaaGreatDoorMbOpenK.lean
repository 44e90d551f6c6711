/- A part of what the laws stand on: OpenK, MqH, Laid. -/
import Derived.Test.YtmkkjiogokfnmaaGreatDoorMbMPk
import Derived.Test.YtmkkjiogokfnmaaGreatDoorMbMPrp
import Derived.Test.YtmkkjiogokfnmaaGreatDoorMbMqC
import Derived.Test.YtmkkjiogokfnmaaGreatDoorCards
import Derived.Test.YtmkkjiogokfnmaaGreatDoorTie
import Derived.ChangeVars
import Derived.LaidLaws
import Derived.LaidHandle
import Derived.SevenTiedAt
namespace Go.Proofs.YtmkkjiogokfnmaaGreatDoor
open Go.ChangeShapes Go.WideShapes Go.ChangeAt Go.RowKit Go.Deep
set_option maxRecDepth 100000

section
variable {H : Type} {enc : TypeId × Value → H} {P : Program} {w : World} {base : Nat} {spare : Nat → Bool} {held : Bool}
theorem field_at {fs : Array Field} {n : Nat} {cs : List Value} {xs : List (DataW H × List MemPlace)}
    (hf : ∀ (i : Nat) (f : Field), fs[i]? = some f → DataW.trod enc P w base spare held n f.type ((cs.drop f.offset).take (P.cellsOf f.type)) = xs[i]?)
    (i : Nat) {t : TypeId} {o k : Nat} (hi : (fs[i]?.map fun f => (f.type, f.offset, P.cellsOf f.type)) = some (t, o, k)) : DataW.trod enc P w base spare held n t ((cs.drop o).take k) = xs[i]? := by
  obtain ⟨f, hfi, he⟩ := Option.map_eq_some_iff.1 hi
  simp only [Prod.mk.injEq] at he
  obtain ⟨rfl, rfl, rfl⟩ := he
  exact hf i f hfi
theorem Sized.field {t : TypeId} {fs : Array Field} {ds : List (DataW H)} (ht : P.underlying t = some (.struct fs)) (h : Sized P t (.agg ds)) {i : Nat} {u : TypeId} {d : DataW H} (hu : (fs.toList.map (·.type))[i]? = some u) (hd : ds[i]? = some d) : Sized P u d := fun z hz => h z (by
  simp only [DataW.weights, ht]
  exact DataW.weights_mem_each hu hd z hz)
theorem Sized.text {t : TypeId} {s : ByteArray} (h : Sized P t (.lit (.string s.data.toList) : DataW H)) : s.size ≤ 140737488351232 := by
  have := h.str
  simpa [reachBytes] using this
end
section
variable {H : Type} {enc : TypeId × Value → H} {w : World} {base : Nat} {spare : Nat → Bool} {held : Bool}
set_option maxRecDepth 100000 in
theorem open_fi {n : Nat} {cs : List Value} {D : DataW H} {Pl : List MemPlace} (h : DataW.trod enc Tryz.prog w base spare held n 32 cs = some (D, Pl)) (hs : Sized Tryz.prog 32 D) : ∃ f, cs = fiC f ∧ f.topic.size ≤ 140737488351232 := by
  obtain ⟨xs, n', rfl, hx, hlen, hxl, hf⟩ := DataW.trod_struct Tryz.underlying32 h
  simp only [Prod.mk.injEq] at hx
  obtain ⟨rfl, rfl⟩ := hx
  have hc4 : Tryz.prog.cellsOf 32 = 5 := by kernel_rfl
  rw [hc4] at hlen
  match cs, hlen with
  | [c0, c1, c2, c3, c4], _ =>
    match xs, hxl with
    | [y0, y1, y2, y3, y4], _ =>
      have h0 := field_at hf 0 (t := 9) (o := 0) (k := 1) (by kernel_rfl)
      have h1 := field_at hf 1 (t := 3) (o := 1) (k := 1) (by kernel_rfl)
      have h2 := field_at hf 2 (t := 4) (o := 2) (k := 1) (by kernel_rfl)
      have h3 := field_at hf 3 (t := 4) (o := 3) (k := 1) (by kernel_rfl)
      have h4 := field_at hf 4 (t := 3) (o := 4) (k := 1) (by kernel_rfl)
      obtain ⟨z0, e0, rfl, _⟩ := DataW.trod_string Tryz.underlying9 h0
      obtain ⟨z1, e1, rfl, _⟩ := DataW.trod_int Tryz.underlying3 h1
      obtain ⟨z2, e2, rfl⟩ := DataW.trod_bool Tryz.underlying4 h2
      obtain ⟨z3, e3, rfl⟩ := DataW.trod_bool Tryz.underlying4 h3
      obtain ⟨z4, e4, rfl, _⟩ := DataW.trod_int Tryz.underlying3 h4
      simp only [List.drop_zero, List.drop_succ_cons, List.take_succ_cons, List.take_zero, List.cons.injEq, and_true] at e0 e1 e2 e3 e4
      subst e0 e1 e2 e3 e4
      exact ⟨⟨z0, z1, z2, z3, z4⟩, rfl, (hs.field Tryz.underlying32 (i := 0) rfl rfl).text⟩
theorem iv_flat (l : List Int) : l.flatMap (fun z => [Value.int .i64 z]) = iv l := by
  induction l with
  | nil => rfl
  | cons z l ih => simp only [List.flatMap_cons, ih]; rfl
set_option maxRecDepth 100000 in
theorem open_codes {fuel : Nat} {cs : List Value} {d : DataW H} {ps : List MemPlace} (h : DataW.trod enc Tryz.prog w base spare held fuel 26 cs = some (d, ps)) (hs : Sized Tryz.prog 26 d) (hlt : ∀ x ∈ ps, x.block < w.heap.size) :
    ∃ (A : Option Addr) (l : List Int) (c : Nat), cs = [.slice A l.length c] ∧ Rd w w.heap.size 1 A l.length (iv l) ∧ l.length ≤ 140737488351232 ∧ l.length ≤ c := by
  obtain ⟨A, l, c, h1, h2, h3, h4, h5, h6⟩ := open_rows (X := Int) (k := 1) (fun z => [Value.int .i64 z]) (fun _ => rfl) (by omega) Tryz.underlying26 (by kernel_rfl) (fun _ => True)
    (fun n cs D Pl h hs _ => by obtain ⟨z, rfl, _⟩ := DataW.trod_int Tryz.underlying3 h; exact ⟨z, rfl, trivial⟩) h hs hlt
  rw [iv_flat] at h2
  refine ⟨A, l, c, h1, h2, ?_, h5⟩
  have hb : Tryz.prog.bytesOf 3 = 8 := by kernel_rfl
  rw [hb, reachBytes] at h4
  omega
set_option maxRecDepth 100000 in
theorem open_filters {fuel : Nat} {cs : List Value} {d : DataW H} {ps : List MemPlace} (h : DataW.trod enc Tryz.prog w base spare held fuel 27 cs = some (d, ps)) (hs : Sized Tryz.prog 27 d) (hlt : ∀ x ∈ ps, x.block < w.heap.size) :
    ∃ (A : Option Addr) (l : List Fi) (c : Nat), cs = [.slice A l.length c] ∧ Rd w w.heap.size 5 A l.length (fis l) ∧ (∀ f ∈ l, f.topic.size ≤ 140737488351232) ∧ l.length ≤ 140737488351232 ∧ l.length ≤ c := by
  obtain ⟨A, l, c, h1, h2, h3, h4, h5, h6⟩ := open_rows fiC fiC_len (by omega) Tryz.underlying27 (by kernel_rfl) (fun f => f.topic.size ≤ 140737488351232) (fun n cs D Pl h hs _ => open_fi h hs) h hs hlt
  refine ⟨A, l, c, h1, h2, h3, ?_, h5⟩
  have hb : Tryz.prog.bytesOf 32 = 40 := by kernel_rfl
  rw [hb, reachBytes] at h4
  omega
set_option maxRecDepth 100000 in
theorem open_will {n : Nat} {cs : List Value} {D : DataW H} {Pl : List MemPlace} (h : DataW.trod enc Tryz.prog w base spare held n 25 cs = some (D, Pl)) (hs : Sized Tryz.prog 25 D) (hlt : ∀ x ∈ Pl, x.block < w.heap.size) :
    ∃ (x : Wl) (k : Hd), cs = [.string x.topic, .string x.payload, .int .i64 x.qos, .bool x.retain, .slice k.a x.props.length k.c] ∧ Rd w w.heap.size 4 k.a x.props.length (prs x.props) ∧ (∀ p ∈ x.props, prGood p) ∧ x.props.length ≤ 2932031007317 ∧ x.props.length ≤ k.c ∧ x.topic.size ≤ 140737488351232 ∧ x.payload.size ≤ 140737488351232 := by
  obtain ⟨xs, n', rfl, hx, hlen, hxl, hf⟩ := DataW.trod_struct Tryz.underlying25 h
  simp only [Prod.mk.injEq] at hx
  obtain ⟨rfl, rfl⟩ := hx
  have hc4 : Tryz.prog.cellsOf 25 = 5 := by kernel_rfl
  rw [hc4] at hlen
  match cs, hlen with
  | [c0, c1, c2, c3, c4], _ =>
    match xs, hxl with
    | [y0, y1, y2, y3, y4], _ =>
      have h0 := field_at hf 0 (t := 9) (o := 0) (k := 1) (by kernel_rfl)
      have h1 := field_at hf 1 (t := 9) (o := 1) (k := 1) (by kernel_rfl)
      have h2 := field_at hf 2 (t := 3) (o := 2) (k := 1) (by kernel_rfl)
      have h3 := field_at hf 3 (t := 4) (o := 3) (k := 1) (by kernel_rfl)
      have h4 := field_at hf 4 (t := 23) (o := 4) (k := 1) (by kernel_rfl)
      obtain ⟨z0, e0, rfl, _⟩ := DataW.trod_string Tryz.underlying9 h0
      obtain ⟨z1, e1, rfl, _⟩ := DataW.trod_string Tryz.underlying9 h1
      obtain ⟨z2, e2, rfl, _⟩ := DataW.trod_int Tryz.underlying3 h2
      obtain ⟨z3, e3, rfl⟩ := DataW.trod_bool Tryz.underlying4 h3
      obtain ⟨y4d, y4p⟩ := y4
      obtain ⟨A, l, c, e4, g1, g2, g3, g4, _⟩ := open_propL h4 (hs.field Tryz.underlying25 (i := 4) rfl rfl) (fun x hx => hlt x (by simp [hx]))
      simp only [List.drop_zero, List.drop_succ_cons, List.take_succ_cons, List.take_zero, List.cons.injEq, and_true] at e0 e1 e2 e3 e4
      subst e0 e1 e2 e3 e4
      exact ⟨⟨z0, z1, z2, z3, l⟩, ⟨A, c⟩, rfl, g1, g2, g3, g4, (hs.field Tryz.underlying25 (i := 0) rfl rfl).text, (hs.field Tryz.underlying25 (i := 1) rfl rfl).text⟩
set_option maxRecDepth 100000 in
theorem open_pkC {n : Nat} {cs : List Value} {D : DataW H} {Pl : List MemPlace} (h : DataW.trod enc Tryz.prog w base spare held n PkT cs = some (D, Pl)) (hs : Sized Tryz.prog PkT D) (hlt : ∀ x ∈ Pl, x.block < w.heap.size) :
    ∃ (p : Pk) (k : Hs), cs = (pkC p k).toList ∧ PkIn w w.heap.size p k ∧ PkOk p := by
  obtain ⟨xs, n', rfl, hx, hlen, hxl, hf⟩ := DataW.trod_struct Tryz.underlying29 h
  simp only [Prod.mk.injEq] at hx
  obtain ⟨rfl, rfl⟩ := hx
  have hc4 : Tryz.prog.cellsOf PkT = 25 := by kernel_rfl
  rw [hc4] at hlen
  match cs, hlen with
  | [c0, c1, c2, c3, c4, c5, c6, c7, c8, c9, c10, c11, c12, c13, c14, c15, c16, c17, c18, c19, c20, c21, c22, c23, c24], _ =>
    match xs, hxl with
    | [y0, y1, y2, y3, y4, y5, y6, y7, y8, y9, y10, y11, y12, y13, y14, y15, y16, y17, y18, y19, y20], _ =>
      have h0 := field_at hf 0 (t := 3) (o := 0) (k := 1) (by kernel_rfl)
      have h1 := field_at hf 1 (t := 4) (o := 1) (k := 1) (by kernel_rfl)
      have h2 := field_at hf 2 (t := 4) (o := 2) (k := 1) (by kernel_rfl)
      have h3 := field_at hf 3 (t := 3) (o := 3) (k := 1) (by kernel_rfl)
      have h4 := field_at hf 4 (t := 3) (o := 4) (k := 1) (by kernel_rfl)
      have h5 := field_at hf 5 (t := 9) (o := 5) (k := 1) (by kernel_rfl)
      have h6 := field_at hf 6 (t := 9) (o := 6) (k := 1) (by kernel_rfl)
      have h7 := field_at hf 7 (t := 4) (o := 7) (k := 1) (by kernel_rfl)
      have h8 := field_at hf 8 (t := 3) (o := 8) (k := 1) (by kernel_rfl)
      have h9 := field_at hf 9 (t := 9) (o := 9) (k := 1) (by kernel_rfl)
      have h10 := field_at hf 10 (t := 4) (o := 10) (k := 1) (by kernel_rfl)
      have h11 := field_at hf 11 (t := 9) (o := 11) (k := 1) (by kernel_rfl)
      have h12 := field_at hf 12 (t := 4) (o := 12) (k := 1) (by kernel_rfl)
      have h13 := field_at hf 13 (t := 9) (o := 13) (k := 1) (by kernel_rfl)
      have h14 := field_at hf 14 (t := 4) (o := 14) (k := 1) (by kernel_rfl)
      have h15 := field_at hf 15 (t := 25) (o := 15) (k := 5) (by kernel_rfl)
      have h16 := field_at hf 16 (t := 4) (o := 20) (k := 1) (by kernel_rfl)
      have h17 := field_at hf 17 (t := 3) (o := 21) (k := 1) (by kernel_rfl)
      have h18 := field_at hf 18 (t := 26) (o := 22) (k := 1) (by kernel_rfl)
      have h19 := field_at hf 19 (t := 27) (o := 23) (k := 1) (by kernel_rfl)
      have h20 := field_at hf 20 (t := 23) (o := 24) (k := 1) (by kernel_rfl)
      obtain ⟨z0, e0, rfl, _⟩ := DataW.trod_int Tryz.underlying3 h0
      obtain ⟨z1, e1, rfl⟩ := DataW.trod_bool Tryz.underlying4 h1
      obtain ⟨z2, e2, rfl⟩ := DataW.trod_bool Tryz.underlying4 h2
      obtain ⟨z3, e3, rfl, _⟩ := DataW.trod_int Tryz.underlying3 h3
      obtain ⟨z4, e4, rfl, _⟩ := DataW.trod_int Tryz.underlying3 h4
      obtain ⟨z5, e5, rfl, _⟩ := DataW.trod_string Tryz.underlying9 h5
      obtain ⟨z6, e6, rfl, _⟩ := DataW.trod_string Tryz.underlying9 h6
      obtain ⟨z7, e7, rfl⟩ := DataW.trod_bool Tryz.underlying4 h7
      obtain ⟨z8, e8, rfl, _⟩ := DataW.trod_int Tryz.underlying3 h8
      obtain ⟨z9, e9, rfl, _⟩ := DataW.trod_string Tryz.underlying9 h9
      obtain ⟨z10, e10, rfl⟩ := DataW.trod_bool Tryz.underlying4 h10
      obtain ⟨z11, e11, rfl, _⟩ := DataW.trod_string Tryz.underlying9 h11
      obtain ⟨z12, e12, rfl⟩ := DataW.trod_bool Tryz.underlying4 h12
      obtain ⟨z13, e13, rfl, _⟩ := DataW.trod_string Tryz.underlying9 h13
      obtain ⟨z14, e14, rfl⟩ := DataW.trod_bool Tryz.underlying4 h14
      obtain ⟨d15, p15⟩ := y15
      obtain ⟨x15, k15, e15, a1, a2, a3, a4, a5, a6⟩ := open_will h15 (hs.field Tryz.underlying29 (i := 15) rfl rfl) (fun x hx => hlt x (by simp [hx]))
      obtain ⟨z16, e16, rfl⟩ := DataW.trod_bool Tryz.underlying4 h16
      obtain ⟨z17, e17, rfl, _⟩ := DataW.trod_int Tryz.underlying3 h17
      obtain ⟨d18, p18⟩ := y18
      obtain ⟨A18, l18, k18, e18, b1, b2, b3⟩ := open_codes h18 (hs.field Tryz.underlying29 (i := 18) rfl rfl) (fun x hx => hlt x (by simp [hx]))
      obtain ⟨d19, p19⟩ := y19
      obtain ⟨A19, l19, k19, e19, f1, f2, f3, f4⟩ := open_filters h19 (hs.field Tryz.underlying29 (i := 19) rfl rfl) (fun x hx => hlt x (by simp [hx]))
      obtain ⟨d20, p20⟩ := y20
      obtain ⟨A20, l20, k20, e20, r1, r2, r3, r4, _⟩ := open_propL h20 (hs.field Tryz.underlying29 (i := 20) rfl rfl) (fun x hx => hlt x (by simp [hx]))
      simp only [List.drop_zero, List.drop_succ_cons, List.take_succ_cons, List.take_zero, List.cons.injEq, and_true] at e0 e1 e2 e3 e4 e5 e6 e7 e8 e9 e10 e11 e12 e13 e14 e15 e16 e17 e18 e19 e20
      obtain ⟨q0, q1, q2, q3, q4⟩ := e15
      subst e0 e1 e2 e3 e4 e5 e6 e7 e8 e9 e10 e11 e12 e13 e14 e16 e17 e18 e19 e20 q0 q1 q2 q3 q4
      refine ⟨⟨z0, z1, z2, z3, z4, z5, z6, z7, z8, z9, z10, z11, z12, z13, z14, x15, z16, z17, l18, l19, l20⟩, ⟨k15, ⟨A18, k18⟩, ⟨A19, k19⟩, ⟨A20, k20⟩⟩, rfl, ⟨a1, b1, f1, r1, a4, b3, f4, r4⟩, ⟨a2, r2, f2, ⟨(hs.field Tryz.underlying29 (i := 5) rfl rfl).text, (hs.field Tryz.underlying29 (i := 6) rfl rfl).text, (hs.field Tryz.underlying29 (i := 9) rfl rfl).text, (hs.field Tryz.underlying29 (i := 11) rfl rfl).text, (hs.field Tryz.underlying29 (i := 13) rfl rfl).text, a5, a6⟩, ⟨Nat.le_trans a3 (by decide), b2, f3, Nat.le_trans r3 (by decide)⟩⟩⟩
/-- An argument that is a packet. -/
theorem open_packet {r : Reach} {b0 : Nat} {v : Value} {d : DataW H} {ps : List MemPlace} (hval : Value.okWide Tryz.prog w r b0 PkT v) (hd : DataW.Trod enc Tryz.prog w base spare held PkT v d ps) (hs : Sized Tryz.prog PkT d) (hlt : ∀ x ∈ ps, x.block < w.heap.size) :
    ∃ (p : Pk) (k : Hs), v = pkV p k ∧ PkIn w w.heap.size p k ∧ PkOk p := by
  have hv : ∃ cs, v = .agg cs := by
    simp only [Value.okWide, show Tryz.prog.underlying PkT = _ from Tryz.underlying29] at hval
    obtain ⟨cs, h, _⟩ := hval
    exact ⟨cs, h⟩
  obtain ⟨cs, rfl⟩ := hv
  obtain ⟨fuel, hf⟩ := hd
  obtain ⟨p, k, h1, h2⟩ := open_pkC hf hs hlt
  refine ⟨p, k, ?_, h2⟩
  have h1 : cs.toList = (pkC p k).toList := h1
  rw [pkV, Array.toList_inj.1 h1]
end
end Go.Proofs.YtmkkjiogokfnmaaGreatDoor

namespace Go.Proofs.YtmkkjiogokfnmaaGreatDoor
open Go.RowKit
attribute [local go_sem ↓] to_ldPk to_bxPk to_bdPk to_alPk to_stPk
attribute [local go_sem] run_bxPk run_bxPk_agg ld_fresh run_alPk run_bd0 run_bdK run_bdKI run_bdKIC run_bdKC run_bdKICP run_stPk_fresh pkC_0 pkC_1 pkC_2 pkC_3 pkC_4 pkC_5 pkC_6 pkC_7 pkC_8 pkC_9 pkC_10 pkC_11 pkC_12 pkC_13 pkC_14 pkC_15 pkC_16 pkC_17 pkC_18 pkC_19 pkC_20 pkC_21 pkC_22 pkC_23 pkC_24
theorem example_mq : mqR 4 ⟨#[192, 0]⟩ = ({ pk0 with kind := 12 }, 2, 0) := by decide +kernel
theorem pkK_in (k : Int) (w : World) (B : Nat) : PkIn w B { pk0 with kind := k } hs0 := ⟨Rd.nil _ _ _ _, Rd.nil _ _ _ _, Rd.nil _ _ _ _, Rd.nil _ _ _ _, Nat.zero_le _, Nat.zero_le _, Nat.zero_le _, Nat.zero_le _⟩
theorem pkK_len (k : Int) : PkLen { pk0 with kind := k } := pk0_len
set_option maxHeartbeats 1000000 in
set_option maxRecDepth 10000 in
theorem lives13_any (w : World) : Calls Tryz.prog 26 #[] w fun e w' => e = .returned (.bool true) ∧ Below w.heap.size w w' := by
  have HR := Lib.hid (mqRead_any 4 ⟨#[192, 0]⟩ w (by decide))
  rw [example_mq] at HR
  go_enter Tryz.func26, Tryz.ntmps26
  go_wp2_with fail
  refine HR.out.mono ?_
  rintro e w1 hO
  obtain ⟨K, rfl, hi, hb, -⟩ := hO
  have S1 := Lib.hid (((St.start w).below hb).push hi)
  clear hi hb
  have hl := S1.out.ld 0 rfl
  simp only at hl ⊢
  go_wp2_with fail
  refine (samePk_any { pk0 with kind := 12 } { pk0 with kind := 12 } K hs0 _ (S1.out.into 0 rfl) (pkK_in 12 _ _) (pkK_len 12) (pkK_len 12)).mono ?_
  rintro e w2 ⟨rfl, hb⟩
  have S2 := Lib.hid (S1.out.below hb)
  clear hb hl
  rw [decide_eq_true rfl]
  go_wp2
  go_ret
  exact ⟨rfl, S2.out.kept⟩
theorem mqB_e (v : Int) (p : Pk) : (mqB v p).2 = mqE v p := by
  unfold mqB
  split
  · rename_i h; exact h.symm
  · rfl
theorem St.front {w x : World} {l m : List (Nat × Pk × Hs)} (s : St w (l ++ m) x) : St w l x := ⟨s.kept, fun i g p h e => s.pks i g p h (by
  have hi : i < l.length := by
    rcases Nat.lt_or_ge i l.length with h | h
    · exact h
    · rw [List.getElem?_eq_none h] at e; cases e
  rw [List.getElem?_append_left hi]
  exact e)⟩
theorem mqS_le {v : Int} {p : Pk} (h : mqE v p = 0) : (mqS v p).size ≤ 268435460 := by
  have h1 := (mqE_ok h).2.2.2
  have h2 := hdS_two p.kind (mqF p) (chB v p).1.size
  rw [mqS_size]
  omega
set_option maxHeartbeats 8000000 in
set_option maxRecDepth 10000 in
theorem mqttBack_any (v : Int) (p : Pk) (h : Hs) (y s : ByteArray) (w : World) (ip : PkIn w w.heap.size p h) (ok : PkOk p) :
    Calls Tryz.prog 7 #[.int .i64 v, pkV p h, .string y, .string s] w fun e w' => e = .returned (.bool true) ∧ Below w.heap.size w w' := by
  have OK := Lib.hid ok
  have S0 := Lib.hid ((St.start w).push ip)
  clear ip ok
  go_enter Tryz.func7, Tryz.ntmps7
  go_wp2_with fail
  refine (lives13_any _).mono ?_
  rintro e w1 ⟨rfl, hb⟩
  have S1 := Lib.hid (S0.out.below hb); clear hb
  have hl := S1.out.ld 0 rfl
  go_wp2_with fail
  refine (lightK_any p h _ (S1.out.into 0 rfl) OK.out).mono ?_
  rintro e w2 ⟨rfl, hb⟩
  have S2 := Lib.hid (S1.out.below hb); clear hb hl
  cases hL : lightK p
  · go_wp2
    go_ret
    exact ⟨rfl, S2.out.kept⟩
  have HZ := Lib.hid (fit_of_light v hL)
  clear hL
  by_cases hy : 100 < y.size
  · have d1 : (100 : Int) < (y.size : Int) := by omega
    clear hy
    go_wp2
    go_ret
    exact ⟨rfl, S2.out.kept⟩
  have d1 : (y.size : Int) ≤ 100 := by omega
  have HY : Hid (y.size ≤ 100) := Lib.hid (by omega)
  clear hy
  by_cases hs1 : 2000 < s.size
  · have d2 : (2000 : Int) < (s.size : Int) := by omega
    clear hs1
    go_wp2
    go_ret
    exact ⟨rfl, S2.out.kept⟩
  have d2 : (s.size : Int) ≤ 2000 := by omega
  have HS : Hid (s.size ≤ 1000000000000) := Lib.hid (by omega)
  clear hs1
  have hl := S2.out.ld 0 rfl
  go_wp2_with fail
  refine (mqBytes_any v p h _ (S2.out.into 0 rfl) OK.out HZ.out).mono ?_
  rintro e w3 ⟨rfl, hb⟩
  have S3 := Lib.hid (S2.out.below hb); clear hb hl
  have hl := S3.out.ld 0 rfl
  go_wp2_with fail
  refine (mqSize_any v p h _ (S3.out.into 0 rfl) OK.out HZ.out).mono ?_
  rintro e w4 ⟨rfl, hb⟩
  have S4 := Lib.hid (S3.out.below hb); clear hb hl
  have hl := S4.out.ld 0 rfl
  go_wp2_with fail
  refine (mqValid_any v p h _ (S4.out.into 0 rfl) OK.out HZ.out).mono ?_
  rintro e w5 ⟨rfl, hb⟩
  have S5 := Lib.hid (S4.out.below hb); clear hb hl
  rw [mqB_e]
  have S6 : Hid (St w [(w.heap.size, p, h)] w5) := Lib.hid S5.out
  clear S0 S1 S2 S3 S4 S5
  have HFR : Hid (mqE v p = 0 → mqR v ((mqB v p).1 ++ y) = (p, (mqB v p).1.size, 0) ∧ (mqB v p).1.size ≤ 268435460) := Lib.hid (fun hE => by
    have hB : (mqB v p).1 = mqS v p := by unfold mqB; rw [if_pos hE]
    rw [hB]
    exact ⟨mqR_front hE (fun q hq => (OK.out.props q hq).1) (fun q hq => (OK.out.wp q hq).1) (ls_app _ _), mqS_le hE⟩)
  obtain ⟨X, hX⟩ : ∃ X, (mqB v p).1 = X := ⟨_, rfl⟩
  obtain ⟨E, hEE⟩ : ∃ E, mqE v p = E := ⟨_, rfl⟩
  rw [hX, hEE] at HFR
  rw [hX, hEE]
  clear hX hEE
  go_upto_if 65 with fail
  go_cut [10] (fun a wx => a = .int .i64 E ∧ St w [(w.heap.size, p, h)] wx)
  case first =>
    by_cases hE : E = 0
    · obtain ⟨hr, hsz⟩ := HFR.out hE
      have HRD := Lib.hid (fun W => mqRead_any v (X ++ y) W (by rw [ByteArray.size_append]; have := HY.out; omega))
      rw [hr] at HRD
      have hsm : ¬ (9223372036854775807 < X.size + y.size) := by have := HY.out; omega
      have e0 : (E == 0) = true := beq_iff_eq.2 hE
      clear hE hr HFR
      go_wp2_with fail
      refine (HRD.out _).mono ?_
      rintro e w6 hO
      obtain ⟨k6, rfl, hi, hb, -⟩ := hO
      have S7 := Lib.hid ((S6.out.below hb).push hi)
      clear hi hb
      have hl0 := S7.out.ld 0 rfl
      have hl1 := S7.out.ld 1 rfl
      simp only at hl0 hl1 ⊢
      go_wp2_with fail
      refine (samePk_any p p k6 h _ (S7.out.into 1 rfl) (S7.out.into 0 rfl) OK.out.len OK.out.len).mono ?_
      rintro e w7 ⟨rfl, hb⟩
      have S8 := Lib.hid (St.front (l := [(w.heap.size, p, h)]) (S7.out.below hb))
      clear hb hl0 hl1
      rw [decide_eq_true rfl]
      go_wp2
      go_meet
      case rel => exact ⟨rfl, S8.out⟩
    · have e0 : (E == 0) = false := beq_eq_false_iff_ne.2 hE
      clear hE HFR
      go_wp2
      go_meet
      case rel => exact ⟨rfl, S6.out⟩
  obtain ⟨rfl, hs9⟩ := hcut
  have S9 := Lib.hid hs9
  clear hs9 S6 HFR
  go_wp2_with fail
  refine (mqRead_any v s _ HS.out).mono ?_
  rintro e w10 hO
  by_cases hne : (mqR v s).2.2 = 0
  rotate_left
  · rw [mqR_bad hne] at hO
    obtain ⟨kk, rfl, hi, hb, -⟩ := hO
    generalize (mqR v s).2.2 = F at *
    have e9 : (F != 0) = true := bne_iff_ne.2 hne
    have T7 := Lib.hid ((S9.out.below hb).push hi)
    have hl7 := T7.out.ld 1 rfl
    clear hne hi hb
    simp only at T7 hl7 ⊢
    go_wp2_with fail
    refine (none_any pk0 kk _ (T7.out.into 1 rfl) pk0_len).mono ?_
    rintro e w8 ⟨rfl, hb⟩
    have T8 := Lib.hid (T7.out.below hb); clear hb
    rw [decide_eq_true rfl]
    go_wp2
    go_ret
    exact ⟨rfl, T8.out.kept⟩
  · obtain ⟨kk, rfl, hi, hb, -⟩ := hO
    have HQ := Lib.hid (mqR_okP (v := v) HS.out)
    have HBK := Lib.hid (mqR_back (q := (mqR v s).1) (n := (mqR v s).2.1) (show mqR v s = ((mqR v s).1, (mqR v s).2.1, 0) by rw [← hne]))
    rw [hne]
    generalize (mqR v s).1 = q at *
    generalize (mqR v s).2.1 = n at *
    have T7 := Lib.hid ((S9.out.below hb).push hi)
    have hl7 := T7.out.ld 1 rfl
    have HB2 : Hid (mqB v q = (s.extract 0 n, 0)) := Lib.hid (by unfold mqB; rw [if_pos HBK.out.1, HBK.out.2.1])
    clear hne hi hb
    simp only at T7 hl7 ⊢
    go_wp2_with fail
    refine (mqBytes_any v q kk _ (T7.out.into 1 rfl) HQ.out (fit_of_ok HBK.out.1)).mono ?_
    rintro e w8 ⟨rfl, hb⟩
    have T8 := Lib.hid (T7.out.below hb); clear hb hl7
    rw [HB2.out]
    have v1 : (0 : Int) ≤ (n : Int) := by omega
    have v2 : (n : Int) ≤ (s.size : Int) := by have := HBK.out.2.2.1; omega
    go_wp2
    go_ret
    exact ⟨rfl, T8.out.kept⟩
end Go.Proofs.YtmkkjiogokfnmaaGreatDoor

namespace Go.Proofs.YtmkkjiogokfnmaaGreatDoor
open Go.ChangeShapes Go.WideShapes Go.ChangeAt Go.RowKit
def layCells (c : Array Value) : Obj → Obj
  | .cells _ t frozen => .cells c t frozen
  | o => o
def firstCells : Array Value := (Go.Pinned.utf8FirstZ.map fun (n : Nat) => Value.int .u8 n).toArray
def rangeCells : Array Value := #[.int .u8 128, .int .u8 191, .int .u8 160, .int .u8 191, .int .u8 128, .int .u8 159, .int .u8 144, .int .u8 191, .int .u8 128, .int .u8 143,
  .int .u8 0, .int .u8 0, .int .u8 0, .int .u8 0, .int .u8 0, .int .u8 0, .int .u8 0, .int .u8 0, .int .u8 0, .int .u8 0, .int .u8 0, .int .u8 0, .int .u8 0, .int .u8 0, .int .u8 0, .int .u8 0, .int .u8 0, .int .u8 0, .int .u8 0, .int .u8 0, .int .u8 0, .int .u8 0]
noncomputable def laidWorld (os : Os) : World :=
  { World.holding Tryz.prog os ⟨#[], #[], []⟩ with heap := ((World.holding Tryz.prog os ⟨#[], #[], []⟩).heap.modify 1 (layCells firstCells)).modify 2 (layCells rangeCells) }
theorem laid_met (os : Os) (args : Array Value) : laidMetH Tryz.prog [("unicode/utf8.acceptRanges", Rows.laid_unicode_utf8_acceptRanges), ("unicode/utf8.first", Rows.laid_unicode_utf8_first)] ((laidWorld os).forCall (fun _ _ => 0) ⟨#[], args, []⟩).memory :=
  laidMetH_of_parts (laidMet_of_run' 8 (by kernel_rfl) (by kernel_rfl)) (by kernel_rfl)
end Go.Proofs.YtmkkjiogokfnmaaGreatDoor

