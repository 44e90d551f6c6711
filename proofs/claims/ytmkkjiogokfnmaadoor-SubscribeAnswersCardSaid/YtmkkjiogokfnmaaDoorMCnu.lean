/-
  connect: the walks of the reader's methods unless, binary, text, props, flags.
  connect: the walks of the reader's connect, connack.
  connect: the walks of the reader's connack, of Read.
  connect, plain: a body is read back, whatever follows; what is read is written as the same.
  connect, plain: a CONNACK's body read back; what Read hands back, whole.
  connect, plain: the flags' byte alone decides on ErrFlags.
-/
import Derived.Test.YtmkkjiogokfnmaaDoorMCnp
import Derived.Deep.RegionHeld3

namespace Go.Proofs.YtmkkjiogokfnmaaDoor
open Go.RowKit

def rdrC (gc : Nat) (v : Int) : Array Value := #[.pointer (some ⟨gc, 0, none⟩), .int .i64 v]
section
variable {w x y : World} {gr gc : Nat} {v : Int} {t : ByteArray} {a a' : Nat} {e e' : Int}
end
/-- The reader's copy, in a drawn statement. -/
abbrev SB (gr gc : Nat) (v : Int) (w0 x : World) : Prop := x.cell? ⟨gr, 0, none⟩ = some (.pointer (some ⟨gc, 0, none⟩)) ∧ x.cell? ⟨gr, 1, none⟩ = some (.int .i64 v) ∧ w0.grownBy x (some gc)
theorem SB.below {gr gc : Nat} {v : Int} {w0 x y : World} (h : SB gr gc v w0 x) (hb : Below x.heap.size x y) : SB gr gc v w0 y :=
  ⟨(hb.cell (p := ⟨gr, 0, none⟩) (World.block_lt_of_cell? _ _ h.1)).trans h.1, (hb.cell (p := ⟨gr, 1, none⟩) (World.block_lt_of_cell? _ _ h.2.1)).trans h.2.1, h.2.2.trans (mod_below hb _)⟩
theorem SB.turn {gr gc : Nat} {v : Int} {w0 x y : World} (h : SB gr gc v w0 x) (hm : x.grownBy y (some gc)) (hne : gr ≠ gc) : SB gr gc v w0 y := by
  have hl := World.block_lt_of_cell? _ _ h.1
  have hb : y.heap[gr]? = x.heap[gr]? := (Mods.of_grown (S := fun z => z = gc) hm rfl).block gr hl hne
  exact ⟨(World.cell?_of_block (a := ⟨gr, 0, none⟩) hb).trans h.1, (World.cell?_of_block (a := ⟨gr, 1, none⟩) hb).trans h.2.1, h.2.2.trans hm⟩
theorem readP_le (k : Int) (s : ByteArray) : (readP k s).2.1 ≤ s.size := by
  by_cases h0 : (readP k s).2.2 = 0
  · exact (readP_back (kind := k) (s := s) (l := (readP k s).1) (n := (readP k s).2.1) (by rw [← h0])).2.2
  · rw [readP_bad h0]; exact Nat.zero_le _
theorem flag_ops : ∀ f : Fin 256, (bits BinOp.and IntKind.i64 (f.1 : Int) 1 != 0) = decide (f.1 % 2 = 1) ∧ (bits BinOp.and IntKind.i64 (f.1 : Int) 2 != 0) = decide (f.1 / 2 % 2 = 1) ∧
    (bits BinOp.and IntKind.i64 (f.1 : Int) 4 != 0) = decide (f.1 / 4 % 2 = 1) ∧ (bits BinOp.and IntKind.i64 (f.1 : Int) 4 == 0) = !decide (f.1 / 4 % 2 = 1) ∧
    (bits BinOp.and IntKind.i64 ((f.1 : Int) / 8) 3 == 3) = decide (f.1 / 8 % 4 = 3) ∧ bits BinOp.and IntKind.i64 ((f.1 : Int) / 8) 3 = ((f.1 / 8 % 4 : Nat) : Int) ∧ (bits BinOp.and IntKind.i64 ((f.1 : Int) / 8) 7 != 0) = decide (f.1 / 8 % 8 ≠ 0) ∧
    (bits BinOp.and IntKind.i64 (f.1 : Int) 32 != 0) = decide (f.1 / 32 % 2 = 1) ∧ (bits BinOp.and IntKind.i64 (f.1 : Int) 64 != 0) = decide (f.1 / 64 % 2 = 1) ∧ (bits BinOp.and IntKind.i64 (f.1 : Int) 64 == 0) = !decide (f.1 / 64 % 2 = 1) ∧
    (bits BinOp.and IntKind.i64 (f.1 : Int) 128 != 0) = decide (f.1 / 128 % 2 = 1) := by decide +kernel

end Go.Proofs.YtmkkjiogokfnmaaDoor

namespace Go.Proofs.YtmkkjiogokfnmaaDoor
open Go.RowKit
attribute [local go_sem ↓] to_ldPk to_bxPk to_bdPk to_alPk to_stPk
attribute [local go_sem] run_bxPk run_bxPk_agg ld_fresh run_alPk run_bd0 run_bdK run_bdKI run_bdKIC run_bdKC run_bdKICP run_stPk_fresh pkC_0 pkC_1 pkC_2 pkC_3 pkC_4 pkC_5 pkC_6 pkC_7 pkC_8 pkC_9 pkC_10 pkC_11 pkC_12 pkC_13 pkC_14 pkC_15 pkC_16 pkC_17 pkC_18 pkC_19 pkC_20 pkC_21 pkC_22 pkC_23 pkC_24

theorem grown_mods {w x : World} {g : Nat} (h : Mods (fun z => z = g) w x) : w.grownBy x (some g) := ⟨h.os, h.tape, h.output, h.size, fun i hi hn => h.block i hi (fun e => hn (by rw [e]))⟩
theorem grown_set {w x : World} {g : Nat} (h : w.grownBy x (some g)) {b : Nat} (hb : w.heap.size ≤ b) (i : Nat) (u : Value) : w.grownBy (x.setCell ⟨b, i, none⟩ u) (some g) :=
  grown_mods ((Mods.of_grown (S := fun z => z = g) h rfl).set b i (.inr hb) u)
/-- A packet stays while a block without numbers of 32 bits goes. -/
theorem PkIn.blk {w w' : World} {g : Nat} {p : Pk} {h : Hs} {t : TypeId} {cs : Array Value} (hi : PkIn w w.heap.size p h) (h1 : p.codes = []) (h2 : p.filters = []) (hb : Bk w g t cs) (hcs : ∀ (i : Nat) (n : Int), cs[i]? ≠ some (Value.int IntKind.u32 n)) (hm : w.grownBy w' (some g)) : PkIn w' w'.heap.size p h :=
  ⟨(hi.wp.other hb hcs hm (Nat.le_refl _)).wider hm.size, (hi.codes.grown hm (Nat.le_refl _) (fun _ _ _ hx => absurd (by rw [h1]; rfl) hx)).wider hm.size,
    (hi.filters.grown hm (Nat.le_refl _) (fun _ _ _ hx => absurd (by rw [h2]; rfl) hx)).wider hm.size, (hi.props.other hb hcs hm (Nat.le_refl _)).wider hm.size, hi.caps⟩
section
variable {w x y : World} {gc : Nat} {v : Int} {p p' : Pk} {h h' : Hs} {t : ByteArray} {a a' : Nat} {e e' : Int}
end
theorem results_c1 {fn : Func} {p : Tmp} (hr : fn.results = #[.cell p PkT]) (tmps : Array Value) {w : World} {g : Nat} {q : Pk} {h : Hs} (hp : tmps.getD p undef = .pointer (some ⟨g, 0, none⟩)) (hb : Bk w g PkT (pkC q h)) :
    (results fn tmps).run Tryd.prog w = .ok (pkV q h) w := by
  have hl := lv_bk hb
  have e : (results fn tmps).run Tryd.prog w = ((asAddr (tmps.getD p undef)).run Tryd.prog w).andThen fun a w₁ => (loadVar PkT a).run Tryd.prog w₁ := by
    simp only [results, hr]
    simp [Sem.run_bind, Result.andThen]
  rw [e, hp]
  generalize pkV q h = V at hl ⊢
  exact then_ok _ (⟨g, 0, none⟩ : Addr) w _ rfl |>.trans hl
end Go.Proofs.YtmkkjiogokfnmaaDoor

namespace Go.Proofs.YtmkkjiogokfnmaaDoor
open Go.RowKit
attribute [local go_sem ↓] to_ldPk to_bxPk to_bdPk to_alPk to_stPk
attribute [local go_sem] run_bxPk run_bxPk_agg ld_fresh run_alPk run_bd0 run_bdK run_bdKI run_bdKIC run_bdKC run_bdKICP run_stPk_fresh pkC_0 pkC_1 pkC_2 pkC_3 pkC_4 pkC_5 pkC_6 pkC_7 pkC_8 pkC_9 pkC_10 pkC_11 pkC_12 pkC_13 pkC_14 pkC_15 pkC_16 pkC_17 pkC_18 pkC_19 pkC_20 pkC_21 pkC_22 pkC_23 pkC_24

theorem run_bdCA (b : Bool) (c : Int) (l : List Pr) (A : Option Addr) (n : Nat) (w : World) : (bdPk #[(0, .int .i64 2), (16, .bool b), (17, .int .i64 c), (20, .slice A l.length n)]).run Tryd.prog w = .ok (pkV { pk0 with kind := 2, session := b, code := c, props := l } { hs0 with props := ⟨A, n⟩ }) w := by kernel_rfl
/-! ### Sizes of what is read -/
theorem prp_good {v k : Int} {t : ByteArray} {a : Nat} {e : Int} (ht : t.size ≤ 140737488351232) : (∀ p ∈ (prpC v k t a e).1, prGood p) ∧ (prpC v k t a e).1.length ≤ 1000 := by
  unfold prpC
  split
  · exact ⟨fun _ h => (nomatch h), Nat.zero_le _⟩
  · refine ⟨readP_good (by rw [ByteArray.size_extract]; omega), ?_⟩
    show (readP k (t.extract a t.size)).1.length ≤ 1000
    by_cases h : (readP k (t.extract a t.size)).2.2 = 0
    · exact readP_len h
    · rw [readP_bad h]; exact Nat.zero_le _
theorem prp_le {v k : Int} {t : ByteArray} {a : Nat} {e : Int} (h : a ≤ t.size) : (prpC v k t a e).2.1 ≤ t.size := by
  unfold prpC
  split
  · exact h
  · have := readP_le k (t.extract a t.size)
    rw [ByteArray.size_extract] at this
    show a + (readP k (t.extract a t.size)).2.1 ≤ t.size
    omega
theorem txt_lt (t : ByteArray) (a : Nat) (e : Int) (ha : a ≤ t.size) : (txtC t a e).1.size ≤ 65535 ∧ (txtC t a e).2.1 ≤ t.size := ⟨binC_lt t a e ha, binC_le t a e ha⟩
/-- A packet that is read may be looked at. -/
structure RdOk (t : ByteArray) (r : Pk × Nat × Int) : Prop where
  ok : PkOk r.1
  le : r.2.1 ≤ t.size
theorem cn1_ok {v : Int} {t : ByteArray} (ht : t.size ≤ 140737488351232) : RdOk t (cn1 v t) := by
  have h0 : (takeS t 0 0 6).2.1 ≤ t.size := takeS_le (Nat.zero_le _) _ _
  have h1 : (cnV v t).1 ≤ t.size := takeS_le h0 _ _
  have h2 : (cnF v t).2.1 ≤ t.size := takeS_le h1 _ _
  have h3 : (cnK v t).2.1 ≤ t.size := takeS_le h2 _ _
  have h4 : (cnP v t).2.1 ≤ t.size := prp_le h3
  have h5 := txt_lt t (cnP v t).2.1 (cnP v t).2.2 h4
  have h6 : (∀ p ∈ (cnP v t).1, prGood p) ∧ (cnP v t).1.length ≤ 1000 := prp_good ht
  have hc : (cnT v t).1.size ≤ 65535 := h5.1
  exact ⟨⟨fun _ h => (nomatch h), h6.1, fun _ h => (nomatch h), ⟨Nat.zero_le _, Nat.zero_le _, Nat.le_trans hc (by decide), Nat.zero_le _, Nat.zero_le _, Nat.zero_le _, Nat.zero_le _⟩, Nat.zero_le _, Nat.zero_le _, Nat.zero_le _, Nat.le_trans h6.2 (by decide)⟩, h5.2⟩
theorem cn2_ok {v : Int} {t : ByteArray} (ht : t.size ≤ 140737488351232) {r : Pk × Nat × Int} (g : RdOk t r) : RdOk t (cn2 v t r) := by
  unfold cn2
  split
  · have h1 : (cnWP v t r.2.1 r.2.2).2.1 ≤ t.size := prp_le g.le
    have h2 := txt_lt t _ (cnWP v t r.2.1 r.2.2).2.2 h1
    have h3 : (cnWB v t r.2.1 r.2.2).1.size ≤ 65535 := binC_lt t _ _ h2.2
    have h4 : (cnWB v t r.2.1 r.2.2).2.1 ≤ t.size := binC_le t _ _ h2.2
    have h5 : (∀ p ∈ (cnWP v t r.2.1 r.2.2).1, prGood p) ∧ (cnWP v t r.2.1 r.2.2).1.length ≤ 1000 := prp_good ht
    have hc : (cnWT v t r.2.1 r.2.2).1.size ≤ 65535 := h2.1
    have hg := g.ok.texts
    exact ⟨⟨h5.1, g.ok.props, g.ok.topics, ⟨hg.1, hg.2.1, hg.2.2.1, hg.2.2.2.1, hg.2.2.2.2.1, Nat.le_trans hc (by decide), Nat.le_trans h3 (by decide)⟩, Nat.le_trans h5.2 (by decide), g.ok.lens.2⟩, h4⟩
  · exact g
theorem cn3_ok {t : ByteArray} {r : Pk × Nat × Int} (g : RdOk t r) : RdOk t (cn3 t r) := by
  unfold cn3
  split
  · have h2 := txt_lt t r.2.1 r.2.2 g.le
    have hg := g.ok.texts
    exact ⟨⟨g.ok.wp, g.ok.props, g.ok.topics, ⟨hg.1, hg.2.1, hg.2.2.1, Nat.le_trans h2.1 (by decide), hg.2.2.2.2.1, hg.2.2.2.2.2⟩, g.ok.lens⟩, h2.2⟩
  · exact g
theorem cn4_ok {t : ByteArray} {r : Pk × Nat × Int} (g : RdOk t r) : RdOk t (cn4 t r) := by
  unfold cn4
  split
  · have h2 := binC_lt t r.2.1 r.2.2 g.le
    have hg := g.ok.texts
    exact ⟨⟨g.ok.wp, g.ok.props, g.ok.topics, ⟨hg.1, hg.2.1, hg.2.2.1, hg.2.2.2.1, Nat.le_trans h2 (by decide), hg.2.2.2.2.2⟩, g.ok.lens⟩, binC_le t _ _ g.le⟩
  · exact g
theorem cnRd_ok {v : Int} {t : ByteArray} (ht : t.size ≤ 140737488351232) : RdOk t (cnRd v t) := cn4_ok (cn3_ok (cn2_ok ht (cn1_ok ht)))
theorem caRd_ok {v : Int} {t : ByteArray} (ht : t.size ≤ 140737488351232) : RdOk t (caRd v t) := by
  have h1 : (caF t).2.1 ≤ t.size := takeS_le (Nat.zero_le _) _ _
  have h2 : (caC t).2.1 ≤ t.size := takeS_le h1 _ _
  have h6 : (∀ p ∈ (caP v t).1, prGood p) ∧ (caP v t).1.length ≤ 1000 := prp_good ht
  exact ⟨⟨fun _ h => (nomatch h), h6.1, fun _ h => (nomatch h), ⟨Nat.zero_le _, Nat.zero_le _, Nat.zero_le _, Nat.zero_le _, Nat.zero_le _, Nat.zero_le _, Nat.zero_le _⟩, Nat.zero_le _, Nat.zero_le _, Nat.zero_le _, Nat.le_trans h6.2 (by decide)⟩, prp_le h2⟩

section
variable {w x y : World} {gc gr gp : Nat} {v : Int} {p p' : Pk} {h h' : Hs} {t : ByteArray} {a a' : Nat} {e e' : Int}
end
end Go.Proofs.YtmkkjiogokfnmaaDoor

namespace Go.Proofs.YtmkkjiogokfnmaaDoor
open Go.RowKit

theorem fl_all : ∀ q : Fin 3, ∀ a b c d e : Bool,
    decide ((bitN e 128 + bitN d 64 + bitN c 32 + (q.1 : Int) % 4 * 8 + bitN b 4 + bitN a 2).toNat / 2 % 2 = 1) = a ∧ decide ((bitN e 128 + bitN d 64 + bitN c 32 + (q.1 : Int) % 4 * 8 + bitN b 4 + bitN a 2).toNat / 4 % 2 = 1) = b ∧
    decide ((bitN e 128 + bitN d 64 + bitN c 32 + (q.1 : Int) % 4 * 8 + bitN b 4 + bitN a 2).toNat / 32 % 2 = 1) = c ∧ decide ((bitN e 128 + bitN d 64 + bitN c 32 + (q.1 : Int) % 4 * 8 + bitN b 4 + bitN a 2).toNat / 64 % 2 = 1) = d ∧
    decide ((bitN e 128 + bitN d 64 + bitN c 32 + (q.1 : Int) % 4 * 8 + bitN b 4 + bitN a 2).toNat / 128 % 2 = 1) = e ∧ (bitN e 128 + bitN d 64 + bitN c 32 + (q.1 : Int) % 4 * 8 + bitN b 4 + bitN a 2).toNat / 8 % 4 = q.1 ∧
    (bitN e 128 + bitN d 64 + bitN c 32 + (q.1 : Int) % 4 * 8 + bitN b 4 + bitN a 2).toNat % 2 = 0 ∧ (bitN e 128 + bitN d 64 + bitN c 32 + (q.1 : Int) % 4 * 8 + bitN b 4 + bitN a 2).toNat < 256 ∧
    (c = false → q.1 = 0 → (bitN e 128 + bitN d 64 + bitN c 32 + (q.1 : Int) % 4 * 8 + bitN b 4 + bitN a 2).toNat / 8 % 8 = 0) := by decide +kernel
theorem fl_back : ∀ f : Fin 256, f.1 % 2 = 0 → bitN (decide (f.1 / 128 % 2 = 1)) 128 + bitN (decide (f.1 / 64 % 2 = 1)) 64 + bitN (decide (f.1 / 32 % 2 = 1)) 32 + ((f.1 / 8 % 4 : Nat) : Int) % 4 * 8 + bitN (decide (f.1 / 4 % 2 = 1)) 4 + bitN (decide (f.1 / 2 % 2 = 1)) 2 = (f.1 : Int) := by decide +kernel

/-! ### A CONNECT that may be -/
theorem cnGood_of {v : Int} {p : Pk} (x : cntE v p = 0) (h1 : p.kind = 1) : CnGood v p := by
  obtain ⟨g1, -, g3, g4⟩ := cntE_rng x
  obtain ⟨-, ⟨c1, c2⟩, c3, ⟨c4, c5⟩, c6, c7⟩ := cntE_parts x
  have hv : v = 4 ∨ v = 5 := of_decide_eq_true (show decide (v = 4 ∨ v = 5) = true from g1)
  unfold cntRng at g4
  split at g4
  · cases g4
  · next hp =>
    rw [if_neg (by omega)] at g4
    split at g4
    · cases g4
    · next hq =>
      have hr := of_decide_eq_true g4
      refine ⟨hv, h1, g3, fun h4 => ?_, ⟨hr.1, hr.2.1⟩, ⟨hr.2.2.1, hr.2.2.2⟩, fun h4 hpw => ?_, c1, c2, fun hw => nameB_valid (c3 hw), c4, c5, by rw [← h1]; exact c6, c7⟩
      · have : ¬ 0 < p.props.length + p.will.props.length := fun y => hp ⟨h4, y⟩
        exact ⟨List.eq_nil_of_length_eq_zero (by omega), List.eq_nil_of_length_eq_zero (by omega)⟩
      · cases hu : p.hasUser
        · exact absurd ⟨h4, .inr ⟨hpw, hu⟩⟩ hq
        · rfl
structure FlGood (v : Int) (p : Pk) (f : Nat) : Prop where
  clean : decide (f / 2 % 2 = 1) = p.clean
  will : decide (f / 4 % 2 = 1) = p.hasWill
  retain : decide (f / 32 % 2 = 1) = p.will.retain
  pass : decide (f / 64 % 2 = 1) = p.hasPass
  user : decide (f / 128 % 2 = 1) = p.hasUser
  qos : ((f / 8 % 4 : Nat) : Int) = p.will.qos
  lt : f < 256
  ok : flOk v f = true
theorem CnGood.nowill {v : Int} {p : Pk} (g : CnGood v p) (h : p.hasWill = false) : p.will = wl0 := by
  have e := g.same
  rw [cntQ_one (by rw [g.kind]; decide) h rfl rfl] at e
  exact congrArg Pk.will e
theorem CnGood.nouser {v : Int} {p : Pk} (g : CnGood v p) (h : p.hasUser = false) : p.user = ⟨#[]⟩ := by
  have e := g.same
  rw [cntQ_one (by rw [g.kind]; decide) rfl h rfl] at e
  exact congrArg Pk.user e
theorem CnGood.nopass {v : Int} {p : Pk} (g : CnGood v p) (h : p.hasPass = false) : p.pass = ⟨#[]⟩ := by
  have e := g.same
  rw [cntQ_one (by rw [g.kind]; decide) rfl rfl h] at e
  exact congrArg Pk.pass e
theorem flGood_of {v : Int} {p : Pk} (g : CnGood v p) : FlGood v p (flN p).toNat := by
  obtain ⟨m, hm⟩ : ∃ m : Fin 3, p.will.qos = (m.1 : Int) := ⟨⟨p.will.qos.toNat, by have := g.qos; omega⟩, by have := g.qos; simp only; omega⟩
  obtain ⟨h1, h2, h3, h4, h5, h6, h7, h8, h9⟩ := fl_all m p.clean p.hasWill p.will.retain p.hasPass p.hasUser
  have hf : flN p = bitN p.hasUser 128 + bitN p.hasPass 64 + bitN p.will.retain 32 + (m.1 : Int) % 4 * 8 + bitN p.hasWill 4 + bitN p.clean 2 := by unfold flN; rw [hm]
  rw [← hf] at h1 h2 h3 h4 h5 h6 h7 h8 h9
  refine ⟨h1, h2, h3, h4, h5, by rw [h6, hm], h8, ?_⟩
  unfold flOk
  rw [h2, h4, h5, decide_eq_false (show ¬ (flN p).toNat % 2 = 1 by omega), decide_eq_false (show ¬ (flN p).toNat / 8 % 4 = 3 by have := m.2; omega)]
  have hw : (!p.hasWill && decide ((flN p).toNat / 8 % 8 ≠ 0)) = false := by
    cases hh : p.hasWill
    · have hz := g.nowill hh
      rw [decide_eq_false (fun y => y (h9 (by rw [hz]; rfl) (by have : p.will.qos = 0 := by rw [hz]; rfl
                                                                omega)))]
      rfl
    · rfl
  rw [hw]
  rcases g.ver with h | h
  · cases hp : p.hasPass
    · simp
    · rw [g.pair h hp]; simp
  · rw [decide_eq_true h]; simp
theorem name_len : (ls cntName).length = 6 := rfl
/-- The head of what was written is read. -/
theorem cn1_front {v : Int} {p : Pk} (g : CnGood v p) (hn : ∀ q ∈ p.props, q.n < 4294967296) {t : ByteArray} {R : List UInt8} (ht : ls t = f1 v p R) :
    ∃ a, cn1 v t = (cnPk (flN p).toNat p.alive.toNat p.client p.props, a, 0) ∧ a ≤ t.size ∧ (ls t).drop a = R := by
  have fg := flGood_of g
  unfold f1 at ht
  have hl := congrArg List.length ht
  rw [ls_len] at hl
  simp only [List.length_append, putL_len, name_len] at hl
  have d6 := congrArg (List.drop 6) ht
  rw [drop_two name_len] at d6
  have d7 := congrArg (List.drop 1) d6
  rw [List.drop_drop, drop_two (putL_len _ _)] at d7
  replace d7 : (ls t).drop 7 = _ := d7
  have d8 := congrArg (List.drop 1) d7
  rw [List.drop_drop, drop_two (putL_len _ _)] at d8
  replace d8 : (ls t).drop 8 = _ := d8
  have d10 := congrArg (List.drop 2) d8
  rw [List.drop_drop, drop_two (putL_len _ _)] at d10
  replace d10 : (ls t).drop 10 = _ := d10
  have hv : v.toNat < 256 ∧ ((v.toNat : Nat) : Int) = v := by have := g.ver; omega
  have hN : stN t = (6, 0) := by
    unfold stN
    have h6 : takeS t 0 0 6 = (t.extract 0 (0 + 6), 0 + 6, 0) := take_yes (k := 6) (by omega)
    have hx : t.extract 0 (0 + 6) = cntName := ls_ext (by
      rw [extract_ls, List.drop_zero, ht]
      exact List.take_left' name_len)
    rw [h6, hx]
    show ((0 + 6 : Nat), if cntName = cntName then (0 : Int) else failE 0 5) = _
    rw [if_pos rfl]
  have hV : cnV v t = (7, 0) := by
    unfold cnV stV
    rw [hN]
    simp only
    have h1 : takeS t 6 0 1 = (t.extract 6 (6 + 1), 6 + 1, 0) := take_yes (k := 1) (by omega)
    have h2 : numS t 6 0 1 = v.toNat := by rw [show ((1 : Int)) = ((1 : Nat) : Int) from rfl, num_front (k := 1) d6 (putL_len _ _) (by omega), get_put1 _ hv.1]
    rw [h1, h2, if_pos hv.2]
  have hF : cnF v t = ((flN p).toNat, 8, 0) := by
    unfold cnF stG
    rw [hV]
    simp only
    have h1 : takeS t 7 0 1 = (t.extract 7 (7 + 1), 7 + 1, 0) := take_yes (k := 1) (by omega)
    have h2 : numS t 7 0 1 = (flN p).toNat := by rw [show ((1 : Int)) = ((1 : Nat) : Int) from rfl, num_front (k := 1) d7 (putL_len _ _) (by omega), get_put1 _ fg.lt]
    rw [h1, h2, if_pos fg.ok]
  have hK : cnK v t = (p.alive.toNat, 10, 0) := by
    unfold cnK stK
    rw [hF]
    simp only
    have h1 : takeS t 8 0 2 = (t.extract 8 (8 + 2), 8 + 2, 0) := take_yes (k := 2) (by omega)
    have h2 : numS t 8 0 2 = p.alive.toNat := by rw [show ((2 : Int)) = ((2 : Nat) : Int) from rfl, num_front (k := 2) d8 (putL_len _ _) (by omega), get_put2 _ (by have := g.alive; omega)]
    rw [h1, h2]
  obtain ⟨hP, hPle, dP⟩ := pr_front (v := v) (k := 1) (a := 10) (by omega) (fun h => (g.old h).1) g.props hn d10
  have hP' : cnP v t = (p.props, 10 + (tailL8 v 1 p.props).length, 0) := by unfold cnP; rw [hK]; exact hP
  obtain ⟨hT, hTle, dT⟩ := txt_front hPle g.client dP
  have hT' : cnT v t = (p.client, 10 + (tailL8 v 1 p.props).length + 2 + p.client.size, 0) := by unfold cnT; rw [hP']; exact hT
  refine ⟨_, ?_, hTle, dT⟩
  unfold cn1
  rw [hF, hK, hP', hT']
theorem cn2_front {v : Int} {p : Pk} (g : CnGood v p) (hn : ∀ q ∈ p.will.props, q.n < 4294967296) {t : ByteArray} {R : List UInt8} {a : Nat} (ha : a ≤ t.size) {P : Pk} (h1 : P.hasWill = p.hasWill) (h2 : P.will = { wl0 with qos := p.will.qos, retain := p.will.retain })
    (ht : (ls t).drop a = fW v p R) : ∃ a', cn2 v t (P, a, 0) = ({ P with will := p.will }, a', 0) ∧ a' ≤ t.size ∧ (ls t).drop a' = R := by
  unfold cn2 fW at *
  simp only
  cases hw : p.hasWill
  · rw [if_neg (by rw [h1, hw]; decide)]
    rw [hw, if_neg (by decide)] at ht
    refine ⟨a, ?_, ha, ht⟩
    have := g.nowill hw
    rw [this] at h2 ⊢
    rw [← show P.will = wl0 from h2]
  · rw [if_pos (by rw [h1, hw])]
    rw [hw, if_pos rfl] at ht
    obtain ⟨e1, l1, d1⟩ := pr_front ha (fun h => (g.old h).2) g.wprops hn ht
    obtain ⟨e2, l2, d2⟩ := txt_front l1 (g.topic hw) d1
    obtain ⟨e3, l3, d3⟩ := bin_front l2 g.payload d2
    refine ⟨_, ?_, l3, d3⟩
    have w1 : cnWP v t a 0 = (p.will.props, a + (tailL8 v 16 p.will.props).length, 0) := e1
    have w2 : cnWT v t a 0 = (p.will.topic, a + (tailL8 v 16 p.will.props).length + 2 + p.will.topic.size, 0) := by unfold cnWT; rw [w1]; exact e2
    have w3 : cnWB v t a 0 = (p.will.payload, a + (tailL8 v 16 p.will.props).length + 2 + p.will.topic.size + 2 + p.will.payload.size, 0) := by unfold cnWB; rw [w2]; exact e3
    rw [w1, w2, w3, h2]
theorem cn3_front {v : Int} {p : Pk} (g : CnGood v p) {t : ByteArray} {R : List UInt8} {a : Nat} (ha : a ≤ t.size) {P : Pk} (h1 : P.hasUser = p.hasUser) (h2 : P.user = ⟨#[]⟩) (ht : (ls t).drop a = fU p R) :
    ∃ a', cn3 t (P, a, 0) = ({ P with user := p.user }, a', 0) ∧ a' ≤ t.size ∧ (ls t).drop a' = R := by
  unfold cn3 fU at *
  simp only
  cases hw : p.hasUser
  · rw [if_neg (by rw [h1, hw]; decide)]
    rw [hw, if_neg (by decide)] at ht
    refine ⟨a, ?_, ha, ht⟩
    rw [g.nouser hw, ← h2]
  · rw [if_pos (by rw [h1, hw])]
    rw [hw, if_pos rfl] at ht
    obtain ⟨e2, l2, d2⟩ := txt_front ha g.user ht
    refine ⟨_, ?_, l2, d2⟩
    rw [e2]
theorem cn4_front {v : Int} {p : Pk} (g : CnGood v p) {t : ByteArray} {R : List UInt8} {a : Nat} (ha : a ≤ t.size) {P : Pk} (h1 : P.hasPass = p.hasPass) (h2 : P.pass = ⟨#[]⟩) (ht : (ls t).drop a = fS p R) :
    ∃ a', cn4 t (P, a, 0) = ({ P with pass := p.pass }, a', 0) ∧ a' ≤ t.size ∧ (ls t).drop a' = R := by
  unfold cn4 fS at *
  simp only
  cases hw : p.hasPass
  · rw [if_neg (by rw [h1, hw]; decide)]
    rw [hw, if_neg (by decide)] at ht
    refine ⟨a, ?_, ha, ht⟩
    rw [g.nopass hw, ← h2]
  · rw [if_pos (by rw [h1, hw])]
    rw [hw, if_pos rfl] at ht
    obtain ⟨e2, l2, d2⟩ := bin_front ha g.pass ht
    refine ⟨_, ?_, l2, d2⟩
    rw [e2]
theorem cnRd_front {v : Int} {p : Pk} (g : CnGood v p) (hn : ∀ q ∈ p.props, q.n < 4294967296) (hw : ∀ q ∈ p.will.props, q.n < 4294967296) {t : ByteArray} {R : List UInt8} (ht : ls t = f1 v p (fW v p (fU p (fS p R)))) :
    ∃ a, cnRd v t = (p, a, 0) ∧ a ≤ t.size ∧ (ls t).drop a = R := by
  have fg := flGood_of g
  obtain ⟨a1, e1, l1, d1⟩ := cn1_front g hn ht
  obtain ⟨a2, e2, l2, d2⟩ := cn2_front g hw l1 (P := cnPk (flN p).toNat p.alive.toNat p.client p.props) fg.will (by
    show ({ wl0 with qos := (((flN p).toNat / 8 % 4 : Nat) : Int), retain := decide ((flN p).toNat / 32 % 2 = 1) } : Wl) = _
    rw [fg.qos, fg.retain]) d1
  obtain ⟨a3, e3, l3, d3⟩ := cn3_front g l2 (P := { cnPk (flN p).toNat p.alive.toNat p.client p.props with will := p.will }) fg.user rfl d2
  obtain ⟨a4, e4, l4, d4⟩ := cn4_front g l3 (P := { cnPk (flN p).toNat p.alive.toNat p.client p.props with will := p.will, user := p.user }) fg.pass rfl d3
  refine ⟨a4, ?_, l4, d4⟩
  unfold cnRd
  rw [e1, e2, e3, e4]
  have e := g.same
  rw [cntQ_one (by rw [g.kind]; decide) rfl rfl rfl] at e
  obtain ⟨-, q2, q3, q4, q5, q6, q7, -, -, -, -, -, -, -, -, -, q17, q18, q19, q20, -⟩ := (pk_eq_iff _ _).1 e
  congr 1
  rw [pk_eq_iff]
  refine ⟨g.kind.symm, q2.symm, q3.symm, q4.symm, q5.symm, q6.symm, q7.symm, fg.clean, ?_, rfl, fg.user, rfl, fg.pass, rfl, fg.will, rfl, q17.symm, q18.symm, q19.symm, q20.symm, rfl⟩
  show ((p.alive.toNat : Nat) : Int) = p.alive
  have := g.alive
  omega

/-! ### What was read, written again -/
theorem cn4_back {t : ByteArray} {r : Pk × Nat × Int} (hr : r.2.1 ≤ t.size) (h : (cn4 t r).2.2 = 0) : r.2.2 = 0 ∧ (cn4 t r).2.1 ≤ t.size ∧ (∃ x, (cn4 t r).1 = { r.1 with pass := x }) ∧ (ls t).drop r.2.1 = fS (cn4 t r).1 ((ls t).drop (cn4 t r).2.1) := by
  unfold cn4 at h ⊢
  cases hw : r.1.hasPass
  · rw [hw, if_neg (by decide)] at h
    rw [if_neg (by decide)]
    refine ⟨h, hr, ⟨r.1.pass, rfl⟩, ?_⟩
    unfold fS
    rw [hw, if_neg (by decide)]
  · rw [hw, if_pos rfl] at h
    rw [if_pos rfl]
    obtain ⟨h1, h2, -, h4⟩ := bin_ok h
    refine ⟨h1, h2, ⟨_, rfl⟩, ?_⟩
    unfold fS
    simp only
    rw [hw, if_pos rfl]
    exact h4
theorem cn3_back {t : ByteArray} {r : Pk × Nat × Int} (hr : r.2.1 ≤ t.size) (h : (cn3 t r).2.2 = 0) : r.2.2 = 0 ∧ (cn3 t r).2.1 ≤ t.size ∧ (∃ x, (cn3 t r).1 = { r.1 with user := x }) ∧ (ls t).drop r.2.1 = fU (cn3 t r).1 ((ls t).drop (cn3 t r).2.1) := by
  unfold cn3 at h ⊢
  cases hw : r.1.hasUser
  · rw [hw, if_neg (by decide)] at h
    rw [if_neg (by decide)]
    refine ⟨h, hr, ⟨r.1.user, rfl⟩, ?_⟩
    unfold fU
    rw [hw, if_neg (by decide)]
  · rw [hw, if_pos rfl] at h
    rw [if_pos rfl]
    obtain ⟨h1, h2, -, -, h4⟩ := txt_ok h
    refine ⟨h1, h2, ⟨_, rfl⟩, ?_⟩
    unfold fU
    simp only
    rw [hw, if_pos rfl]
    exact h4
theorem cn2_back {v : Int} {t : ByteArray} {r : Pk × Nat × Int} (hr : r.2.1 ≤ t.size) (h : (cn2 v t r).2.2 = 0) :
    r.2.2 = 0 ∧ (cn2 v t r).2.1 ≤ t.size ∧ (∃ x y z, (cn2 v t r).1 = { r.1 with will := { r.1.will with props := x, topic := y, payload := z } }) ∧ (ls t).drop r.2.1 = fW v (cn2 v t r).1 ((ls t).drop (cn2 v t r).2.1) := by
  unfold cn2 at h ⊢
  cases hw : r.1.hasWill
  · rw [hw, if_neg (by decide)] at h
    rw [if_neg (by decide)]
    refine ⟨h, hr, ⟨r.1.will.props, r.1.will.topic, r.1.will.payload, rfl⟩, ?_⟩
    unfold fW
    rw [hw, if_neg (by decide)]
  · rw [hw, if_pos rfl] at h
    rw [if_pos rfl]
    obtain ⟨b1, b2, -, b4⟩ := bin_ok (t := t) (a := (cnWT v t r.2.1 r.2.2).2.1) (e := (cnWT v t r.2.1 r.2.2).2.2) h
    obtain ⟨c1, -, -, -, c4⟩ := txt_ok (t := t) (a := (cnWP v t r.2.1 r.2.2).2.1) (e := (cnWP v t r.2.1 r.2.2).2.2) b1
    obtain ⟨d1, -, -, -, d4⟩ := pr_ok (v := v) (k := 16) hr c1
    refine ⟨d1, b2, ⟨_, _, _, rfl⟩, ?_⟩
    unfold fW
    simp only
    rw [hw, if_pos rfl]
    refine d4.trans ?_
    congr 1
    refine c4.trans ?_
    show putL (cnWT v t r.2.1 r.2.2).1.size 2 ++ (ls (cnWT v t r.2.1 r.2.2).1 ++ (ls t).drop (cnWT v t r.2.1 r.2.2).2.1) = _
    rw [b4]
    rfl
theorem cn1_back {v : Int} {t : ByteArray} (h : (cn1 v t).2.2 = 0) : (cn1 v t).2.1 ≤ t.size ∧ (∃ f k l c, f < 256 ∧ k < 65536 ∧ flOk v f = true ∧ (cn1 v t).1 = cnPk f k c l) ∧ ls t = f1 v (cn1 v t).1 ((ls t).drop (cn1 v t).2.1) := by
  have l0 : (stN t).1 ≤ t.size := takeS_le (Nat.zero_le _) _ _
  have l1 : (cnV v t).1 ≤ t.size := takeS_le l0 _ _
  have l2 : (cnF v t).2.1 ≤ t.size := takeS_le l1 _ _
  have l3 : (cnK v t).2.1 ≤ t.size := takeS_le l2 _ _
  obtain ⟨t1, t2, -, -, t5⟩ := txt_ok (t := t) (a := (cnP v t).2.1) (e := (cnP v t).2.2) h
  obtain ⟨p1, -, -, -, p5⟩ := pr_ok (v := v) (k := 1) l3 t1
  -- the time
  obtain ⟨k1, k2, k3⟩ := take_ok (t := t) (a := (cnF v t).2.1) (e := (cnF v t).2.2) (k := 2) p1
  -- the flags
  have hF : (cnF v t).2.2 = 0 := k1
  unfold cnF stG at hF
  simp only at hF
  by_cases hfl : flOk v (numS t (cnV v t).1 (cnV v t).2 1) = true
  rotate_left
  · rw [if_neg hfl] at hF; exact (failE_zero hF (by decide)).elim
  rw [if_pos hfl] at hF
  obtain ⟨f1', f2', f3'⟩ := take_ok (k := 1) hF
  -- the version
  have hV : (cnV v t).2 = 0 := f1'
  unfold cnV stV at hV
  simp only at hV
  by_cases hvv : ((numS t (stN t).1 (stN t).2 1 : Nat) : Int) = v
  rotate_left
  · rw [if_neg hvv] at hV; exact (failE_zero hV (by decide)).elim
  rw [if_pos hvv] at hV
  obtain ⟨v1, v2, v3⟩ := take_ok (k := 1) hV
  -- the name
  have hN : (stN t).2 = 0 := v1
  unfold stN at hN
  simp only at hN
  by_cases hnn : (takeS t 0 0 6).1 = cntName
  rotate_left
  · rw [if_neg hnn] at hN; exact (failE_zero hN (by decide)).elim
  rw [if_pos hnn] at hN
  obtain ⟨-, n2, n3⟩ := take_ok (k := 6) hN
  have e0 : stN t = (6, 0) := by
    have h6 : takeS t 0 0 6 = (t.extract 0 (0 + 6), 0 + 6, 0) := n3
    unfold stN
    rw [if_pos hnn, h6]
  have e1 : cnV v t = (7, 0) := by
    rw [e0] at hvv v2 v3
    have h7 : takeS t 6 0 1 = (t.extract 6 (6 + 1), 6 + 1, 0) := v3
    unfold cnV stV
    rw [e0]
    simp only at hvv ⊢
    rw [if_pos hvv, h7]
  have e2 : cnF v t = (numS t 7 0 1, 8, 0) := by
    rw [e1] at hfl f2' f3'
    have h8 : takeS t 7 0 1 = (t.extract 7 (7 + 1), 7 + 1, 0) := f3'
    unfold cnF stG
    rw [e1]
    simp only at hfl ⊢
    rw [if_pos hfl, h8]
  have e3 : cnK v t = (numS t 8 0 2, 10, 0) := by
    rw [e2] at k2 k3
    have h8 : takeS t 8 0 2 = (t.extract 8 (8 + 2), 8 + 2, 0) := k3
    unfold cnK stK
    rw [e2]
    simp only
    rw [h8]
  rw [e2] at k2
  rw [e1] at hfl f2'
  rw [e0] at hvv v2
  simp only at k2 hfl f2' hvv v2
  have hfn : numS t 7 0 1 < 256 := num_one_lt _ _ _
  have hkn : numS t 8 0 2 < 65536 := num_two_lt _ _ _ (by omega)
  have hP : (cn1 v t).1 = cnPk (numS t 7 0 1) (numS t 8 0 2) (cnT v t).1 (cnP v t).1 := by unfold cn1; rw [e2, e3]
  refine ⟨t2, ⟨_, _, _, _, hfn, hkn, hfl, hP⟩, ?_⟩
  have hflN : flN (cn1 v t).1 = ((numS t 7 0 1 : Nat) : Int) := by
    rw [hP]
    refine fl_back ⟨_, hfn⟩ ?_
    have hodd : decide (numS t 7 0 1 % 2 = 1) = false := by
      cases hd : decide (numS t 7 0 1 % 2 = 1)
      · rfl
      · unfold flOk at hfl; rw [hd] at hfl; simp at hfl
    have := of_decide_eq_false hodd
    show numS t 7 0 1 % 2 = 0
    omega
  have d6 : ls t = ls cntName ++ (ls t).drop 6 := by
    have h6 : takeS t 0 0 6 = (t.extract 0 (0 + 6), 0 + 6, 0) := n3
    rw [h6] at hnn
    have := take_ls (t := t) (a := 0) (k := 6) n2
    rw [show t.extract 0 (0 + 6) = cntName from hnn] at this
    exact this
  have d7 := num_back (t := t) (a := 6) v2
  have d8 := num_back (t := t) (a := 7) f2'
  have d10 := num_back2 (t := t) (a := 8) k2
  have dP : (ls t).drop 10 = tailL8 v 1 (cnP v t).1 ++ (ls t).drop (cnP v t).2.1 := by
    have := p5
    rw [e3] at this
    exact this.trans (by show _ = tailL8 v 1 (prpC v 1 t (cnK v t).2.1 (cnK v t).2.2).1 ++ (ls t).drop (prpC v 1 t (cnK v t).2.1 (cnK v t).2.2).2.1; rw [e3])
  unfold f1
  rw [hflN, hP]
  show ls t = ls cntName ++ (putL v.toNat 1 ++ (putL ((numS t 7 0 1 : Nat) : Int).toNat 1 ++ (putL ((numS t 8 0 2 : Nat) : Int).toNat 2 ++ (tailL8 v 1 (cnP v t).1 ++ (putL (cnT v t).1.size 2 ++ (ls (cnT v t).1 ++ (ls t).drop (cnT v t).2.1))))))
  rw [Int.toNat_natCast, Int.toNat_natCast, ← show numS t 6 0 1 = v.toNat from by have : ((numS t 6 0 1 : Nat) : Int) = v := hvv; omega]
  have t5' : (ls t).drop (cnP v t).2.1 = putL (cnT v t).1.size 2 ++ (ls (cnT v t).1 ++ (ls t).drop (cnT v t).2.1) := t5
  rw [← t5', ← dP, ← d10, ← d8, ← d7]
  exact d6
theorem cnRd_back {v : Int} {t : ByteArray} (h : (cnRd v t).2.2 = 0) : (cnRd v t).2.1 ≤ t.size ∧ (cnRd v t).1.kind = 1 ∧ ls t = f1 v (cnRd v t).1 (fW v (cnRd v t).1 (fU (cnRd v t).1 (fS (cnRd v t).1 ((ls t).drop (cnRd v t).2.1)))) := by
  have o1 : (cn1 v t).2.1 ≤ t.size → (cn2 v t (cn1 v t)).2.2 = 0 → (cn2 v t (cn1 v t)).2.1 ≤ t.size := fun a b => (cn2_back a b).2.1
  have h4 : (cn4 t (cn3 t (cn2 v t (cn1 v t)))).2.2 = 0 := h
  have l1 : (cn1 v t).2.1 ≤ t.size := by
    have l0 : (stN t).1 ≤ t.size := takeS_le (Nat.zero_le _) _ _
    have l1 : (cnV v t).1 ≤ t.size := takeS_le l0 _ _
    have l2 : (cnF v t).2.1 ≤ t.size := takeS_le l1 _ _
    have l3 : (cnK v t).2.1 ≤ t.size := takeS_le l2 _ _
    exact (txt_lt t _ _ (prp_le l3)).2
  have l2 : (cn2 v t (cn1 v t)).2.1 ≤ t.size := by
    unfold cn2
    split
    · exact binC_le _ _ _ (txt_lt t _ _ (prp_le l1)).2
    · exact l1
  have l3 : (cn3 t (cn2 v t (cn1 v t))).2.1 ≤ t.size := by
    unfold cn3
    split
    · exact (txt_lt t _ _ l2).2
    · exact l2
  obtain ⟨z3, m4, ⟨x4, q4⟩, d4⟩ := cn4_back l3 h4
  obtain ⟨z2, m3, ⟨x3, q3⟩, d3⟩ := cn3_back l2 z3
  obtain ⟨z1, m2, ⟨x2, y2, w2, q2⟩, d2⟩ := cn2_back l1 z2
  obtain ⟨m1, ⟨f, k, l, c, hf, hk, hfl, q1⟩, d1⟩ := cn1_back z1
  have hq : (cnRd v t).1 = { (cn1 v t).1 with will := { (cn1 v t).1.will with props := x2, topic := y2, payload := w2 }, user := x3, pass := x4 } := by
    show (cn4 t (cn3 t (cn2 v t (cn1 v t)))).1 = _
    rw [q4, q3, q2]
  refine ⟨m4, ?_, ?_⟩
  · rw [hq, q1]; rfl
  have e4 : fS (cn4 t (cn3 t (cn2 v t (cn1 v t)))).1 = fS (cnRd v t).1 := rfl
  have e3 : ∀ R, fU (cn3 t (cn2 v t (cn1 v t))).1 R = fU (cnRd v t).1 R := fun R => by
    rw [hq, q3, q2]; rfl
  have e2 : ∀ R, fW v (cn2 v t (cn1 v t)).1 R = fW v (cnRd v t).1 R := fun R => by
    rw [hq, q2]; rfl
  have e1 : ∀ R, f1 v (cn1 v t).1 R = f1 v (cnRd v t).1 R := fun R => by
    rw [hq]; rfl
  refine d1.trans ?_
  rw [e1, d2, e2, d3, e3, d4]
  rfl
end Go.Proofs.YtmkkjiogokfnmaaDoor

namespace Go.Proofs.YtmkkjiogokfnmaaDoor
open Go.RowKit

/-- What holds of a CONNACK that may be. -/
structure CaGood (v : Int) (p : Pk) : Prop where
  ver : v = 4 ∨ v = 5
  kind : p.kind = 2
  same : p = { pk0 with kind := p.kind, props := p.props, session := p.session, code := p.code }
  old : v = 4 → p.props = []
  code : 0 ≤ p.code ∧ p.code < 256
  props : (bytesS 2 p.props).2 = 0
theorem caGood_of {v : Int} {p : Pk} (x : cntE v p = 0) (h2 : p.kind = 2) : CaGood v p := by
  obtain ⟨g1, -, g3, g4⟩ := cntE_rng x
  obtain ⟨-, -, -, -, c6, -⟩ := cntE_parts x
  have hv : v = 4 ∨ v = 5 := of_decide_eq_true (show decide (v = 4 ∨ v = 5) = true from g1)
  refine ⟨hv, h2, by rw [← cntQ_two h2]; exact g3, fun h4 => ?_, cntE_code x h2, by rw [← h2]; exact c6⟩
  unfold cntRng at g4
  split at g4
  · cases g4
  · next hp =>
    have : ¬ 0 < p.props.length + p.will.props.length := fun y => hp ⟨h4, y⟩
    exact List.eq_nil_of_length_eq_zero (by omega)
def sesB (b : Bool) : Nat := if b = true then 1 else 0
theorem ses_get (b : Bool) : getL [(if b = true then (1 : UInt8) else 0)] = sesB b := by cases b <;> rfl
theorem ca_ls (v : Int) (p : Pk) (h : p.kind = 2) (R : List UInt8) : ls (ackS8 v p) ++ R = [(if p.session = true then (1 : UInt8) else 0)] ++ (putL p.code.toNat 1 ++ (tailL8 v 2 p.props ++ R)) := by
  unfold ackS8
  rw [h]
  simp only [cat_cons, cat_nil, ls_mk, tail8_ls, List.append_assoc, List.nil_append]
theorem caRd_front {v : Int} {p : Pk} (g : CaGood v p) (hn : ∀ q ∈ p.props, q.n < 4294967296) {t : ByteArray} {R : List UInt8} (ht : ls t = ls (ackS8 v p) ++ R) :
    ∃ a, caRd v t = (p, a, 0) ∧ a ≤ t.size ∧ (ls t).drop a = R := by
  rw [ca_ls v p g.kind] at ht
  have hl := congrArg List.length ht
  rw [ls_len] at hl
  simp only [List.length_append, putL_len, List.length_singleton] at hl
  have d0 : (ls t).drop 0 = _ := ht
  have d1 := congrArg (List.drop 1) ht
  rw [drop_two (show [(if p.session = true then (1 : UInt8) else 0)].length = 1 from rfl)] at d1
  have d2 := congrArg (List.drop 1) d1
  rw [List.drop_drop, drop_two (putL_len _ _)] at d2
  replace d2 : (ls t).drop 2 = _ := d2
  have hF : caF t = (sesB p.session, 1, 0) := by
    have h1 : takeS t 0 0 1 = (t.extract 0 (0 + 1), 0 + 1, 0) := take_yes (k := 1) (by omega)
    have h2 : numS t 0 0 1 = sesB p.session := by rw [show ((1 : Int)) = ((1 : Nat) : Int) from rfl, num_front (k := 1) d0 rfl (by omega), ses_get]
    unfold caF
    rw [h1, h2, if_pos (by unfold sesB; split <;> omega)]
  have hC : caC t = (p.code.toNat, 2, 0) := by
    unfold caC
    rw [hF]
    simp only
    have h1 : takeS t 1 0 1 = (t.extract 1 (1 + 1), 1 + 1, 0) := take_yes (k := 1) (by omega)
    have h2 : numS t 1 0 1 = p.code.toNat := by rw [show ((1 : Int)) = ((1 : Nat) : Int) from rfl, num_front (k := 1) d1 (putL_len _ _) (by omega), get_put1 _ (by have := g.code; omega)]
    rw [h1, h2]
  obtain ⟨hP, hPle, dP⟩ := pr_front (v := v) (k := 2) (a := 2) (by omega) g.old g.props hn d2
  have hP' : caP v t = (p.props, 2 + (tailL8 v 2 p.props).length, 0) := by unfold caP; rw [hC]; exact hP
  refine ⟨_, ?_, hPle, dP⟩
  unfold caRd
  rw [hF, hC, hP']
  congr 1
  have e := g.same
  rw [e]
  unfold caPk
  have hc : ((p.code.toNat : Nat) : Int) = p.code := by have := g.code; omega
  have hs : decide (sesB p.session = 1) = p.session := by cases p.session <;> rfl
  simp only
  rw [hc, hs, g.kind]
theorem caRd_back {v : Int} {t : ByteArray} (h : (caRd v t).2.2 = 0) : (caRd v t).2.1 ≤ t.size ∧ (caRd v t).1.kind = 2 ∧ ls t = ls (ackS8 v (caRd v t).1) ++ (ls t).drop (caRd v t).2.1 := by
  have l1 : (caF t).2.1 ≤ t.size := takeS_le (Nat.zero_le _) _ _
  have l2 : (caC t).2.1 ≤ t.size := takeS_le l1 _ _
  obtain ⟨p1, p2, -, -, p5⟩ := pr_ok (v := v) (k := 2) l2 h
  obtain ⟨c1, c2, c3⟩ := take_ok (t := t) (a := (caF t).2.1) (e := (caF t).2.2) (k := 1) p1
  have hF : (caF t).2.2 = 0 := c1
  unfold caF at hF
  simp only at hF
  by_cases hn : numS t 0 0 1 ≤ 1
  rotate_left
  · rw [if_neg hn] at hF; exact (failE_zero hF (by decide)).elim
  rw [if_pos hn] at hF
  obtain ⟨-, f2, f3⟩ := take_ok (k := 1) hF
  have e1 : caF t = (numS t 0 0 1, 1, 0) := by
    have h6 : takeS t 0 0 1 = (t.extract 0 (0 + 1), 0 + 1, 0) := f3
    unfold caF
    rw [if_pos hn, h6]
  have e2 : caC t = (numS t 1 0 1, 2, 0) := by
    rw [e1] at c2 c3
    have h6 : takeS t 1 0 1 = (t.extract 1 (1 + 1), 1 + 1, 0) := c3
    unfold caC
    rw [e1]
    simp only
    rw [h6]
  rw [e1] at c2
  have d0 := num_back (t := t) (a := 0) (by omega)
  have d1 := num_back (t := t) (a := 1) c2
  have dP : (ls t).drop 2 = tailL8 v 2 (caP v t).1 ++ (ls t).drop (caP v t).2.1 := by
    have := p5
    rw [e2] at this
    exact this.trans (by show _ = tailL8 v 2 (prpC v 2 t (caC t).2.1 (caC t).2.2).1 ++ (ls t).drop (prpC v 2 t (caC t).2.1 (caC t).2.2).2.1; rw [e2])
  have hq : (caRd v t).1 = caPk (numS t 0 0 1) (numS t 1 0 1) (caP v t).1 := by unfold caRd; rw [e1, e2]
  refine ⟨p2, by rw [hq]; rfl, ?_⟩
  rw [hq, ca_ls v _ rfl]
  have hb : putL (numS t 0 0 1) 1 = [(if (caPk (numS t 0 0 1) (numS t 1 0 1) (caP v t).1).session = true then (1 : UInt8) else 0)] := by
    show _ = [(if decide (numS t 0 0 1 = 1) = true then (1 : UInt8) else 0)]
    generalize numS t 0 0 1 = n at *
    have : n = 0 ∨ n = 1 := by omega
    rcases this with rfl | rfl <;> rfl
  rw [← hb]
  show ls t = putL (numS t 0 0 1) 1 ++ (putL ((numS t 1 0 1 : Nat) : Int).toNat 1 ++ (tailL8 v 2 (caP v t).1 ++ (ls t).drop (caP v t).2.1))
  rw [Int.toNat_natCast, ← dP, ← d1]
  exact d0

/-! ### Both kinds -/
def rdK (v k : Int) (t : ByteArray) : Pk × Nat × Int := if k = 1 then cnRd v t else caRd v t
theorem cnt_kind {v : Int} {p : Pk} (x : cntE v p = 0) : p.kind = 1 ∨ p.kind = 2 := by
  obtain ⟨-, g2, -, -⟩ := cntE_rng x
  exact of_decide_eq_true (show decide (p.kind = 1 ∨ p.kind = 2) = true from g2)
theorem cntB_zero {v : Int} {p : Pk} (x : cntE v p = 0) : cntB v p = ((if p.kind = 2 then ackS8 v p else cntS v p), 0) := by
  unfold cntB cntB2
  by_cases h : p.kind = 2
  · rw [if_pos h, if_pos x, if_pos h]
  · rw [if_neg h, if_pos x, if_neg h]
theorem rdK_front {v : Int} {p : Pk} (x : cntE v p = 0) (hn : ∀ q ∈ p.props, q.n < 4294967296) (hw : ∀ q ∈ p.will.props, q.n < 4294967296) {t : ByteArray} {R : List UInt8} (ht : ls t = ls (cntB v p).1 ++ R) :
    ∃ a, rdK v p.kind t = (p, a, 0) ∧ a ≤ t.size ∧ (ls t).drop a = R := by
  rw [cntB_zero x] at ht
  unfold rdK
  rcases cnt_kind x with h | h
  · rw [if_pos h]
    rw [if_neg (by omega)] at ht
    have g := cnGood_of x h
    exact cnRd_front g hn hw (ht.trans (cn_ls g R))
  · rw [if_neg (by omega)]
    rw [if_pos h] at ht
    exact caRd_front (caGood_of x h) hn ht
theorem rdK_back {v k : Int} (hk : k = 1 ∨ k = 2) {t : ByteArray} (h : (rdK v k t).2.2 = 0) :
    (rdK v k t).2.1 ≤ t.size ∧ (rdK v k t).1.kind = k ∧ (cntE v (rdK v k t).1 = 0 → ls t = ls (cntB v (rdK v k t).1).1 ++ (ls t).drop (rdK v k t).2.1) := by
  unfold rdK at h ⊢
  rcases hk with rfl | rfl
  · rw [if_pos rfl] at h ⊢
    obtain ⟨h1, h2, h3⟩ := cnRd_back h
    refine ⟨h1, h2, fun x => ?_⟩
    rw [cntB_zero x, if_neg (by omega)]
    exact h3.trans (cn_ls (cnGood_of x h2) _).symm
  · rw [if_neg (by decide)] at h ⊢
    obtain ⟨h1, h2, h3⟩ := caRd_back h
    refine ⟨h1, h2, fun x => ?_⟩
    rw [cntB_zero x, if_pos h2]
    exact h3
theorem cntR_is {v k : Int} {s : ByteArray} (hv : hdKnown v = true) (hk : cntOurs k = true) : cntR v k s = cnDone v s (rdK v k s) := by
  unfold cntR
  rw [if_neg (fun x => x.elim (fun y => by rw [hv] at y; cases y) (fun y => by rw [hk] at y; cases y))]
  rfl
theorem cntR_ways {v k : Int} {s : ByteArray} : ((cntR v k s).2 ≠ 0 ∧ (cntR v k s).1 = pk0) ∨ (hdKnown v = true ∧ cntOurs k = true ∧ (rdK v k s).2.2 = 0 ∧ s.size - (rdK v k s).2.1 = 0 ∧ cntE v (rdK v k s).1 = 0 ∧ cntR v k s = ((rdK v k s).1, 0)) := by
  cases hv : hdKnown v
  · left; unfold cntR; rw [if_pos (.inl hv)]; exact ⟨by decide, rfl⟩
  cases hk : cntOurs k
  · left; unfold cntR; rw [if_pos (.inr hk)]; exact ⟨by decide, rfl⟩
  rw [cntR_is hv hk]
  unfold cnDone
  by_cases h1 : cnEnd s (rdK v k s) = 0
  · rw [if_neg (fun x => x h1)]
    by_cases h2 : cntE v (rdK v k s).1 = 0
    · rw [if_neg (fun x => x h2)]
      right
      unfold cnEnd at h1
      split at h1
      · next hz => exact ⟨rfl, rfl, h1, hz, h2, rfl⟩
      · exact (failE_zero h1 (by decide)).elim
    · rw [if_pos h2]; exact .inl ⟨h2, rfl⟩
  · rw [if_pos h1]; exact .inl ⟨h1, rfl⟩
theorem cntR_front {v : Int} {p : Pk} (x : cntE v p = 0) (hn : ∀ q ∈ p.props, q.n < 4294967296) (hw : ∀ q ∈ p.will.props, q.n < 4294967296) : cntR v p.kind (cntB v p).1 = (p, 0) := by
  obtain ⟨a, e, hle, hd⟩ := rdK_front x hn hw (t := (cntB v p).1) (R := []) (List.append_nil _).symm
  obtain ⟨g1, g2, -, -⟩ := cntE_rng x
  rw [cntR_is g1 g2, e]
  have hz : (cntB v p).1.size - a = 0 := by
    have := congrArg List.length hd
    rw [List.length_drop, ls_len] at this
    exact this
  unfold cnDone cnEnd
  simp only
  rw [if_pos hz, if_neg (fun y => y rfl), if_neg (fun y => y x)]
theorem cntR_back {v k : Int} {s : ByteArray} {q : Pk} (h : cntR v k s = (q, 0)) : cntE v q = 0 ∧ cntB v q = (s, 0) ∧ q.kind = k := by
  rcases cntR_ways (v := v) (k := k) (s := s) with ⟨h1, -⟩ | ⟨-, h2, h3, h4, h5, h6⟩
  · rw [h] at h1; exact absurd rfl h1
  · have hq : q = (rdK v k s).1 := congrArg Prod.fst (h.symm.trans h6)
    obtain ⟨m1, m2, m3⟩ := rdK_back (of_decide_eq_true (show decide (k = 1 ∨ k = 2) = true from h2)) h3
    rw [hq]
    refine ⟨h5, ?_, m2⟩
    have hz := cntB_zero h5
    rw [hz]
    have := m3 h5
    rw [List.drop_eq_nil_of_le (by rw [ls_len]; omega), List.append_nil, hz] at this
    exact Prod.ext (ls_ext this).symm rfl
theorem cntR_none {v k : Int} {s : ByteArray} (h : (cntR v k s).2 ≠ 0) : (cntR v k s).1 = pk0 := by
  rcases cntR_ways (v := v) (k := k) (s := s) with ⟨-, h1⟩ | ⟨-, -, -, -, -, h6⟩
  · exact h1
  · rw [h6] at h; exact absurd rfl h
theorem cntR_ok {v k : Int} {s : ByteArray} (hs : s.size ≤ 140737488351232) : PkOk (cntR v k s).1 := by
  rcases cntR_ways (v := v) (k := k) (s := s) with ⟨-, h1⟩ | ⟨-, -, -, -, -, h6⟩
  · rw [h1]; exact PkOk.zero 0 0 0
  · rw [h6]
    unfold rdK
    split
    · exact (cnRd_ok hs).ok
    · exact (caRd_ok hs).ok
/-- A body truncated is not valid. -/
theorem cntR_cut {v : Int} {p : Pk} (x : cntE v p = 0) (hn : ∀ q ∈ p.props, q.n < 4294967296) (hw : ∀ q ∈ p.will.props, q.n < 4294967296) {t : ByteArray} {R : List UInt8} (ht : ls (cntB v p).1 = ls t ++ R) (hR : R ≠ []) (hs : t.size ≤ 140737488351232) : (cntR v p.kind t).2 ≠ 0 := by
  intro h0
  have h1 : cntR v p.kind t = ((cntR v p.kind t).1, 0) := Prod.ext rfl h0
  obtain ⟨b1, b2, b3⟩ := cntR_back h1
  have ok := cntR_ok (v := v) (k := p.kind) hs
  obtain ⟨a, e, hle, hd⟩ := rdK_front b1 (fun q hq => (ok.props q hq).1) (fun q hq => (ok.wp q hq).1) (t := (cntB v p).1) (R := R) (by rw [b2]; exact ht)
  obtain ⟨a', e', hle', hd'⟩ := rdK_front x hn hw (t := (cntB v p).1) (R := []) (List.append_nil _).symm
  rw [b3, e'] at e
  have : a' = a := congrArg (fun z => z.2.1) e
  rw [this, hd] at hd'
  exact hR hd'
end Go.Proofs.YtmkkjiogokfnmaaDoor

namespace Go.Proofs.YtmkkjiogokfnmaaDoor
open Go.RowKit

theorem numE_ne7 (r : Rule) (p : Pr) : numE r p ≠ 7 := by
  unfold numE
  repeat' split
  all_goals decide
theorem checkE_ne7 (r : Rule) (k : Int) (p : Pr) : checkE r k p ≠ 7 := by
  unfold checkE
  repeat' split
  all_goals first
    | decide
    | exact numE_ne7 _ _
theorem bytesGo_ne7 (kind : Int) : ∀ (l : List Pr) (f : Nat → Nat) (o : List UInt8), (bytesGo kind l f o).2 ≠ 7
  | [], f, o => by
    rw [bytesGo]
    split
    · decide
    · exact (by decide : (0 : Int) ≠ 7)
  | p :: l, f, o => by
    rw [bytesGo]
    split
    · exact checkE_ne7 _ _ _
    · split
      · decide
      · exact bytesGo_ne7 kind l _ _
theorem bytesS_ne7 (kind : Int) (l : List Pr) : (bytesS kind l).2 ≠ 7 := by
  unfold bytesS
  split
  · decide
  · exact bytesGo_ne7 kind l _ _
theorem needS_ne7 {t : ByteArray} {a : Nat} {e n : Int} (h : e ≠ 7) : (needS t a e n).2.2 ≠ 7 := by
  unfold needS
  split
  · split
    · exact (by decide : (0 : Int) ≠ 7)
    · exact (by decide : (5 : Int) ≠ 7)
  · exact h
theorem dataS_ne7 {t : ByteArray} {a : Nat} {e : Int} (h : e ≠ 7) : (dataS t a e).2.2 ≠ 7 := needS_ne7 (needS_ne7 h)
theorem writS_ne7 {t : ByteArray} {a : Nat} {e : Int} (h : e ≠ 7) : (writS t a e).2.2 ≠ 7 := by
  show (if (dataS t a e).2.2 = 0 ∧ validB (dataS t a e).1 = false then (6 : Int) else (dataS t a e).2.2) ≠ 7
  split
  · decide
  · exact dataS_ne7 h
theorem pairS_ne7 {t : ByteArray} {a : Nat} {e : Int} (h : e ≠ 7) : (pairS t a e).2.2 ≠ 7 := writS_ne7 (writS_ne7 h)
theorem varS_ne7 (t : ByteArray) (a : Nat) : (varS t a).2.2 ≠ 7 := by
  unfold varS
  split
  · exact (by decide : (0 : Int) ≠ 7)
  · exact (by decide : (5 : Int) ≠ 7)
theorem valS_ne7 (sh : Nat) (t : ByteArray) (a : Nat) : (valS sh t a).err ≠ 7 := by
  have h0 : (0 : Int) ≠ 7 := by decide
  unfold valS
  repeat' split
  · exact needS_ne7 h0
  · exact needS_ne7 h0
  · exact needS_ne7 h0
  · exact varS_ne7 _ _
  · exact writS_ne7 h0
  · exact dataS_ne7 h0
  · exact pairS_ne7 h0
theorem listGo_ne7 (kind : Int) (t : ByteArray) : ∀ (m a : Nat) (f : Nat → Nat) (o : List Pr), (listGo kind t m a f o).2 ≠ 7
  | 0, a, f, o => by rw [listGo]; decide
  | m + 1, a, f, o => by
    rw [listGo]
    repeat' split
    · decide
    · exact (by decide : (0 : Int) ≠ 7)
    · decide
    · exact valS_ne7 _ _ _
    · exact checkE_ne7 _ _ _
    · decide
    · decide
    · exact listGo_ne7 kind t m _ _ _
theorem rv_ne7 : ∀ (l : List UInt8) (n k : Nat), (rv l n k).2.2 ≠ 7
  | [], _, _ => by rw [rv]; decide
  | b :: l, n, k => by
    rw [rv]
    split
    · split
      · decide
      · exact rv_ne7 l _ _
    · split
      · decide
      · exact (by decide : (0 : Int) ≠ 7)
theorem readV_ne7 (l : List UInt8) : (readV l).2.2 ≠ 7 := rv_ne7 l 0 0
theorem readP_ne7 (kind : Int) (s : ByteArray) : (readP kind s).2.2 ≠ 7 := by
  unfold readP
  split
  · exact readV_ne7 _
  · split
    · decide
    · split
      · exact listGo_ne7 _ _ _ _ _ _
      · exact (by decide : (0 : Int) ≠ 7)
theorem take_ne7 {t : ByteArray} {a : Nat} {e n : Int} (h : e ≠ 7) : (takeS t a e n).2.2 ≠ 7 := by
  unfold takeS
  split
  · split
    · exact (by decide : (0 : Int) ≠ 7)
    · exact (by decide : (3 : Int) ≠ 7)
  · exact h
theorem fail_ne7 {e n : Int} (h : e ≠ 7) (hn : n ≠ 7) : failE e n ≠ 7 := by
  unfold failE
  split
  · exact hn
  · exact h
theorem bin_ne7 {t : ByteArray} {a : Nat} {e : Int} (h : e ≠ 7) : (binC t a e).2.2 ≠ 7 := take_ne7 (take_ne7 h)
theorem txt_ne7 {t : ByteArray} {a : Nat} {e : Int} (h : e ≠ 7) : (txtC t a e).2.2 ≠ 7 := by
  show (if validB (binC t a e).1 = true then (binC t a e).2.2 else failE (binC t a e).2.2 6) ≠ 7
  split
  · exact bin_ne7 h
  · exact fail_ne7 (bin_ne7 h) (by decide)
theorem prp_ne7 {v k : Int} {t : ByteArray} {a : Nat} {e : Int} (h : e ≠ 7) : (prpC v k t a e).2.2 ≠ 7 := by
  unfold prpC
  split
  · exact h
  · exact readP_ne7 _ _
/-- An error stays. -/
theorem bin_seven (t : ByteArray) (a : Nat) : binC t a 7 = (⟨#[]⟩, a, 7) := by
  unfold binC
  rw [takeS_bad (t := t) (a := a) (e := 7) (n := 2) (by decide)]
  exact takeS_bad (e := 7) (by decide)
theorem txt_seven (t : ByteArray) (a : Nat) : (txtC t a 7).2.2 = 7 := by
  show (if validB (binC t a 7).1 = true then (binC t a 7).2.2 else failE (binC t a 7).2.2 6) = 7
  rw [bin_seven]
  split <;> rfl
theorem prp_seven (v k : Int) (t : ByteArray) (a : Nat) : prpC v k t a 7 = ([], a, 7) := by
  unfold prpC
  rw [if_pos (.inr (by decide))]
theorem cnRd_seven {v : Int} {t : ByteArray} (h : (cnF v t).2.2 = 7) : (cnRd v t).2.2 = 7 := by
  have hK : (cnK v t).2.2 = 7 := by
    show (takeS t (cnF v t).2.1 (cnF v t).2.2 2).2.2 = 7
    rw [h, takeS_bad (by decide)]
  have hP : (cnP v t).2.2 = 7 := by unfold cnP; rw [hK, prp_seven]
  have h1 : (cn1 v t).2.2 = 7 := by
    show (txtC t (cnP v t).2.1 (cnP v t).2.2).2.2 = 7
    rw [hP]; exact txt_seven _ _
  have h2 : (cn2 v t (cn1 v t)).2.2 = 7 := by
    unfold cn2
    split
    · show (binC t (txtC t (prpC v 16 t (cn1 v t).2.1 (cn1 v t).2.2).2.1 (prpC v 16 t (cn1 v t).2.1 (cn1 v t).2.2).2.2).2.1 (txtC t (prpC v 16 t (cn1 v t).2.1 (cn1 v t).2.2).2.1 (prpC v 16 t (cn1 v t).2.1 (cn1 v t).2.2).2.2).2.2).2.2 = 7
      rw [h1, prp_seven]
      simp only
      rw [txt_seven, bin_seven]
    · exact h1
  have h3 : (cn3 t (cn2 v t (cn1 v t))).2.2 = 7 := by
    unfold cn3
    split
    · show (txtC t (cn2 v t (cn1 v t)).2.1 (cn2 v t (cn1 v t)).2.2).2.2 = 7
      rw [h2]; exact txt_seven _ _
    · exact h2
  show (cn4 t (cn3 t (cn2 v t (cn1 v t)))).2.2 = 7
  unfold cn4
  split
  · show (binC t (cn3 t (cn2 v t (cn1 v t))).2.1 (cn3 t (cn2 v t (cn1 v t))).2.2).2.2 = 7
    rw [h3, bin_seven]
  · exact h3
theorem cnRd_ne7 {v : Int} {t : ByteArray} (h : (cnF v t).2.2 ≠ 7) : (cnRd v t).2.2 ≠ 7 := by
  have hK : (cnK v t).2.2 ≠ 7 := take_ne7 h
  have hP : (cnP v t).2.2 ≠ 7 := prp_ne7 hK
  have h1 : (cn1 v t).2.2 ≠ 7 := txt_ne7 hP
  have h2 : (cn2 v t (cn1 v t)).2.2 ≠ 7 := by
    unfold cn2
    split
    · exact bin_ne7 (txt_ne7 (prp_ne7 h1))
    · exact h1
  have h3 : (cn3 t (cn2 v t (cn1 v t))).2.2 ≠ 7 := by
    unfold cn3
    split
    · exact txt_ne7 h2
    · exact h2
  show (cn4 t (cn3 t (cn2 v t (cn1 v t)))).2.2 ≠ 7
  unfold cn4
  split
  · exact bin_ne7 h3
  · exact h3
theorem cntE_ne7 (v : Int) (p : Pk) : cntE v p ≠ 7 := by
  unfold cntE
  repeat' split
  all_goals first
    | decide
    | exact bytesS_ne7 _ _
theorem cntR_seven {v : Int} {t : ByteArray} (hv : hdKnown v = true) : (cntR v 1 t).2 = 7 ↔ (cnF v t).2.2 = 7 := by
  rw [cntR_is hv rfl]
  have hr : rdK v 1 t = cnRd v t := if_pos rfl
  rw [hr]
  unfold cnDone cnEnd
  by_cases h : (cnF v t).2.2 = 7
  · have h7 := cnRd_seven h
    rw [h7]
    have : (if t.size - (cnRd v t).2.1 = 0 then (7 : Int) else failE 7 5) = 7 := by split <;> rfl
    rw [this, if_pos (by decide)]
    exact ⟨fun _ => h, fun _ => rfl⟩
  · have h7 := cnRd_ne7 h
    refine ⟨fun x => ?_, fun x => absurd x h⟩
    have he : (if t.size - (cnRd v t).2.1 = 0 then (cnRd v t).2.2 else failE (cnRd v t).2.2 5) ≠ 7 := by
      split
      · exact h7
      · exact fail_ne7 h7 (by decide)
    generalize (if t.size - (cnRd v t).2.1 = 0 then (cnRd v t).2.2 else failE (cnRd v t).2.2 5) = E at x he
    by_cases h1 : E = 0
    · rw [if_neg (fun y => y h1)] at x
      by_cases h2 : cntE v (cnRd v t).1 = 0
      · rw [if_neg (fun y => y h2)] at x; cases x
      · rw [if_pos h2] at x; exact absurd x (cntE_ne7 _ _)
    · rw [if_pos h1] at x; exact absurd x he
/-- A body with other flags. -/
theorem cnF_put {v : Int} (hv : v = 4 ∨ v = 5) {t : ByteArray} {c : UInt8} {R : List UInt8} (ht : ls t = ls cntName ++ (putL v.toNat 1 ++ ([c] ++ R))) : (cnF v t).2.2 = if flOk v c.toNat = true then 0 else 7 := by
  have hl := congrArg List.length ht
  rw [ls_len] at hl
  simp only [List.length_append, putL_len, name_len, List.length_singleton] at hl
  have d6 := congrArg (List.drop 6) ht
  rw [drop_two name_len] at d6
  have d7 := congrArg (List.drop 1) d6
  rw [List.drop_drop, drop_two (putL_len _ _)] at d7
  replace d7 : (ls t).drop 7 = _ := d7
  have hv2 : v.toNat < 256 ∧ ((v.toNat : Nat) : Int) = v := by omega
  have hN : stN t = (6, 0) := by
    unfold stN
    have h6 : takeS t 0 0 6 = (t.extract 0 (0 + 6), 0 + 6, 0) := take_yes (k := 6) (by omega)
    have hx : t.extract 0 (0 + 6) = cntName := ls_ext (by
      rw [extract_ls, List.drop_zero, ht]
      exact List.take_left' name_len)
    rw [h6, hx]
    show ((0 + 6 : Nat), if cntName = cntName then (0 : Int) else failE 0 5) = _
    rw [if_pos rfl]
  have hV : cnV v t = (7, 0) := by
    unfold cnV stV
    rw [hN]
    simp only
    have h1 : takeS t 6 0 1 = (t.extract 6 (6 + 1), 6 + 1, 0) := take_yes (k := 1) (by omega)
    have h2 : numS t 6 0 1 = v.toNat := by rw [show ((1 : Int)) = ((1 : Nat) : Int) from rfl, num_front (k := 1) d6 (putL_len _ _) (by omega), get_put1 _ hv2.1]
    rw [h1, h2, if_pos hv2.2]
  unfold cnF stG
  rw [hV]
  simp only
  have h1 : takeS t 7 0 1 = (t.extract 7 (7 + 1), 7 + 1, 0) := take_yes (k := 1) (by omega)
  have h2 : numS t 7 0 1 = c.toNat := by
    rw [show ((1 : Int)) = ((1 : Nat) : Int) from rfl, num_front (k := 1) d7 rfl (by omega)]
    simp [getL]
  rw [h1, h2]
  rfl
/-- What the law says of flags. -/
def wrongB (v : Int) (c : Nat) : Bool := decide (c % 2 = 1) || decide (c / 8 % 4 = 3) || (!decide (c / 4 % 2 = 1) && decide (c / 8 % 8 ≠ 0)) || (decide (v = 4) && decide (c / 64 = 1))
theorem six_bit : ∀ c : Fin 256, (!decide (c.1 / 64 % 2 = 1) || decide (c.1 / 128 % 2 = 1)) = !decide (c.1 / 64 = 1) := by decide +kernel
theorem wrong_fl {v : Int} (hv : v = 4 ∨ v = 5) {c : Nat} (hc : c < 256) : wrongB v c = !flOk v c := by
  have := six_bit ⟨c, hc⟩
  simp only at this
  unfold wrongB flOk
  rcases hv with rfl | rfl
  · rw [Bool.or_assoc (decide ((4 : Int) = 5)), this]
    simp only [decide_true, show decide ((4 : Int) = 5) = false from rfl, Bool.false_or, Bool.true_and]
    generalize (decide (c % 2 = 1) || decide (c / 8 % 4 = 3) || (!decide (c / 4 % 2 = 1) && decide (c / 8 % 8 ≠ 0))) = x
    generalize decide (c / 64 = 1) = y
    cases x <;> cases y <;> rfl
  · simp only [decide_true, show decide ((5 : Int) = 4) = false from rfl, Bool.false_and, Bool.or_false, Bool.true_or, Bool.and_true, Bool.not_not]
end Go.Proofs.YtmkkjiogokfnmaaDoor
