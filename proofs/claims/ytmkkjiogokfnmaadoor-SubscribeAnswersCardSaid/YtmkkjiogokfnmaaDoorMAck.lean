/-
  ack: the walks of known, Valid.
  ack: the walk of Body.
  The law AckCodes: its example and its walk.
  The law AckCodes: its walk.
  ack.Next and polyglotkit.None.
  kit: SameWill, SamePacket, None.
  kit: SamePacket.
  kit: None.
  kit: LightPacket.
-/
import Derived.Test.YtmkkjiogokfnmaaDoorMPk
import Derived.Test.YtmkkjiogokfnmaaDoorMReaA
import Derived.Test.YtmkkjiogokfnmaaDoorMPrp
import Derived.Test.YtmkkjiogokfnmaaDoorMPro
import Derived.Deep.QuietTactic
import Derived.BigQuiet
import Derived.Test.YtmkkjiogokfnmaaDoorMReaB
import Derived.Laws.ResultCell

namespace Go.Proofs.YtmkkjiogokfnmaaDoor
open Go.RowKit
attribute [local go_sem ↓] to_ldPk to_bxPk to_bdPk to_alPk to_stPk
attribute [local go_sem] run_bxPk run_bxPk_agg ld_fresh run_alPk run_bd0 run_bdK run_bdKI run_bdKIC run_bdKC run_bdKICP run_stPk_fresh pkC_0 pkC_1 pkC_2 pkC_3 pkC_4 pkC_5 pkC_6 pkC_7 pkC_8 pkC_9 pkC_10 pkC_11 pkC_12 pkC_13 pkC_14 pkC_15 pkC_16 pkC_17 pkC_18 pkC_19 pkC_20 pkC_21 pkC_22 pkC_23 pkC_24

/-- Such a version, such a kind. -/
def ackK (v k : Int) : Bool := decide ((v = 4 ∨ v = 5) ∧ 4 ≤ k ∧ k ≤ 7)
/-- A packet with nothing but what an acknowledgement may have. -/
def ackP (p : Pk) : Pk := { pk0 with kind := p.kind, id := p.id, code := p.code, props := p.props }
def ackH (h : Hs) : Hs := { hs0 with props := h.props }
def ackE (v : Int) (p : Pk) : Int :=
  if ackK v p.kind = false ∨ p.id ≤ 0 ∨ 65536 ≤ p.id ∨ may p.kind p.code = false then 2
  else if v = 4 ∧ (p.code ≠ 0 ∨ p.props.length ≠ 0) then 2
  else if p ≠ ackP p then 2
  else (bytesS p.kind p.props).2
theorem ackIn {w : World} {B : Nat} {p : Pk} {h : Hs} (x : PkIn w B p h) : PkIn w B (ackP p) (ackH h) := ⟨Rd.nil _ _ _ _, Rd.nil _ _ _ _, Rd.nil _ _ _ _, x.props, Nat.zero_le _, Nat.zero_le _, Nat.zero_le _, x.caps.2.2.2⟩
theorem PkOk.len {p : Pk} (x : PkOk p) : PkLen p := by
  obtain ⟨h1, h2, h3, h4⟩ := x.lens
  exact ⟨by omega, by omega, by omega, by omega⟩
theorem ackLen {p : Pk} (x : PkLen p) : PkLen (ackP p) := ⟨Nat.zero_le _, Nat.zero_le _, Nat.zero_le _, x.2.2.2⟩

end Go.Proofs.YtmkkjiogokfnmaaDoor

namespace Go.Proofs.YtmkkjiogokfnmaaDoor
open Go.RowKit
attribute [local go_sem ↓] to_ldPk to_bxPk to_bdPk to_alPk to_stPk
attribute [local go_sem] run_bxPk run_bxPk_agg ld_fresh run_alPk run_bd0 run_bdK run_bdKI run_bdKIC run_bdKC run_bdKICP run_stPk_fresh pkC_0 pkC_1 pkC_2 pkC_3 pkC_4 pkC_5 pkC_6 pkC_7 pkC_8 pkC_9 pkC_10 pkC_11 pkC_12 pkC_13 pkC_14 pkC_15 pkC_16 pkC_17 pkC_18 pkC_19 pkC_20 pkC_21 pkC_22 pkC_23 pkC_24


structure AckGood (v : Int) (p : Pk) : Prop where
  k : ackK v p.kind = true
  id1 : 0 < p.id
  id2 : p.id < 65536
  may : may p.kind p.code = true
  c1 : 0 ≤ p.code
  c2 : p.code < 256
  old : v = 4 → p.code = 0 ∧ p.props = []
  same : p = ackP p
  bytes : (bytesS p.kind p.props).2 = 0
theorem ackE_good {v : Int} {p : Pk} (x : ackE v p = 0) : AckGood v p := by
  unfold ackE at x
  split at x
  · cases x
  · next h =>
    split at x
    · cases x
    · next h4 =>
      split at x
      · cases x
      · next hs =>
        have hm : Go.Proofs.YtmkkjiogokfnmaaDoor.may p.kind p.code = true := by
          cases e : Go.Proofs.YtmkkjiogokfnmaaDoor.may p.kind p.code
          · exact absurd (.inr (.inr (.inr e))) h
          · rfl
        have hr := may_range hm
        refine ⟨?_, ?_, ?_, hm, hr.1, hr.2, ?_, Decidable.not_not.1 hs, x⟩
        · cases e : ackK v p.kind
          · exact absurd (.inl e) h
          · rfl
        · exact Int.not_le.1 fun e => h (.inr (.inl e))
        · exact Int.not_le.1 fun e => h (.inr (.inr (.inl e)))
        · intro hv
          refine ⟨Decidable.not_not.1 fun e => h4 ⟨hv, .inl e⟩, ?_⟩
          have := Decidable.not_not.1 fun e => h4 ⟨hv, .inr e⟩
          exact List.eq_nil_of_length_eq_zero this
theorem AckGood.ok {v : Int} {p : Pk} (x : AckGood v p) : ackE v p = 0 := by
  unfold ackE
  rw [if_neg, if_neg, if_neg]
  · exact x.bytes
  · exact fun h => h x.same
  · rintro ⟨h1, h2⟩
    have := x.old h1
    rcases h2 with h2 | h2
    · exact h2 this.1
    · rw [this.2] at h2; exact h2 rfl
  · rintro (h | h | h | h)
    · rw [x.k] at h; cases h
    · have := x.id1; omega
    · have := x.id2; omega
    · rw [x.may] at h; cases h

/-- A body. -/
def ackT (p : Pk) : List UInt8 := if p.code = 0 ∧ p.props.length = 0 then [] else putL p.code.toNat 1 ++ (if p.props.length = 0 then [] else (bytesS p.kind p.props).1)
def ackB (v : Int) (p : Pk) : List UInt8 × Int := if ackE v p = 0 then (putL p.id.toNat 2 ++ ackT p, 0) else ([], ackE v p)
theorem ap2 (a b : List UInt8) : (⟨a.toArray⟩ : ByteArray) ++ ⟨b.toArray⟩ = ⟨(a ++ b).toArray⟩ := by
  apply ByteArray.ext
  simp
theorem ap3 (a b : List UInt8) (c : List UInt8) : (⟨(a ++ b).toArray⟩ : ByteArray) ++ ⟨c.toArray⟩ = ⟨(a ++ (b ++ c)).toArray⟩ := by
  rw [ap2, List.append_assoc]

end Go.Proofs.YtmkkjiogokfnmaaDoor

namespace Go.Proofs.YtmkkjiogokfnmaaDoor
open Go.RowKit
attribute [local go_sem ↓] to_ldPk to_bxPk to_bdPk to_alPk to_stPk
attribute [local go_sem] run_bxPk run_bxPk_agg ld_fresh run_alPk run_bd0 run_bdK run_bdKI run_bdKIC run_bdKC run_bdKICP run_stPk_fresh pkC_0 pkC_1 pkC_2 pkC_3 pkC_4 pkC_5 pkC_6 pkC_7 pkC_8 pkC_9 pkC_10 pkC_11 pkC_12 pkC_13 pkC_14 pkC_15 pkC_16 pkC_17 pkC_18 pkC_19 pkC_20 pkC_21 pkC_22 pkC_23 pkC_24


def ackQ (k i c : Int) : Pk := { pk0 with kind := k, id := i, code := c }
theorem PkIn.zero (w : World) (B : Nat) (k i c : Int) : PkIn w B (ackQ k i c) hs0 := ⟨Rd.nil _ _ _ _, Rd.nil _ _ _ _, Rd.nil _ _ _ _, Rd.nil _ _ _ _, Nat.zero_le _, Nat.zero_le _, Nat.zero_le _, Nat.zero_le _⟩
theorem PkOk.zero (k i c : Int) : PkOk (ackQ k i c) := by
  refine ⟨?_, ?_, ?_, ?_, ?_⟩
  · intro q hq; cases hq
  · intro q hq; cases hq
  · intro q hq; cases hq
  · exact ⟨Nat.zero_le _, Nat.zero_le _, Nat.zero_le _, Nat.zero_le _, Nat.zero_le _, Nat.zero_le _, Nat.zero_le _⟩
  · exact ⟨Nat.zero_le _, Nat.zero_le _, Nat.zero_le _, Nat.zero_le _⟩
theorem ackQ_code (k i : Int) : ({ pk0 with kind := k, id := i } : Pk) = ackQ k i 0 := rfl
theorem ackQ_all (k i c : Int) : ({ pk0 with kind := k, id := i, code := c } : Pk) = ackQ k i c := rfl
theorem bytesS_none (k : Int) : bytesS k [] = ([0], 0) := by
  show bytesGo k [] (fun _ => 0) [] = _
  rfl
theorem ackE_Q (v k i c : Int) (hv : v = 4 ∨ v = 5) (hk : 4 ≤ k ∧ k ≤ 7) (hi : i < 65536) : ackE v (ackQ k i c) = if i ≤ 0 ∨ may k c = false then 2 else if v = 4 ∧ c ≠ 0 then 2 else 0 := by
  have h1 : ackK v k = true := decide_eq_true ⟨hv, hk⟩
  unfold ackE
  rw [show (ackQ k i c).kind = k from rfl, show (ackQ k i c).id = i from rfl, show (ackQ k i c).code = c from rfl, show (ackQ k i c).props = [] from rfl, h1, bytesS_none]
  by_cases h : i ≤ 0 ∨ may k c = false
  · rw [if_pos h, if_pos]
    rcases h with h | h
    · exact .inr (.inl h)
    · exact .inr (.inr (.inr h))
  · rw [if_neg h, if_neg]
    · by_cases h4 : v = 4 ∧ c ≠ 0
      · rw [if_pos h4, if_pos ⟨h4.1, .inl h4.2⟩]
      · rw [if_neg h4, if_neg, if_neg]
        · exact fun x => x rfl
        · rintro ⟨x, y | y⟩
          · exact h4 ⟨x, y⟩
          · exact y rfl
    · rintro (x | x | x | x)
      · cases x
      · exact h (.inl x)
      · omega
      · exact h (.inr x)
theorem example_ack1 : ackB 5 (ackQ 4 7 0) = ([0, 7], 0) := by decide +kernel
theorem example_ack2 : ackB 5 (ackQ 4 7 16) = ([0, 7, 16], 0) := by decide +kernel

theorem put_two (i : Int) (h : 0 < i) (h2 : i < 65536) : ∃ a b : UInt8, putL i.toNat 2 = [a, b] ∧ (a.toNat : Int) * 256 + b.toNat = i := by
  refine ⟨UInt8.ofNat (i.toNat / 2 ^ 8), UInt8.ofNat (i.toNat / 2 ^ 0), rfl, ?_⟩
  have e1 : (UInt8.ofNat (i.toNat / 2 ^ 8)).toNat = i.toNat / 256 % 256 := by simp
  have e2 : (UInt8.ofNat (i.toNat / 2 ^ 0)).toNat = i.toNat % 256 := by simp
  rw [e1, e2]
  omega
theorem put_one (i : Int) (h : 0 ≤ i) (h2 : i < 256) : ∃ a : UInt8, putL i.toNat 1 = [a] ∧ (a.toNat : Int) = i := by
  refine ⟨UInt8.ofNat (i.toNat / 2 ^ 0), rfl, ?_⟩
  have e2 : (UInt8.ofNat (i.toNat / 2 ^ 0)).toNat = i.toNat % 256 := by simp
  rw [e2]
  omega

/-- What the two bodies are: four ways. -/
theorem ack_ways (k i c : Int) (hk : 4 ≤ k ∧ k ≤ 7) (h0 : 0 ≤ i) (hi : i < 65536) :
    (i = 0 ∧ ackB 5 (ackQ k i c) = ([], 2) ∧ ackB 4 (ackQ k i c) = ([], 2)) ∨
    (0 < i ∧ c ≠ 0 ∧ may k c = false ∧ ackB 5 (ackQ k i c) = ([], 2) ∧ ackB 4 (ackQ k i c) = ([], 2)) ∨
    (0 < i ∧ c = 0 ∧ may k c = true ∧ ∃ a b : UInt8, ackB 5 (ackQ k i c) = ([a, b], 0) ∧ ackB 4 (ackQ k i c) = ([a, b], 0)) ∨
    (0 < i ∧ c ≠ 0 ∧ may k c = true ∧ ∃ a b d : UInt8, ackB 5 (ackQ k i c) = ([a, b, d], 0) ∧ ackB 4 (ackQ k i c) = ([], 2) ∧ (d.toNat : Int) = c ∧ (a.toNat : Int) * 256 + b.toNat = i) := by
  have hm0 : may k 0 = true := by
    obtain rfl | rfl | rfl | rfl : k = 4 ∨ k = 5 ∨ k = 6 ∨ k = 7 := by omega
    all_goals decide +kernel
  have e5 := ackE_Q 5 k i c (.inr rfl) hk hi
  have e4 := ackE_Q 4 k i c (.inl rfl) hk hi
  by_cases hz : i = 0
  · refine .inl ⟨hz, ?_, ?_⟩
    · rw [if_pos (.inl (by omega))] at e5
      unfold ackB; rw [e5]; rfl
    · rw [if_pos (.inl (by omega))] at e4
      unfold ackB; rw [e4]; rfl
  · have hp : 0 < i := by omega
    by_cases hm : may k c = false
    · refine .inr (.inl ⟨hp, ?_, hm, ?_, ?_⟩)
      · rintro rfl; rw [hm0] at hm; cases hm
      · rw [if_pos (.inr hm)] at e5
        unfold ackB; rw [e5]; rfl
      · rw [if_pos (.inr hm)] at e4
        unfold ackB; rw [e4]; rfl
    · have hm' : may k c = true := by cases e : may k c; · exact absurd e hm
                                      · rfl
      have hn : ¬ (i ≤ 0 ∨ may k c = false) := by rintro (x | x); · omega
                                                  · exact hm x
      rw [if_neg hn] at e5 e4
      rw [if_neg (by omega)] at e5
      obtain ⟨a, b, hab, hs⟩ := put_two i hp hi
      by_cases hc : c = 0
      · refine .inr (.inr (.inl ⟨hp, hc, hm', a, b, ?_, ?_⟩))
        · unfold ackB
          rw [if_pos e5, show (ackQ k i c).id = i from rfl, hab, ackT, if_pos ⟨hc, rfl⟩]; rfl
        · rw [if_neg (fun x => x.2 hc)] at e4
          unfold ackB
          rw [if_pos e4, show (ackQ k i c).id = i from rfl, hab, ackT, if_pos ⟨hc, rfl⟩]; rfl
      · have hr := may_range hm'
        obtain ⟨d, hd, hs2⟩ := put_one c hr.1 hr.2
        refine .inr (.inr (.inr ⟨hp, hc, hm', a, b, d, ?_, ?_, hs2, hs⟩))
        · unfold ackB
          rw [if_pos e5, show (ackQ k i c).id = i from rfl, hab, ackT, if_neg (fun x => hc x.1), show (ackQ k i c).code = c from rfl, hd]; rfl
        · rw [if_pos ⟨rfl, hc⟩] at e4
          unfold ackB; rw [e4]; rfl
end Go.Proofs.YtmkkjiogokfnmaaDoor

namespace Go.Proofs.YtmkkjiogokfnmaaDoor
open Go.RowKit
attribute [local go_sem ↓] to_ldPk to_bxPk to_bdPk to_alPk to_stPk
attribute [local go_sem] run_bxPk run_bxPk_agg ld_fresh run_alPk run_bd0 run_bdK run_bdKI run_bdKIC run_bdKC run_bdKICP run_stPk_fresh pkC_0 pkC_1 pkC_2 pkC_3 pkC_4 pkC_5 pkC_6 pkC_7 pkC_8 pkC_9 pkC_10 pkC_11 pkC_12 pkC_13 pkC_14 pkC_15 pkC_16 pkC_17 pkC_18 pkC_19 pkC_20 pkC_21 pkC_22 pkC_23 pkC_24


theorem u16_lo {n : Int} (h : (Lit.int .u16 n).wf = true) : 0 ≤ n := by
  simp [Lit.wf, IntKind.min, IntKind.max, IntKind.bits, IntKind.signed] at h; omega
theorem u16_hi {n : Int} (h : (Lit.int .u16 n).wf = true) : n < 65536 := by
  simp [Lit.wf, IntKind.min, IntKind.max, IntKind.bits, IntKind.signed] at h; omega
end Go.Proofs.YtmkkjiogokfnmaaDoor

namespace Go.Proofs.YtmkkjiogokfnmaaDoor
open Go.RowKit
attribute [local go_sem ↓] to_ldPk to_bxPk to_bdPk to_alPk to_stPk
attribute [local go_sem] run_bxPk run_bxPk_agg ld_fresh run_alPk run_bd0 run_bdK run_bdKI run_bdKIC run_bdKC run_bdKICP run_stPk_fresh pkC_0 pkC_1 pkC_2 pkC_3 pkC_4 pkC_5 pkC_6 pkC_7 pkC_8 pkC_9 pkC_10 pkC_11 pkC_12 pkC_13 pkC_14 pkC_15 pkC_16 pkC_17 pkC_18 pkC_19 pkC_20 pkC_21 pkC_22 pkC_23 pkC_24


theorem lv_bk {w : World} {g : Nat} {p : Pk} {h : Hs} (hb : Bk w g PkT (pkC p h)) : (loadVar PkT ⟨g, 0, none⟩).run Tryd.prog w = .ok (pkV p h) w := by
  have hl := ld_bk hb
  unfold ldPk at hl
  generalize pkV p h = V at hl ⊢
  simpa only [Instr.loadAt, Instr.sureAddr, Sem.run_bind, Sem.run_pure, Result.andThen_ok] using hl
theorem then_ok {A B : Type} (r : Result A) (v : A) (w : World) (f : A → World → Result B) (h : r = .ok v w) : r.andThen f = f v w := by rw [h]; rfl
set_option maxRecDepth 100000 in
theorem results_pk {fn : Func} {p u : Tmp} (hr : fn.results = #[.cell p PkT, .tmp u]) (tmps : Array Value) {w : World} {g : Nat} {q : Pk} {h : Hs} (hp : tmps.getD p undef = .pointer (some ⟨g, 0, none⟩)) (hb : Bk w g PkT (pkC q h)) :
    (results fn tmps).run Tryd.prog w = .ok (.tuple #[pkV q h, tmps.getD u undef]) w := by
  rw [results_cell_tmp hr, hp]
  have hl := lv_bk hb
  generalize pkV q h = V at hl ⊢
  exact then_ok _ (⟨g, 0, none⟩ : Addr) w _ rfl |>.trans (then_ok _ V w _ hl)
/-- What comes next. -/
def ackN (p : Pk) : Pk × Bool :=
  if p.kind = 5 then (if badB p.code = true ∨ 255 < p.code then (pk0, false) else (ackQ 6 p.id 0, true))
  else if p.kind = 6 then (ackQ 7 p.id 0, true) else (pk0, false)
theorem below_put {B g : Nat} {w w' : World} (x : Below B w w') (hB : B ≤ w'.heap.size) (hg : B ≤ g) (q : Pk) (k : Hs) : Below B w (putPk w' g q k) := x.grown (putPk_mods w' g q k) hB (fun y hy => by cases hy; exact hg)

end Go.Proofs.YtmkkjiogokfnmaaDoor

namespace Go.Proofs.YtmkkjiogokfnmaaDoor
open Go.RowKit
end Go.Proofs.YtmkkjiogokfnmaaDoor

namespace Go.Proofs.YtmkkjiogokfnmaaDoor
open Go.RowKit
attribute [local go_sem ↓] to_ldPk to_bxPk to_bdPk to_alPk to_stPk
attribute [local go_sem] run_bxPk run_bxPk_agg ld_fresh run_alPk run_bd0 run_bdK run_bdKI run_bdKIC run_bdKC run_bdKICP run_stPk_fresh pkC_0 pkC_1 pkC_2 pkC_3 pkC_4 pkC_5 pkC_6 pkC_7 pkC_8 pkC_9 pkC_10 pkC_11 pkC_12 pkC_13 pkC_14 pkC_15 pkC_16 pkC_17 pkC_18 pkC_19 pkC_20 pkC_21 pkC_22 pkC_23 pkC_24


end Go.Proofs.YtmkkjiogokfnmaaDoor

namespace Go.Proofs.YtmkkjiogokfnmaaDoor
open Go.RowKit
attribute [local go_sem ↓] to_ldPk to_bxPk to_bdPk to_alPk to_stPk
attribute [local go_sem] run_bxPk run_bxPk_agg ld_fresh run_alPk run_bd0 run_bdK run_bdKI run_bdKIC run_bdKC run_bdKICP run_stPk_fresh pkC_0 pkC_1 pkC_2 pkC_3 pkC_4 pkC_5 pkC_6 pkC_7 pkC_8 pkC_9 pkC_10 pkC_11 pkC_12 pkC_13 pkC_14 pkC_15 pkC_16 pkC_17 pkC_18 pkC_19 pkC_20 pkC_21 pkC_22 pkC_23 pkC_24

/-- Nothing in a packet. -/
theorem pk0_in (w : World) (B : Nat) : PkIn w B pk0 hs0 := ⟨Rd.nil _ _ _ _, Rd.nil _ _ _ _, Rd.nil _ _ _ _, Rd.nil _ _ _ _, Nat.zero_le _, Nat.zero_le _, Nat.zero_le _, Nat.zero_le _⟩
theorem pk0_len : PkLen pk0 := ⟨Nat.zero_le _, Nat.zero_le _, Nat.zero_le _, Nat.zero_le _⟩
end Go.Proofs.YtmkkjiogokfnmaaDoor

namespace Go.Proofs.YtmkkjiogokfnmaaDoor
open Go.RowKit
attribute [local go_sem ↓] to_ldPk to_bxPk to_bdPk to_alPk to_stPk
attribute [local go_sem] run_bxPk run_bxPk_agg ld_fresh run_alPk run_bd0 run_bdK run_bdKI run_bdKIC run_bdKC run_bdKICP run_stPk_fresh pkC_0 pkC_1 pkC_2 pkC_3 pkC_4 pkC_5 pkC_6 pkC_7 pkC_8 pkC_9 pkC_10 pkC_11 pkC_12 pkC_13 pkC_14 pkC_15 pkC_16 pkC_17 pkC_18 pkC_19 pkC_20 pkC_21 pkC_22 pkC_23 pkC_24


def ft (l : List Fi) : Nat := (l.map fun f => f.topic.size).sum
theorem ft_snoc (l : List Fi) (k : Nat) (h : k < l.length) : ft (l.take (k + 1)) = ft (l.take k) + l[k].topic.size := by
  unfold ft
  rw [List.take_succ_eq_append_getElem h, List.map_append, List.sum_append]
  simp only [List.map_cons, List.map_nil, List.sum_cons, List.sum_nil]
  omega
theorem ft_le : ∀ (l : List Fi), (∀ f ∈ l, f.topic.size ≤ 140737488351232) → ft l ≤ l.length * 140737488351232
  | [], _ => by simp [ft]
  | p :: l, h => by
    have h1 := ft_le l (fun q hq => h q (List.mem_cons_of_mem _ hq))
    have h2 := h p (by simp)
    simp [ft] at h1 ⊢
    omega
def szK (p : Pk) : Nat := p.topic.size + p.payload.size + p.client.size + p.user.size + p.pass.size + p.will.topic.size + p.will.payload.size
def lightK (p : Pk) : Bool := lightB p.props && (lightB p.will.props && (decide (p.codes.length ≤ 60) && (decide (p.filters.length ≤ 60) && decide (szK p + ft p.filters ≤ 140000))))
end Go.Proofs.YtmkkjiogokfnmaaDoor
