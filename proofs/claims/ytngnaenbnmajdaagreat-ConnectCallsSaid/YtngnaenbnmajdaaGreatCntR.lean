/- connect, plain: a CONNACK's body read back; what Read hands back, whole. -/
import Derived.Test.YtngnaenbnmajdaaGreatCntQ
namespace Go.Proofs.YtngnaenbnmajdaaGreat
open Go.RowKit

/-- What holds of a CONNACK that may be. -/
structure CaGood (v : Int) (p : Pk) : Prop where
  ver : v = 4 ∨ v = 5
  kind : p.kind = 2
  same : p = { pk0 with kind := p.kind, props := p.props, session := p.session, code := p.code }
  old : v = 4 → p.props = []
  code : 0 ≤ p.code ∧ p.code < 256
  props : (bytesS 2 p.props).2 = 0
theorem caGood_of {v : Int} {p : Pk} (x : cntE v p = 0) (h2 : p.kind = 2) : CaGood v p := by
  obtain ⟨g1, -, g3, g4⟩ := cntE_rng x
  obtain ⟨-, -, -, -, c6, -⟩ := cntE_parts x
  have hv : v = 4 ∨ v = 5 := of_decide_eq_true (show decide (v = 4 ∨ v = 5) = true from g1)
  refine ⟨hv, h2, by rw [← cntQ_two h2]; exact g3, fun h4 => ?_, cntE_code x h2, by rw [← h2]; exact c6⟩
  unfold cntRng at g4
  split at g4
  · cases g4
  · next hp =>
    have : ¬ 0 < p.props.length + p.will.props.length := fun y => hp ⟨h4, y⟩
    exact List.eq_nil_of_length_eq_zero (by omega)
def sesB (b : Bool) : Nat := if b = true then 1 else 0
theorem ses_get (b : Bool) : getL [(if b = true then (1 : UInt8) else 0)] = sesB b := by cases b <;> rfl
theorem ca_ls (v : Int) (p : Pk) (h : p.kind = 2) (R : List UInt8) : ls (ackS8 v p) ++ R = [(if p.session = true then (1 : UInt8) else 0)] ++ (putL p.code.toNat 1 ++ (tailL8 v 2 p.props ++ R)) := by
  unfold ackS8
  rw [h]
  simp only [cat_cons, cat_nil, ls_mk, tail8_ls, List.append_assoc, List.nil_append]
theorem caRd_front {v : Int} {p : Pk} (g : CaGood v p) (hn : ∀ q ∈ p.props, q.n < 4294967296) {t : ByteArray} {R : List UInt8} (ht : ls t = ls (ackS8 v p) ++ R) :
    ∃ a, caRd v t = (p, a, 0) ∧ a ≤ t.size ∧ (ls t).drop a = R := by
  rw [ca_ls v p g.kind] at ht
  have hl := congrArg List.length ht
  rw [ls_len] at hl
  simp only [List.length_append, putL_len, List.length_singleton] at hl
  have d0 : (ls t).drop 0 = _ := ht
  have d1 := congrArg (List.drop 1) ht
  rw [drop_two (show [(if p.session = true then (1 : UInt8) else 0)].length = 1 from rfl)] at d1
  have d2 := congrArg (List.drop 1) d1
  rw [List.drop_drop, drop_two (putL_len _ _)] at d2
  replace d2 : (ls t).drop 2 = _ := d2
  have hF : caF t = (sesB p.session, 1, 0) := by
    have h1 : takeS t 0 0 1 = (t.extract 0 (0 + 1), 0 + 1, 0) := take_yes (k := 1) (by omega)
    have h2 : numS t 0 0 1 = sesB p.session := by rw [show ((1 : Int)) = ((1 : Nat) : Int) from rfl, num_front (k := 1) d0 rfl (by omega), ses_get]
    unfold caF
    rw [h1, h2, if_pos (by unfold sesB; split <;> omega)]
  have hC : caC t = (p.code.toNat, 2, 0) := by
    unfold caC
    rw [hF]
    simp only
    have h1 : takeS t 1 0 1 = (t.extract 1 (1 + 1), 1 + 1, 0) := take_yes (k := 1) (by omega)
    have h2 : numS t 1 0 1 = p.code.toNat := by rw [show ((1 : Int)) = ((1 : Nat) : Int) from rfl, num_front (k := 1) d1 (putL_len _ _) (by omega), get_put1 _ (by have := g.code; omega)]
    rw [h1, h2]
  obtain ⟨hP, hPle, dP⟩ := pr_front (v := v) (k := 2) (a := 2) (by omega) g.old g.props hn d2
  have hP' : caP v t = (p.props, 2 + (tailL8 v 2 p.props).length, 0) := by unfold caP; rw [hC]; exact hP
  refine ⟨_, ?_, hPle, dP⟩
  unfold caRd
  rw [hF, hC, hP']
  congr 1
  have e := g.same
  rw [e]
  unfold caPk
  have hc : ((p.code.toNat : Nat) : Int) = p.code := by have := g.code; omega
  have hs : decide (sesB p.session = 1) = p.session := by cases p.session <;> rfl
  simp only
  rw [hc, hs, g.kind]
theorem caRd_back {v : Int} {t : ByteArray} (h : (caRd v t).2.2 = 0) : (caRd v t).2.1 ≤ t.size ∧ (caRd v t).1.kind = 2 ∧ ls t = ls (ackS8 v (caRd v t).1) ++ (ls t).drop (caRd v t).2.1 := by
  have l1 : (caF t).2.1 ≤ t.size := takeS_le (Nat.zero_le _) _ _
  have l2 : (caC t).2.1 ≤ t.size := takeS_le l1 _ _
  obtain ⟨p1, p2, -, -, p5⟩ := pr_ok (v := v) (k := 2) l2 h
  obtain ⟨c1, c2, c3⟩ := take_ok (t := t) (a := (caF t).2.1) (e := (caF t).2.2) (k := 1) p1
  have hF : (caF t).2.2 = 0 := c1
  unfold caF at hF
  simp only at hF
  by_cases hn : numS t 0 0 1 ≤ 1
  rotate_left
  · rw [if_neg hn] at hF; exact (failE_zero hF (by decide)).elim
  rw [if_pos hn] at hF
  obtain ⟨-, f2, f3⟩ := take_ok (k := 1) hF
  have e1 : caF t = (numS t 0 0 1, 1, 0) := by
    have h6 : takeS t 0 0 1 = (t.extract 0 (0 + 1), 0 + 1, 0) := f3
    unfold caF
    rw [if_pos hn, h6]
  have e2 : caC t = (numS t 1 0 1, 2, 0) := by
    rw [e1] at c2 c3
    have h6 : takeS t 1 0 1 = (t.extract 1 (1 + 1), 1 + 1, 0) := c3
    unfold caC
    rw [e1]
    simp only
    rw [h6]
  rw [e1] at c2
  have d0 := num_back (t := t) (a := 0) (by omega)
  have d1 := num_back (t := t) (a := 1) c2
  have dP : (ls t).drop 2 = tailL8 v 2 (caP v t).1 ++ (ls t).drop (caP v t).2.1 := by
    have := p5
    rw [e2] at this
    exact this.trans (by show _ = tailL8 v 2 (prpC v 2 t (caC t).2.1 (caC t).2.2).1 ++ (ls t).drop (prpC v 2 t (caC t).2.1 (caC t).2.2).2.1; rw [e2])
  have hq : (caRd v t).1 = caPk (numS t 0 0 1) (numS t 1 0 1) (caP v t).1 := by unfold caRd; rw [e1, e2]
  refine ⟨p2, by rw [hq]; rfl, ?_⟩
  rw [hq, ca_ls v _ rfl]
  have hb : putL (numS t 0 0 1) 1 = [(if (caPk (numS t 0 0 1) (numS t 1 0 1) (caP v t).1).session = true then (1 : UInt8) else 0)] := by
    show _ = [(if decide (numS t 0 0 1 = 1) = true then (1 : UInt8) else 0)]
    generalize numS t 0 0 1 = n at *
    have : n = 0 ∨ n = 1 := by omega
    rcases this with rfl | rfl <;> rfl
  rw [← hb]
  show ls t = putL (numS t 0 0 1) 1 ++ (putL ((numS t 1 0 1 : Nat) : Int).toNat 1 ++ (tailL8 v 2 (caP v t).1 ++ (ls t).drop (caP v t).2.1))
  rw [Int.toNat_natCast, ← dP, ← d1]
  exact d0

/-! ### Both kinds -/
def rdK (v k : Int) (t : ByteArray) : Pk × Nat × Int := if k = 1 then cnRd v t else caRd v t
theorem cnt_kind {v : Int} {p : Pk} (x : cntE v p = 0) : p.kind = 1 ∨ p.kind = 2 := by
  obtain ⟨-, g2, -, -⟩ := cntE_rng x
  exact of_decide_eq_true (show decide (p.kind = 1 ∨ p.kind = 2) = true from g2)
theorem cntB_zero {v : Int} {p : Pk} (x : cntE v p = 0) : cntB v p = ((if p.kind = 2 then ackS8 v p else cntS v p), 0) := by
  unfold cntB cntB2
  by_cases h : p.kind = 2
  · rw [if_pos h, if_pos x, if_pos h]
  · rw [if_neg h, if_pos x, if_neg h]
theorem rdK_front {v : Int} {p : Pk} (x : cntE v p = 0) (hn : ∀ q ∈ p.props, q.n < 4294967296) (hw : ∀ q ∈ p.will.props, q.n < 4294967296) {t : ByteArray} {R : List UInt8} (ht : ls t = ls (cntB v p).1 ++ R) :
    ∃ a, rdK v p.kind t = (p, a, 0) ∧ a ≤ t.size ∧ (ls t).drop a = R := by
  rw [cntB_zero x] at ht
  unfold rdK
  rcases cnt_kind x with h | h
  · rw [if_pos h]
    rw [if_neg (by omega)] at ht
    have g := cnGood_of x h
    exact cnRd_front g hn hw (ht.trans (cn_ls g R))
  · rw [if_neg (by omega)]
    rw [if_pos h] at ht
    exact caRd_front (caGood_of x h) hn ht
theorem rdK_back {v k : Int} (hk : k = 1 ∨ k = 2) {t : ByteArray} (h : (rdK v k t).2.2 = 0) :
    (rdK v k t).2.1 ≤ t.size ∧ (rdK v k t).1.kind = k ∧ (cntE v (rdK v k t).1 = 0 → ls t = ls (cntB v (rdK v k t).1).1 ++ (ls t).drop (rdK v k t).2.1) := by
  unfold rdK at h ⊢
  rcases hk with rfl | rfl
  · rw [if_pos rfl] at h ⊢
    obtain ⟨h1, h2, h3⟩ := cnRd_back h
    refine ⟨h1, h2, fun x => ?_⟩
    rw [cntB_zero x, if_neg (by omega)]
    exact h3.trans (cn_ls (cnGood_of x h2) _).symm
  · rw [if_neg (by decide)] at h ⊢
    obtain ⟨h1, h2, h3⟩ := caRd_back h
    refine ⟨h1, h2, fun x => ?_⟩
    rw [cntB_zero x, if_pos h2]
    exact h3
theorem cntR_is {v k : Int} {s : ByteArray} (hv : hdKnown v = true) (hk : cntOurs k = true) : cntR v k s = cnDone v s (rdK v k s) := by
  unfold cntR
  rw [if_neg (fun x => x.elim (fun y => by rw [hv] at y; cases y) (fun y => by rw [hk] at y; cases y))]
  rfl
theorem cntR_ways {v k : Int} {s : ByteArray} : ((cntR v k s).2 ≠ 0 ∧ (cntR v k s).1 = pk0) ∨ (hdKnown v = true ∧ cntOurs k = true ∧ (rdK v k s).2.2 = 0 ∧ s.size - (rdK v k s).2.1 = 0 ∧ cntE v (rdK v k s).1 = 0 ∧ cntR v k s = ((rdK v k s).1, 0)) := by
  cases hv : hdKnown v
  · left; unfold cntR; rw [if_pos (.inl hv)]; exact ⟨by decide, rfl⟩
  cases hk : cntOurs k
  · left; unfold cntR; rw [if_pos (.inr hk)]; exact ⟨by decide, rfl⟩
  rw [cntR_is hv hk]
  unfold cnDone
  by_cases h1 : cnEnd s (rdK v k s) = 0
  · rw [if_neg (fun x => x h1)]
    by_cases h2 : cntE v (rdK v k s).1 = 0
    · rw [if_neg (fun x => x h2)]
      right
      unfold cnEnd at h1
      split at h1
      · next hz => exact ⟨rfl, rfl, h1, hz, h2, rfl⟩
      · exact (failE_zero h1 (by decide)).elim
    · rw [if_pos h2]; exact .inl ⟨h2, rfl⟩
  · rw [if_pos h1]; exact .inl ⟨h1, rfl⟩
theorem cntR_front {v : Int} {p : Pk} (x : cntE v p = 0) (hn : ∀ q ∈ p.props, q.n < 4294967296) (hw : ∀ q ∈ p.will.props, q.n < 4294967296) : cntR v p.kind (cntB v p).1 = (p, 0) := by
  obtain ⟨a, e, hle, hd⟩ := rdK_front x hn hw (t := (cntB v p).1) (R := []) (List.append_nil _).symm
  obtain ⟨g1, g2, -, -⟩ := cntE_rng x
  rw [cntR_is g1 g2, e]
  have hz : (cntB v p).1.size - a = 0 := by
    have := congrArg List.length hd
    rw [List.length_drop, ls_len] at this
    exact this
  unfold cnDone cnEnd
  simp only
  rw [if_pos hz, if_neg (fun y => y rfl), if_neg (fun y => y x)]
theorem cntR_back {v k : Int} {s : ByteArray} {q : Pk} (h : cntR v k s = (q, 0)) : cntE v q = 0 ∧ cntB v q = (s, 0) ∧ q.kind = k := by
  rcases cntR_ways (v := v) (k := k) (s := s) with ⟨h1, -⟩ | ⟨-, h2, h3, h4, h5, h6⟩
  · rw [h] at h1; exact absurd rfl h1
  · have hq : q = (rdK v k s).1 := congrArg Prod.fst (h.symm.trans h6)
    obtain ⟨m1, m2, m3⟩ := rdK_back (of_decide_eq_true (show decide (k = 1 ∨ k = 2) = true from h2)) h3
    rw [hq]
    refine ⟨h5, ?_, m2⟩
    have hz := cntB_zero h5
    rw [hz]
    have := m3 h5
    rw [List.drop_eq_nil_of_le (by rw [ls_len]; omega), List.append_nil, hz] at this
    exact Prod.ext (ls_ext this).symm rfl
theorem cntR_none {v k : Int} {s : ByteArray} (h : (cntR v k s).2 ≠ 0) : (cntR v k s).1 = pk0 := by
  rcases cntR_ways (v := v) (k := k) (s := s) with ⟨-, h1⟩ | ⟨-, -, -, -, -, h6⟩
  · exact h1
  · rw [h6] at h; exact absurd rfl h
theorem cntR_ok {v k : Int} {s : ByteArray} (hs : s.size ≤ 140737488351232) : PkOk (cntR v k s).1 := by
  rcases cntR_ways (v := v) (k := k) (s := s) with ⟨-, h1⟩ | ⟨-, -, -, -, -, h6⟩
  · rw [h1]; exact PkOk.zero 0 0 0
  · rw [h6]
    unfold rdK
    split
    · exact (cnRd_ok hs).ok
    · exact (caRd_ok hs).ok
/-- A body truncated is not valid. -/
theorem cntR_cut {v : Int} {p : Pk} (x : cntE v p = 0) (hn : ∀ q ∈ p.props, q.n < 4294967296) (hw : ∀ q ∈ p.will.props, q.n < 4294967296) {t : ByteArray} {R : List UInt8} (ht : ls (cntB v p).1 = ls t ++ R) (hR : R ≠ []) (hs : t.size ≤ 140737488351232) : (cntR v p.kind t).2 ≠ 0 := by
  intro h0
  have h1 : cntR v p.kind t = ((cntR v p.kind t).1, 0) := Prod.ext rfl h0
  obtain ⟨b1, b2, b3⟩ := cntR_back h1
  have ok := cntR_ok (v := v) (k := p.kind) hs
  obtain ⟨a, e, hle, hd⟩ := rdK_front b1 (fun q hq => (ok.props q hq).1) (fun q hq => (ok.wp q hq).1) (t := (cntB v p).1) (R := R) (by rw [b2]; exact ht)
  obtain ⟨a', e', hle', hd'⟩ := rdK_front x hn hw (t := (cntB v p).1) (R := []) (List.append_nil _).symm
  rw [b3, e'] at e
  have : a' = a := congrArg (fun z => z.2.1) e
  rw [this, hd] at hd'
  exact hR hd'
end Go.Proofs.YtngnaenbnmajdaaGreat
