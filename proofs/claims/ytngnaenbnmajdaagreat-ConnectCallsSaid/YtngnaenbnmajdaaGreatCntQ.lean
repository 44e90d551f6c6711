/- connect, plain: a body is read back, whatever follows; what is read is written as the same. -/
import Derived.Test.YtngnaenbnmajdaaGreatCntL
namespace Go.Proofs.YtngnaenbnmajdaaGreat
open Go.RowKit

theorem fl_all : ∀ q : Fin 3, ∀ a b c d e : Bool,
    decide ((bitN e 128 + bitN d 64 + bitN c 32 + (q.1 : Int) % 4 * 8 + bitN b 4 + bitN a 2).toNat / 2 % 2 = 1) = a ∧ decide ((bitN e 128 + bitN d 64 + bitN c 32 + (q.1 : Int) % 4 * 8 + bitN b 4 + bitN a 2).toNat / 4 % 2 = 1) = b ∧
    decide ((bitN e 128 + bitN d 64 + bitN c 32 + (q.1 : Int) % 4 * 8 + bitN b 4 + bitN a 2).toNat / 32 % 2 = 1) = c ∧ decide ((bitN e 128 + bitN d 64 + bitN c 32 + (q.1 : Int) % 4 * 8 + bitN b 4 + bitN a 2).toNat / 64 % 2 = 1) = d ∧
    decide ((bitN e 128 + bitN d 64 + bitN c 32 + (q.1 : Int) % 4 * 8 + bitN b 4 + bitN a 2).toNat / 128 % 2 = 1) = e ∧ (bitN e 128 + bitN d 64 + bitN c 32 + (q.1 : Int) % 4 * 8 + bitN b 4 + bitN a 2).toNat / 8 % 4 = q.1 ∧
    (bitN e 128 + bitN d 64 + bitN c 32 + (q.1 : Int) % 4 * 8 + bitN b 4 + bitN a 2).toNat % 2 = 0 ∧ (bitN e 128 + bitN d 64 + bitN c 32 + (q.1 : Int) % 4 * 8 + bitN b 4 + bitN a 2).toNat < 256 ∧
    (c = false → q.1 = 0 → (bitN e 128 + bitN d 64 + bitN c 32 + (q.1 : Int) % 4 * 8 + bitN b 4 + bitN a 2).toNat / 8 % 8 = 0) := by decide +kernel
theorem fl_back : ∀ f : Fin 256, f.1 % 2 = 0 → bitN (decide (f.1 / 128 % 2 = 1)) 128 + bitN (decide (f.1 / 64 % 2 = 1)) 64 + bitN (decide (f.1 / 32 % 2 = 1)) 32 + ((f.1 / 8 % 4 : Nat) : Int) % 4 * 8 + bitN (decide (f.1 / 4 % 2 = 1)) 4 + bitN (decide (f.1 / 2 % 2 = 1)) 2 = (f.1 : Int) := by decide +kernel

/-! ### A CONNECT that may be -/
theorem cnGood_of {v : Int} {p : Pk} (x : cntE v p = 0) (h1 : p.kind = 1) : CnGood v p := by
  obtain ⟨g1, -, g3, g4⟩ := cntE_rng x
  obtain ⟨-, ⟨c1, c2⟩, c3, ⟨c4, c5⟩, c6, c7⟩ := cntE_parts x
  have hv : v = 4 ∨ v = 5 := of_decide_eq_true (show decide (v = 4 ∨ v = 5) = true from g1)
  unfold cntRng at g4
  split at g4
  · cases g4
  · next hp =>
    rw [if_neg (by omega)] at g4
    split at g4
    · cases g4
    · next hq =>
      have hr := of_decide_eq_true g4
      refine ⟨hv, h1, g3, fun h4 => ?_, ⟨hr.1, hr.2.1⟩, ⟨hr.2.2.1, hr.2.2.2⟩, fun h4 hpw => ?_, c1, c2, fun hw => nameB_valid (c3 hw), c4, c5, by rw [← h1]; exact c6, c7⟩
      · have : ¬ 0 < p.props.length + p.will.props.length := fun y => hp ⟨h4, y⟩
        exact ⟨List.eq_nil_of_length_eq_zero (by omega), List.eq_nil_of_length_eq_zero (by omega)⟩
      · cases hu : p.hasUser
        · exact absurd ⟨h4, .inr ⟨hpw, hu⟩⟩ hq
        · rfl
structure FlGood (v : Int) (p : Pk) (f : Nat) : Prop where
  clean : decide (f / 2 % 2 = 1) = p.clean
  will : decide (f / 4 % 2 = 1) = p.hasWill
  retain : decide (f / 32 % 2 = 1) = p.will.retain
  pass : decide (f / 64 % 2 = 1) = p.hasPass
  user : decide (f / 128 % 2 = 1) = p.hasUser
  qos : ((f / 8 % 4 : Nat) : Int) = p.will.qos
  lt : f < 256
  ok : flOk v f = true
theorem CnGood.nowill {v : Int} {p : Pk} (g : CnGood v p) (h : p.hasWill = false) : p.will = wl0 := by
  have e := g.same
  rw [cntQ_one (by rw [g.kind]; decide) h rfl rfl] at e
  exact congrArg Pk.will e
theorem CnGood.nouser {v : Int} {p : Pk} (g : CnGood v p) (h : p.hasUser = false) : p.user = ⟨#[]⟩ := by
  have e := g.same
  rw [cntQ_one (by rw [g.kind]; decide) rfl h rfl] at e
  exact congrArg Pk.user e
theorem CnGood.nopass {v : Int} {p : Pk} (g : CnGood v p) (h : p.hasPass = false) : p.pass = ⟨#[]⟩ := by
  have e := g.same
  rw [cntQ_one (by rw [g.kind]; decide) rfl rfl h] at e
  exact congrArg Pk.pass e
theorem flGood_of {v : Int} {p : Pk} (g : CnGood v p) : FlGood v p (flN p).toNat := by
  obtain ⟨m, hm⟩ : ∃ m : Fin 3, p.will.qos = (m.1 : Int) := ⟨⟨p.will.qos.toNat, by have := g.qos; omega⟩, by have := g.qos; simp only; omega⟩
  obtain ⟨h1, h2, h3, h4, h5, h6, h7, h8, h9⟩ := fl_all m p.clean p.hasWill p.will.retain p.hasPass p.hasUser
  have hf : flN p = bitN p.hasUser 128 + bitN p.hasPass 64 + bitN p.will.retain 32 + (m.1 : Int) % 4 * 8 + bitN p.hasWill 4 + bitN p.clean 2 := by unfold flN; rw [hm]
  rw [← hf] at h1 h2 h3 h4 h5 h6 h7 h8 h9
  refine ⟨h1, h2, h3, h4, h5, by rw [h6, hm], h8, ?_⟩
  unfold flOk
  rw [h2, h4, h5, decide_eq_false (show ¬ (flN p).toNat % 2 = 1 by omega), decide_eq_false (show ¬ (flN p).toNat / 8 % 4 = 3 by have := m.2; omega)]
  have hw : (!p.hasWill && decide ((flN p).toNat / 8 % 8 ≠ 0)) = false := by
    cases hh : p.hasWill
    · have hz := g.nowill hh
      rw [decide_eq_false (fun y => y (h9 (by rw [hz]; rfl) (by have : p.will.qos = 0 := by rw [hz]; rfl
                                                                omega)))]
      rfl
    · rfl
  rw [hw]
  rcases g.ver with h | h
  · cases hp : p.hasPass
    · simp
    · rw [g.pair h hp]; simp
  · rw [decide_eq_true h]; simp
theorem name_len : (ls cntName).length = 6 := rfl
/-- The head of what was written is read. -/
theorem cn1_front {v : Int} {p : Pk} (g : CnGood v p) (hn : ∀ q ∈ p.props, q.n < 4294967296) {t : ByteArray} {R : List UInt8} (ht : ls t = f1 v p R) :
    ∃ a, cn1 v t = (cnPk (flN p).toNat p.alive.toNat p.client p.props, a, 0) ∧ a ≤ t.size ∧ (ls t).drop a = R := by
  have fg := flGood_of g
  unfold f1 at ht
  have hl := congrArg List.length ht
  rw [ls_len] at hl
  simp only [List.length_append, putL_len, name_len] at hl
  have d6 := congrArg (List.drop 6) ht
  rw [drop_two name_len] at d6
  have d7 := congrArg (List.drop 1) d6
  rw [List.drop_drop, drop_two (putL_len _ _)] at d7
  replace d7 : (ls t).drop 7 = _ := d7
  have d8 := congrArg (List.drop 1) d7
  rw [List.drop_drop, drop_two (putL_len _ _)] at d8
  replace d8 : (ls t).drop 8 = _ := d8
  have d10 := congrArg (List.drop 2) d8
  rw [List.drop_drop, drop_two (putL_len _ _)] at d10
  replace d10 : (ls t).drop 10 = _ := d10
  have hv : v.toNat < 256 ∧ ((v.toNat : Nat) : Int) = v := by have := g.ver; omega
  have hN : stN t = (6, 0) := by
    unfold stN
    have h6 : takeS t 0 0 6 = (t.extract 0 (0 + 6), 0 + 6, 0) := take_yes (k := 6) (by omega)
    have hx : t.extract 0 (0 + 6) = cntName := ls_ext (by
      rw [extract_ls, List.drop_zero, ht]
      exact List.take_left' name_len)
    rw [h6, hx]
    show ((0 + 6 : Nat), if cntName = cntName then (0 : Int) else failE 0 5) = _
    rw [if_pos rfl]
  have hV : cnV v t = (7, 0) := by
    unfold cnV stV
    rw [hN]
    simp only
    have h1 : takeS t 6 0 1 = (t.extract 6 (6 + 1), 6 + 1, 0) := take_yes (k := 1) (by omega)
    have h2 : numS t 6 0 1 = v.toNat := by rw [show ((1 : Int)) = ((1 : Nat) : Int) from rfl, num_front (k := 1) d6 (putL_len _ _) (by omega), get_put1 _ hv.1]
    rw [h1, h2, if_pos hv.2]
  have hF : cnF v t = ((flN p).toNat, 8, 0) := by
    unfold cnF stG
    rw [hV]
    simp only
    have h1 : takeS t 7 0 1 = (t.extract 7 (7 + 1), 7 + 1, 0) := take_yes (k := 1) (by omega)
    have h2 : numS t 7 0 1 = (flN p).toNat := by rw [show ((1 : Int)) = ((1 : Nat) : Int) from rfl, num_front (k := 1) d7 (putL_len _ _) (by omega), get_put1 _ fg.lt]
    rw [h1, h2, if_pos fg.ok]
  have hK : cnK v t = (p.alive.toNat, 10, 0) := by
    unfold cnK stK
    rw [hF]
    simp only
    have h1 : takeS t 8 0 2 = (t.extract 8 (8 + 2), 8 + 2, 0) := take_yes (k := 2) (by omega)
    have h2 : numS t 8 0 2 = p.alive.toNat := by rw [show ((2 : Int)) = ((2 : Nat) : Int) from rfl, num_front (k := 2) d8 (putL_len _ _) (by omega), get_put2 _ (by have := g.alive; omega)]
    rw [h1, h2]
  obtain ⟨hP, hPle, dP⟩ := pr_front (v := v) (k := 1) (a := 10) (by omega) (fun h => (g.old h).1) g.props hn d10
  have hP' : cnP v t = (p.props, 10 + (tailL8 v 1 p.props).length, 0) := by unfold cnP; rw [hK]; exact hP
  obtain ⟨hT, hTle, dT⟩ := txt_front hPle g.client dP
  have hT' : cnT v t = (p.client, 10 + (tailL8 v 1 p.props).length + 2 + p.client.size, 0) := by unfold cnT; rw [hP']; exact hT
  refine ⟨_, ?_, hTle, dT⟩
  unfold cn1
  rw [hF, hK, hP', hT']
theorem cn2_front {v : Int} {p : Pk} (g : CnGood v p) (hn : ∀ q ∈ p.will.props, q.n < 4294967296) {t : ByteArray} {R : List UInt8} {a : Nat} (ha : a ≤ t.size) {P : Pk} (h1 : P.hasWill = p.hasWill) (h2 : P.will = { wl0 with qos := p.will.qos, retain := p.will.retain })
    (ht : (ls t).drop a = fW v p R) : ∃ a', cn2 v t (P, a, 0) = ({ P with will := p.will }, a', 0) ∧ a' ≤ t.size ∧ (ls t).drop a' = R := by
  unfold cn2 fW at *
  simp only
  cases hw : p.hasWill
  · rw [if_neg (by rw [h1, hw]; decide)]
    rw [hw, if_neg (by decide)] at ht
    refine ⟨a, ?_, ha, ht⟩
    have := g.nowill hw
    rw [this] at h2 ⊢
    rw [← show P.will = wl0 from h2]
  · rw [if_pos (by rw [h1, hw])]
    rw [hw, if_pos rfl] at ht
    obtain ⟨e1, l1, d1⟩ := pr_front ha (fun h => (g.old h).2) g.wprops hn ht
    obtain ⟨e2, l2, d2⟩ := txt_front l1 (g.topic hw) d1
    obtain ⟨e3, l3, d3⟩ := bin_front l2 g.payload d2
    refine ⟨_, ?_, l3, d3⟩
    have w1 : cnWP v t a 0 = (p.will.props, a + (tailL8 v 16 p.will.props).length, 0) := e1
    have w2 : cnWT v t a 0 = (p.will.topic, a + (tailL8 v 16 p.will.props).length + 2 + p.will.topic.size, 0) := by unfold cnWT; rw [w1]; exact e2
    have w3 : cnWB v t a 0 = (p.will.payload, a + (tailL8 v 16 p.will.props).length + 2 + p.will.topic.size + 2 + p.will.payload.size, 0) := by unfold cnWB; rw [w2]; exact e3
    rw [w1, w2, w3, h2]
theorem cn3_front {v : Int} {p : Pk} (g : CnGood v p) {t : ByteArray} {R : List UInt8} {a : Nat} (ha : a ≤ t.size) {P : Pk} (h1 : P.hasUser = p.hasUser) (h2 : P.user = ⟨#[]⟩) (ht : (ls t).drop a = fU p R) :
    ∃ a', cn3 t (P, a, 0) = ({ P with user := p.user }, a', 0) ∧ a' ≤ t.size ∧ (ls t).drop a' = R := by
  unfold cn3 fU at *
  simp only
  cases hw : p.hasUser
  · rw [if_neg (by rw [h1, hw]; decide)]
    rw [hw, if_neg (by decide)] at ht
    refine ⟨a, ?_, ha, ht⟩
    rw [g.nouser hw, ← h2]
  · rw [if_pos (by rw [h1, hw])]
    rw [hw, if_pos rfl] at ht
    obtain ⟨e2, l2, d2⟩ := txt_front ha g.user ht
    refine ⟨_, ?_, l2, d2⟩
    rw [e2]
theorem cn4_front {v : Int} {p : Pk} (g : CnGood v p) {t : ByteArray} {R : List UInt8} {a : Nat} (ha : a ≤ t.size) {P : Pk} (h1 : P.hasPass = p.hasPass) (h2 : P.pass = ⟨#[]⟩) (ht : (ls t).drop a = fS p R) :
    ∃ a', cn4 t (P, a, 0) = ({ P with pass := p.pass }, a', 0) ∧ a' ≤ t.size ∧ (ls t).drop a' = R := by
  unfold cn4 fS at *
  simp only
  cases hw : p.hasPass
  · rw [if_neg (by rw [h1, hw]; decide)]
    rw [hw, if_neg (by decide)] at ht
    refine ⟨a, ?_, ha, ht⟩
    rw [g.nopass hw, ← h2]
  · rw [if_pos (by rw [h1, hw])]
    rw [hw, if_pos rfl] at ht
    obtain ⟨e2, l2, d2⟩ := bin_front ha g.pass ht
    refine ⟨_, ?_, l2, d2⟩
    rw [e2]
theorem cnRd_front {v : Int} {p : Pk} (g : CnGood v p) (hn : ∀ q ∈ p.props, q.n < 4294967296) (hw : ∀ q ∈ p.will.props, q.n < 4294967296) {t : ByteArray} {R : List UInt8} (ht : ls t = f1 v p (fW v p (fU p (fS p R)))) :
    ∃ a, cnRd v t = (p, a, 0) ∧ a ≤ t.size ∧ (ls t).drop a = R := by
  have fg := flGood_of g
  obtain ⟨a1, e1, l1, d1⟩ := cn1_front g hn ht
  obtain ⟨a2, e2, l2, d2⟩ := cn2_front g hw l1 (P := cnPk (flN p).toNat p.alive.toNat p.client p.props) fg.will (by
    show ({ wl0 with qos := (((flN p).toNat / 8 % 4 : Nat) : Int), retain := decide ((flN p).toNat / 32 % 2 = 1) } : Wl) = _
    rw [fg.qos, fg.retain]) d1
  obtain ⟨a3, e3, l3, d3⟩ := cn3_front g l2 (P := { cnPk (flN p).toNat p.alive.toNat p.client p.props with will := p.will }) fg.user rfl d2
  obtain ⟨a4, e4, l4, d4⟩ := cn4_front g l3 (P := { cnPk (flN p).toNat p.alive.toNat p.client p.props with will := p.will, user := p.user }) fg.pass rfl d3
  refine ⟨a4, ?_, l4, d4⟩
  unfold cnRd
  rw [e1, e2, e3, e4]
  have e := g.same
  rw [cntQ_one (by rw [g.kind]; decide) rfl rfl rfl] at e
  obtain ⟨-, q2, q3, q4, q5, q6, q7, -, -, -, -, -, -, -, -, -, q17, q18, q19, q20, -⟩ := (pk_eq_iff _ _).1 e
  congr 1
  rw [pk_eq_iff]
  refine ⟨g.kind.symm, q2.symm, q3.symm, q4.symm, q5.symm, q6.symm, q7.symm, fg.clean, ?_, rfl, fg.user, rfl, fg.pass, rfl, fg.will, rfl, q17.symm, q18.symm, q19.symm, q20.symm, rfl⟩
  show ((p.alive.toNat : Nat) : Int) = p.alive
  have := g.alive
  omega

/-! ### What was read, written again -/
theorem cn4_back {t : ByteArray} {r : Pk × Nat × Int} (hr : r.2.1 ≤ t.size) (h : (cn4 t r).2.2 = 0) : r.2.2 = 0 ∧ (cn4 t r).2.1 ≤ t.size ∧ (∃ x, (cn4 t r).1 = { r.1 with pass := x }) ∧ (ls t).drop r.2.1 = fS (cn4 t r).1 ((ls t).drop (cn4 t r).2.1) := by
  unfold cn4 at h ⊢
  cases hw : r.1.hasPass
  · rw [hw, if_neg (by decide)] at h
    rw [if_neg (by decide)]
    refine ⟨h, hr, ⟨r.1.pass, rfl⟩, ?_⟩
    unfold fS
    rw [hw, if_neg (by decide)]
  · rw [hw, if_pos rfl] at h
    rw [if_pos rfl]
    obtain ⟨h1, h2, -, h4⟩ := bin_ok h
    refine ⟨h1, h2, ⟨_, rfl⟩, ?_⟩
    unfold fS
    simp only
    rw [hw, if_pos rfl]
    exact h4
theorem cn3_back {t : ByteArray} {r : Pk × Nat × Int} (hr : r.2.1 ≤ t.size) (h : (cn3 t r).2.2 = 0) : r.2.2 = 0 ∧ (cn3 t r).2.1 ≤ t.size ∧ (∃ x, (cn3 t r).1 = { r.1 with user := x }) ∧ (ls t).drop r.2.1 = fU (cn3 t r).1 ((ls t).drop (cn3 t r).2.1) := by
  unfold cn3 at h ⊢
  cases hw : r.1.hasUser
  · rw [hw, if_neg (by decide)] at h
    rw [if_neg (by decide)]
    refine ⟨h, hr, ⟨r.1.user, rfl⟩, ?_⟩
    unfold fU
    rw [hw, if_neg (by decide)]
  · rw [hw, if_pos rfl] at h
    rw [if_pos rfl]
    obtain ⟨h1, h2, -, -, h4⟩ := txt_ok h
    refine ⟨h1, h2, ⟨_, rfl⟩, ?_⟩
    unfold fU
    simp only
    rw [hw, if_pos rfl]
    exact h4
theorem cn2_back {v : Int} {t : ByteArray} {r : Pk × Nat × Int} (hr : r.2.1 ≤ t.size) (h : (cn2 v t r).2.2 = 0) :
    r.2.2 = 0 ∧ (cn2 v t r).2.1 ≤ t.size ∧ (∃ x y z, (cn2 v t r).1 = { r.1 with will := { r.1.will with props := x, topic := y, payload := z } }) ∧ (ls t).drop r.2.1 = fW v (cn2 v t r).1 ((ls t).drop (cn2 v t r).2.1) := by
  unfold cn2 at h ⊢
  cases hw : r.1.hasWill
  · rw [hw, if_neg (by decide)] at h
    rw [if_neg (by decide)]
    refine ⟨h, hr, ⟨r.1.will.props, r.1.will.topic, r.1.will.payload, rfl⟩, ?_⟩
    unfold fW
    rw [hw, if_neg (by decide)]
  · rw [hw, if_pos rfl] at h
    rw [if_pos rfl]
    obtain ⟨b1, b2, -, b4⟩ := bin_ok (t := t) (a := (cnWT v t r.2.1 r.2.2).2.1) (e := (cnWT v t r.2.1 r.2.2).2.2) h
    obtain ⟨c1, -, -, -, c4⟩ := txt_ok (t := t) (a := (cnWP v t r.2.1 r.2.2).2.1) (e := (cnWP v t r.2.1 r.2.2).2.2) b1
    obtain ⟨d1, -, -, -, d4⟩ := pr_ok (v := v) (k := 16) hr c1
    refine ⟨d1, b2, ⟨_, _, _, rfl⟩, ?_⟩
    unfold fW
    simp only
    rw [hw, if_pos rfl]
    refine d4.trans ?_
    congr 1
    refine c4.trans ?_
    show putL (cnWT v t r.2.1 r.2.2).1.size 2 ++ (ls (cnWT v t r.2.1 r.2.2).1 ++ (ls t).drop (cnWT v t r.2.1 r.2.2).2.1) = _
    rw [b4]
    rfl
theorem cn1_back {v : Int} {t : ByteArray} (h : (cn1 v t).2.2 = 0) : (cn1 v t).2.1 ≤ t.size ∧ (∃ f k l c, f < 256 ∧ k < 65536 ∧ flOk v f = true ∧ (cn1 v t).1 = cnPk f k c l) ∧ ls t = f1 v (cn1 v t).1 ((ls t).drop (cn1 v t).2.1) := by
  have l0 : (stN t).1 ≤ t.size := takeS_le (Nat.zero_le _) _ _
  have l1 : (cnV v t).1 ≤ t.size := takeS_le l0 _ _
  have l2 : (cnF v t).2.1 ≤ t.size := takeS_le l1 _ _
  have l3 : (cnK v t).2.1 ≤ t.size := takeS_le l2 _ _
  obtain ⟨t1, t2, -, -, t5⟩ := txt_ok (t := t) (a := (cnP v t).2.1) (e := (cnP v t).2.2) h
  obtain ⟨p1, -, -, -, p5⟩ := pr_ok (v := v) (k := 1) l3 t1
  -- the time
  obtain ⟨k1, k2, k3⟩ := take_ok (t := t) (a := (cnF v t).2.1) (e := (cnF v t).2.2) (k := 2) p1
  -- the flags
  have hF : (cnF v t).2.2 = 0 := k1
  unfold cnF stG at hF
  simp only at hF
  by_cases hfl : flOk v (numS t (cnV v t).1 (cnV v t).2 1) = true
  rotate_left
  · rw [if_neg hfl] at hF; exact (failE_zero hF (by decide)).elim
  rw [if_pos hfl] at hF
  obtain ⟨f1', f2', f3'⟩ := take_ok (k := 1) hF
  -- the version
  have hV : (cnV v t).2 = 0 := f1'
  unfold cnV stV at hV
  simp only at hV
  by_cases hvv : ((numS t (stN t).1 (stN t).2 1 : Nat) : Int) = v
  rotate_left
  · rw [if_neg hvv] at hV; exact (failE_zero hV (by decide)).elim
  rw [if_pos hvv] at hV
  obtain ⟨v1, v2, v3⟩ := take_ok (k := 1) hV
  -- the name
  have hN : (stN t).2 = 0 := v1
  unfold stN at hN
  simp only at hN
  by_cases hnn : (takeS t 0 0 6).1 = cntName
  rotate_left
  · rw [if_neg hnn] at hN; exact (failE_zero hN (by decide)).elim
  rw [if_pos hnn] at hN
  obtain ⟨-, n2, n3⟩ := take_ok (k := 6) hN
  have e0 : stN t = (6, 0) := by
    have h6 : takeS t 0 0 6 = (t.extract 0 (0 + 6), 0 + 6, 0) := n3
    unfold stN
    rw [if_pos hnn, h6]
  have e1 : cnV v t = (7, 0) := by
    rw [e0] at hvv v2 v3
    have h7 : takeS t 6 0 1 = (t.extract 6 (6 + 1), 6 + 1, 0) := v3
    unfold cnV stV
    rw [e0]
    simp only at hvv ⊢
    rw [if_pos hvv, h7]
  have e2 : cnF v t = (numS t 7 0 1, 8, 0) := by
    rw [e1] at hfl f2' f3'
    have h8 : takeS t 7 0 1 = (t.extract 7 (7 + 1), 7 + 1, 0) := f3'
    unfold cnF stG
    rw [e1]
    simp only at hfl ⊢
    rw [if_pos hfl, h8]
  have e3 : cnK v t = (numS t 8 0 2, 10, 0) := by
    rw [e2] at k2 k3
    have h8 : takeS t 8 0 2 = (t.extract 8 (8 + 2), 8 + 2, 0) := k3
    unfold cnK stK
    rw [e2]
    simp only
    rw [h8]
  rw [e2] at k2
  rw [e1] at hfl f2'
  rw [e0] at hvv v2
  simp only at k2 hfl f2' hvv v2
  have hfn : numS t 7 0 1 < 256 := num_one_lt _ _ _
  have hkn : numS t 8 0 2 < 65536 := num_two_lt _ _ _ (by omega)
  have hP : (cn1 v t).1 = cnPk (numS t 7 0 1) (numS t 8 0 2) (cnT v t).1 (cnP v t).1 := by unfold cn1; rw [e2, e3]
  refine ⟨t2, ⟨_, _, _, _, hfn, hkn, hfl, hP⟩, ?_⟩
  have hflN : flN (cn1 v t).1 = ((numS t 7 0 1 : Nat) : Int) := by
    rw [hP]
    refine fl_back ⟨_, hfn⟩ ?_
    have hodd : decide (numS t 7 0 1 % 2 = 1) = false := by
      cases hd : decide (numS t 7 0 1 % 2 = 1)
      · rfl
      · unfold flOk at hfl; rw [hd] at hfl; simp at hfl
    have := of_decide_eq_false hodd
    show numS t 7 0 1 % 2 = 0
    omega
  have d6 : ls t = ls cntName ++ (ls t).drop 6 := by
    have h6 : takeS t 0 0 6 = (t.extract 0 (0 + 6), 0 + 6, 0) := n3
    rw [h6] at hnn
    have := take_ls (t := t) (a := 0) (k := 6) n2
    rw [show t.extract 0 (0 + 6) = cntName from hnn] at this
    exact this
  have d7 := num_back (t := t) (a := 6) v2
  have d8 := num_back (t := t) (a := 7) f2'
  have d10 := num_back2 (t := t) (a := 8) k2
  have dP : (ls t).drop 10 = tailL8 v 1 (cnP v t).1 ++ (ls t).drop (cnP v t).2.1 := by
    have := p5
    rw [e3] at this
    exact this.trans (by show _ = tailL8 v 1 (prpC v 1 t (cnK v t).2.1 (cnK v t).2.2).1 ++ (ls t).drop (prpC v 1 t (cnK v t).2.1 (cnK v t).2.2).2.1; rw [e3])
  unfold f1
  rw [hflN, hP]
  show ls t = ls cntName ++ (putL v.toNat 1 ++ (putL ((numS t 7 0 1 : Nat) : Int).toNat 1 ++ (putL ((numS t 8 0 2 : Nat) : Int).toNat 2 ++ (tailL8 v 1 (cnP v t).1 ++ (putL (cnT v t).1.size 2 ++ (ls (cnT v t).1 ++ (ls t).drop (cnT v t).2.1))))))
  rw [Int.toNat_natCast, Int.toNat_natCast, ← show numS t 6 0 1 = v.toNat from by have : ((numS t 6 0 1 : Nat) : Int) = v := hvv; omega]
  have t5' : (ls t).drop (cnP v t).2.1 = putL (cnT v t).1.size 2 ++ (ls (cnT v t).1 ++ (ls t).drop (cnT v t).2.1) := t5
  rw [← t5', ← dP, ← d10, ← d8, ← d7]
  exact d6
theorem cnRd_back {v : Int} {t : ByteArray} (h : (cnRd v t).2.2 = 0) : (cnRd v t).2.1 ≤ t.size ∧ (cnRd v t).1.kind = 1 ∧ ls t = f1 v (cnRd v t).1 (fW v (cnRd v t).1 (fU (cnRd v t).1 (fS (cnRd v t).1 ((ls t).drop (cnRd v t).2.1)))) := by
  have o1 : (cn1 v t).2.1 ≤ t.size → (cn2 v t (cn1 v t)).2.2 = 0 → (cn2 v t (cn1 v t)).2.1 ≤ t.size := fun a b => (cn2_back a b).2.1
  have h4 : (cn4 t (cn3 t (cn2 v t (cn1 v t)))).2.2 = 0 := h
  have l1 : (cn1 v t).2.1 ≤ t.size := by
    have l0 : (stN t).1 ≤ t.size := takeS_le (Nat.zero_le _) _ _
    have l1 : (cnV v t).1 ≤ t.size := takeS_le l0 _ _
    have l2 : (cnF v t).2.1 ≤ t.size := takeS_le l1 _ _
    have l3 : (cnK v t).2.1 ≤ t.size := takeS_le l2 _ _
    exact (txt_lt t _ _ (prp_le l3)).2
  have l2 : (cn2 v t (cn1 v t)).2.1 ≤ t.size := by
    unfold cn2
    split
    · exact binC_le _ _ _ (txt_lt t _ _ (prp_le l1)).2
    · exact l1
  have l3 : (cn3 t (cn2 v t (cn1 v t))).2.1 ≤ t.size := by
    unfold cn3
    split
    · exact (txt_lt t _ _ l2).2
    · exact l2
  obtain ⟨z3, m4, ⟨x4, q4⟩, d4⟩ := cn4_back l3 h4
  obtain ⟨z2, m3, ⟨x3, q3⟩, d3⟩ := cn3_back l2 z3
  obtain ⟨z1, m2, ⟨x2, y2, w2, q2⟩, d2⟩ := cn2_back l1 z2
  obtain ⟨m1, ⟨f, k, l, c, hf, hk, hfl, q1⟩, d1⟩ := cn1_back z1
  have hq : (cnRd v t).1 = { (cn1 v t).1 with will := { (cn1 v t).1.will with props := x2, topic := y2, payload := w2 }, user := x3, pass := x4 } := by
    show (cn4 t (cn3 t (cn2 v t (cn1 v t)))).1 = _
    rw [q4, q3, q2]
  refine ⟨m4, ?_, ?_⟩
  · rw [hq, q1]; rfl
  have e4 : fS (cn4 t (cn3 t (cn2 v t (cn1 v t)))).1 = fS (cnRd v t).1 := rfl
  have e3 : ∀ R, fU (cn3 t (cn2 v t (cn1 v t))).1 R = fU (cnRd v t).1 R := fun R => by
    rw [hq, q3, q2]; rfl
  have e2 : ∀ R, fW v (cn2 v t (cn1 v t)).1 R = fW v (cnRd v t).1 R := fun R => by
    rw [hq, q2]; rfl
  have e1 : ∀ R, f1 v (cn1 v t).1 R = f1 v (cnRd v t).1 R := fun R => by
    rw [hq]; rfl
  refine d1.trans ?_
  rw [e1, d2, e2, d3, e3, d4]
  rfl
end Go.Proofs.YtngnaenbnmajdaaGreat
