/-
  Reference 08: what it reads, against what the program reads.
  Reference 08: what stands while a CONNECT is read; the walk of connect.
  Reference 08: the walk of connect.
  Reference 08: Read.
  Reference 08: the walk of Read.
-/
import Derived.Test.YtngnaenbnmajdaaGreatMCnr
import Derived.Deep.DeepCutAuto
import Derived.Test.YtngnaenbnmajdaaGreatRfX

namespace Go.Proofs.YtngnaenbnmajdaaGreat
open Go.RowKit
theorem bin_bad {t : ByteArray} {a : Nat} {e : Int} (he : e ≠ 0) : binC t a e = (⟨#[]⟩, a, e) := by
  unfold binC
  rw [takeS_bad he]
  exact takeS_bad he
theorem txt_bad {t : ByteArray} {a : Nat} {e : Int} (he : e ≠ 0) : (txtC t a e).2.2 = e := by
  unfold txtC
  rw [bin_bad he]
  simp only
  split
  · rfl
  · exact if_neg he
theorem prp_bad {v k : Int} {t : ByteArray} {a : Nat} {e : Int} (he : e ≠ 0) : (prpC v k t a e).2.2 = e := by
  unfold prpC
  rw [if_pos (.inr he)]
theorem rb_bin {t : ByteArray} {a : Nat} (h : a ≤ t.size) (e : Int) : (rbC t a e).2.2 = (binC t a e).2.2 ∧ ((binC t a e).2.2 = 0 → rbC t a e = binC t a e) := by
  by_cases he : e = 0
  rotate_left
  · have h1 : rbC t a e = binC t a e := by rw [bin_bad he]; exact if_pos he
    exact ⟨by rw [h1], fun _ => h1⟩
  subst he
  have hz : (t.extract a t.size).size = t.size - a := by rw [ByteArray.size_extract]; omega
  by_cases h2 : t.size < a + 2
  · have h1 : rbC t a 0 = binC t a 0 := by
      unfold rbC binC
      rw [if_neg (fun x => x rfl), show (2 : Int) = ((2 : Nat) : Int) from rfl, take_no (by omega)]
      simp only
      rw [takeS_bad (by decide)]
      unfold readB
      rw [if_pos (by omega)]
      rfl
    exact ⟨by rw [h1], fun _ => h1⟩
  have hn : numS (t.extract a t.size) 0 0 2 = numS t a 0 2 := by
    unfold numS
    rw [show (2 : Int) = ((2 : Nat) : Int) from rfl, take_yes (t := t.extract a t.size) (by omega), take_yes (t := t) (by omega)]
    simp only
    rw [extract_ls, extract_ls, rest_ls, List.drop_zero]
  have hB : binC t a 0 = takeS t (a + 2) 0 (numS t a 0 2 : Nat) := by
    unfold binC
    rw [show takeS t a 0 2 = (t.extract a (a + 2), a + 2, 0) from take_yes (k := 2) (by omega)]
  have hR : rbC t a 0 = ((readB (t.extract a t.size)).1, a + (readB (t.extract a t.size)).2.1, (readB (t.extract a t.size)).2.2) := if_neg (fun x => x rfl)
  rw [hB, hR]
  unfold readB
  rw [if_neg (by omega), hn]
  generalize numS t a 0 2 = n
  by_cases h3 : t.size < a + 2 + n
  · rw [take_no (by omega), if_pos (by omega)]
    exact ⟨rfl, fun x => by cases x⟩
  · rw [take_yes (by omega), if_neg (by omega)]
    refine ⟨rfl, fun _ => ?_⟩
    have e1 : (t.extract a t.size).extract 2 (2 + n) = t.extract (a + 2) (a + 2 + n) := ls_ext (by
      rw [extract_ls, extract_ls, rest_ls, List.drop_drop])
    simp only
    rw [e1, Nat.add_assoc]
theorem rt_txt {t : ByteArray} {a : Nat} (h : a ≤ t.size) (e : Int) : (rtC t a e).2.2 = (txtC t a e).2.2 ∧ ((txtC t a e).2.2 = 0 → rtC t a e = txtC t a e) := by
  by_cases he : e = 0
  rotate_left
  · have h1 : (rtC t a e).2.2 = e := by rw [show rtC t a e = (⟨#[]⟩, a, e) from if_pos he]
    exact ⟨by rw [h1, txt_bad he], fun x => absurd ((txt_bad he).symm.trans x) he⟩
  subst he
  have hR : rtC t a 0 = ((readU (t.extract a t.size)).1, a + (readU (t.extract a t.size)).2.1, (readU (t.extract a t.size)).2.2) := if_neg (fun x => x rfl)
  have hb : rbC t a 0 = ((readB (t.extract a t.size)).1, a + (readB (t.extract a t.size)).2.1, (readB (t.extract a t.size)).2.2) := if_neg (fun x => x rfl)
  obtain ⟨g1, g2⟩ := rb_bin h 0
  rw [hR]
  by_cases hz : (binC t a 0).2.2 = 0
  · have g3 := g2 hz
    rw [hb] at g3
    have g4 : (readB (t.extract a t.size)).1 = (binC t a 0).1 := by rw [← g3]
    have g5 : (readB (t.extract a t.size)).2.2 = 0 := by rw [← hz, ← g3]
    by_cases hv : validB (binC t a 0).1 = true
    · have hU : readU (t.extract a t.size) = readB (t.extract a t.size) := by
        unfold readU
        rw [if_neg (fun y => by rw [g4, hv] at y; cases y.2)]
      have hT : txtC t a 0 = binC t a 0 := by unfold txtC; rw [if_pos hv]
      rw [hU, hT, ← g3]
      exact ⟨rfl, fun _ => rfl⟩
    · have hU : readU (t.extract a t.size) = (⟨#[]⟩, 0, 6) := by
        unfold readU
        rw [if_pos ⟨g5, by rw [g4]; simpa using hv⟩]
      have hT : (txtC t a 0).2.2 = 6 := by
        unfold txtC
        rw [if_neg hv]
        simp only
        rw [hz]
        rfl
      rw [hU, hT]
      exact ⟨rfl, fun x => by cases x⟩
  · have g5 : (readB (t.extract a t.size)).2.2 = (binC t a 0).2.2 := by rw [← g1, hb]
    have hU : readU (t.extract a t.size) = readB (t.extract a t.size) := by
      unfold readU
      rw [if_neg (fun y => hz (g5.symm.trans y.1))]
    have hT : (txtC t a 0).2.2 = (binC t a 0).2.2 := by
      unfold txtC
      simp only
      split
      · rfl
      · exact if_neg hz
    rw [hU, hT]
    exact ⟨g5, fun x => absurd x hz⟩
/-- What the reference reads as a CONNECT, and the program. -/
def rc1 (v : Int) (s : ByteArray) : Pk × Nat × Int := (cnPk (cnF v s).1 (cnK v s).1 (rtC s (cnP v s).2.1 (cnP v s).2.2).1 (cnP v s).1, (rtC s (cnP v s).2.1 (cnP v s).2.2).2.1, (rtC s (cnP v s).2.1 (cnP v s).2.2).2.2)
def rcWP (v : Int) (s : ByteArray) (a : Nat) (e : Int) : List Pr × Nat × Int := prpC v 16 s a e
def rcWT (v : Int) (s : ByteArray) (a : Nat) (e : Int) : ByteArray × Nat × Int := rtC s (rcWP v s a e).2.1 (rcWP v s a e).2.2
def rcWB (v : Int) (s : ByteArray) (a : Nat) (e : Int) : ByteArray × Nat × Int := rbC s (rcWT v s a e).2.1 (rcWT v s a e).2.2
def rc2 (v : Int) (s : ByteArray) (r : Pk × Nat × Int) : Pk × Nat × Int :=
  if r.1.hasWill = true then ({ r.1 with will := { r.1.will with props := (rcWP v s r.2.1 r.2.2).1, topic := (rcWT v s r.2.1 r.2.2).1, payload := (rcWB v s r.2.1 r.2.2).1 } }, (rcWB v s r.2.1 r.2.2).2.1, (rcWB v s r.2.1 r.2.2).2.2) else r
def rc3 (s : ByteArray) (r : Pk × Nat × Int) : Pk × Nat × Int := if r.1.hasUser = true then ({ r.1 with user := (rtC s r.2.1 r.2.2).1 }, (rtC s r.2.1 r.2.2).2.1, (rtC s r.2.1 r.2.2).2.2) else r
def rc4 (s : ByteArray) (r : Pk × Nat × Int) : Pk × Nat × Int := if r.1.hasPass = true then ({ r.1 with pass := (rbC s r.2.1 r.2.2).1 }, (rbC s r.2.1 r.2.2).2.1, (rbC s r.2.1 r.2.2).2.2) else r
def rcRd (v : Int) (s : ByteArray) : Pk × Nat × Int := rc4 s (rc3 s (rc2 v s (rc1 v s)))
/-- The same error; without one the same packet and place; the same branches ahead. -/
structure Alike (s : ByteArray) (r q : Pk × Nat × Int) : Prop where
  err : r.2.2 = q.2.2
  same : q.2.2 = 0 → r = q
  will : r.1.hasWill = q.1.hasWill
  user : r.1.hasUser = q.1.hasUser
  pass : r.1.hasPass = q.1.hasPass
  le : q.2.1 ≤ s.size
  le' : r.2.1 ≤ s.size
theorem rt_bad {t : ByteArray} {a : Nat} {e : Int} (he : e ≠ 0) : rtC t a e = (⟨#[]⟩, a, e) := if_pos he
theorem rb_bad {t : ByteArray} {a : Nat} {e : Int} (he : e ≠ 0) : rbC t a e = (⟨#[]⟩, a, e) := if_pos he
theorem txt_le (t : ByteArray) (a : Nat) (e : Int) (h : a ≤ t.size) : (txtC t a e).2.1 ≤ t.size := binC_le t a e h
theorem alike4 {s : ByteArray} {r q : Pk × Nat × Int} (x : Alike s r q) : Alike s (rc4 s r) (cn4 s q) := by
  unfold rc4 cn4
  by_cases hp : q.1.hasPass = true
  · rw [if_pos (x.pass.trans hp), if_pos hp]
    refine ⟨?_, fun h0 => ?_, x.will, x.user, x.pass, binC_le _ _ _ x.le, (rbC_le x.le').1⟩
    · simp only
      by_cases he : q.2.2 = 0
      · rw [x.same he]; exact (rb_bin x.le _).1
      · rw [rb_bad (by rw [x.err]; exact he), bin_bad he, x.err]
    · simp only at h0 ⊢
      have he : q.2.2 = 0 := (bin_ok h0).1
      rw [x.same he, (rb_bin x.le _).2 h0]
  · rw [if_neg (fun y => hp (x.pass.symm.trans y)), if_neg hp]
    exact x
theorem alike3 {s : ByteArray} {r q : Pk × Nat × Int} (x : Alike s r q) : Alike s (rc3 s r) (cn3 s q) := by
  unfold rc3 cn3
  by_cases hp : q.1.hasUser = true
  · rw [if_pos (x.user.trans hp), if_pos hp]
    refine ⟨?_, fun h0 => ?_, x.will, x.user, x.pass, txt_le _ _ _ x.le, (rtC_le x.le').1⟩
    · simp only
      by_cases he : q.2.2 = 0
      · rw [x.same he]; exact (rt_txt x.le _).1
      · rw [rt_bad (by rw [x.err]; exact he), txt_bad he, x.err]
    · simp only at h0 ⊢
      have he : q.2.2 = 0 := (txt_ok h0).1
      rw [x.same he, (rt_txt x.le _).2 h0]
  · rw [if_neg (fun y => hp (x.user.symm.trans y)), if_neg hp]
    exact x
theorem prp_le8 (v k : Int) {t : ByteArray} {a : Nat} (e : Int) (h : a ≤ t.size) : (prpC v k t a e).2.1 ≤ t.size := by
  unfold prpC
  split
  · exact h
  · have := readP_at k (t.extract a t.size)
    rw [ByteArray.size_extract] at this
    simp only
    omega
theorem alike2 {v : Int} {s : ByteArray} {r q : Pk × Nat × Int} (x : Alike s r q) : Alike s (rc2 v s r) (cn2 v s q) := by
  unfold rc2 cn2
  by_cases hp : q.1.hasWill = true
  · rw [if_pos (x.will.trans hp), if_pos hp]
    have l1 := prp_le8 v 16 q.2.2 x.le
    have l2 := txt_le s _ (prpC v 16 s q.2.1 q.2.2).2.2 l1
    refine ⟨?_, fun h0 => ?_, x.will, x.user, x.pass, binC_le _ _ _ (txt_le _ _ _ (prp_le8 _ _ _ x.le)), (rbC_le (rtC_le (prp_le8 _ _ _ x.le')).1).1⟩
    · simp only
      by_cases he : q.2.2 = 0
      · rw [x.same he]
        unfold rcWB cnWB rcWT cnWT rcWP cnWP
        obtain ⟨g1, g2⟩ := rt_txt l1 (prpC v 16 s q.2.1 q.2.2).2.2
        by_cases hz : (txtC s (prpC v 16 s q.2.1 q.2.2).2.1 (prpC v 16 s q.2.1 q.2.2).2.2).2.2 = 0
        · rw [g2 hz]; exact (rb_bin l2 _).1
        · rw [rb_bad (by rw [g1]; exact hz), bin_bad hz, g1]
      · unfold rcWB cnWB rcWT cnWT rcWP cnWP
        have he' : r.2.2 ≠ 0 := by rw [x.err]; exact he
        have b1 : (prpC v 16 s q.2.1 q.2.2).2.2 = q.2.2 := prp_bad he
        have b2 : (prpC v 16 s r.2.1 r.2.2).2.2 = r.2.2 := prp_bad he'
        rw [b1, b2]
        have b3 := txt_bad (t := s) (a := (prpC v 16 s q.2.1 q.2.2).2.1) he
        rw [rt_bad he']
        simp only
        rw [rb_bad he', b3, bin_bad he, x.err]
    · simp only at h0 ⊢
      unfold rcWB rcWT rcWP cnWB cnWT cnWP at *
      have z1 := (bin_ok h0).1
      have z2 := (txt_ok z1).1
      have he : q.2.2 = 0 := Decidable.byContradiction fun hn => hn ((prp_bad hn).symm.trans z2)
      rw [x.same he, (rt_txt l1 _).2 z1, (rb_bin l2 _).2 h0]
  · rw [if_neg (fun y => hp (x.will.symm.trans y)), if_neg hp]
    exact x
theorem cnP_le (v : Int) (s : ByteArray) : (cnP v s).2.1 ≤ s.size :=
  prp_le8 _ _ _ (takeS_le (takeS_le (takeS_le (takeS_le (Nat.zero_le _) _ _) _ _) _ _) _ _)
theorem alike1 (v : Int) (s : ByteArray) : Alike s (rc1 v s) (cn1 v s) := by
  obtain ⟨g1, g2⟩ := rt_txt (cnP_le v s) (cnP v s).2.2
  refine ⟨g1, fun h0 => ?_, rfl, rfl, rfl, txt_le _ _ _ (cnP_le v s), (rtC_le (cnP_le v s)).1⟩
  have h1 := g2 h0
  unfold rc1
  rw [h1]
  rfl
theorem alike (v : Int) (s : ByteArray) : Alike s (rcRd v s) (cnRd v s) := alike4 (alike3 (alike2 (alike1 v s)))
theorem done_alike {v : Int} {s : ByteArray} {r q : Pk × Nat × Int} (x : Alike s r q) : cnDone v s r = cnDone v s q := by
  by_cases he : q.2.2 = 0
  · rw [x.same he]
  · have he' : r.2.2 ≠ 0 := by rw [x.err]; exact he
    have g : ∀ z : Pk × Nat × Int, z.2.2 ≠ 0 → cnEnd s z = z.2.2 := fun z hz => by
      unfold cnEnd
      split
      · rfl
      · exact if_neg hz
    unfold cnDone
    rw [g r he', g q he, if_pos he', if_pos he, x.err]
/-- What the reference's Read hands back. -/
theorem cntR_ref {v k : Int} {s : ByteArray} (h : hdKnown v = true) (hk : cntOurs k = true) : cntR v k s = cnDone v s (if k = 1 then rcRd v s else caRd v s) := by
  unfold cntR
  rw [if_neg (fun y => by rw [h, hk] at y; cases y <;> contradiction)]
  by_cases h1 : k = 1
  · rw [if_pos h1, if_pos h1]; exact (done_alike (alike v s)).symm
  · rw [if_neg h1, if_neg h1]
end Go.Proofs.YtngnaenbnmajdaaGreat

namespace Go.Proofs.YtngnaenbnmajdaaGreat
open Go.RowKit
attribute [local go_sem ↓] to_ldPk to_bxPk to_bdPk to_alPk to_stPk
attribute [local go_sem] run_bxPk run_bxPk_agg ld_fresh run_alPk run_bd0 run_bdK run_bdKI run_bdKIC run_bdKC run_bdKICP run_stPk_fresh pkC_0 pkC_1 pkC_2 pkC_3 pkC_4 pkC_5 pkC_6 pkC_7 pkC_8 pkC_9 pkC_10 pkC_11 pkC_12 pkC_13 pkC_14 pkC_15 pkC_16 pkC_17 pkC_18 pkC_19 pkC_20 pkC_21 pkC_22 pkC_23 pkC_24
/-- What stands while the reference reads: the result's block, the packet's, the cursor. -/
structure CQ (w : World) (gc : Nat) (p : Pk) (h : Hs) (t : ByteArray) (a : Nat) (e : Int) (x : World) : Prop where
  mods : w.grownBy x (some gc)
  cur : RCur x gc t a e
  res : Bk x w.heap.size PkT (pkC pk0 hs0)
  pk : Bk x (w.heap.size + 1) PkT (pkC p h)
  into : PkIn x x.heap.size p h
  flat : p.codes = [] ∧ p.filters = []
  lt : gc < w.heap.size
section
variable {w x y : World} {gc : Nat} {p p' : Pk} {h h' : Hs} {t : ByteArray} {a a' : Nat} {e e' : Int}
theorem CQ.below (c : CQ w gc p h t a e x) (hb : Below x.heap.size x y) : CQ w gc p h t a e y :=
  ⟨c.mods.trans (mod_below hb _), c.cur.below hb, c.res.below hb c.res.lt, c.pk.below hb c.pk.lt, c.into.next hb, c.flat, c.lt⟩
theorem CQ.drewN (c : CQ w gc p h t a e x) (n : Nat) : CQ w gc p h t a e (x.drewN n) := c.below (below_drawn (Below.refl _ _) n)
theorem CQ.turn (c : CQ w gc p h t a e x) (hc : RCur y gc t a' e') (hm : x.grownBy y (some gc)) : CQ w gc p h t a' e' y :=
  ⟨c.mods.trans hm, hc, c.res.mods (S := fun z => z = gc) (Mods.of_grown hm rfl) (by have := c.lt; omega), c.pk.mods (S := fun z => z = gc) (Mods.of_grown hm rfl) (by have := c.lt; omega),
    c.into.blk c.flat.1 c.flat.2 c.cur.1 (rcur_no32 _ _ _) hm, c.flat, c.lt⟩
theorem CQ.put (c : CQ w gc p h t a e x) (i : Nat) (u : Value) (he : (pkC p h).setIfInBounds i u = pkC p' h') (hf : p'.codes = [] ∧ p'.filters = [])
    (hi : PkIn (x.setCell ⟨w.heap.size + 1, i, none⟩ u) (x.setCell ⟨w.heap.size + 1, i, none⟩ u).heap.size p' h') : CQ w gc p' h' t a e (x.setCell ⟨w.heap.size + 1, i, none⟩ u) :=
  ⟨grown_set c.mods (by omega) i u, ⟨c.cur.1.other (by have := c.lt; simp; omega) u, c.cur.2⟩, c.res.other (by simp) u, c.pk.upd i u he, hi, hf, c.lt⟩
/-- A field that is no list. -/
theorem CQ.set (c : CQ w gc p h t a e x) (i : Nat) (u : Value) (he : (pkC p h).setIfInBounds i u = pkC p' h) (hl : p'.will.props = p.will.props ∧ p'.codes = p.codes ∧ p'.filters = p.filters ∧ p'.props = p.props) :
    CQ w gc p' h t a e (x.setCell ⟨w.heap.size + 1, i, none⟩ u) := by
  refine c.put i u he ⟨hl.2.1.trans c.flat.1, hl.2.2.1.trans c.flat.2⟩ ?_
  have := c.into.blk c.flat.1 c.flat.2 c.pk (pk_no32 _ _) (mod_set x (w.heap.size + 1) i u)
  obtain ⟨h1, h2, h3, h4⟩ := hl
  exact ⟨by rw [h1]; exact this.wp, by rw [h2]; exact this.codes, by rw [h3]; exact this.filters, by rw [h4]; exact this.props, by rw [h1, h2, h3, h4]; exact this.caps⟩
theorem CQ.setP (c : CQ w gc p h t a e x) {A : Option Addr} {n : Nat} {l : List Pr} (hr : Rd x x.heap.size 4 A l.length (prs l)) (hn : l.length ≤ n) :
    CQ w gc { p with props := l } { h with props := ⟨A, n⟩ } t a e (x.setCell ⟨w.heap.size + 1, 24, none⟩ (.slice A l.length n)) := by
  refine c.put 24 _ rfl c.flat ?_
  have hm := mod_set x (w.heap.size + 1) 24 (.slice A l.length n)
  have := c.into.blk c.flat.1 c.flat.2 c.pk (pk_no32 _ _) hm
  exact ⟨this.wp, this.codes, this.filters, (hr.other c.pk (pk_no32 _ _) hm (Nat.le_refl _)).wider hm.size, this.caps.1, this.caps.2.1, this.caps.2.2.1, hn⟩
theorem CQ.setW (c : CQ w gc p h t a e x) {A : Option Addr} {n : Nat} {l : List Pr} (hr : Rd x x.heap.size 4 A l.length (prs l)) (hn : l.length ≤ n) :
    CQ w gc { p with will := { p.will with props := l } } { h with wp := ⟨A, n⟩ } t a e (x.setCell ⟨w.heap.size + 1, 19, none⟩ (.slice A l.length n)) := by
  refine c.put 19 _ rfl c.flat ?_
  have hm := mod_set x (w.heap.size + 1) 19 (.slice A l.length n)
  have := c.into.blk c.flat.1 c.flat.2 c.pk (pk_no32 _ _) hm
  exact ⟨(hr.other c.pk (pk_no32 _ _) hm (Nat.le_refl _)).wider hm.size, this.codes, this.filters, this.props, hn, this.caps.2⟩
end
/-- What the reference's connect hands back. -/
def ConRef (g : Nat) (t : ByteArray) (r : Pk × Nat × Int) (w : World) (e : Ending) (w' : World) : Prop :=
  ∃ k, e = .returned (pkV r.1 k) ∧ PkIn w' w'.heap.size r.1 k ∧ (r.1.codes = [] ∧ r.1.filters = []) ∧ RCur w' g t r.2.1 r.2.2 ∧ w.grownBy w' (some g)
theorem CQ.fin {w x : World} {gc : Nat} {p : Pk} {h : Hs} {t : ByteArray} {a : Nat} {e : Int} (c : CQ w gc p h t a e x) : ConRef gc t (p, a, e) w (.returned (pkV p h)) (putPk x w.heap.size p h) := by
  have hm := putPk_mods x w.heap.size p h
  exact ⟨h, rfl, c.into.blk c.flat.1 c.flat.2 c.res (pk_no32 _ _) hm, c.flat, ⟨c.cur.1.mods (S := fun z => z = w.heap.size) (Mods.of_grown hm rfl) (by have := c.lt; omega), c.cur.2⟩,
    ⟨hm.os.trans c.mods.os, hm.tape.trans c.mods.tape, hm.output.trans c.mods.output, Nat.le_trans c.mods.size hm.size, fun i hi hn => (hm.block i (by have := c.mods.size; omega) (fun e => by cases e; omega)).trans (c.mods.block i hi hn)⟩⟩
def rcT (v : Int) (s : ByteArray) : ByteArray × Nat × Int := rtC s (cnP v s).2.1 (cnP v s).2.2
end Go.Proofs.YtngnaenbnmajdaaGreat

namespace Go.Proofs.YtngnaenbnmajdaaGreat
open Go.RowKit
attribute [local go_sem ↓] to_ldPk to_bxPk to_bdPk to_alPk to_stPk
attribute [local go_sem] run_bxPk run_bxPk_agg ld_fresh run_alPk run_bd0 run_bdK run_bdKI run_bdKIC run_bdKC run_bdKICP run_stPk_fresh pkC_0 pkC_1 pkC_2 pkC_3 pkC_4 pkC_5 pkC_6 pkC_7 pkC_8 pkC_9 pkC_10 pkC_11 pkC_12 pkC_13 pkC_14 pkC_15 pkC_16 pkC_17 pkC_18 pkC_19 pkC_20 pkC_21 pkC_22 pkC_23 pkC_24

theorem props_eq (v k : Int) (t : ByteArray) (a : Nat) (e : Int) : propsC v k t a e = prpC v k t a e := rfl
theorem bit_of {f : Nat} (k : Nat) (_hk : k = 2 ∨ k = 4 ∨ k = 32 ∨ k = 64 ∨ k = 128) (hf : f < 256) : ((wrap64 ((f : Int) / (k : Int))).tmod 2 == 1) = decide (f / k % 2 = 1) := by
  have e1 : ((f : Int) / (k : Int)) = ((f / k : Nat) : Int) := rfl
  have e2 : f / k ≤ f := Nat.div_le_self _ _
  rw [e1]
  generalize f / k = q at *
  have w1 : wrap64 (q : Int) = (q : Int) := by simp only [wrap64]; omega
  rw [w1, Int.tmod_eq_emod_of_nonneg (by omega), Bool.eq_iff_iff, decide_eq_true_iff, beq_iff_eq]
  omega
theorem qos_of {f : Nat} (hf : f < 256) : (wrap64 ((f : Int) / 8)).tmod 4 = ((f / 8 % 4 : Nat) : Int) := by
  have w1 : wrap64 ((f : Int) / 8) = (f : Int) / 8 := by simp only [wrap64]; omega
  rw [w1, Int.tmod_eq_emod_of_nonneg (by omega)]
  omega

set_option maxHeartbeats 8000000 in
set_option maxRecDepth 10000 in
theorem refConnect_any (gc : Nat) (t : ByteArray) (v : Int) (w : World) (h : RCur w gc t 0 0) (ht : t.size ≤ 140737488351232) (hv : v = 4 ∨ v = 5) :
    Calls Tryz.prog 38 #[.int .i64 v, .pointer (some ⟨gc, 0, none⟩)] w (ConRef gc t (rcRd v t) w) := by
  have HT := Lib.hid ht
  have HV := Lib.hid hv
  have HLT := Lib.hid h.lt
  have HC := Lib.hid h
  have HN0 : Hid (stN t = ((takeS t 0 0 6).2.1, if (takeS t 0 0 6).1 = cntName then (takeS t 0 0 6).2.2 else failE (takeS t 0 0 6).2.2 5)) := Lib.hid rfl
  have HcV : Hid (cnV v t = stV v t (stN t).1 (stN t).2) := Lib.hid rfl
  have HcF : Hid (cnF v t = stG v t (cnV v t).1 (cnV v t).2) := Lib.hid rfl
  have HcK : Hid (cnK v t = stK t (cnF v t).2.1 (cnF v t).2.2) := Lib.hid rfl
  have HcP : Hid (cnP v t = prpC v 1 t (cnK v t).2.1 (cnK v t).2.2) := Lib.hid rfl
  have HcT : Hid (rcT v t = rtC t (cnP v t).2.1 (cnP v t).2.2) := Lib.hid rfl
  have Hc1 : Hid (rc1 v t = (cnPk (cnF v t).1 (cnK v t).1 (rcT v t).1 (cnP v t).1, (rcT v t).2.1, (rcT v t).2.2)) := Lib.hid rfl
  have HcR : Hid (rcRd v t = rc4 t (rc3 t (rc2 v t (rc1 v t)))) := Lib.hid rfl
  generalize rcRd v t = RR at *
  have hst0 : ∀ q k, (stPk (.pointer (some ⟨w.heap.size + 1, 0, none⟩)) (pkV q k)).run Tryz.prog ((w.alloc (.cells (pkC pk0 hs0) PkT)).alloc (.cells (pkC pk0 hs0) PkT)) = .ok () ((w.alloc (.cells (pkC pk0 hs0) PkT)).alloc (.cells (pkC q k) PkT)) := fun q k => by
    have h2 : (w.alloc (.cells (pkC pk0 hs0) PkT)).heap.size = w.heap.size + 1 := by simp
    have := run_stPk_fresh (w.alloc (.cells (pkC pk0 hs0) PkT)) pk0 q hs0 k
    rw [h2] at this
    exact this
  clear h ht hv
  go_enter Tryz.func38, Tryz.ntmps38
  have C0 : Hid (CQ w gc { pk0 with kind := 1 } hs0 t 0 0 ((w.alloc (.cells (pkC pk0 hs0) PkT)).alloc (.cells (pkC { pk0 with kind := 1 } hs0) PkT))) := Lib.hid
    ⟨mod_below (((Below.refl _ _).alloc (Nat.le_refl _) _).alloc (by simp) _) _, HC.out.below (((Below.refl _ _).alloc (Nat.le_refl _) _).alloc (by simp) _), (Bk.fresh w PkT (pkC pk0 hs0)).alloc _,
      by simpa using Bk.fresh (w.alloc (.cells (pkC pk0 hs0) PkT)) PkT (pkC { pk0 with kind := 1 } hs0), PkIn.zero _ _ 1 0 0, ⟨rfl, rfl⟩, HLT.out⟩
  go_wp2_with fail
  clear hst0 HC
  generalize (w.alloc (.cells (pkC pk0 hs0) PkT)).alloc (.cells (pkC { pk0 with kind := 1 } hs0) PkT) = x0 at *
  obtain ⟨q0, hq0⟩ : ∃ q, { pk0 with kind := 1 } = q := ⟨_, rfl⟩
  have HQ0 := Lib.hid hq0.symm
  rw [hq0] at C0
  clear hq0
  refine (refTake_any gc 0 t 0 6 _ C0.out.cur).mono ?_
  rintro e x1 ⟨rfl, hc, hm⟩
  generalize takeS t 0 0 6 = T0 at *
  obtain ⟨b6, a6, e6⟩ := T0
  simp only at HN0 hc ⊢
  have C1 := Lib.hid (C0.out.turn hc hm)
  clear hc hm C0
  obtain ⟨bn, hbn⟩ : ∃ bn, (b6.toList == cntName.toList) = bn := ⟨_, rfl⟩
  have hbnn : (b6.toList != cntName.toList) = !bn := by rw [← hbn]; rfl
  have HN : Hid (stN t = (a6, if bn = true then e6 else failE e6 5)) := Lib.hid (by
    rw [HN0.out]
    by_cases hb : b6 = cntName
    · have : bn = true := by rw [← hbn, hb]; exact beq_self_eq_true _
      rw [if_pos hb, this, if_pos rfl]
    · have : bn = false := by
        rw [← hbn]
        exact beq_eq_false_iff_ne.2 fun x => hb ((toList_inj _ _).1 x)
      rw [if_neg hb, this, if_neg (by decide)])
  clear HN0
  go_upto_region 3 with fail
  go_cut [21] (fun s wx => s = .bool (decide (e6 = 0) && !bn) ∧ CQ w gc q0 hs0 t a6 e6 wx)
  case first =>
    have ce := C1.out.cur.cells.1.2.2
    by_cases he : e6 = 0
    · have eE : (e6 == 0) = true := beq_iff_eq.2 he
      have HE0 := Lib.hid he
      clear he
      go_wp2_with fail
      refine (text8_any ⟨#[77, 81, 84, 84]⟩ _ (by decide)).mono ?_
      rintro e' zt ⟨rfl, hb⟩
      rw [mqtt_data]
      have CT := Lib.hid (C1.out.below hb); clear hb
      go_wp2
      go_meet
      case rel => exact ⟨by rw [decide_eq_true HE0.out, Bool.true_and], CT.out⟩
    · have eE : (e6 == 0) = false := beq_eq_false_iff_ne.2 he
      have HE0 := Lib.hid he
      clear he
      go_wp2
      go_meet
      case rel => exact ⟨by rw [decide_eq_false HE0.out]; rfl, C1.out⟩
  obtain ⟨rfl, hst⟩ := hcut
  have CG := Lib.hid hst
  clear hst
  obtain ⟨bq, hbq⟩ : ∃ z, (decide (e6 = 0) && !bn) = z := ⟨_, rfl⟩
  rw [hbq]
  have HBQ := Lib.hid hbq
  clear hbq
  go_upto_if 21 with fail
  go_cut [22] (fun _ wx => CQ w gc q0 hs0 t a6 (if bn = true then e6 else failE e6 5) wx)
  case first =>
    cases bq
    · have HF : Hid ((if bn = true then e6 else failE e6 5) = e6) := Lib.hid (by
        have hq := HBQ.out
        by_cases he : e6 = 0
        · rw [decide_eq_true he] at hq
          cases bn
          · cases hq
          · rfl
        · rw [show failE e6 5 = e6 from if_neg he]; split <;> rfl)
      go_wp2
      go_meet
      case rel => rw [HF.out]; exact CG.out
    · have HF : Hid ((if bn = true then e6 else failE e6 5) = (if e6 = 0 then 5 else e6)) := Lib.hid (by
        have hq := HBQ.out
        cases bn
        · rfl
        · rw [Bool.not_true, Bool.and_false] at hq; cases hq)
      go_wp2_with fail
      refine (refFail_any gc a6 t e6 5 _ CG.out.cur).mono ?_
      rintro e' zf ⟨rfl, hc, hm⟩
      have CF := Lib.hid (CG.out.turn hc hm)
      clear hc hm
      go_wp2
      go_meet
      case rel => rw [HF.out]; exact CF.out
  clear HBQ CG
  have C2 := Lib.hid hcut
  clear hcut hbn hbnn C1
  generalize (if bn = true then e6 else failE e6 5) = e0 at *
  have hwv : IntKind.u64.wrap v = v := by rw [IntKind.wrap_u64]; have := HV.out; omega
  go_wp2_with fail
  refine (refNumber_any gc a6 t e0 1 _ C2.out.cur (by decide)).mono ?_
  rintro e x3 ⟨rfl, hc, hm⟩
  obtain ⟨bv, hbv⟩ : ∃ bv, (((numS t a6 e0 1 : Nat) : Int) == v) = bv := ⟨_, rfl⟩
  have hbn' : (((numS t a6 e0 1 : Nat) : Int) != v) = !bv := by rw [← hbv]; rfl
  have HW : Hid (cnV v t = ((takeS t a6 e0 1).2.1, if bv = true then (takeS t a6 e0 1).2.2 else failE (takeS t a6 e0 1).2.2 5)) := Lib.hid (by
    rw [HcV.out, HN.out]
    unfold stV
    by_cases hb : ((numS t a6 e0 1 : Nat) : Int) = v
    · have : bv = true := by rw [← hbv]; exact beq_iff_eq.2 hb
      simp only
      rw [if_pos hb, this, if_pos rfl]
    · have : bv = false := by rw [← hbv]; exact beq_eq_false_iff_ne.2 hb
      simp only
      rw [if_neg hb, this, if_neg (by decide)])
  generalize numS t a6 e0 1 = n1 at *
  generalize (takeS t a6 e0 1).2.1 = a1 at *
  generalize (takeS t a6 e0 1).2.2 = f1 at *
  have C3 := Lib.hid (C2.out.turn hc hm)
  clear HcV HN hc hm C2
  go_upto_region 6 with fail
  go_cut [36] (fun s wx => s = .bool (decide (f1 = 0) && !bv) ∧ CQ w gc q0 hs0 t a1 f1 wx)
  case first =>
    have ce := C3.out.cur.cells.1.2.2
    by_cases he : f1 = 0
    · have eE : (f1 == 0) = true := beq_iff_eq.2 he
      have HE0 := Lib.hid he
      clear he
      go_wp2
      go_meet
      case rel => exact ⟨by rw [decide_eq_true HE0.out, Bool.true_and], C3.out⟩
    · have eE : (f1 == 0) = false := beq_eq_false_iff_ne.2 he
      have HE0 := Lib.hid he
      clear he
      go_wp2
      go_meet
      case rel => exact ⟨by rw [decide_eq_false HE0.out]; rfl, C3.out⟩
  obtain ⟨rfl, hst⟩ := hcut
  have CG := Lib.hid hst
  clear hst
  obtain ⟨bq, hbq⟩ : ∃ z, (decide (f1 = 0) && !bv) = z := ⟨_, rfl⟩
  rw [hbq]
  have HBQ := Lib.hid hbq
  clear hbq
  go_upto_if 36 with fail
  go_cut [37] (fun _ wx => CQ w gc q0 hs0 t a1 (if bv = true then f1 else failE f1 5) wx)
  case first =>
    cases bq
    · have HF : Hid ((if bv = true then f1 else failE f1 5) = f1) := Lib.hid (by
        have hq := HBQ.out
        by_cases he : f1 = 0
        · rw [decide_eq_true he] at hq
          cases bv
          · cases hq
          · rfl
        · rw [show failE f1 5 = f1 from if_neg he]; split <;> rfl)
      go_wp2
      go_meet
      case rel => rw [HF.out]; exact CG.out
    · have HF : Hid ((if bv = true then f1 else failE f1 5) = (if f1 = 0 then 5 else f1)) := Lib.hid (by
        have hq := HBQ.out
        cases bv
        · rfl
        · rw [Bool.not_true, Bool.and_false] at hq; cases hq)
      go_wp2_with fail
      refine (refFail_any gc a1 t f1 5 _ CG.out.cur).mono ?_
      rintro e' zf ⟨rfl, hc, hm⟩
      have CF := Lib.hid (CG.out.turn hc hm)
      clear hc hm
      go_wp2
      go_meet
      case rel => rw [HF.out]; exact CF.out
  clear HBQ CG
  have C4 := Lib.hid hcut
  clear hcut hbv hbn' C3 hwv
  generalize (if bv = true then f1 else failE f1 5) = e1 at *
  have HFL := Lib.hid (num_one_lt t a1 e1)
  have hwf : IntKind.i64.wrap ((numS t a1 e1 1 : Nat) : Int) = ((numS t a1 e1 1 : Nat) : Int) := by rw [IntKind.wrap_i64]; have := HFL.out; omega
  go_wp2_with fail
  refine (refNumber_any gc a1 t e1 1 _ C4.out.cur (by decide)).mono ?_
  rintro e x5 ⟨rfl, hc, hm⟩
  have C5 := Lib.hid (C4.out.turn hc hm); clear hc hm C4
  have HF0 : Hid (cnF v t = (numS t a1 e1 1, (takeS t a1 e1 1).2.1, if flOk v (numS t a1 e1 1) = true then (takeS t a1 e1 1).2.2 else failE (takeS t a1 e1 1).2.2 7)) := Lib.hid (by rw [HcF.out, HW.out]; rfl)
  generalize numS t a1 e1 1 = fn at *
  generalize (takeS t a1 e1 1).2.1 = a2 at *
  generalize (takeS t a1 e1 1).2.2 = f2 at *
  clear HcF HW
  have KW := Lib.hid (fun x : World => wrong_any v HV.out fn HFL.out x)
  obtain ⟨bf, hbf⟩ : ∃ bf, flOk v fn = bf := ⟨_, rfl⟩
  rw [hbf] at HF0 KW
  clear hbf
  go_upto_region 9 with fail
  go_cut [51] (fun s wx => s = .bool (decide (f2 = 0) && !bf) ∧ CQ w gc q0 hs0 t a2 f2 wx)
  case first =>
    have ce := C5.out.cur.cells.1.2.2
    by_cases he : f2 = 0
    · have eE : (f2 == 0) = true := beq_iff_eq.2 he
      have HE0 := Lib.hid he
      clear he
      go_wp2_with fail
      refine (KW.out _).mono ?_
      rintro e' zt ⟨rfl, rfl⟩
      go_wp2
      go_meet
      case rel => exact ⟨by rw [decide_eq_true HE0.out, Bool.true_and], C5.out⟩
    · have eE : (f2 == 0) = false := beq_eq_false_iff_ne.2 he
      have HE0 := Lib.hid he
      clear he
      go_wp2
      go_meet
      case rel => exact ⟨by rw [decide_eq_false HE0.out]; rfl, C5.out⟩
  obtain ⟨rfl, hst⟩ := hcut
  have CG := Lib.hid hst
  clear hst
  obtain ⟨bq, hbq⟩ : ∃ z, (decide (f2 = 0) && !bf) = z := ⟨_, rfl⟩
  rw [hbq]
  have HBQ := Lib.hid hbq
  clear hbq
  go_upto_if 51 with fail
  go_cut [52] (fun _ wx => CQ w gc q0 hs0 t a2 (if bf = true then f2 else failE f2 7) wx)
  case first =>
    cases bq
    · have HF : Hid ((if bf = true then f2 else failE f2 7) = f2) := Lib.hid (by
        have hq := HBQ.out
        by_cases he : f2 = 0
        · rw [decide_eq_true he] at hq
          cases bf
          · cases hq
          · rfl
        · rw [show failE f2 7 = f2 from if_neg he]; split <;> rfl)
      go_wp2
      go_meet
      case rel => rw [HF.out]; exact CG.out
    · have HF : Hid ((if bf = true then f2 else failE f2 7) = (if f2 = 0 then 7 else f2)) := Lib.hid (by
        have hq := HBQ.out
        cases bf
        · rfl
        · rw [Bool.not_true, Bool.and_false] at hq; cases hq)
      go_wp2_with fail
      refine (refFail_any gc a2 t f2 7 _ CG.out.cur).mono ?_
      rintro e' zf ⟨rfl, hc, hm⟩
      have CF := Lib.hid (CG.out.turn hc hm)
      clear hc hm
      go_wp2
      go_meet
      case rel => rw [HF.out]; exact CF.out
  clear HBQ CG
  have C4 := Lib.hid hcut
  clear hcut KW C5
  generalize (if bf = true then f2 else failE f2 7) = e2 at *
  have hf0 : (0 : Int) ≤ (fn : Int) := by omega
  have g2 := bit_of 2 (.inl rfl) HFL.out
  have g4 := bit_of 4 (.inr (.inl rfl)) HFL.out
  have g32 := bit_of 32 (.inr (.inr (.inl rfl))) HFL.out
  have g64 := bit_of 64 (.inr (.inr (.inr (.inl rfl)))) HFL.out
  have g128 := bit_of 128 (.inr (.inr (.inr (.inr rfl)))) HFL.out
  have g8 := qos_of HFL.out
  simp only [show ((2 : Nat) : Int) = 2 from rfl, show ((4 : Nat) : Int) = 4 from rfl, show ((32 : Nat) : Int) = 32 from rfl, show ((64 : Nat) : Int) = 64 from rfl, show ((128 : Nat) : Int) = 128 from rfl] at g2 g4 g32 g64 g128
  have f7 := C4.out.pk.free 7; have p7 := (C4.out.pk.cell 7).trans (pkC_7 _ _)
  have f14 := C4.out.pk.free 14; have p14 := (C4.out.pk.cell 14).trans (pkC_14 _ _)
  have f12 := C4.out.pk.free 12; have p12 := (C4.out.pk.cell 12).trans (pkC_12 _ _)
  have f10 := C4.out.pk.free 10; have p10 := (C4.out.pk.cell 10).trans (pkC_10 _ _)
  have f18 := C4.out.pk.free 18; have p18 := (C4.out.pk.cell 18).trans (pkC_18 _ _)
  have f17 := C4.out.pk.free 17; have p17 := (C4.out.pk.cell 17).trans (pkC_17 _ _)
  obtain ⟨b2, hb2⟩ : ∃ b, decide (fn / 2 % 2 = 1) = b := ⟨_, rfl⟩
  obtain ⟨b4, hb4⟩ : ∃ b, decide (fn / 4 % 2 = 1) = b := ⟨_, rfl⟩
  obtain ⟨b32, hb32⟩ : ∃ b, decide (fn / 32 % 2 = 1) = b := ⟨_, rfl⟩
  obtain ⟨b64, hb64⟩ : ∃ b, decide (fn / 64 % 2 = 1) = b := ⟨_, rfl⟩
  obtain ⟨b128, hb128⟩ : ∃ b, decide (fn / 128 % 2 = 1) = b := ⟨_, rfl⟩
  obtain ⟨qq, hqq⟩ : ∃ q : Int, ((fn / 8 % 4 : Nat) : Int) = q := ⟨_, rfl⟩
  rw [hb2] at g2
  rw [hb4] at g4
  rw [hb32] at g32
  rw [hb64] at g64
  rw [hb128] at g128
  rw [hqq] at g8
  have HPK : Hid (∀ (k : Nat) c l, ({ q0 with clean := b2, hasWill := b4, hasPass := b64, hasUser := b128, will := { q0.will with retain := b32, qos := qq }, alive := ((k : Nat) : Int), props := l, client := c } : Pk) = cnPk fn k c l) := Lib.hid (by
    intro k c l
    rw [← hb2, ← hb4, ← hb32, ← hb64, ← hb128, ← hqq, HQ0.out]
    rfl)
  clear hb2 hb4 hb32 hb64 hb128 hqq
  have HKL := Lib.hid (num_two_lt t a2 e2 C4.out.cur.2.1)
  have C5 := Lib.hid ((((((C4.out.set 10 (.bool b128) (p' := { q0 with hasUser := b128 }) rfl ⟨rfl, rfl, rfl, rfl⟩).set 12 (.bool b64) (p' := { q0 with hasUser := b128, hasPass := b64 }) rfl ⟨rfl, rfl, rfl, rfl⟩).set 14 (.bool b4) (p' := { q0 with hasUser := b128, hasPass := b64, hasWill := b4 }) rfl ⟨rfl, rfl, rfl, rfl⟩).set 7 (.bool b2) (p' := { q0 with hasUser := b128, hasPass := b64, hasWill := b4, clean := b2 }) rfl ⟨rfl, rfl, rfl, rfl⟩).set 18 (.bool b32) (p' := { q0 with hasUser := b128, hasPass := b64, hasWill := b4, clean := b2, will := { q0.will with retain := b32 } }) rfl ⟨rfl, rfl, rfl, rfl⟩).set 17 (.int .i64 qq) (p' := { q0 with hasUser := b128, hasPass := b64, hasWill := b4, clean := b2, will := { q0.will with retain := b32, qos := qq } }) rfl ⟨rfl, rfl, rfl, rfl⟩)
  clear C4
  go_wp2_with fail
  refine (refNumber_any gc a2 t e2 2 _ C5.out.cur (by decide)).mono ?_
  rintro e x8 ⟨rfl, hc, hm⟩
  have C6 := Lib.hid (C5.out.turn hc hm)
  clear hc hm C5 f7 p7 f14 p14 f12 p12 f10 p10 f18 p18 f17 p17 g2 g4 g8 g32 g64 g128 hf0
  have HKK : Hid (cnK v t = (numS t a2 e2 2, (takeS t a2 e2 2).2.1, (takeS t a2 e2 2).2.2)) := Lib.hid (by rw [HcK.out, HF0.out]; rfl)
  generalize numS t a2 e2 2 = kn at *
  generalize (takeS t a2 e2 2).2.1 = a3 at *
  generalize (takeS t a2 e2 2).2.2 = e3 at *
  have hwk : IntKind.i64.wrap (kn : Int) = (kn : Int) := by rw [IntKind.wrap_i64]; have := HKL.out; omega
  have f8 := C6.out.pk.free 8; have p8 := (C6.out.pk.cell 8).trans (pkC_8 _ _)
  have p0 : x8.cell? ⟨w.heap.size + 1, 0, none⟩ = some (.int .i64 1) := ((C6.out.pk.cell 0).trans (pkC_0 _ _)).trans (by rw [HQ0.out])
  have C7 := Lib.hid (C6.out.set 8 (.int .i64 (kn : Int)) (p' := { q0 with clean := b2, hasWill := b4, hasPass := b64, hasUser := b128, will := { q0.will with retain := b32, qos := qq }, alive := (kn : Int) }) rfl ⟨rfl, rfl, rfl, rfl⟩)
  have HPP : Hid (cnP v t = prpC v 1 t a3 e3) := Lib.hid (by rw [HcP.out, HKK.out])
  clear C6 HcK HcP
  go_wp2_with fail
  refine (refProps_any v 1 gc a3 t e3 _ C7.out.cur HT.out).mono ?_
  rintro e x9 ⟨A, c, rfl, hlc, hr, hc, hm⟩
  rw [props_eq] at hlc hr hc ⊢
  rw [← HPP.out] at hlc hr hc ⊢
  clear HPP f8 p8 p0  hwk
  generalize cnP v t = r at *
  obtain ⟨l, a4, e4⟩ := r
  simp only at hlc hr hc HcT Hc1 ⊢
  have C8 := Lib.hid (C7.out.turn hc hm)
  have C9 := Lib.hid (C8.out.setP hr hlc)
  have f24 := C8.out.pk.free 24; have p24 := (C8.out.pk.cell 24).trans (pkC_24 _ _)
  clear hlc hr hc hm C7
  go_wp2_with fail
  refine (Text_ref gc a4 t e4 _ C9.out.cur).mono ?_
  rintro e y0 ⟨rfl, hc, hm⟩
  rw [← HcT.out] at hc ⊢
  clear HcT f24 p24  C8
  generalize rcT v t = r at *
  obtain ⟨cl, a5, e5⟩ := r
  simp only at hc Hc1 ⊢
  rw [HF0.out, HKK.out] at Hc1
  simp only at Hc1
  have C10 := Lib.hid (C9.out.turn hc hm)
  clear hc hm C9 HF0 HKK
  have C11' := Lib.hid (C10.out.set 9 (.string cl) (p' := { q0 with clean := b2, hasWill := b4, hasPass := b64, hasUser := b128, will := { q0.will with retain := b32, qos := qq }, alive := (kn : Int), props := l, client := cl }) rfl ⟨rfl, rfl, rfl, rfl⟩)
  have f9 := C10.out.pk.free 9; have p9 := (C10.out.pk.cell 9).trans (pkC_9 _ _)
  have p14 : y0.cell? ⟨w.heap.size + 1, 14, none⟩ = some (.bool b4) := (C10.out.pk.cell 14).trans (pkC_14 _ _)
  have HB4 : Hid ((cnPk fn kn cl l).hasWill = b4) := Lib.hid (by rw [← HPK.out])
  rw [HPK.out] at C11'
  generalize cnPk fn kn cl l = P1 at *
  clear C10 HPK HQ0 HKL HFL
  obtain ⟨H1, hH1⟩ : ∃ H : Hs, { hs0 with props := ⟨A, c⟩ } = H := ⟨_, rfl⟩
  rw [hH1] at C11'
  clear hH1
  obtain ⟨Y1, hY1⟩ : ∃ Y, y0.setCell ⟨w.heap.size + 1, 9, none⟩ (.string cl) = Y := ⟨_, rfl⟩
  have C11 := C11'
  rw [hY1] at C11
  have HR2 : Hid (RR = rc4 t (rc3 t (rc2 v t (P1, a5, e5)))) := Lib.hid (by rw [HcR.out, Hc1.out])
  clear C11' HcR Hc1
  cases b4
  · have p14 := ((C11.out.pk.cell 14).trans (pkC_14 _ _)).trans (show _ = some (Value.bool false) by rw [HB4.out])
    have HR3 : Hid (RR = rc4 t (rc3 t (P1, a5, e5))) := Lib.hid (by rw [HR2.out]; unfold rc2; rw [if_neg (by rw [HB4.out]; decide)])
    cases hb1 : (P1 : Pk).hasUser
    · have hb1p := ((C11.out.pk.cell 10).trans (pkC_10 _ _)).trans (show _ = some (Value.bool false) by rw [hb1])
      have HQ2 : Hid (RR = rc4 t (P1, a5, e5)) := Lib.hid (by rw [HR3.out]; unfold rc3; rw [if_neg (by rw [hb1]; decide)])
      cases hb4 : (P1 : Pk).hasPass
      · have hb4p := ((C11.out.pk.cell 12).trans (pkC_12 _ _)).trans (show _ = some (Value.bool false) by rw [hb4])
        have HZ : Hid (RR = (P1, a5, e5)) := Lib.hid (by rw [HQ2.out]; unfold rc4; rw [if_neg (by rw [hb4]; decide)])
        have hl := ld_bk C11.out.pk
        have hst := run_stPk C11.out.res
        go_wp2
        refine bodyPost_ret (results_c1 rfl _ rfl (put_bk C11.out.res _ _)) rfl ?_
        rw [HZ.out]
        exact C11.out.fin
      · have hb4p := ((C11.out.pk.cell 12).trans (pkC_12 _ _)).trans (show _ = some (Value.bool true) by rw [hb4])
        go_wp2_with fail
        refine (Binary_ref gc a5 t e5 _ C11.out.cur).mono ?_
        rintro e y5 ⟨rfl, hc, hm⟩
        obtain ⟨S6, a7, e8, HS13⟩ : ∃ (S : ByteArray) (a : Nat) (e : Int), rbC t a5 e5 = (S, a, e) := ⟨_, _, _, rfl⟩
        rw [HS13] at hc ⊢
        simp only at hc ⊢
        replace HS13 := Lib.hid HS13
        have C9 := Lib.hid (C11.out.turn hc hm)
        have C10 := Lib.hid (C9.out.set 13 (.string S6) (p' := { (P1 : Pk) with pass := S6 }) rfl ⟨rfl, rfl, rfl, rfl⟩)
        have fx := C9.out.pk.free 13; have px := (C9.out.pk.cell 13).trans (pkC_13 _ _)
        clear hc hm 
        obtain ⟨Y11, hY12⟩ : ∃ Y, y5.setCell ⟨w.heap.size + 1, 13, none⟩ (.string S6) = Y := ⟨_, rfl⟩
        rw [hY12] at C10
        obtain ⟨PV14, hPV15⟩ : ∃ P : Pk, { (P1 : Pk) with pass := S6 } = P := ⟨_, rfl⟩
        rw [hPV15] at C10
        replace hPV15 := Lib.hid hPV15
        have HZ : Hid (RR = (PV14, a7, e8)) := Lib.hid (by rw [HQ2.out]; unfold rc4; rw [if_pos hb4]; simp only; rw [HS13.out, ← hPV15.out])
        have hl := ld_bk C10.out.pk
        have hst := run_stPk C10.out.res
        go_wp2
        refine bodyPost_ret (results_c1 rfl _ rfl (put_bk C10.out.res _ _)) rfl ?_
        rw [HZ.out]
        exact C10.out.fin
    · have hb1p := ((C11.out.pk.cell 10).trans (pkC_10 _ _)).trans (show _ = some (Value.bool true) by rw [hb1])
      go_wp2_with fail
      refine (Text_ref gc a5 t e5 _ C11.out.cur).mono ?_
      rintro e y16 ⟨rfl, hc, hm⟩
      obtain ⟨S17, a18, e19, HS24⟩ : ∃ (S : ByteArray) (a : Nat) (e : Int), rtC t a5 e5 = (S, a, e) := ⟨_, _, _, rfl⟩
      rw [HS24] at hc ⊢
      simp only at hc ⊢
      replace HS24 := Lib.hid HS24
      have C20 := Lib.hid (C11.out.turn hc hm)
      have C21 := Lib.hid (C20.out.set 11 (.string S17) (p' := { (P1 : Pk) with user := S17 }) rfl ⟨rfl, rfl, rfl, rfl⟩)
      have fx := C20.out.pk.free 11; have px := (C20.out.pk.cell 11).trans (pkC_11 _ _)
      clear hc hm 
      obtain ⟨Y22, hY23⟩ : ∃ Y, y16.setCell ⟨w.heap.size + 1, 11, none⟩ (.string S17) = Y := ⟨_, rfl⟩
      rw [hY23] at C21
      obtain ⟨PV25, hPV26⟩ : ∃ P : Pk, { (P1 : Pk) with user := S17 } = P := ⟨_, rfl⟩
      rw [hPV26] at C21
      replace hPV26 := Lib.hid hPV26
      have HQ3 : Hid (RR = rc4 t (PV25, a18, e19)) := Lib.hid (by rw [HR3.out]; unfold rc3; rw [if_pos hb1]; simp only; rw [HS24.out, ← hPV26.out])
      cases hb27 : (PV25 : Pk).hasPass
      · have hb27p := ((C21.out.pk.cell 12).trans (pkC_12 _ _)).trans (show _ = some (Value.bool false) by rw [hb27])
        have HZ : Hid (RR = (PV25, a18, e19)) := Lib.hid (by rw [HQ3.out]; unfold rc4; rw [if_neg (by rw [hb27]; decide)])
        have hl := ld_bk C21.out.pk
        have hst := run_stPk C21.out.res
        go_wp2
        refine bodyPost_ret (results_c1 rfl _ rfl (put_bk C21.out.res _ _)) rfl ?_
        rw [HZ.out]
        exact C21.out.fin
      · have hb27p := ((C21.out.pk.cell 12).trans (pkC_12 _ _)).trans (show _ = some (Value.bool true) by rw [hb27])
        go_wp2_with fail
        refine (Binary_ref gc a18 t e19 _ C21.out.cur).mono ?_
        rintro e y28 ⟨rfl, hc, hm⟩
        obtain ⟨S29, a30, e31, HS36⟩ : ∃ (S : ByteArray) (a : Nat) (e : Int), rbC t a18 e19 = (S, a, e) := ⟨_, _, _, rfl⟩
        rw [HS36] at hc ⊢
        simp only at hc ⊢
        replace HS36 := Lib.hid HS36
        have C32 := Lib.hid (C21.out.turn hc hm)
        have C33 := Lib.hid (C32.out.set 13 (.string S29) (p' := { (PV25 : Pk) with pass := S29 }) rfl ⟨rfl, rfl, rfl, rfl⟩)
        have fx := C32.out.pk.free 13; have px := (C32.out.pk.cell 13).trans (pkC_13 _ _)
        clear hc hm 
        obtain ⟨Y34, hY35⟩ : ∃ Y, y28.setCell ⟨w.heap.size + 1, 13, none⟩ (.string S29) = Y := ⟨_, rfl⟩
        rw [hY35] at C33
        obtain ⟨PV37, hPV38⟩ : ∃ P : Pk, { (PV25 : Pk) with pass := S29 } = P := ⟨_, rfl⟩
        rw [hPV38] at C33
        replace hPV38 := Lib.hid hPV38
        have HZ : Hid (RR = (PV37, a30, e31)) := Lib.hid (by rw [HQ3.out]; unfold rc4; rw [if_pos hb27]; simp only; rw [HS36.out, ← hPV38.out])
        have hl := ld_bk C33.out.pk
        have hst := run_stPk C33.out.res
        go_wp2
        refine bodyPost_ret (results_c1 rfl _ rfl (put_bk C33.out.res _ _)) rfl ?_
        rw [HZ.out]
        exact C33.out.fin
  · have p14 := ((C11.out.pk.cell 14).trans (pkC_14 _ _)).trans (show _ = some (Value.bool true) by rw [HB4.out])
    go_wp2_with fail
    refine (refProps_any v 16 gc a5 t e5 _ C11.out.cur HT.out).mono ?_
    rintro e yw ⟨A', c', rfl, hlc, hr, hc, hm⟩
    obtain ⟨wl, aw, ew, hWP⟩ : ∃ (l : List Pr) (a : Nat) (e : Int), propsC v 16 t a5 e5 = (l, a, e) := ⟨_, _, _, rfl⟩
    rw [hWP] at hlc hr hc ⊢
    simp only at hlc hr hc ⊢
    replace hWP : Hid (prpC v 16 t a5 e5 = (wl, aw, ew)) := Lib.hid hWP
    have CW8 := Lib.hid (C11.out.turn hc hm)
    have CW9 := Lib.hid (CW8.out.setW hr hlc)
    have fx := CW8.out.pk.free 19; have px := (CW8.out.pk.cell 19).trans (pkC_19 _ _)
    clear hlc hr hc hm  p14 f9 p9 hY1
    obtain ⟨Yw, hYw⟩ : ∃ Y, yw.setCell ⟨w.heap.size + 1, 19, none⟩ (.slice A' wl.length c') = Y := ⟨_, rfl⟩
    rw [hYw] at CW9
    obtain ⟨HW, hHW⟩ : ∃ H : Hs, { H1 with wp := ⟨A', c'⟩ } = H := ⟨_, rfl⟩
    rw [hHW] at CW9
    obtain ⟨PW, hPW⟩ : ∃ P : Pk, { P1 with will := { P1.will with props := wl } } = P := ⟨_, rfl⟩
    rw [hPW] at CW9
    replace hPW := Lib.hid hPW
    clear hHW
    go_wp2_with fail
    clear fx px hYw
    refine (Text_ref gc aw t ew _ CW9.out.cur).mono ?_
    rintro e y39 ⟨rfl, hc, hm⟩
    obtain ⟨S40, a41, e42, HS47⟩ : ∃ (S : ByteArray) (a : Nat) (e : Int), rtC t aw ew = (S, a, e) := ⟨_, _, _, rfl⟩
    rw [HS47] at hc ⊢
    simp only at hc ⊢
    replace HS47 := Lib.hid HS47
    have C43 := Lib.hid (CW9.out.turn hc hm)
    have C44 := Lib.hid (C43.out.set 15 (.string S40) (p' := { (PW : Pk) with will := { (PW : Pk).will with topic := S40 } }) rfl ⟨rfl, rfl, rfl, rfl⟩)
    have fx := C43.out.pk.free 15; have px := (C43.out.pk.cell 15).trans (pkC_15 _ _)
    clear hc hm 
    obtain ⟨Y45, hY46⟩ : ∃ Y, y39.setCell ⟨w.heap.size + 1, 15, none⟩ (.string S40) = Y := ⟨_, rfl⟩
    rw [hY46] at C44
    obtain ⟨PV48, hPV49⟩ : ∃ P : Pk, { (PW : Pk) with will := { (PW : Pk).will with topic := S40 } } = P := ⟨_, rfl⟩
    rw [hPV49] at C44
    replace hPV49 := Lib.hid hPV49
    go_wp2_with fail
    clear fx px hY46
    refine (Binary_ref gc a41 t e42 _ C44.out.cur).mono ?_
    rintro e y50 ⟨rfl, hc, hm⟩
    obtain ⟨S51, a52, e53, HS58⟩ : ∃ (S : ByteArray) (a : Nat) (e : Int), rbC t a41 e42 = (S, a, e) := ⟨_, _, _, rfl⟩
    rw [HS58] at hc ⊢
    simp only at hc ⊢
    replace HS58 := Lib.hid HS58
    have C54 := Lib.hid (C44.out.turn hc hm)
    have C55 := Lib.hid (C54.out.set 16 (.string S51) (p' := { (PV48 : Pk) with will := { (PV48 : Pk).will with payload := S51 } }) rfl ⟨rfl, rfl, rfl, rfl⟩)
    have fx := C54.out.pk.free 16; have px := (C54.out.pk.cell 16).trans (pkC_16 _ _)
    clear hc hm 
    obtain ⟨Y56, hY57⟩ : ∃ Y, y50.setCell ⟨w.heap.size + 1, 16, none⟩ (.string S51) = Y := ⟨_, rfl⟩
    rw [hY57] at C55
    obtain ⟨PV59, hPV60⟩ : ∃ P : Pk, { (PV48 : Pk) with will := { (PV48 : Pk).will with payload := S51 } } = P := ⟨_, rfl⟩
    rw [hPV60] at C55
    replace hPV60 := Lib.hid hPV60
    have HR3 : Hid (RR = rc4 t (rc3 t (PV59, a52, e53))) := Lib.hid (by
      rw [HR2.out]; unfold rc2; rw [if_pos HB4.out]
      unfold rcWB rcWT rcWP
      simp only
      rw [hWP.out]; simp only; rw [HS47.out]; simp only; rw [HS58.out, ← hPV60.out, ← hPV49.out, ← hPW.out])
    cases hb61 : (PV59 : Pk).hasUser
    · have hb61p := ((C55.out.pk.cell 10).trans (pkC_10 _ _)).trans (show _ = some (Value.bool false) by rw [hb61])
      have HQ62 : Hid (RR = rc4 t (PV59, a52, e53)) := Lib.hid (by rw [HR3.out]; unfold rc3; rw [if_neg (by rw [hb61]; decide)])
      cases hb64 : (PV59 : Pk).hasPass
      · have hb64p := ((C55.out.pk.cell 12).trans (pkC_12 _ _)).trans (show _ = some (Value.bool false) by rw [hb64])
        have HZ : Hid (RR = (PV59, a52, e53)) := Lib.hid (by rw [HQ62.out]; unfold rc4; rw [if_neg (by rw [hb64]; decide)])
        have hl := ld_bk C55.out.pk
        have hst := run_stPk C55.out.res
        go_wp2
        refine bodyPost_ret (results_c1 rfl _ rfl (put_bk C55.out.res _ _)) rfl ?_
        rw [HZ.out]
        exact C55.out.fin
      · have hb64p := ((C55.out.pk.cell 12).trans (pkC_12 _ _)).trans (show _ = some (Value.bool true) by rw [hb64])
        go_wp2_with fail
        refine (Binary_ref gc a52 t e53 _ C55.out.cur).mono ?_
        rintro e y65 ⟨rfl, hc, hm⟩
        obtain ⟨S66, a67, e68, HS73⟩ : ∃ (S : ByteArray) (a : Nat) (e : Int), rbC t a52 e53 = (S, a, e) := ⟨_, _, _, rfl⟩
        rw [HS73] at hc ⊢
        simp only at hc ⊢
        replace HS73 := Lib.hid HS73
        have C69 := Lib.hid (C55.out.turn hc hm)
        have C70 := Lib.hid (C69.out.set 13 (.string S66) (p' := { (PV59 : Pk) with pass := S66 }) rfl ⟨rfl, rfl, rfl, rfl⟩)
        have fx := C69.out.pk.free 13; have px := (C69.out.pk.cell 13).trans (pkC_13 _ _)
        clear hc hm 
        obtain ⟨Y71, hY72⟩ : ∃ Y, y65.setCell ⟨w.heap.size + 1, 13, none⟩ (.string S66) = Y := ⟨_, rfl⟩
        rw [hY72] at C70
        obtain ⟨PV74, hPV75⟩ : ∃ P : Pk, { (PV59 : Pk) with pass := S66 } = P := ⟨_, rfl⟩
        rw [hPV75] at C70
        replace hPV75 := Lib.hid hPV75
        have HZ : Hid (RR = (PV74, a67, e68)) := Lib.hid (by rw [HQ62.out]; unfold rc4; rw [if_pos hb64]; simp only; rw [HS73.out, ← hPV75.out])
        have hl := ld_bk C70.out.pk
        have hst := run_stPk C70.out.res
        go_wp2
        refine bodyPost_ret (results_c1 rfl _ rfl (put_bk C70.out.res _ _)) rfl ?_
        rw [HZ.out]
        exact C70.out.fin
    · have hb61p := ((C55.out.pk.cell 10).trans (pkC_10 _ _)).trans (show _ = some (Value.bool true) by rw [hb61])
      go_wp2_with fail
      refine (Text_ref gc a52 t e53 _ C55.out.cur).mono ?_
      rintro e y76 ⟨rfl, hc, hm⟩
      obtain ⟨S77, a78, e79, HS84⟩ : ∃ (S : ByteArray) (a : Nat) (e : Int), rtC t a52 e53 = (S, a, e) := ⟨_, _, _, rfl⟩
      rw [HS84] at hc ⊢
      simp only at hc ⊢
      replace HS84 := Lib.hid HS84
      have C80 := Lib.hid (C55.out.turn hc hm)
      have C81 := Lib.hid (C80.out.set 11 (.string S77) (p' := { (PV59 : Pk) with user := S77 }) rfl ⟨rfl, rfl, rfl, rfl⟩)
      have fx := C80.out.pk.free 11; have px := (C80.out.pk.cell 11).trans (pkC_11 _ _)
      clear hc hm 
      obtain ⟨Y82, hY83⟩ : ∃ Y, y76.setCell ⟨w.heap.size + 1, 11, none⟩ (.string S77) = Y := ⟨_, rfl⟩
      rw [hY83] at C81
      obtain ⟨PV85, hPV86⟩ : ∃ P : Pk, { (PV59 : Pk) with user := S77 } = P := ⟨_, rfl⟩
      rw [hPV86] at C81
      replace hPV86 := Lib.hid hPV86
      have HQ63 : Hid (RR = rc4 t (PV85, a78, e79)) := Lib.hid (by rw [HR3.out]; unfold rc3; rw [if_pos hb61]; simp only; rw [HS84.out, ← hPV86.out])
      cases hb87 : (PV85 : Pk).hasPass
      · have hb87p := ((C81.out.pk.cell 12).trans (pkC_12 _ _)).trans (show _ = some (Value.bool false) by rw [hb87])
        have HZ : Hid (RR = (PV85, a78, e79)) := Lib.hid (by rw [HQ63.out]; unfold rc4; rw [if_neg (by rw [hb87]; decide)])
        have hl := ld_bk C81.out.pk
        have hst := run_stPk C81.out.res
        go_wp2
        refine bodyPost_ret (results_c1 rfl _ rfl (put_bk C81.out.res _ _)) rfl ?_
        rw [HZ.out]
        exact C81.out.fin
      · have hb87p := ((C81.out.pk.cell 12).trans (pkC_12 _ _)).trans (show _ = some (Value.bool true) by rw [hb87])
        go_wp2_with fail
        refine (Binary_ref gc a78 t e79 _ C81.out.cur).mono ?_
        rintro e y88 ⟨rfl, hc, hm⟩
        obtain ⟨S89, a90, e91, HS96⟩ : ∃ (S : ByteArray) (a : Nat) (e : Int), rbC t a78 e79 = (S, a, e) := ⟨_, _, _, rfl⟩
        rw [HS96] at hc ⊢
        simp only at hc ⊢
        replace HS96 := Lib.hid HS96
        have C92 := Lib.hid (C81.out.turn hc hm)
        have C93 := Lib.hid (C92.out.set 13 (.string S89) (p' := { (PV85 : Pk) with pass := S89 }) rfl ⟨rfl, rfl, rfl, rfl⟩)
        have fx := C92.out.pk.free 13; have px := (C92.out.pk.cell 13).trans (pkC_13 _ _)
        clear hc hm 
        obtain ⟨Y94, hY95⟩ : ∃ Y, y88.setCell ⟨w.heap.size + 1, 13, none⟩ (.string S89) = Y := ⟨_, rfl⟩
        rw [hY95] at C93
        obtain ⟨PV97, hPV98⟩ : ∃ P : Pk, { (PV85 : Pk) with pass := S89 } = P := ⟨_, rfl⟩
        rw [hPV98] at C93
        replace hPV98 := Lib.hid hPV98
        have HZ : Hid (RR = (PV97, a90, e91)) := Lib.hid (by rw [HQ63.out]; unfold rc4; rw [if_pos hb87]; simp only; rw [HS96.out, ← hPV98.out])
        have hl := ld_bk C93.out.pk
        have hst := run_stPk C93.out.res
        go_wp2
        refine bodyPost_ret (results_c1 rfl _ rfl (put_bk C93.out.res _ _)) rfl ?_
        rw [HZ.out]
        exact C93.out.fin
end Go.Proofs.YtngnaenbnmajdaaGreat

namespace Go.Proofs.YtngnaenbnmajdaaGreat
open Go.RowKit
attribute [local go_sem ↓] to_ldPk to_bxPk to_bdPk to_alPk to_stPk
attribute [local go_sem] run_bxPk run_bxPk_agg ld_fresh run_alPk run_bd0 run_bdK run_bdKI run_bdKIC run_bdKC run_bdKICP run_stPk_fresh pkC_0 pkC_1 pkC_2 pkC_3 pkC_4 pkC_5 pkC_6 pkC_7 pkC_8 pkC_9 pkC_10 pkC_11 pkC_12 pkC_13 pkC_14 pkC_15 pkC_16 pkC_17 pkC_18 pkC_19 pkC_20 pkC_21 pkC_22 pkC_23 pkC_24

theorem rt_lt (t : ByteArray) (a : Nat) (e : Int) (ha : a ≤ t.size) : (rtC t a e).1.size ≤ 65535 ∧ (rtC t a e).2.1 ≤ t.size := ⟨(rtC_le ha).2, (rtC_le ha).1⟩
theorem rb_lt (t : ByteArray) (a : Nat) (e : Int) (ha : a ≤ t.size) : (rbC t a e).1.size ≤ 65535 := (rbC_le ha).2
theorem rb_le (t : ByteArray) (a : Nat) (e : Int) (ha : a ≤ t.size) : (rbC t a e).2.1 ≤ t.size := (rbC_le ha).1
theorem rc1_ok {v : Int} {t : ByteArray} (ht : t.size ≤ 140737488351232) : RdOk t (rc1 v t) := by
  have h0 : (takeS t 0 0 6).2.1 ≤ t.size := takeS_le (Nat.zero_le _) _ _
  have h1 : (cnV v t).1 ≤ t.size := takeS_le h0 _ _
  have h2 : (cnF v t).2.1 ≤ t.size := takeS_le h1 _ _
  have h3 : (cnK v t).2.1 ≤ t.size := takeS_le h2 _ _
  have h4 : (cnP v t).2.1 ≤ t.size := prp_le h3
  have h5 := rt_lt t (cnP v t).2.1 (cnP v t).2.2 h4
  have h6 : (∀ p ∈ (cnP v t).1, prGood p) ∧ (cnP v t).1.length ≤ 1000 := prp_good ht
  have hc : (rcT v t).1.size ≤ 65535 := h5.1
  exact ⟨⟨fun _ h => (nomatch h), h6.1, fun _ h => (nomatch h), ⟨Nat.zero_le _, Nat.zero_le _, Nat.le_trans hc (by decide), Nat.zero_le _, Nat.zero_le _, Nat.zero_le _, Nat.zero_le _⟩, Nat.zero_le _, Nat.zero_le _, Nat.zero_le _, Nat.le_trans h6.2 (by decide)⟩, h5.2⟩
theorem rc2_ok {v : Int} {t : ByteArray} (ht : t.size ≤ 140737488351232) {r : Pk × Nat × Int} (g : RdOk t r) : RdOk t (rc2 v t r) := by
  unfold rc2
  split
  · have h1 : (rcWP v t r.2.1 r.2.2).2.1 ≤ t.size := prp_le g.le
    have h2 := rt_lt t _ (rcWP v t r.2.1 r.2.2).2.2 h1
    have h3 : (rcWB v t r.2.1 r.2.2).1.size ≤ 65535 := rb_lt t _ _ h2.2
    have h4 : (rcWB v t r.2.1 r.2.2).2.1 ≤ t.size := rb_le t _ _ h2.2
    have h5 : (∀ p ∈ (rcWP v t r.2.1 r.2.2).1, prGood p) ∧ (rcWP v t r.2.1 r.2.2).1.length ≤ 1000 := prp_good ht
    have hc : (rcWT v t r.2.1 r.2.2).1.size ≤ 65535 := h2.1
    have hg := g.ok.texts
    exact ⟨⟨h5.1, g.ok.props, g.ok.topics, ⟨hg.1, hg.2.1, hg.2.2.1, hg.2.2.2.1, hg.2.2.2.2.1, Nat.le_trans hc (by decide), Nat.le_trans h3 (by decide)⟩, Nat.le_trans h5.2 (by decide), g.ok.lens.2⟩, h4⟩
  · exact g
theorem rc3_ok {t : ByteArray} {r : Pk × Nat × Int} (g : RdOk t r) : RdOk t (rc3 t r) := by
  unfold rc3
  split
  · have h2 := rt_lt t r.2.1 r.2.2 g.le
    have hg := g.ok.texts
    exact ⟨⟨g.ok.wp, g.ok.props, g.ok.topics, ⟨hg.1, hg.2.1, hg.2.2.1, Nat.le_trans h2.1 (by decide), hg.2.2.2.2.1, hg.2.2.2.2.2⟩, g.ok.lens⟩, h2.2⟩
  · exact g
theorem rc4_ok {t : ByteArray} {r : Pk × Nat × Int} (g : RdOk t r) : RdOk t (rc4 t r) := by
  unfold rc4
  split
  · have h2 := rb_lt t r.2.1 r.2.2 g.le
    have hg := g.ok.texts
    exact ⟨⟨g.ok.wp, g.ok.props, g.ok.topics, ⟨hg.1, hg.2.1, hg.2.2.1, hg.2.2.2.1, Nat.le_trans h2 (by decide), hg.2.2.2.2.2⟩, g.ok.lens⟩, rb_le t _ _ g.le⟩
  · exact g
theorem rcRd_ok {v : Int} {t : ByteArray} (ht : t.size ≤ 140737488351232) : RdOk t (rcRd v t) := rc4_ok (rc3_ok (rc2_ok ht (rc1_ok ht)))
/-- Done, as the program has it. -/
theorem done_ref {v : Int} {t : ByteArray} {r : Pk × Nat × Int} (h : r.2.1 ≤ t.size) : doneR r.1 t r.2.1 r.2.2 (cntE v r.1) = cnDone v t r := by
  have e1 : (if r.2.2 = 0 ∧ r.2.1 < t.size then 5 else r.2.2) = cnEnd t r := by
    unfold cnEnd failE
    by_cases h0 : r.2.2 = 0
    · by_cases hl : r.2.1 < t.size
      · rw [if_pos ⟨h0, hl⟩, if_neg (by omega), if_pos h0]
      · rw [if_neg (fun y => hl y.2), if_pos (by omega)]
    · rw [if_neg (fun y => h0 y.1), if_neg h0]
      split <;> rfl
  unfold doneR doneE cnDone
  rw [e1]
  by_cases hz : cnEnd t r = 0
  · rw [if_pos hz, if_neg (show ¬ (cnEnd t r ≠ 0) from fun y => y hz)]
  · rw [if_neg hz, if_pos hz, if_pos hz]
/-- What stands while Read goes: the result's block, the cursor, the reader, the packet. -/
structure RQ (w : World) (gc gp : Nat) (p : Pk) (h : Hs) (t : ByteArray) (a : Nat) (e : Int) (x : World) : Prop where
  kept : Below w.heap.size w x
  res : Bk x w.heap.size PkT (pkC pk0 hs0)
  pk : Bk x gp PkT (pkC p h)
  into : PkIn x x.heap.size p h
  flat : p.codes = [] ∧ p.filters = []
  cur : RCur x gc t a e
  ne : w.heap.size < gc ∧ gc < gp
section
variable {w x y : World} {gc gp : Nat} {p p' : Pk} {h h' : Hs} {t : ByteArray} {a a' : Nat} {e e' : Int}
theorem RQ.below (c : RQ w gc gp p h t a e x) (hb : Below x.heap.size x y) : RQ w gc gp p h t a e y :=
  ⟨c.kept.trans (hb.mono c.kept.size), c.res.below hb c.res.lt, c.pk.below hb c.pk.lt, c.into.next hb, c.flat, c.cur.below hb, c.ne⟩
theorem RQ.drewN (c : RQ w gc gp p h t a e x) (n : Nat) : RQ w gc gp p h t a e (x.drewN n) := c.below (below_drawn (Below.refl _ _) n)
theorem RQ.turn (c : RQ w gc gp p h t a e x) (hc : RCur y gc t a' e') (hm : x.grownBy y (some gc)) : RQ w gc gp p h t a' e' y :=
  ⟨below_mod c.kept hm c.kept.size (Nat.le_of_lt c.ne.1), c.res.mods (S := fun z => z = gc) (Mods.of_grown hm rfl) (by have := c.ne; omega), c.pk.mods (S := fun z => z = gc) (Mods.of_grown hm rfl) (by have := c.ne; omega), c.into.blk c.flat.1 c.flat.2 c.cur.1 (rcur_no32 _ _ _) hm, c.flat, hc, c.ne⟩
/-- The packet that was read, stored. -/
theorem RQ.put (c : RQ w gc gp p h t a e x) (hi : PkIn x x.heap.size p' h') (hf : p'.codes = [] ∧ p'.filters = []) : RQ w gc gp p' h' t a e (putPk x gp p' h') := by
  have hm := putPk_mods x gp p' h'
  exact ⟨below_put c.kept c.kept.size (by have := c.ne; omega) _ _, c.res.mods (S := fun z => z = gp) (Mods.of_grown hm rfl) (by have := c.ne; omega), put_bk c.pk _ _, hi.blk hf.1 hf.2 c.pk (pk_no32 _ _) hm, hf, ⟨c.cur.1.mods (S := fun z => z = gp) (Mods.of_grown hm rfl) (by have := c.ne; omega), c.cur.2⟩, c.ne⟩
theorem RQ.bad (c : RQ w gc gp p h t a e x) {r : Pk × Int} {n : Int} (hr : r = (pk0, n)) : PkOut r w (.returned (.tuple #[pkV pk0 hs0, .int .i64 n])) (putPk x w.heap.size pk0 hs0) :=
  pkOut_bad hr (below_put c.kept c.kept.size (Nat.le_refl _) _ _)
theorem RQ.good (c : RQ w gc gp p h t a e x) {r : Pk × Int} (hr : r = (p, 0)) : PkOut r w (.returned (.tuple #[pkV p h, .int .i64 0])) (putPk x w.heap.size p h) :=
  pkOut_ok hr (c.into.blk c.flat.1 c.flat.2 c.res (pk_no32 _ _) (putPk_mods _ _ _ _)) (below_put c.kept c.kept.size (Nat.le_refl _) _ _)
end
end Go.Proofs.YtngnaenbnmajdaaGreat

namespace Go.Proofs.YtngnaenbnmajdaaGreat
open Go.RowKit
attribute [local go_sem ↓] to_ldPk to_bxPk to_bdPk to_alPk to_stPk
attribute [local go_sem] run_bxPk run_bxPk_agg ld_fresh run_alPk run_bd0 run_bdK run_bdKI run_bdKIC run_bdKC run_bdKICP run_stPk_fresh pkC_0 pkC_1 pkC_2 pkC_3 pkC_4 pkC_5 pkC_6 pkC_7 pkC_8 pkC_9 pkC_10 pkC_11 pkC_12 pkC_13 pkC_14 pkC_15 pkC_16 pkC_17 pkC_18 pkC_19 pkC_20 pkC_21 pkC_22 pkC_23 pkC_24

section
variable {w x y : World} {gc gp : Nat} {p : Pk} {h : Hs} {t : ByteArray} {a : Nat} {e : Int}
theorem RQ.stay (c : RQ w gc gp p h t a e x) (hm : Mods (fun z => z = gc) x y) : PkIn y y.heap.size p h := c.into.blk c.flat.1 c.flat.2 c.cur.1 (rcur_no32 _ _ _) hm.grown
theorem RQ.done {r : Pk × Int} {kk : Hs} (c : RQ w gc gp p h t a e x) (hm : x.grownBy y (some gc)) (hst : ∀ z, y.grownBy z (some w.heap.size) → PkIn z z.heap.size r.1 kk) :
    Below w.heap.size w (putPk y w.heap.size r.1 kk) ∧ Bk (putPk y w.heap.size r.1 kk) w.heap.size PkT (pkC r.1 kk) ∧ PkIn (putPk y w.heap.size r.1 kk) (putPk y w.heap.size r.1 kk).heap.size r.1 kk :=
  ⟨below_put (below_mod c.kept hm c.kept.size (Nat.le_of_lt c.ne.1)) (Nat.le_trans c.kept.size hm.size) (Nat.le_refl _) _ _, put_bk (c.res.mods (S := fun z => z = gc) (Mods.of_grown hm rfl) (by have := c.ne; omega)) _ _, hst _ (putPk_mods _ _ _ _)⟩
end
theorem run_bdKSC (k : Int) (b : Bool) (c : Int) (w : World) : (bdPk #[(0, .int .i64 k), (16, .bool b), (17, .int .i64 c)]).run Tryz.prog w = .ok (pkV { pk0 with kind := k, session := b, code := c } hs0) w := by kernel_rfl
theorem pkT_in (w : World) (B : Nat) (b : Bool) (c : Int) : PkIn w B { pk0 with kind := 2, session := b, code := c } hs0 := ⟨Rd.nil _ _ _ _, Rd.nil _ _ _ _, Rd.nil _ _ _ _, Rd.nil _ _ _ _, Nat.zero_le _, Nat.zero_le _, Nat.zero_le _, Nat.zero_le _⟩
theorem RQ.setP {w x : World} {gc gp : Nat} {p : Pk} {h : Hs} {t : ByteArray} {a : Nat} {e : Int} (c : RQ w gc gp p h t a e x) {A : Option Addr} {n : Nat} {l : List Pr} (hr : Rd x x.heap.size 4 A l.length (prs l)) (hn : l.length ≤ n) :
    RQ w gc gp { p with props := l } { h with props := ⟨A, n⟩ } t a e (x.setCell ⟨gp, 24, none⟩ (.slice A l.length n)) := by
  have hm := mod_set x gp 24 (.slice A l.length n)
  have := c.into.blk c.flat.1 c.flat.2 c.pk (pk_no32 _ _) hm
  exact ⟨below_mod c.kept hm c.kept.size (by have := c.ne; omega), c.res.other (by have := c.ne; simp; omega) _, c.pk.upd 24 _ rfl,
    ⟨this.wp, this.codes, this.filters, (hr.other c.pk (pk_no32 _ _) hm (Nat.le_refl _)).wider hm.size, this.caps.1, this.caps.2.1, this.caps.2.2.1, hn⟩, c.flat, ⟨c.cur.1.other (by have := c.ne; simp; omega) _, c.cur.2⟩, c.ne⟩
set_option maxHeartbeats 8000000 in
set_option maxRecDepth 10000 in
theorem ref8Read_any (v k : Int) (s : ByteArray) (w : World) (hs : s.size ≤ 140737488351232) :
    Calls Tryz.prog 10 #[.int .i64 v, .int .i64 k, .string s] w (PkOut (cntR v k s) w) := by
  have HS0 := Lib.hid hs
  have HB0 := Lib.hid ((Below.refl w.heap.size w).alloc (Nat.le_refl _) (.cells (pkC pk0 hs0) PkT))
  have HR0 := Lib.hid (Bk.fresh w PkT (pkC pk0 hs0))
  have hst0 := run_stPk HR0.out
  have HE : Hid (cntR v k s = if hdKnown v = false ∨ cntOurs k = false then (pk0, 2) else cnDone v s (if k = 1 then cnRd v s else caRd v s)) := Lib.hid rfl
  clear hs
  go_enter Tryz.func10, Tryz.ntmps10
  go_wp2_with fail
  refine (refVersion_any v _).mono ?_
  rintro e w1 ⟨rfl, rfl⟩
  cases hk : hdKnown v
  · have HX : Hid (cntR v k s = (pk0, 2)) := Lib.hid (by rw [HE.out, if_pos (.inl hk)])
    clear hk
    go_wp2
    refine bodyPost_ret (results_pk rfl _ rfl (put_bk HR0.out _ _)) rfl ?_
    exact pkOut_bad HX.out (below_put HB0.out HB0.out.size (Nat.le_refl _) _ _)
  have HV : Hid (v = 4 ∨ v = 5) := Lib.hid (of_decide_eq_true (show decide (v = 4 ∨ v = 5) = true from hk))
  cases ho : cntOurs k
  · have HX : Hid (cntR v k s = (pk0, 2)) := Lib.hid (by rw [HE.out, if_pos (.inr ho)])
    have n1 : (k != 1) = true := bne_iff_ne.2 (fun y => of_decide_eq_false ho (.inl y))
    have n2 : (k != 2) = true := bne_iff_ne.2 (fun y => of_decide_eq_false ho (.inr y))
    clear hk ho
    go_wp2
    refine bodyPost_ret (results_pk rfl _ rfl (put_bk HR0.out _ _)) rfl ?_
    exact pkOut_bad HX.out (below_put HB0.out HB0.out.size (Nat.le_refl _) _ _)
  have HO := Lib.hid (of_decide_eq_true ho)
  have HF : Hid (cntR v k s = cnDone v s (if k = 1 then rcRd v s else caRd v s)) := Lib.hid (cntR_ref hk ho)
  clear hk ho hst0 HE
  by_cases hk1 : k = 1
  · have e1 : (k == 1) = true := beq_iff_eq.2 hk1
    have n1 : (k != 1) = false := by simp [hk1]
    have HOK := Lib.hid (rcRd_ok (v := v) HS0.out).ok
    have HRR : Hid (cntR v k s = doneR (rcRd v s).1 s (rcRd v s).2.1 (rcRd v s).2.2 (cntE v (rcRd v s).1)) := Lib.hid (by rw [HF.out, if_pos hk1, done_ref (rcRd_ok HS0.out).le])
    clear hk1
    go_wp2_with fail
    refine (refNew_any s _ (by have := HS0.out; omega)).mono ?_
    rintro e w1 ⟨rfl, hcu, hb⟩
    have hgc : (w.alloc (.cells (pkC pk0 hs0) PkT)).heap.size = w.heap.size + 1 := by simp
    rw [hgc] at hcu ⊢
    have HZ := Lib.hid hcu.lt
    have I0 : Hid (RQ w (w.heap.size + 1) w1.heap.size pk0 hs0 s 0 0 (w1.alloc (.cells (pkC pk0 hs0) PkT))) := Lib.hid
      ⟨(HB0.out.trans (hb.mono HB0.out.size)).alloc (HB0.out.trans (hb.mono HB0.out.size)).size _, (HR0.out.below hb HR0.out.lt).alloc _, Bk.fresh w1 PkT _, pk0_in _ _, ⟨rfl, rfl⟩, hcu.below ((Below.refl _ _).alloc (Nat.le_refl _) _), by omega, HZ.out⟩
    clear hcu hb hgc HB0 HR0 HZ
    go_wp2_with fail
    refine (refConnect_any (w.heap.size + 1) s v _ I0.out.cur HS0.out HV.out).mono ?_
    rintro e y ⟨kq, rfl, hi, hf, hc, hm⟩
    generalize rcRd v s = r at *
    obtain ⟨P, a, e⟩ := r
    simp only at hi hf hc HOK HRR ⊢
    have I1 := Lib.hid (I0.out.turn hc hm)
    have I2 := Lib.hid (I1.out.put hi hf)
    have hst := run_stPk I1.out.pk
    clear hi hf hc hm I0
    have HS := ld_bk (I2.out.pk.drewN 1)
    go_wp2_with fail
    refine wp_region_D (fun w' => (ldPk (.pointer (some ⟨w1.heap.size, 0, none⟩))).run Tryz.prog w' = .ok (pkV (P) kq) w') [5] (by kernel_rfl) ?_
    refine anyD_take (i := 0) (v := ?vq3_0) [5] rfl (by kernel_rfl) (by kernel_rfl) (by kernel_rfl) (by kernel_rfl) (by kernel_rfl) (by kernel_rfl) (fun _ _ _ h => h) (Or.inl ⟨by rfl, ?hq3_0⟩) HS ?rq3_0
    case hq3_0 => intro w' hSw; (try dsimp only at hSw); go_simp; try with_reducible rfl
    (try simp only [Act.put]); (try simp only [List.setIfInBounds_toArray]); (try simp only [List.set_cons_succ]); (try simp only [List.set_cons_zero])
    refine anyD_take (i := 1) (v := ?vq3_1) [5] rfl (by kernel_rfl) (by kernel_rfl) (by kernel_rfl) (by kernel_rfl) (by kernel_rfl) (by kernel_rfl) (fun _ _ _ h => h) (Or.inl ⟨by rfl, ?hq3_1⟩) HS ?rq3_1
    case hq3_1 => intro w' hSw; (try dsimp only at hSw); go_simp; try with_reducible rfl
    (try simp only [Act.put]); (try simp only [List.setIfInBounds_toArray]); (try simp only [List.set_cons_succ]); (try simp only [List.set_cons_zero])
    refine anyD_take (i := 2) (v := ?vq3_2) [4, 5] rfl (by kernel_rfl) (by kernel_rfl) (by kernel_rfl) (by kernel_rfl) (by kernel_rfl) (by kernel_rfl) (fun _ _ _ h => h) (Or.inl ⟨by rfl, ?hq3_2⟩) HS ?rq3_2
    case hq3_2 => intro w' hSw; (try dsimp only at hSw); go_simp; try with_reducible rfl
    (try simp only [Act.put]); (try simp only [List.setIfInBounds_toArray]); (try simp only [List.set_cons_succ]); (try simp only [List.set_cons_zero])
    refine anyD_take (i := 3) (v := ?vq3_3) [4, 5] rfl (by kernel_rfl) (by kernel_rfl) (by kernel_rfl) (by kernel_rfl) (by kernel_rfl) (by kernel_rfl) (fun _ _ _ h => h) (Or.inl ⟨by rfl, ?hq3_3⟩) HS ?rq3_3
    case hq3_3 => intro w' hSw; (try dsimp only at hSw); go_simp; try with_reducible rfl
    (try simp only [Act.put]); (try simp only [List.setIfInBounds_toArray]); (try simp only [List.set_cons_succ]); (try simp only [List.set_cons_zero])
    refine anyD_ready (rs := [4]) (by kernel_rfl) (by simp) (AllD.cons rfl (fun K hK => ?_) AllD.nil)
    go_simp
    go_at_call 13
    refine (refCntValid_any v P kq _ (I2.out.drewN 1).into HOK.out).mono ?_
    rintro e' z1 ⟨rfl, hb⟩
    have J1 := Lib.hid ((I2.out.drewN 1).below hb); clear hb HS
    have HS := ld_bk J1.out.pk
    go_simp
    refine hK.out _ _ (fun _ => HS) ?_
    clear hK K
    (try simp only [Act.put]); (try simp only [List.setIfInBounds_toArray]); (try simp only [List.set_cons_succ]); (try simp only [List.set_cons_zero])
    refine anyD_ready (rs := [5]) (by kernel_rfl) (by simp) (AllD.cons rfl (fun K hK => ?_) AllD.nil)
    go_simp
    go_at_call 42
    refine (refDone_any (w.heap.size + 1) a s e (cntE v P) (P) kq _ J1.out.cur (fun y hm => J1.out.stay hm)).mono ?_
    rintro e' z2 ⟨kk, rfl, hi, hm⟩
    go_simp
    refine hK.out _ _ (fun hn => absurd (hn 5 (by simp)) (by decide)) (anyD_late (d := 5) (by simp) _ _ _ _ (by kernel_rfl) ?_)
    clear hK K HS
    (try simp only [Act.put]); (try simp only [List.setIfInBounds_toArray]); (try simp only [List.set_cons_succ]); (try simp only [List.set_cons_zero])
    have HRL := Lib.hid (doneR_lists (p := P) (t := s) (a := a) (e := e) (x := cntE v P) J1.out.flat.1 J1.out.flat.2)
    obtain ⟨R, hR⟩ : ∃ R, doneR P s a e (cntE v P) = R := ⟨_, rfl⟩
    rw [hR] at hi HRR HRL ⊢
    clear hR
    have HST : Hid (∀ y, z2.grownBy y (some w.heap.size) → PkIn y y.heap.size R.1 kk) := Lib.hid (fun y hy => PkIn.other_blk hi HRL.out.1 HRL.out.2 (J1.out.res.mods (S := fun z => z = w.heap.size + 1) (Mods.of_grown hm rfl) (by omega)) (pk_no32 _ _) hy)
    have HFD := Lib.hid (J1.out.done (r := R) hm HST.out)
    have hst := run_stPk (J1.out.res.mods (S := fun z => z = w.heap.size + 1) (Mods.of_grown hm rfl) (by omega))
    refine wpAny_take (i := 6) (v := ?vq3_6) rfl (by kernel_rfl) (by kernel_rfl) (by kernel_rfl) (fun _ _ _ h => h) (Or.inl ⟨by rfl, ?hq3_6⟩) ?rq3_6
    case hq3_6 => intro w'; go_simp; try with_reducible rfl
    (try simp only [Act.put]); (try simp only [List.setIfInBounds_toArray]); (try simp only [List.set_cons_succ]); (try simp only [List.set_cons_zero])
    refine wpAny_take (i := 7) (v := ?vq3_7) rfl (by kernel_rfl) (by kernel_rfl) (by kernel_rfl) (fun _ _ _ h => h) (Or.inl ⟨by rfl, ?hq3_7⟩) ?rq3_7
    case hq3_7 => intro w'; go_simp; try with_reducible rfl
    (try simp only [Act.put]); (try simp only [List.setIfInBounds_toArray]); (try simp only [List.set_cons_succ]); (try simp only [List.set_cons_zero])
    refine wpAny_ready (rs := [8]) (by kernel_rfl) (by simp) (allShut rfl (fun K hK => ?_) AllReady.nil)
    go_simp
    refine hK.out _ _ ?_
    clear hK K
    (try simp only [Act.put]); (try simp only [List.setIfInBounds_toArray]); (try simp only [List.set_cons_succ]); (try simp only [List.set_cons_zero])
    refine wpAny_ready (rs := [9]) (by kernel_rfl) (by simp) (allShut rfl (fun K hK => ?_) AllReady.nil)
    go_simp
    refine hK.out _ _ ?_
    clear hK K
    (try simp only [Act.put]); (try simp only [List.setIfInBounds_toArray]); (try simp only [List.set_cons_succ]); (try simp only [List.set_cons_zero])
    refine wpAny_done (by kernel_rfl) ?_ _
    go_wp2
    refine bodyPost_ret (results_pk rfl _ rfl HFD.out.2.1) rfl ?_
    rw [HRR.out]
    exact ⟨kk, rfl, HFD.out.2.2, HFD.out.1⟩
  · have hk2 : k = 2 := HO.out.resolve_left hk1
    have HF2 : Hid (cntR v k s = cnDone v s (caRd v s)) := Lib.hid (HF.out.trans (by rw [if_neg hk1]))
    clear HF HO hk1
    subst hk2
    have HOK := Lib.hid (caRd_ok (v := v) HS0.out).ok
    have HRR : Hid (cntR v 2 s = doneR (caRd v s).1 s (caRd v s).2.1 (caRd v s).2.2 (cntE v (caRd v s).1)) := Lib.hid (by rw [HF2.out, done_ref (caRd_ok HS0.out).le])
    clear HF2
    go_wp2_with fail
    refine (refNew_any s _ (by have := HS0.out; omega)).mono ?_
    rintro e w1 ⟨rfl, hcu, hb⟩
    have hgc : (w.alloc (.cells (pkC pk0 hs0) PkT)).heap.size = w.heap.size + 1 := by simp
    rw [hgc] at hcu ⊢
    have HZ := Lib.hid hcu.lt
    have I0 : Hid (RQ w (w.heap.size + 1) w1.heap.size pk0 hs0 s 0 0 (w1.alloc (.cells (pkC pk0 hs0) PkT))) := Lib.hid
      ⟨(HB0.out.trans (hb.mono HB0.out.size)).alloc (HB0.out.trans (hb.mono HB0.out.size)).size _, (HR0.out.below hb HR0.out.lt).alloc _, Bk.fresh w1 PkT _, pk0_in _ _, ⟨rfl, rfl⟩, hcu.below ((Below.refl _ _).alloc (Nat.le_refl _) _), by omega, HZ.out⟩
    clear hcu hb hgc HB0 HR0 HZ
    go_wp2_with fail
    refine (refNumber_any (w.heap.size + 1) 0 s 0 1 _ I0.out.cur (by decide)).mono ?_
    rintro e' y1 ⟨rfl, hc, hm⟩
    have I1 := Lib.hid (I0.out.turn hc hm)
    have HF1 : Hid (caF s = (numS s 0 0 1, (takeS s 0 0 1).2.1, if numS s 0 0 1 ≤ 1 then (takeS s 0 0 1).2.2 else failE (takeS s 0 0 1).2.2 7)) := Lib.hid rfl
    generalize numS s 0 0 1 = n0 at *
    generalize (takeS s 0 0 1).2.1 = a0 at *
    generalize (takeS s 0 0 1).2.2 = e0 at *
    clear hc hm I0
    obtain ⟨bs, hbs⟩ : ∃ b, ((n0 : Int) == 1) = b := ⟨_, rfl⟩
    have HBS : Hid (decide (n0 = 1) = bs) := Lib.hid (by rw [← hbs, Bool.eq_iff_iff, decide_eq_true_iff, beq_iff_eq]; omega)
    by_cases hq : n0 ≤ 1
    · have HF0 : Hid (caF s = (n0, a0, e0)) := Lib.hid (by rw [HF1.out, if_pos hq])
      have dq : ¬ 1 < n0 := by omega
      have dq' : (n0 : Int) ≤ 1 := by omega
      clear hq HF1
      go_wp2_with fail
      refine (refNumber_any (w.heap.size + 1) a0 s e0 1 _ I1.out.cur (by decide)).mono ?_
      rintro e' y2 ⟨rfl, hc, hm⟩
      have I3 := Lib.hid (I1.out.turn hc hm)
      have HC0 : Hid (caC s = (numS s a0 e0 1, (takeS s a0 e0 1).2.1, (takeS s a0 e0 1).2.2)) := Lib.hid (by unfold caC; rw [HF0.out])
      have HCL := Lib.hid (num_one_lt s a0 e0)
      generalize numS s a0 e0 1 = c0 at *
      generalize (takeS s a0 e0 1).2.1 = a1 at *
      generalize (takeS s a0 e0 1).2.2 = e1 at *
      have hwc : IntKind.i64.wrap (c0 : Int) = (c0 : Int) := by rw [IntKind.wrap_i64]; have := HCL.out; omega
      have hbd := run_bdKSC 2 bs (c0 : Int)
      have I4 := Lib.hid (I3.out.put (p' := { pk0 with kind := 2, session := bs, code := (c0 : Int) }) (h' := hs0) (pkT_in _ _ _ _) ⟨rfl, rfl⟩)
      have hst := run_stPk I3.out.pk
      clear hc hm
      obtain ⟨Y, hY⟩ : ∃ Y, putPk y2 w1.heap.size { pk0 with kind := 2, session := bs, code := (c0 : Int) } hs0 = Y := ⟨_, rfl⟩
      rw [hY] at I4
      go_wp2_with fail
      clear hst hbd hwc hbs
      refine (refProps_any v 2 (w.heap.size + 1) a1 s e1 _ I4.out.cur HS0.out).mono ?_
      rintro e' y ⟨A, c, rfl, hlc, hr, hc, hm⟩
      rw [props_eq] at hlc hr hc ⊢
      have HRD : Hid (caRd v s = (caPk n0 c0 (prpC v 2 s a1 e1).1, (prpC v 2 s a1 e1).2.1, (prpC v 2 s a1 e1).2.2)) := Lib.hid (by unfold caRd caP; rw [HC0.out, HF0.out])
      generalize prpC v 2 s a1 e1 = r at *
      obtain ⟨l, a, e⟩ := r
      simp only at hlc hr hc HRD ⊢
      rw [HRD.out] at HRR HOK
      simp only at HRR HOK
      have I5 := Lib.hid (I4.out.turn hc hm)
      have I2' := Lib.hid (I5.out.setP hr hlc)
      have f24 := I5.out.pk.free 24; have p24 := (I5.out.pk.cell 24).trans (pkC_24 _ _)
      have HPP : Hid (({ pk0 with kind := 2, session := bs, code := (c0 : Int), props := l } : Pk) = caPk n0 c0 l) := Lib.hid (by rw [← HBS.out]; rfl)
      rw [HPP.out] at I2'
      obtain ⟨P, hP⟩ : ∃ P, caPk n0 c0 l = P := ⟨_, rfl⟩
      obtain ⟨kq, hkq⟩ : ∃ K : Hs, { hs0 with props := ⟨A, c⟩ } = K := ⟨_, rfl⟩
      rw [hP, hkq] at I2'
      rw [hP] at HRR HOK
      clear hlc hr hc hm hP hkq
      have I2 := I2'
      clear I2'
      obtain ⟨Z, hZ⟩ : ∃ Z, y.setCell ⟨w1.heap.size, 24, none⟩ (.slice A l.length c) = Z := ⟨_, rfl⟩
      rw [hZ] at I2
      have HS := ld_bk (I2.out.pk.drewN 1)
      go_wp2_with fail
      refine wp_region_D (fun w' => (ldPk (.pointer (some ⟨w1.heap.size, 0, none⟩))).run Tryz.prog w' = .ok (pkV (P) kq) w') [5] (by kernel_rfl) ?_
      refine anyD_take (i := 0) (v := ?vq1_0) [5] rfl (by kernel_rfl) (by kernel_rfl) (by kernel_rfl) (by kernel_rfl) (by kernel_rfl) (by kernel_rfl) (fun _ _ _ h => h) (Or.inl ⟨by rfl, ?hq1_0⟩) HS ?rq1_0
      case hq1_0 => intro w' hSw; (try dsimp only at hSw); go_simp; try with_reducible rfl
      (try simp only [Act.put]); (try simp only [List.setIfInBounds_toArray]); (try simp only [List.set_cons_succ]); (try simp only [List.set_cons_zero])
      refine anyD_take (i := 1) (v := ?vq1_1) [5] rfl (by kernel_rfl) (by kernel_rfl) (by kernel_rfl) (by kernel_rfl) (by kernel_rfl) (by kernel_rfl) (fun _ _ _ h => h) (Or.inl ⟨by rfl, ?hq1_1⟩) HS ?rq1_1
      case hq1_1 => intro w' hSw; (try dsimp only at hSw); go_simp; try with_reducible rfl
      (try simp only [Act.put]); (try simp only [List.setIfInBounds_toArray]); (try simp only [List.set_cons_succ]); (try simp only [List.set_cons_zero])
      refine anyD_take (i := 2) (v := ?vq1_2) [4, 5] rfl (by kernel_rfl) (by kernel_rfl) (by kernel_rfl) (by kernel_rfl) (by kernel_rfl) (by kernel_rfl) (fun _ _ _ h => h) (Or.inl ⟨by rfl, ?hq1_2⟩) HS ?rq1_2
      case hq1_2 => intro w' hSw; (try dsimp only at hSw); go_simp; try with_reducible rfl
      (try simp only [Act.put]); (try simp only [List.setIfInBounds_toArray]); (try simp only [List.set_cons_succ]); (try simp only [List.set_cons_zero])
      refine anyD_take (i := 3) (v := ?vq1_3) [4, 5] rfl (by kernel_rfl) (by kernel_rfl) (by kernel_rfl) (by kernel_rfl) (by kernel_rfl) (by kernel_rfl) (fun _ _ _ h => h) (Or.inl ⟨by rfl, ?hq1_3⟩) HS ?rq1_3
      case hq1_3 => intro w' hSw; (try dsimp only at hSw); go_simp; try with_reducible rfl
      (try simp only [Act.put]); (try simp only [List.setIfInBounds_toArray]); (try simp only [List.set_cons_succ]); (try simp only [List.set_cons_zero])
      refine anyD_ready (rs := [4]) (by kernel_rfl) (by simp) (AllD.cons rfl (fun K hK => ?_) AllD.nil)
      go_simp
      go_at_call 13
      refine (refCntValid_any v P kq _ (I2.out.drewN 1).into HOK.out).mono ?_
      rintro e' z1 ⟨rfl, hb⟩
      have J1 := Lib.hid ((I2.out.drewN 1).below hb); clear hb HS
      have HS := ld_bk J1.out.pk
      go_simp
      refine hK.out _ _ (fun _ => HS) ?_
      clear hK K
      (try simp only [Act.put]); (try simp only [List.setIfInBounds_toArray]); (try simp only [List.set_cons_succ]); (try simp only [List.set_cons_zero])
      refine anyD_ready (rs := [5]) (by kernel_rfl) (by simp) (AllD.cons rfl (fun K hK => ?_) AllD.nil)
      go_simp
      go_at_call 42
      refine (refDone_any (w.heap.size + 1) a s e (cntE v P) (P) kq _ J1.out.cur (fun y hm => J1.out.stay hm)).mono ?_
      rintro e' z2 ⟨kk, rfl, hi, hm⟩
      go_simp
      refine hK.out _ _ (fun hn => absurd (hn 5 (by simp)) (by decide)) (anyD_late (d := 5) (by simp) _ _ _ _ (by kernel_rfl) ?_)
      clear hK K HS
      (try simp only [Act.put]); (try simp only [List.setIfInBounds_toArray]); (try simp only [List.set_cons_succ]); (try simp only [List.set_cons_zero])
      have HRL := Lib.hid (doneR_lists (p := P) (t := s) (a := a) (e := e) (x := cntE v P) J1.out.flat.1 J1.out.flat.2)
      obtain ⟨R, hR⟩ : ∃ R, doneR P s a e (cntE v P) = R := ⟨_, rfl⟩
      rw [hR] at hi HRR HRL ⊢
      clear hR
      have HST : Hid (∀ y, z2.grownBy y (some w.heap.size) → PkIn y y.heap.size R.1 kk) := Lib.hid (fun y hy => PkIn.other_blk hi HRL.out.1 HRL.out.2 (J1.out.res.mods (S := fun z => z = w.heap.size + 1) (Mods.of_grown hm rfl) (by omega)) (pk_no32 _ _) hy)
      have HFD := Lib.hid (J1.out.done (r := R) hm HST.out)
      have hst := run_stPk (J1.out.res.mods (S := fun z => z = w.heap.size + 1) (Mods.of_grown hm rfl) (by omega))
      refine wpAny_take (i := 6) (v := ?vq1_6) rfl (by kernel_rfl) (by kernel_rfl) (by kernel_rfl) (fun _ _ _ h => h) (Or.inl ⟨by rfl, ?hq1_6⟩) ?rq1_6
      case hq1_6 => intro w'; go_simp; try with_reducible rfl
      (try simp only [Act.put]); (try simp only [List.setIfInBounds_toArray]); (try simp only [List.set_cons_succ]); (try simp only [List.set_cons_zero])
      refine wpAny_take (i := 7) (v := ?vq1_7) rfl (by kernel_rfl) (by kernel_rfl) (by kernel_rfl) (fun _ _ _ h => h) (Or.inl ⟨by rfl, ?hq1_7⟩) ?rq1_7
      case hq1_7 => intro w'; go_simp; try with_reducible rfl
      (try simp only [Act.put]); (try simp only [List.setIfInBounds_toArray]); (try simp only [List.set_cons_succ]); (try simp only [List.set_cons_zero])
      refine wpAny_ready (rs := [8]) (by kernel_rfl) (by simp) (allShut rfl (fun K hK => ?_) AllReady.nil)
      go_simp
      refine hK.out _ _ ?_
      clear hK K
      (try simp only [Act.put]); (try simp only [List.setIfInBounds_toArray]); (try simp only [List.set_cons_succ]); (try simp only [List.set_cons_zero])
      refine wpAny_ready (rs := [9]) (by kernel_rfl) (by simp) (allShut rfl (fun K hK => ?_) AllReady.nil)
      go_simp
      refine hK.out _ _ ?_
      clear hK K
      (try simp only [Act.put]); (try simp only [List.setIfInBounds_toArray]); (try simp only [List.set_cons_succ]); (try simp only [List.set_cons_zero])
      refine wpAny_done (by kernel_rfl) ?_ _
      go_wp2
      refine bodyPost_ret (results_pk rfl _ rfl HFD.out.2.1) rfl ?_
      rw [HRR.out]
      exact ⟨kk, rfl, HFD.out.2.2, HFD.out.1⟩
    · have HF0 : Hid (caF s = (n0, a0, failE e0 7)) := Lib.hid (by rw [HF1.out, if_neg hq])
      have dq : 1 < n0 := by omega
      have dq' : (1 : Int) < (n0 : Int) := by omega
      clear hq HF1
      go_wp2_with fail
      refine (refFail_any (w.heap.size + 1) a0 s e0 7 _ I1.out.cur).mono ?_
      rintro e' yf ⟨rfl, hc, hm⟩
      have IF' := Lib.hid (I1.out.turn hc hm)
      have IF : Hid (RQ w (w.heap.size + 1) w1.heap.size pk0 hs0 s a0 (failE e0 7) yf) := IF'
      clear hc hm IF'
      generalize failE e0 7 = ef at *
      go_wp2_with fail
      refine (refNumber_any (w.heap.size + 1) a0 s ef 1 _ IF.out.cur (by decide)).mono ?_
      rintro e' y2 ⟨rfl, hc, hm⟩
      have I3 := Lib.hid (IF.out.turn hc hm)
      have HC0 : Hid (caC s = (numS s a0 ef 1, (takeS s a0 ef 1).2.1, (takeS s a0 ef 1).2.2)) := Lib.hid (by unfold caC; rw [HF0.out])
      have HCL := Lib.hid (num_one_lt s a0 ef)
      generalize numS s a0 ef 1 = c0 at *
      generalize (takeS s a0 ef 1).2.1 = a1 at *
      generalize (takeS s a0 ef 1).2.2 = e1 at *
      have hwc : IntKind.i64.wrap (c0 : Int) = (c0 : Int) := by rw [IntKind.wrap_i64]; have := HCL.out; omega
      have hbd := run_bdKSC 2 bs (c0 : Int)
      have I4 := Lib.hid (I3.out.put (p' := { pk0 with kind := 2, session := bs, code := (c0 : Int) }) (h' := hs0) (pkT_in _ _ _ _) ⟨rfl, rfl⟩)
      have hst := run_stPk I3.out.pk
      clear hc hm
      obtain ⟨Y, hY⟩ : ∃ Y, putPk y2 w1.heap.size { pk0 with kind := 2, session := bs, code := (c0 : Int) } hs0 = Y := ⟨_, rfl⟩
      rw [hY] at I4
      go_wp2_with fail
      clear hst hbd hwc hbs
      refine (refProps_any v 2 (w.heap.size + 1) a1 s e1 _ I4.out.cur HS0.out).mono ?_
      rintro e' y ⟨A, c, rfl, hlc, hr, hc, hm⟩
      rw [props_eq] at hlc hr hc ⊢
      have HRD : Hid (caRd v s = (caPk n0 c0 (prpC v 2 s a1 e1).1, (prpC v 2 s a1 e1).2.1, (prpC v 2 s a1 e1).2.2)) := Lib.hid (by unfold caRd caP; rw [HC0.out, HF0.out])
      generalize prpC v 2 s a1 e1 = r at *
      obtain ⟨l, a, e⟩ := r
      simp only at hlc hr hc HRD ⊢
      rw [HRD.out] at HRR HOK
      simp only at HRR HOK
      have I5 := Lib.hid (I4.out.turn hc hm)
      have I2' := Lib.hid (I5.out.setP hr hlc)
      have f24 := I5.out.pk.free 24; have p24 := (I5.out.pk.cell 24).trans (pkC_24 _ _)
      have HPP : Hid (({ pk0 with kind := 2, session := bs, code := (c0 : Int), props := l } : Pk) = caPk n0 c0 l) := Lib.hid (by rw [← HBS.out]; rfl)
      rw [HPP.out] at I2'
      obtain ⟨P, hP⟩ : ∃ P, caPk n0 c0 l = P := ⟨_, rfl⟩
      obtain ⟨kq, hkq⟩ : ∃ K : Hs, { hs0 with props := ⟨A, c⟩ } = K := ⟨_, rfl⟩
      rw [hP, hkq] at I2'
      rw [hP] at HRR HOK
      clear hlc hr hc hm hP hkq
      have I2 := I2'
      clear I2'
      obtain ⟨Z, hZ⟩ : ∃ Z, y.setCell ⟨w1.heap.size, 24, none⟩ (.slice A l.length c) = Z := ⟨_, rfl⟩
      rw [hZ] at I2
      have HS := ld_bk (I2.out.pk.drewN 1)
      go_wp2_with fail
      refine wp_region_D (fun w' => (ldPk (.pointer (some ⟨w1.heap.size, 0, none⟩))).run Tryz.prog w' = .ok (pkV (P) kq) w') [5] (by kernel_rfl) ?_
      refine anyD_take (i := 0) (v := ?vq2_0) [5] rfl (by kernel_rfl) (by kernel_rfl) (by kernel_rfl) (by kernel_rfl) (by kernel_rfl) (by kernel_rfl) (fun _ _ _ h => h) (Or.inl ⟨by rfl, ?hq2_0⟩) HS ?rq2_0
      case hq2_0 => intro w' hSw; (try dsimp only at hSw); go_simp; try with_reducible rfl
      (try simp only [Act.put]); (try simp only [List.setIfInBounds_toArray]); (try simp only [List.set_cons_succ]); (try simp only [List.set_cons_zero])
      refine anyD_take (i := 1) (v := ?vq2_1) [5] rfl (by kernel_rfl) (by kernel_rfl) (by kernel_rfl) (by kernel_rfl) (by kernel_rfl) (by kernel_rfl) (fun _ _ _ h => h) (Or.inl ⟨by rfl, ?hq2_1⟩) HS ?rq2_1
      case hq2_1 => intro w' hSw; (try dsimp only at hSw); go_simp; try with_reducible rfl
      (try simp only [Act.put]); (try simp only [List.setIfInBounds_toArray]); (try simp only [List.set_cons_succ]); (try simp only [List.set_cons_zero])
      refine anyD_take (i := 2) (v := ?vq2_2) [4, 5] rfl (by kernel_rfl) (by kernel_rfl) (by kernel_rfl) (by kernel_rfl) (by kernel_rfl) (by kernel_rfl) (fun _ _ _ h => h) (Or.inl ⟨by rfl, ?hq2_2⟩) HS ?rq2_2
      case hq2_2 => intro w' hSw; (try dsimp only at hSw); go_simp; try with_reducible rfl
      (try simp only [Act.put]); (try simp only [List.setIfInBounds_toArray]); (try simp only [List.set_cons_succ]); (try simp only [List.set_cons_zero])
      refine anyD_take (i := 3) (v := ?vq2_3) [4, 5] rfl (by kernel_rfl) (by kernel_rfl) (by kernel_rfl) (by kernel_rfl) (by kernel_rfl) (by kernel_rfl) (fun _ _ _ h => h) (Or.inl ⟨by rfl, ?hq2_3⟩) HS ?rq2_3
      case hq2_3 => intro w' hSw; (try dsimp only at hSw); go_simp; try with_reducible rfl
      (try simp only [Act.put]); (try simp only [List.setIfInBounds_toArray]); (try simp only [List.set_cons_succ]); (try simp only [List.set_cons_zero])
      refine anyD_ready (rs := [4]) (by kernel_rfl) (by simp) (AllD.cons rfl (fun K hK => ?_) AllD.nil)
      go_simp
      go_at_call 13
      refine (refCntValid_any v P kq _ (I2.out.drewN 1).into HOK.out).mono ?_
      rintro e' z1 ⟨rfl, hb⟩
      have J1 := Lib.hid ((I2.out.drewN 1).below hb); clear hb HS
      have HS := ld_bk J1.out.pk
      go_simp
      refine hK.out _ _ (fun _ => HS) ?_
      clear hK K
      (try simp only [Act.put]); (try simp only [List.setIfInBounds_toArray]); (try simp only [List.set_cons_succ]); (try simp only [List.set_cons_zero])
      refine anyD_ready (rs := [5]) (by kernel_rfl) (by simp) (AllD.cons rfl (fun K hK => ?_) AllD.nil)
      go_simp
      go_at_call 42
      refine (refDone_any (w.heap.size + 1) a s e (cntE v P) (P) kq _ J1.out.cur (fun y hm => J1.out.stay hm)).mono ?_
      rintro e' z2 ⟨kk, rfl, hi, hm⟩
      go_simp
      refine hK.out _ _ (fun hn => absurd (hn 5 (by simp)) (by decide)) (anyD_late (d := 5) (by simp) _ _ _ _ (by kernel_rfl) ?_)
      clear hK K HS
      (try simp only [Act.put]); (try simp only [List.setIfInBounds_toArray]); (try simp only [List.set_cons_succ]); (try simp only [List.set_cons_zero])
      have HRL := Lib.hid (doneR_lists (p := P) (t := s) (a := a) (e := e) (x := cntE v P) J1.out.flat.1 J1.out.flat.2)
      obtain ⟨R, hR⟩ : ∃ R, doneR P s a e (cntE v P) = R := ⟨_, rfl⟩
      rw [hR] at hi HRR HRL ⊢
      clear hR
      have HST : Hid (∀ y, z2.grownBy y (some w.heap.size) → PkIn y y.heap.size R.1 kk) := Lib.hid (fun y hy => PkIn.other_blk hi HRL.out.1 HRL.out.2 (J1.out.res.mods (S := fun z => z = w.heap.size + 1) (Mods.of_grown hm rfl) (by omega)) (pk_no32 _ _) hy)
      have HFD := Lib.hid (J1.out.done (r := R) hm HST.out)
      have hst := run_stPk (J1.out.res.mods (S := fun z => z = w.heap.size + 1) (Mods.of_grown hm rfl) (by omega))
      refine wpAny_take (i := 6) (v := ?vq2_6) rfl (by kernel_rfl) (by kernel_rfl) (by kernel_rfl) (fun _ _ _ h => h) (Or.inl ⟨by rfl, ?hq2_6⟩) ?rq2_6
      case hq2_6 => intro w'; go_simp; try with_reducible rfl
      (try simp only [Act.put]); (try simp only [List.setIfInBounds_toArray]); (try simp only [List.set_cons_succ]); (try simp only [List.set_cons_zero])
      refine wpAny_take (i := 7) (v := ?vq2_7) rfl (by kernel_rfl) (by kernel_rfl) (by kernel_rfl) (fun _ _ _ h => h) (Or.inl ⟨by rfl, ?hq2_7⟩) ?rq2_7
      case hq2_7 => intro w'; go_simp; try with_reducible rfl
      (try simp only [Act.put]); (try simp only [List.setIfInBounds_toArray]); (try simp only [List.set_cons_succ]); (try simp only [List.set_cons_zero])
      refine wpAny_ready (rs := [8]) (by kernel_rfl) (by simp) (allShut rfl (fun K hK => ?_) AllReady.nil)
      go_simp
      refine hK.out _ _ ?_
      clear hK K
      (try simp only [Act.put]); (try simp only [List.setIfInBounds_toArray]); (try simp only [List.set_cons_succ]); (try simp only [List.set_cons_zero])
      refine wpAny_ready (rs := [9]) (by kernel_rfl) (by simp) (allShut rfl (fun K hK => ?_) AllReady.nil)
      go_simp
      refine hK.out _ _ ?_
      clear hK K
      (try simp only [Act.put]); (try simp only [List.setIfInBounds_toArray]); (try simp only [List.set_cons_succ]); (try simp only [List.set_cons_zero])
      refine wpAny_done (by kernel_rfl) ?_ _
      go_wp2
      refine bodyPost_ret (results_pk rfl _ rfl HFD.out.2.1) rfl ?_
      rw [HRR.out]
      exact ⟨kk, rfl, HFD.out.2.2, HFD.out.1⟩
end Go.Proofs.YtngnaenbnmajdaaGreat
