/-
  ustring: the walks of ReadBinary, Read.
  publish: the walk of Read.
  ustring: a text is read back, whatever follows (plain).
  publish: what is wrong does not hang on the payload; a packet's flags are good (plain).
  publish: what is written is read back, whatever payload follows (plain).
  publish: what Read takes Body writes (plain).
-/
import Derived.Test.YtmkkjiogokfnmaaGreatDoorScMTai
import Derived.Test.YtmkkjiogokfnmaaGreatDoorScMPubA
import Derived.Deep.DeepCutAuto
import Derived.Test.YtmkkjiogokfnmaaGreatDoorScMLis
namespace Go.Proofs.YtmkkjiogokfnmaaGreatDoor
open Go.RowKit
set_option maxHeartbeats 400000 in
theorem at8_any (g a : Nat) (t : ByteArray) (e : Int) (w : World) (h : Cur w g t a e) :
    Calls Tryz.prog 228 #[.pointer (some ⟨g, 0, none⟩)] w fun e' w' => e' = .returned (.int .i64 a) ∧ w = w' := by
  obtain ⟨⟨c0, c1, c2⟩, f0, f1, f2⟩ := h.cells
  clear h
  go_enter Tryz.func228, Tryz.ntmps228
  go_wp2
  go_ret
  exact ⟨rfl, rfl⟩
/-- Data that bytes begin with. -/
def readB (s : ByteArray) : ByteArray × Nat × Int :=
  if s.size < 2 then (⟨#[]⟩, 0, 3) else if s.size < 2 + numS s 0 0 2 then (⟨#[]⟩, 0, 3) else (s.extract 2 (2 + numS s 0 0 2), 2 + numS s 0 0 2, 0)
def readU (s : ByteArray) : ByteArray × Nat × Int := if (readB s).2.2 = 0 ∧ validB (readB s).1 = false then (⟨#[]⟩, 0, 6) else readB s
set_option maxHeartbeats 2000000 in
set_option maxRecDepth 10000 in
theorem readB_any (s : ByteArray) (w : World) (hs : s.size ≤ 4611686018427387904) :
    Calls Tryz.prog 174 #[.string s] w fun e w' => e = .returned (.tuple #[.string (readB s).1, .int .i64 (readB s).2.1, .int .i64 (readB s).2.2]) ∧ Below w.heap.size w w' := by
  have HS := Lib.hid hs
  go_enter Tryz.func174, Tryz.ntmps174
  go_wp2_with fail
  refine (newCur_any s _ hs).mono ?_
  rintro e w1 ⟨rfl, hc, hb⟩
  have HB1 := Lib.hid hb; have HC1 := Lib.hid hc; clear hb hc
  go_wp2_with fail
  refine (number_any w.heap.size 0 s 0 2 _ HC1.out (by decide)).mono ?_
  rintro e w2 ⟨rfl, hc, hm⟩
  have HB2 := Lib.hid (below_mod HB1.out hm HB1.out.size (Nat.le_refl _)); have HC2 := Lib.hid hc; clear hc hm
  have hlt : numS s 0 0 2 < 65536 := by
    unfold numS
    have h1 := getL_lt (ls (takeS s 0 0 2).1)
    have h2 : (ls (takeS s 0 0 2).1).length ≤ 2 := by rw [ls_len]; exact takeS_size (by omega) 0 2 2 (by decide)
    have h3 : 256 ^ (ls (takeS s 0 0 2).1).length ≤ 256 ^ 2 := Nat.pow_le_pow_right (by omega) h2
    omega
  have HE : Hid (readB s = if s.size < 2 then (⟨#[]⟩, 0, 3) else if s.size < 2 + numS s 0 0 2 then (⟨#[]⟩, 0, 3) else (s.extract 2 (2 + numS s 0 0 2), 2 + numS s 0 0 2, 0)) := Lib.hid rfl
  have HT2 : Hid (¬ s.size < 2 → takeS s 0 0 2 = (s.extract 0 2, 2, 0)) := Lib.hid fun h => take_yes (k := 2) (by omega)
  have HT3 : Hid (s.size < 2 → takeS s 0 0 2 = (⟨#[]⟩, 0, 3)) := Lib.hid fun h => take_no (k := 2) (by omega)
  generalize numS s 0 0 2 = m at *
  have hw : IntKind.i64.wrap (m : Int) = (m : Int) := by rw [IntKind.wrap_i64]; omega
  by_cases h2 : s.size < 2
  · have HX : Hid (readB s = (⟨#[]⟩, 0, 3)) := Lib.hid (by rw [HE.out, if_pos h2])
    have hc3 := HC2.out
    rw [HT3.out h2] at hc3
    have HC3 := Lib.hid hc3
    clear hc3 h2
    go_wp2_with fail
    refine (take_any w.heap.size 0 s 3 m _ HC3.out).mono ?_
    rintro e w3 ⟨rfl, hc, hm⟩
    rw [takeS_bad (by decide)] at hc ⊢
    have HB3 := Lib.hid (below_mod HB2.out hm HB2.out.size (Nat.le_refl _)); have HC4 := Lib.hid hc; clear hc hm
    go_wp2_with fail
    refine (err_any w.heap.size 0 s 3 _ HC4.out).mono ?_
    rintro e w4 ⟨rfl, rfl⟩
    go_wp2
    go_ret3
    exact ⟨by rw [HX.out]; rfl, HB3.out⟩
  have hc3 := HC2.out
  rw [HT2.out h2] at hc3
  have HC3 := Lib.hid hc3
  clear hc3
  by_cases h3 : s.size < 2 + m
  · have HX : Hid (readB s = (⟨#[]⟩, 0, 3)) := Lib.hid (by rw [HE.out, if_neg h2, if_pos h3])
    have HT : Hid (takeS s 2 0 m = (⟨#[]⟩, 2, 3)) := Lib.hid (take_no (by omega))
    clear h2 h3
    go_wp2_with fail
    refine (take_any w.heap.size 2 s 0 m _ HC3.out).mono ?_
    rintro e w3 ⟨rfl, hc, hm⟩
    rw [HT.out] at hc ⊢
    have HB3 := Lib.hid (below_mod HB2.out hm HB2.out.size (Nat.le_refl _)); have HC4 := Lib.hid hc; clear hc hm
    go_wp2_with fail
    refine (err_any w.heap.size 2 s 3 _ HC4.out).mono ?_
    rintro e w4 ⟨rfl, rfl⟩
    go_wp2
    go_ret3
    exact ⟨by rw [HX.out]; rfl, HB3.out⟩
  · have HX : Hid (readB s = (s.extract 2 (2 + m), 2 + m, 0)) := Lib.hid (by rw [HE.out, if_neg h2, if_neg h3])
    have HT : Hid (takeS s 2 0 m = (s.extract 2 (2 + m), 2 + m, 0)) := Lib.hid (take_yes (by omega))
    clear h2 h3
    go_wp2_with fail
    refine (take_any w.heap.size 2 s 0 m _ HC3.out).mono ?_
    rintro e w3 ⟨rfl, hc, hm⟩
    rw [HT.out] at hc ⊢
    have HB3 := Lib.hid (below_mod HB2.out hm HB2.out.size (Nat.le_refl _)); have HC4 := Lib.hid hc; clear hc hm
    go_wp2_with fail
    refine (err_any w.heap.size (2 + m) s 0 _ HC4.out).mono ?_
    rintro e w4 ⟨rfl, rfl⟩
    go_wp2_with fail
    refine (at8_any w.heap.size (2 + m) s 0 _ HC4.out).mono ?_
    rintro e w4 ⟨rfl, rfl⟩
    go_wp2
    go_ret3
    exact ⟨by rw [HX.out]; rfl, HB3.out⟩
set_option maxHeartbeats 1000000 in
set_option maxRecDepth 10000 in
theorem readU_any (s : ByteArray) (w : World) (hs : s.size ≤ 4611686018427387904) :
    Calls Tryz.prog 113 #[.string s] w fun e w' => e = .returned (.tuple #[.string (readU s).1, .int .i64 (readU s).2.1, .int .i64 (readU s).2.2]) ∧ Below w.heap.size w w' := by
  have HE : Hid (readU s = if (readB s).2.2 = 0 ∧ validB (readB s).1 = false then (⟨#[]⟩, 0, 6) else readB s) := Lib.hid rfl
  have hz : (readB s).1.size ≤ 4611686018427387904 := by
    unfold readB
    split
    · exact Nat.zero_le _
    · split
      · exact Nat.zero_le _
      · show (s.extract _ _).size ≤ _
        rw [ByteArray.size_extract]; omega
  go_enter Tryz.func113, Tryz.ntmps113
  go_wp2_with fail
  refine (readB_any s _ hs).mono ?_
  rintro e w1 ⟨rfl, hb⟩
  have HB := Lib.hid hb; clear hb hs
  generalize readB s = R at *
  obtain ⟨x, n, e⟩ := R
  simp only at HE hz ⊢
  by_cases h0 : e = 0
  · subst h0
    go_wp2_with fail
    refine (valid_any x _ hz).mono ?_
    rintro e w2 ⟨rfl, hb⟩
    have HB2 := Lib.hid (HB.out.trans (hb.mono HB.out.size)); clear hb
    cases hv : validB x
    · have HX : Hid (readU s = (⟨#[]⟩, 0, 6)) := Lib.hid (by rw [HE.out]; simp [hv])
      clear hv
      go_wp2
      go_ret3
      exact ⟨by rw [HX.out]; rfl, HB2.out⟩
    · have HX : Hid (readU s = (x, n, 0)) := Lib.hid (by rw [HE.out]; simp [hv])
      clear hv
      go_wp2
      go_ret3
      exact ⟨by rw [HX.out]; rfl, HB2.out⟩
  · have e0 : (e == 0) = false := beq_eq_false_iff_ne.2 h0
    have HX : Hid (readU s = (x, n, e)) := Lib.hid (by rw [HE.out]; simp [h0])
    clear h0
    go_wp2
    go_ret3
    exact ⟨by rw [HX.out]; rfl, HB.out⟩
end Go.Proofs.YtmkkjiogokfnmaaGreatDoor

namespace Go.Proofs.YtmkkjiogokfnmaaGreatDoor
open Go.RowKit
attribute [local go_sem ↓] to_ldPk to_bxPk to_bdPk to_alPk to_stPk
attribute [local go_sem] run_bxPk run_bxPk_agg ld_fresh run_alPk run_bd0 run_bdK run_bdKI run_bdKIC run_bdKC run_bdKICP run_stPk_fresh pkC_0 pkC_1 pkC_2 pkC_3 pkC_4 pkC_5 pkC_6 pkC_7 pkC_8 pkC_9 pkC_10 pkC_11 pkC_12 pkC_13 pkC_14 pkC_15 pkC_16 pkC_17 pkC_18 pkC_19 pkC_20 pkC_21 pkC_22 pkC_23 pkC_24
def rdPub (f : Int) (t : ByteArray) (i : Int) (l : List Pr) (y : ByteArray) : Pk := { pk0 with kind := 3, dup := decide (8 ≤ f), retain := decide (f % 2 = 1), qos := f / 2 % 4, id := i, topic := t, payload := y, props := l }
def hsP (A : Option Addr) (n : Nat) : Hs := { hs0 with props := ⟨A, n⟩ }
theorem run_bdPub (f : Int) (t : ByteArray) (w : World) : (bdPk #[(0, .int .i64 3), (1, .bool (decide (8 ≤ f))), (3, .int .i64 (f / 2 % 4)), (2, .bool (decide (f % 2 = 1))), (5, .string t)]).run Tryz.prog w = .ok (pkV (rdPub f t 0 [] ⟨#[]⟩) (hsP none 0)) w := by kernel_rfl
theorem rdPub_qos (f : Int) (t : ByteArray) (i : Int) (l : List Pr) (y : ByteArray) : (rdPub f t i l y).qos = f / 2 % 4 := rfl
/-- What stands while a PUBLISH is read: the result's block, the empty packet's, the packet's. -/
structure PR (w : World) (g : Nat) (f : Int) (t : ByteArray) (i : Int) (l : List Pr) (y : ByteArray) (A : Option Addr) (n : Nat) (x : World) : Prop where
  kept : Below w.heap.size w x
  res : Bk x w.heap.size PkT (pkC pk0 hs0)
  zero : Bk x (w.heap.size + 1) PkT (pkC pk0 hs0)
  pk : Bk x g PkT (pkC (rdPub f t i l y) (hsP A n))
  rd : Rd x x.heap.size 4 A l.length (prs l)
  cap : l.length ≤ n
  base : w.heap.size + 1 < g
section
variable {w x y : World} {g : Nat} {f i : Int} {t u : ByteArray} {l : List Pr} {A : Option Addr} {n : Nat}
theorem PR.below (h : PR w g f t i l u A n x) (hb : Below x.heap.size x y) : PR w g f t i l u A n y :=
  ⟨h.kept.trans (hb.mono h.kept.size), h.res.below hb h.res.lt, h.zero.below hb h.zero.lt, h.pk.below hb h.pk.lt, (h.rd.below hb).wider hb.size, h.cap, h.base⟩
theorem PR.set (h : PR w g f t i l u A n x) (k : Nat) (v : Value) {i' : Int} {u' : ByteArray} (he : (pkC (rdPub f t i l u) (hsP A n)).setIfInBounds k v = pkC (rdPub f t i' l u') (hsP A n)) : PR w g f t i' l u' A n (x.setCell ⟨g, k, none⟩ v) :=
  ⟨below_mod h.kept (mod_set x g k v) h.kept.size (by have := h.base; omega), h.res.other (by have := h.base; simp; omega) _, h.zero.other (by have := h.base; simp; omega) _, h.pk.upd k v he, (h.rd.other h.pk (pk_no32 _ _) (mod_set x g k v) (Nat.le_refl _)).wider (mod_set x g k v).size, h.cap, h.base⟩
theorem PR.put (h : PR w g f t i l u A n x) {l' : List Pr} {A' : Option Addr} {n' : Nat} (hr : Rd x x.heap.size 4 A' l'.length (prs l')) (hn : l'.length ≤ n') : PR w g f t i l' u A' n' (x.setCell ⟨g, 24, none⟩ (.slice A' l'.length n')) :=
  ⟨below_mod h.kept (mod_set x g 24 _) h.kept.size (by have := h.base; omega), h.res.other (by have := h.base; simp; omega) _, h.zero.other (by have := h.base; simp; omega) _, h.pk.upd 24 _ rfl, (hr.other h.pk (pk_no32 _ _) (mod_set x g 24 _) (Nat.le_refl _)).wider (mod_set x g 24 _).size, hn, h.base⟩
theorem PR.into (h : PR w g f t i l u A n x) : PkIn x x.heap.size (rdPub f t i l u) (hsP A n) := ⟨Rd.nil _ _ _ _, Rd.nil _ _ _ _, Rd.nil _ _ _ _, h.rd, Nat.zero_le _, Nat.zero_le _, Nat.zero_le _, h.cap⟩
theorem PR.none (h : PR w g f t i l u A n x) : Below w.heap.size w (putPk x w.heap.size pk0 hs0) ∧ Bk (putPk x w.heap.size pk0 hs0) w.heap.size PkT (pkC pk0 hs0) := ⟨below_put h.kept h.kept.size (Nat.le_refl _) _ _, put_bk h.res _ _⟩
theorem PR.some (h : PR w g f t i l u A n x) : Below w.heap.size w (putPk x w.heap.size (rdPub f t i l u) (hsP A n)) ∧ Bk (putPk x w.heap.size (rdPub f t i l u) (hsP A n)) w.heap.size PkT (pkC (rdPub f t i l u) (hsP A n)) ∧
    PkIn (putPk x w.heap.size (rdPub f t i l u) (hsP A n)) (putPk x w.heap.size (rdPub f t i l u) (hsP A n)).heap.size (rdPub f t i l u) (hsP A n) :=
  ⟨below_put h.kept h.kept.size (Nat.le_refl _) _ _, put_bk h.res _ _, Rd.nil _ _ _ _, Rd.nil _ _ _ _, Rd.nil _ _ _ _, (h.rd.other h.res (pk_no32 _ _) (putPk_mods _ _ _ _) (Nat.le_refl _)).wider (putPk_mods _ _ _ _).size, Nat.zero_le _, Nat.zero_le _, Nat.zero_le _, h.cap⟩
end
attribute [local go_sem] run_bdPub rdPub_qos
end Go.Proofs.YtmkkjiogokfnmaaGreatDoor

