/- A part of what the laws stand on: MPubB, PubK. -/
import Derived.Test.YtbdgkkmbnahgiaaGreatDoorMsG0MTai
import Derived.Deep.DeepCutAuto
namespace Go.Proofs.YtbdgkkmbnahgiaaGreatDoor
open Go.RowKit
set_option maxHeartbeats 400000 in
theorem at8_any (g a : Nat) (t : ByteArray) (e : Int) (w : World) (h : Cur w g t a e) :
    Calls Tryz.prog 226 #[.pointer (some ⟨g, 0, none⟩)] w fun e' w' => e' = .returned (.int .i64 a) ∧ w = w' := by
  obtain ⟨⟨c0, c1, c2⟩, f0, f1, f2⟩ := h.cells
  clear h
  go_enter Tryz.func226, Tryz.ntmps226
  go_wp2
  go_ret
  exact ⟨rfl, rfl⟩
/-- Data that bytes begin with. -/
def readB (s : ByteArray) : ByteArray × Nat × Int :=
  if s.size < 2 then (⟨#[]⟩, 0, 3) else if s.size < 2 + numS s 0 0 2 then (⟨#[]⟩, 0, 3) else (s.extract 2 (2 + numS s 0 0 2), 2 + numS s 0 0 2, 0)
def readU (s : ByteArray) : ByteArray × Nat × Int := if (readB s).2.2 = 0 ∧ validB (readB s).1 = false then (⟨#[]⟩, 0, 6) else readB s
set_option maxHeartbeats 2000000 in
set_option maxRecDepth 10000 in
theorem readB_any (s : ByteArray) (w : World) (hs : s.size ≤ 4611686018427387904) :
    Calls Tryz.prog 166 #[.string s] w fun e w' => e = .returned (.tuple #[.string (readB s).1, .int .i64 (readB s).2.1, .int .i64 (readB s).2.2]) ∧ Below w.heap.size w w' := by
  have HS := Lib.hid hs
  go_enter Tryz.func166, Tryz.ntmps166
  go_wp2_with fail
  refine (newCur_any s _ hs).mono ?_
  rintro e w1 ⟨rfl, hc, hb⟩
  have HB1 := Lib.hid hb; have HC1 := Lib.hid hc; clear hb hc
  go_wp2_with fail
  refine (number_any w.heap.size 0 s 0 2 _ HC1.out (by decide)).mono ?_
  rintro e w2 ⟨rfl, hc, hm⟩
  have HB2 := Lib.hid (below_mod HB1.out hm HB1.out.size (Nat.le_refl _)); have HC2 := Lib.hid hc; clear hc hm
  have hlt : numS s 0 0 2 < 65536 := by
    unfold numS
    have h1 := getL_lt (ls (takeS s 0 0 2).1)
    have h2 : (ls (takeS s 0 0 2).1).length ≤ 2 := by rw [ls_len]; exact takeS_size (by omega) 0 2 2 (by decide)
    have h3 : 256 ^ (ls (takeS s 0 0 2).1).length ≤ 256 ^ 2 := Nat.pow_le_pow_right (by omega) h2
    omega
  have HE : Hid (readB s = if s.size < 2 then (⟨#[]⟩, 0, 3) else if s.size < 2 + numS s 0 0 2 then (⟨#[]⟩, 0, 3) else (s.extract 2 (2 + numS s 0 0 2), 2 + numS s 0 0 2, 0)) := Lib.hid rfl
  have HT2 : Hid (¬ s.size < 2 → takeS s 0 0 2 = (s.extract 0 2, 2, 0)) := Lib.hid fun h => take_yes (k := 2) (by omega)
  have HT3 : Hid (s.size < 2 → takeS s 0 0 2 = (⟨#[]⟩, 0, 3)) := Lib.hid fun h => take_no (k := 2) (by omega)
  generalize numS s 0 0 2 = m at *
  have hw : IntKind.i64.wrap (m : Int) = (m : Int) := by rw [IntKind.wrap_i64]; omega
  by_cases h2 : s.size < 2
  · have HX : Hid (readB s = (⟨#[]⟩, 0, 3)) := Lib.hid (by rw [HE.out, if_pos h2])
    have hc3 := HC2.out
    rw [HT3.out h2] at hc3
    have HC3 := Lib.hid hc3
    clear hc3 h2
    go_wp2_with fail
    refine (take_any w.heap.size 0 s 3 m _ HC3.out).mono ?_
    rintro e w3 ⟨rfl, hc, hm⟩
    rw [takeS_bad (by decide)] at hc ⊢
    have HB3 := Lib.hid (below_mod HB2.out hm HB2.out.size (Nat.le_refl _)); have HC4 := Lib.hid hc; clear hc hm
    go_wp2_with fail
    refine (err_any w.heap.size 0 s 3 _ HC4.out).mono ?_
    rintro e w4 ⟨rfl, rfl⟩
    go_wp2
    go_ret3
    exact ⟨by rw [HX.out]; rfl, HB3.out⟩
  have hc3 := HC2.out
  rw [HT2.out h2] at hc3
  have HC3 := Lib.hid hc3
  clear hc3
  by_cases h3 : s.size < 2 + m
  · have HX : Hid (readB s = (⟨#[]⟩, 0, 3)) := Lib.hid (by rw [HE.out, if_neg h2, if_pos h3])
    have HT : Hid (takeS s 2 0 m = (⟨#[]⟩, 2, 3)) := Lib.hid (take_no (by omega))
    clear h2 h3
    go_wp2_with fail
    refine (take_any w.heap.size 2 s 0 m _ HC3.out).mono ?_
    rintro e w3 ⟨rfl, hc, hm⟩
    rw [HT.out] at hc ⊢
    have HB3 := Lib.hid (below_mod HB2.out hm HB2.out.size (Nat.le_refl _)); have HC4 := Lib.hid hc; clear hc hm
    go_wp2_with fail
    refine (err_any w.heap.size 2 s 3 _ HC4.out).mono ?_
    rintro e w4 ⟨rfl, rfl⟩
    go_wp2
    go_ret3
    exact ⟨by rw [HX.out]; rfl, HB3.out⟩
  · have HX : Hid (readB s = (s.extract 2 (2 + m), 2 + m, 0)) := Lib.hid (by rw [HE.out, if_neg h2, if_neg h3])
    have HT : Hid (takeS s 2 0 m = (s.extract 2 (2 + m), 2 + m, 0)) := Lib.hid (take_yes (by omega))
    clear h2 h3
    go_wp2_with fail
    refine (take_any w.heap.size 2 s 0 m _ HC3.out).mono ?_
    rintro e w3 ⟨rfl, hc, hm⟩
    rw [HT.out] at hc ⊢
    have HB3 := Lib.hid (below_mod HB2.out hm HB2.out.size (Nat.le_refl _)); have HC4 := Lib.hid hc; clear hc hm
    go_wp2_with fail
    refine (err_any w.heap.size (2 + m) s 0 _ HC4.out).mono ?_
    rintro e w4 ⟨rfl, rfl⟩
    go_wp2_with fail
    refine (at8_any w.heap.size (2 + m) s 0 _ HC4.out).mono ?_
    rintro e w4 ⟨rfl, rfl⟩
    go_wp2
    go_ret3
    exact ⟨by rw [HX.out]; rfl, HB3.out⟩
set_option maxHeartbeats 1000000 in
set_option maxRecDepth 10000 in
theorem readU_any (s : ByteArray) (w : World) (hs : s.size ≤ 4611686018427387904) :
    Calls Tryz.prog 115 #[.string s] w fun e w' => e = .returned (.tuple #[.string (readU s).1, .int .i64 (readU s).2.1, .int .i64 (readU s).2.2]) ∧ Below w.heap.size w w' := by
  have HE : Hid (readU s = if (readB s).2.2 = 0 ∧ validB (readB s).1 = false then (⟨#[]⟩, 0, 6) else readB s) := Lib.hid rfl
  have hz : (readB s).1.size ≤ 4611686018427387904 := by
    unfold readB
    split
    · exact Nat.zero_le _
    · split
      · exact Nat.zero_le _
      · show (s.extract _ _).size ≤ _
        rw [ByteArray.size_extract]; omega
  go_enter Tryz.func115, Tryz.ntmps115
  go_wp2_with fail
  refine (readB_any s _ hs).mono ?_
  rintro e w1 ⟨rfl, hb⟩
  have HB := Lib.hid hb; clear hb hs
  generalize readB s = R at *
  obtain ⟨x, n, e⟩ := R
  simp only at HE hz ⊢
  by_cases h0 : e = 0
  · subst h0
    go_wp2_with fail
    refine (valid_any x _ hz).mono ?_
    rintro e w2 ⟨rfl, hb⟩
    have HB2 := Lib.hid (HB.out.trans (hb.mono HB.out.size)); clear hb
    cases hv : validB x
    · have HX : Hid (readU s = (⟨#[]⟩, 0, 6)) := Lib.hid (by rw [HE.out]; simp [hv])
      clear hv
      go_wp2
      go_ret3
      exact ⟨by rw [HX.out]; rfl, HB2.out⟩
    · have HX : Hid (readU s = (x, n, 0)) := Lib.hid (by rw [HE.out]; simp [hv])
      clear hv
      go_wp2
      go_ret3
      exact ⟨by rw [HX.out]; rfl, HB2.out⟩
  · have e0 : (e == 0) = false := beq_eq_false_iff_ne.2 h0
    have HX : Hid (readU s = (x, n, e)) := Lib.hid (by rw [HE.out]; simp [h0])
    clear h0
    go_wp2
    go_ret3
    exact ⟨by rw [HX.out]; rfl, HB.out⟩
end Go.Proofs.YtbdgkkmbnahgiaaGreatDoor

namespace Go.Proofs.YtbdgkkmbnahgiaaGreatDoor
open Go.RowKit
attribute [local go_sem ↓] to_ldPk to_bxPk to_bdPk to_alPk to_stPk
attribute [local go_sem] run_bxPk run_bxPk_agg ld_fresh run_alPk run_bd0 run_bdK run_bdKI run_bdKIC run_bdKC run_bdKICP run_stPk_fresh pkC_0 pkC_1 pkC_2 pkC_3 pkC_4 pkC_5 pkC_6 pkC_7 pkC_8 pkC_9 pkC_10 pkC_11 pkC_12 pkC_13 pkC_14 pkC_15 pkC_16 pkC_17 pkC_18 pkC_19 pkC_20 pkC_21 pkC_22 pkC_23 pkC_24
def rdPub (f : Int) (t : ByteArray) (i : Int) (l : List Pr) (y : ByteArray) : Pk := { pk0 with kind := 3, dup := decide (8 ≤ f), retain := decide (f % 2 = 1), qos := f / 2 % 4, id := i, topic := t, payload := y, props := l }
def hsP (A : Option Addr) (n : Nat) : Hs := { hs0 with props := ⟨A, n⟩ }
theorem run_bdPub (f : Int) (t : ByteArray) (w : World) : (bdPk #[(0, .int .i64 3), (1, .bool (decide (8 ≤ f))), (3, .int .i64 (f / 2 % 4)), (2, .bool (decide (f % 2 = 1))), (5, .string t)]).run Tryz.prog w = .ok (pkV (rdPub f t 0 [] ⟨#[]⟩) (hsP none 0)) w := by kernel_rfl
theorem rdPub_qos (f : Int) (t : ByteArray) (i : Int) (l : List Pr) (y : ByteArray) : (rdPub f t i l y).qos = f / 2 % 4 := rfl
def pubAt (f : Int) (s : ByteArray) : Nat := if f / 2 % 4 ≠ 0 then (readU s).2.1 + 2 else (readU s).2.1
def pubId (f : Int) (s : ByteArray) : Int := if f / 2 % 4 ≠ 0 then ((getL (ls (s.extract (readU s).2.1 ((readU s).2.1 + 2))) : Nat) : Int) else (0 : Int)
def pubPr (v : Int) (f : Int) (s : ByteArray) : List Pr × Nat × Int := if v = 5 then readP 3 (s.extract (pubAt f s) s.size) else ([], 0, 0)
def pubFull (v f : Int) (s : ByteArray) : Pk := rdPub f (readU s).1 (pubId f s) (pubPr v f s).1 (s.extract (pubAt f s + (pubPr v f s).2.1) s.size)
def pubR (v f : Int) (s : ByteArray) : Pk × Int :=
  if hdKnown v = false then (pk0, 2) else if hdCheck3 v f ≠ 0 then (pk0, 7) else if (readU s).2.2 ≠ 0 then (pk0, (readU s).2.2)
  else if f / 2 % 4 ≠ 0 ∧ s.size < (readU s).2.1 + 2 then (pk0, 3) else if (pubPr v f s).2.2 ≠ 0 then (pk0, (pubPr v f s).2.2)
  else if pubE v (pubFull v f s) ≠ 0 then (pk0, pubE v (pubFull v f s)) else (pubFull v f s, 0)
theorem rdPub_flags : ∀ f : Fin 16, (bits BinOp.and IntKind.i64 (f.1 : Int) 8 != 0) = decide (8 ≤ (f.1 : Int)) ∧ bits BinOp.and IntKind.i64 ((f.1 : Int) / 2) 3 = (f.1 : Int) / 2 % 4 ∧ (bits BinOp.and IntKind.i64 (f.1 : Int) 1 != 0) = decide ((f.1 : Int) % 2 = 1) := by decide +kernel
/-- What stands while a PUBLISH is read: the result's block, the empty packet's, the packet's. -/
structure PR (w : World) (g : Nat) (f : Int) (t : ByteArray) (i : Int) (l : List Pr) (y : ByteArray) (A : Option Addr) (n : Nat) (x : World) : Prop where
  kept : Below w.heap.size w x
  res : Bk x w.heap.size PkT (pkC pk0 hs0)
  zero : Bk x (w.heap.size + 1) PkT (pkC pk0 hs0)
  pk : Bk x g PkT (pkC (rdPub f t i l y) (hsP A n))
  rd : Rd x x.heap.size 4 A l.length (prs l)
  cap : l.length ≤ n
  base : w.heap.size + 1 < g
section
variable {w x y : World} {g : Nat} {f i : Int} {t u : ByteArray} {l : List Pr} {A : Option Addr} {n : Nat}
theorem PR.below (h : PR w g f t i l u A n x) (hb : Below x.heap.size x y) : PR w g f t i l u A n y :=
  ⟨h.kept.trans (hb.mono h.kept.size), h.res.below hb h.res.lt, h.zero.below hb h.zero.lt, h.pk.below hb h.pk.lt, (h.rd.below hb).wider hb.size, h.cap, h.base⟩
theorem PR.set (h : PR w g f t i l u A n x) (k : Nat) (v : Value) {i' : Int} {u' : ByteArray} (he : (pkC (rdPub f t i l u) (hsP A n)).setIfInBounds k v = pkC (rdPub f t i' l u') (hsP A n)) : PR w g f t i' l u' A n (x.setCell ⟨g, k, none⟩ v) :=
  ⟨below_mod h.kept (mod_set x g k v) h.kept.size (by have := h.base; omega), h.res.other (by have := h.base; simp; omega) _, h.zero.other (by have := h.base; simp; omega) _, h.pk.upd k v he, (h.rd.other h.pk (pk_no32 _ _) (mod_set x g k v) (Nat.le_refl _)).wider (mod_set x g k v).size, h.cap, h.base⟩
theorem PR.put (h : PR w g f t i l u A n x) {l' : List Pr} {A' : Option Addr} {n' : Nat} (hr : Rd x x.heap.size 4 A' l'.length (prs l')) (hn : l'.length ≤ n') : PR w g f t i l' u A' n' (x.setCell ⟨g, 24, none⟩ (.slice A' l'.length n')) :=
  ⟨below_mod h.kept (mod_set x g 24 _) h.kept.size (by have := h.base; omega), h.res.other (by have := h.base; simp; omega) _, h.zero.other (by have := h.base; simp; omega) _, h.pk.upd 24 _ rfl, (hr.other h.pk (pk_no32 _ _) (mod_set x g 24 _) (Nat.le_refl _)).wider (mod_set x g 24 _).size, hn, h.base⟩
theorem PR.into (h : PR w g f t i l u A n x) : PkIn x x.heap.size (rdPub f t i l u) (hsP A n) := ⟨Rd.nil _ _ _ _, Rd.nil _ _ _ _, Rd.nil _ _ _ _, h.rd, Nat.zero_le _, Nat.zero_le _, Nat.zero_le _, h.cap⟩
theorem PR.none (h : PR w g f t i l u A n x) : Below w.heap.size w (putPk x w.heap.size pk0 hs0) ∧ Bk (putPk x w.heap.size pk0 hs0) w.heap.size PkT (pkC pk0 hs0) := ⟨below_put h.kept h.kept.size (Nat.le_refl _) _ _, put_bk h.res _ _⟩
theorem PR.some (h : PR w g f t i l u A n x) : Below w.heap.size w (putPk x w.heap.size (rdPub f t i l u) (hsP A n)) ∧ Bk (putPk x w.heap.size (rdPub f t i l u) (hsP A n)) w.heap.size PkT (pkC (rdPub f t i l u) (hsP A n)) ∧
    PkIn (putPk x w.heap.size (rdPub f t i l u) (hsP A n)) (putPk x w.heap.size (rdPub f t i l u) (hsP A n)).heap.size (rdPub f t i l u) (hsP A n) :=
  ⟨below_put h.kept h.kept.size (Nat.le_refl _) _ _, put_bk h.res _ _, Rd.nil _ _ _ _, Rd.nil _ _ _ _, Rd.nil _ _ _ _, (h.rd.other h.res (pk_no32 _ _) (putPk_mods _ _ _ _) (Nat.le_refl _)).wider (putPk_mods _ _ _ _).size, Nat.zero_le _, Nat.zero_le _, Nat.zero_le _, h.cap⟩
end
attribute [local go_sem] run_bdPub rdPub_qos
set_option maxHeartbeats 8000000 in
set_option maxRecDepth 10000 in
theorem pubRead_any (v f : Int) (s : ByteArray) (w : World) (hs : s.size ≤ 140737488351232) :
    Calls Tryz.prog 200 #[.int .i64 v, .int .i64 f, .string s] w (PkOut (pubR v f s) w) := by
  have HS := Lib.hid hs
  have HB0 := Lib.hid (((Below.refl w.heap.size w).alloc (Nat.le_refl _) (.cells (pkC pk0 hs0) PkT)).alloc ((Below.refl w.heap.size w).alloc (Nat.le_refl _) (.cells (pkC pk0 hs0) PkT)).size (.cells (pkC pk0 hs0) PkT))
  have HR0 := Lib.hid ((Bk.fresh w PkT (pkC pk0 hs0)).alloc (.cells (pkC pk0 hs0) PkT))
  have HZ0 := Lib.hid (Bk.fresh (w.alloc (.cells (pkC pk0 hs0) PkT)) PkT (pkC pk0 hs0))
  rw [heap_alloc_size] at HZ0
  have HE : Hid (pubR v f s = if hdKnown v = false then (pk0, 2) else if hdCheck3 v f ≠ 0 then (pk0, 7) else if (readU s).2.2 ≠ 0 then (pk0, (readU s).2.2)
    else if f / 2 % 4 ≠ 0 ∧ s.size < (readU s).2.1 + 2 then (pk0, 3) else if (pubPr v f s).2.2 ≠ 0 then (pk0, (pubPr v f s).2.2)
    else if pubE v (pubFull v f s) ≠ 0 then (pk0, pubE v (pubFull v f s)) else (pubFull v f s, 0)) := Lib.hid rfl
  have hld := ld_bk HZ0.out
  have hst := run_stPk HR0.out
  go_enter Tryz.func200, Tryz.ntmps200
  go_wp2_with fail
  refine (pubKnown_any v _).mono ?_
  rintro e w1 ⟨rfl, rfl⟩
  cases hk : hdKnown v
  · have HX : Hid (pubR v f s = (pk0, 2)) := Lib.hid (by rw [HE.out, if_pos hk])
    clear hk
    go_wp2
    refine bodyPost_ret (results_pk rfl _ rfl (put_bk HR0.out _ _)) rfl ?_
    exact pkOut_bad HX.out (below_put HB0.out HB0.out.size (Nat.le_refl _) _ _)
  have HK := Lib.hid hk
  have HE1 := HE.out
  rw [if_neg (fun x => by rw [hk] at x; cases x)] at HE1
  replace HE1 := Lib.hid HE1
  clear hk HE
  go_wp2_with fail
  refine (hdCheck3_any v f _).mono ?_
  rintro e w1 ⟨rfl, hb⟩
  have HB1 := Lib.hid (HB0.out.trans (hb.mono HB0.out.size)); have HR1 := Lib.hid (HR0.out.below hb HR0.out.lt); have HZ1 := Lib.hid (HZ0.out.below hb HZ0.out.lt)
  clear hb hld hst
  have hld := ld_bk HZ1.out
  have hst := run_stPk HR1.out
  by_cases hc : hdCheck3 v f = 0
  rotate_left
  · have HX : Hid (pubR v f s = (pk0, 7)) := Lib.hid (by rw [HE1.out, if_pos hc])
    have e0 : (hdCheck3 v f != 0) = true := bne_iff_ne.2 hc
    clear hc
    go_wp2
    refine bodyPost_ret (results_pk rfl _ rfl (put_bk HR1.out _ _)) rfl ?_
    exact pkOut_bad HX.out (below_put HB1.out HB1.out.size (Nat.le_refl _) _ _)
  have HF : Hid (0 ≤ f ∧ f < 16) := Lib.hid (by
    have h2 : hdFlag3 f = true := by
      unfold hdCheck3 at hc
      rw [if_neg (fun x => by rw [HK.out] at x; cases x)] at hc
      cases hh : hdFlag3 f
      · rw [hh, if_pos rfl] at hc; exact absurd hc (by decide)
      · rfl
    have := of_decide_eq_true h2
    omega)
  have HE2 := HE1.out
  rw [hc, if_neg (fun x => x rfl)] at HE2
  replace HE2 := Lib.hid HE2
  have e0 : (hdCheck3 v f != 0) = false := by rw [hc]; rfl
  clear hc HE1
  go_wp2_with fail
  refine (readU_any s _ (by have := HS.out; omega)).mono ?_
  rintro e w2 ⟨rfl, hb⟩
  have HB2 := Lib.hid (HB1.out.trans (hb.mono HB1.out.size)); have HR2 := Lib.hid (HR1.out.below hb HR1.out.lt); have HZ2 := Lib.hid (HZ1.out.below hb HZ1.out.lt)
  clear hb hld hst e0
  have hld := ld_bk HZ2.out
  have hst := run_stPk HR2.out
  have HFull : Hid (pubFull v f s = rdPub f (readU s).1 (pubId f s) (pubPr v f s).1 (s.extract (pubAt f s + (pubPr v f s).2.1) s.size)) := Lib.hid rfl
  have HId : Hid (pubId f s = if f / 2 % 4 ≠ 0 then ((getL (ls (s.extract (readU s).2.1 ((readU s).2.1 + 2))) : Nat) : Int) else (0 : Int)) := Lib.hid rfl
  have HAt : Hid (pubAt f s = if f / 2 % 4 ≠ 0 then (readU s).2.1 + 2 else (readU s).2.1) := Lib.hid rfl
  have HPr : Hid (pubPr v f s = if v = 5 then readP 3 (s.extract (pubAt f s) s.size) else ([], 0, 0)) := Lib.hid rfl
  have HUok : Hid ((readU s).2.1 ≤ s.size ∧ (readU s).1.size ≤ s.size) := Lib.hid (by
    unfold readU readB
    split
    · exact ⟨Nat.zero_le _, Nat.zero_le _⟩
    · split
      · exact ⟨Nat.zero_le _, Nat.zero_le _⟩
      · split
        · exact ⟨Nat.zero_le _, Nat.zero_le _⟩
        · refine ⟨by show 2 + numS s 0 0 2 ≤ s.size; omega, ?_⟩
          show (s.extract _ _).size ≤ _
          rw [ByteArray.size_extract]; omega)
  generalize readU s = R at *
  obtain ⟨t, m, x⟩ := R
  simp only at HE2 HFull HId HAt HUok ⊢
  by_cases hx : x = 0
  rotate_left
  · have HX : Hid (pubR v f s = (pk0, x)) := Lib.hid (by rw [HE2.out, if_pos hx])
    have e0 : (x != 0) = true := bne_iff_ne.2 hx
    clear hx
    go_wp2
    refine bodyPost_ret (results_pk rfl _ rfl (put_bk HR2.out _ _)) rfl ?_
    exact pkOut_bad HX.out (below_put HB2.out HB2.out.size (Nat.le_refl _) _ _)
  subst hx
  have HE3 := HE2.out
  rw [if_neg (fun x => x rfl)] at HE3
  replace HE3 := Lib.hid HE3
  clear HE2
  have hfl := rdPub_flags ⟨f.toNat, by have := HF.out; omega⟩
  rw [show (((⟨f.toNat, by have := HF.out; omega⟩ : Fin 16).1 : Nat) : Int) = f by have := HF.out; simp; omega] at hfl
  obtain ⟨g1, g2, g3⟩ := hfl
  have P0 : Hid (PR w w2.heap.size f t 0 [] ⟨#[]⟩ none 0 (w2.alloc (.cells (pkC (rdPub f t 0 [] ⟨#[]⟩) (hsP none 0)) PkT))) := Lib.hid ⟨HB2.out.alloc HB2.out.size _, HR2.out.alloc _, HZ2.out.alloc _, Bk.fresh _ _ _, Rd.nil _ _ _ _, Nat.le_refl _, HZ2.out.lt⟩
  clear hld hst
  go_upto_if 50 with fail
  have P0' := P0.out
  have hq : (w2.alloc (.cells (pkC (rdPub f t 0 [] ⟨#[]⟩) (hsP none 0)) PkT)).cell? ⟨w2.heap.size, 3, none⟩ = some (.int .i64 (f / 2 % 4)) := P0'.pk.cell 3
  by_cases hsh : f / 2 % 4 ≠ 0 ∧ s.size < m + 2
  · have HX : Hid (pubR v f s = (pk0, 3)) := Lib.hid (by rw [HE3.out, if_pos hsh])
    have e0 : (f / 2 % 4 != 0) = true := bne_iff_ne.2 hsh.1
    have hlt : (s.size : Int) - (m : Int) < 2 := by omega
    have hw : IntKind.i64.wrap ((s.size : Int) - (m : Int)) = (s.size : Int) - (m : Int) := by rw [IntKind.wrap_i64]; have := HS.out; have := HUok.out; omega
    have hld := ld_bk P0'.zero
    have hst := run_stPk P0'.res
    clear hq P0' hsh g1 g2 g3
    go_wp2
    refine bodyPost_ret (results_pk rfl _ rfl P0.out.none.2) rfl ?_
    exact pkOut_bad HX.out P0.out.none.1
  have HE4 := HE3.out
  rw [if_neg hsh] at HE4
  replace HE4 := Lib.hid HE4
  have HSH := Lib.hid hsh
  clear hq P0' hsh HE3 g1 g2 g3
  go_cut [10] (fun a wx => a = .int .i64 (pubAt f s : Nat) ∧ PR w w2.heap.size f t (pubId f s) [] ⟨#[]⟩ none 0 wx)
  case first =>
    have P0' := P0.out
    have hq : (w2.alloc (.cells (pkC (rdPub f t 0 [] ⟨#[]⟩) (hsP none 0)) PkT)).cell? ⟨w2.heap.size, 3, none⟩ = some (.int .i64 (f / 2 % 4)) := P0'.pk.cell 3
    by_cases h0 : f / 2 % 4 = 0
    · have e0 : (f / 2 % 4 != 0) = false := by simpa using h0
      have HA : Hid (pubAt f s = m) := Lib.hid (by rw [HAt.out, if_neg (fun x => x h0)])
      have HI : Hid (pubId f s = 0) := Lib.hid (by rw [HId.out, if_neg (fun x => x h0)])
      clear h0 P0'
      go_wp2
      go_meet
      case rel => exact ⟨by rw [HA.out], by rw [HI.out]; exact P0.out⟩
    · have e0 : (f / 2 % 4 != 0) = true := bne_iff_ne.2 h0
      have hsz : m + 2 ≤ s.size := by
        have := HSH.out
        by_cases h : s.size < m + 2
        · exact absurd ⟨h0, h⟩ this
        · omega
      have HA : Hid (pubAt f s = m + 2) := Lib.hid (by rw [HAt.out, if_pos h0])
      have HI : Hid (pubId f s = ((getL (ls (s.extract m (m + 2))) : Nat) : Int)) := Lib.hid (by rw [HId.out, if_pos h0])
      have hG : getL (ls (s.extract m (m + 2))) < 65536 := by
        have h1 := getL_lt (ls (s.extract m (m + 2)))
        have h2 : (ls (s.extract m (m + 2))).length = 2 := by rw [ls_len, ByteArray.size_extract]; omega
        rw [h2] at h1
        exact h1
      have hlt : (2 : Int) ≤ (s.size : Int) - (m : Int) := by omega
      have hw : IntKind.i64.wrap ((s.size : Int) - (m : Int)) = (s.size : Int) - (m : Int) := by rw [IntKind.wrap_i64]; have := HS.out; omega
      have hw2 : IntKind.i64.wrap ((m : Int) + 2) = (m : Int) + 2 := by rw [IntKind.wrap_i64]; have := HS.out; omega
      have b1 : (0 : Int) ≤ (m : Int) := by omega
      have b2 : (m : Int) + 2 ≤ (s.size : Int) := by omega
      have hsz2 : (s.extract m (m + 2)).size ≤ 8 := by rw [ByteArray.size_extract]; omega
      have HSZ := Lib.hid hsz2
      have HG := Lib.hid hG
      have hw3 : IntKind.i64.wrap ((getL (ls (s.extract m (m + 2))) : Nat) : Int) = ((getL (ls (s.extract m (m + 2))) : Nat) : Int) := by rw [IntKind.wrap_i64]; omega
      have k4 : (w2.alloc (.cells (pkC (rdPub f t 0 [] ⟨#[]⟩) (hsP none 0)) PkT)).cell? ⟨w2.heap.size, 4, none⟩ = some (.int .i64 0) := P0'.pk.cell 4
      have f4 := P0'.pk.free 4
      clear h0 P0' hsz hsz2 hG
      go_wp2_with fail
      refine (get_short _ _ HSZ.out).mono ?_
      rintro e w3 ⟨rfl, rfl⟩
      have P2 : Hid (∀ I : Int, PR w w2.heap.size f t I [] ⟨#[]⟩ none 0 (w2.alloc (.cells ((pkC (rdPub f t 0 [] ⟨#[]⟩) (hsP none 0)).setIfInBounds 4 (.int .i64 I)) PkT))) := Lib.hid fun I => ⟨HB2.out.alloc HB2.out.size _, HR2.out.alloc _, HZ2.out.alloc _, Bk.fresh w2 PkT (pkC (rdPub f t I [] ⟨#[]⟩) (hsP none 0)), Rd.nil _ _ _ _, Nat.le_refl _, HZ2.out.lt⟩
      generalize getL (ls (s.extract m (m + 2))) = I at *
      go_wp2
      go_meet
      case rel => exact ⟨by rw [HA.out]; rfl, by rw [HI.out]; exact P2.out _⟩
  case rest =>
    obtain ⟨rfl, h⟩ := hcut
    have P1 := Lib.hid h
    clear h
    have HAle : Hid (pubAt f s ≤ s.size) := Lib.hid (by
      rw [HAt.out]
      have h1 := HSH.out
      have h2 := HUok.out
      by_cases h0 : f / 2 % 4 ≠ 0
      · rw [if_pos h0]
        by_cases h : s.size < m + 2
        · exact absurd ⟨h0, h⟩ h1
        · omega
      · rw [if_neg h0]; exact h2.1)
    generalize pubAt f s = a at *
    generalize pubId f s = j at *
    have HV : Hid (∀ l n, pubPr v f s = (l, n, 0) → ((pubE v (rdPub f t j l (s.extract (a + n) s.size)) = 0 ∧ pubR v f s = (rdPub f t j l (s.extract (a + n) s.size), 0)) ∨ (pubE v (rdPub f t j l (s.extract (a + n) s.size)) ≠ 0 ∧ pubR v f s = (pk0, pubE v (rdPub f t j l (s.extract (a + n) s.size)))))) := Lib.hid (by
      intro l n h
      have h2 := HE4.out
      have h3 := HFull.out
      rw [h] at h2 h3
      rw [if_neg (fun x => x rfl)] at h2
      rw [h3] at h2
      by_cases h4 : pubE v (rdPub f t j l (s.extract (a + n) s.size)) = 0
      · exact .inl ⟨h4, by rw [h2]; simp [h4]⟩
      · exact .inr ⟨h4, by rw [h2]; simp [h4]⟩)
    have HOK : Hid (∀ l n, (∀ p ∈ l, prGood p) → l.length ≤ 1000 → PkOk (rdPub f t j l (s.extract (a + n) s.size))) := Lib.hid (by
      intro l n h1 h2
      refine ⟨?_, h1, ?_, ?_, ?_⟩
      · intro q hq; cases hq
      · intro q hq; cases hq
      · have := HUok.out.2
        have := HS.out
        refine ⟨by show t.size ≤ _; omega, ?_, ?_⟩
        · show (s.extract _ _).size ≤ _
          rw [ByteArray.size_extract]; omega
        · exact ⟨Nat.zero_le _, Nat.zero_le _, Nat.zero_le _, Nat.zero_le _, Nat.zero_le _⟩
      · exact ⟨Nat.zero_le _, Nat.zero_le _, Nat.zero_le _, by show l.length ≤ _; omega⟩)
    clear HFull HId HAt
    by_cases h5 : v = 5
    · subst h5
      have HP : Hid (pubPr 5 f s = readP 3 (s.extract a s.size)) := Lib.hid (by rw [HPr.out, if_pos rfl])
      have hle : (a : Int) ≤ (s.size : Int) := by have := HAle.out; omega
      have h0 : (0 : Int) ≤ (a : Int) := by omega
      have HBad : Hid (∀ l n x, pubPr 5 f s = (l, n, x) → x ≠ 0 → pubR 5 f s = (pk0, x)) := Lib.hid (by
        intro l n x h hx
        have h2 := HE4.out
        rw [h, if_pos hx] at h2
        exact h2)
      have hs2 : (s.extract a s.size).size ≤ 140737488351232 := by rw [ByteArray.size_extract]; have := HS.out; omega
      have HLB : Hid ((readP 3 (s.extract a s.size)).2.2 = 0 → a + (readP 3 (s.extract a s.size)).2.1 ≤ s.size) := Lib.hid (by
        intro h0
        have h1 : (readP 3 (s.extract a s.size)).2.1 ≤ (s.extract a s.size).size := (readP_back (kind := 3) (s := s.extract a s.size) (l := (readP 3 (s.extract a s.size)).1) (n := (readP 3 (s.extract a s.size)).2.1) (by rw [← h0])).2.2
        rw [ByteArray.size_extract] at h1
        have := HAle.out
        omega)
      have HS2 := Lib.hid hs2
      clear HPr HE4 hs2
      go_wp2_with fail
      refine (readP_any 3 (s.extract a s.size) _ HS2.out).mono ?_
      rintro e w4 ⟨A, cp, rfl, hcap, hrd, hb⟩
      have P2 := Lib.hid (P1.out.below hb)
      have HGD := Lib.hid (readP_good (kind := 3) HS2.out)
      have HLN := Lib.hid (readP_len (kind := 3) (s := s.extract a s.size))
      generalize readP 3 (s.extract a s.size) = R at *
      obtain ⟨l, n, x⟩ := R
      simp only at hcap hrd HLB HGD HLN ⊢
      by_cases hx : x = 0
      rotate_left
      · have e0 : (x != 0) = true := bne_iff_ne.2 hx
        have HR := Lib.hid (HBad.out l n x HP.out hx)
        have hld := ld_bk P2.out.zero
        have hst := run_stPk P2.out.res
        clear hx hb hcap hrd
        go_wp2
        refine bodyPost_ret (results_pk rfl _ rfl P2.out.none.2) rfl ?_
        exact pkOut_bad HR.out P2.out.none.1
      subst hx
      have P3 := Lib.hid (P2.out.put hrd hcap)
      have P4 := Lib.hid (P3.out.set 6 (.string (s.extract (a + n) s.size)) (i' := j) (u' := s.extract (a + n) s.size) rfl)
      have HW := Lib.hid (HV.out l n HP.out)
      have HO := Lib.hid (HOK.out l n HGD.out (HLN.out rfl))
      have hw : IntKind.i64.wrap ((a : Int) + (n : Int)) = (a : Int) + (n : Int) := by rw [IntKind.wrap_i64]; have := HLB.out rfl; have := HS.out; omega
      have hle2 : (a : Int) + (n : Int) ≤ (s.size : Int) := by have := HLB.out rfl; omega
      have h02 : (0 : Int) ≤ (a : Int) + (n : Int) := by omega
      have k24 : w4.cell? ⟨w2.heap.size, 24, none⟩ = some (.slice none 0 0) := P2.out.pk.cell 24
      have f24 := P2.out.pk.free 24
      have k6 : (w4.setCell ⟨w2.heap.size, 24, none⟩ (.slice A l.length cp)).cell? ⟨w2.heap.size, 6, none⟩ = some (.string ⟨#[]⟩) := P3.out.pk.cell 6
      have f6 := P3.out.pk.free 6
      have k6' : w4.cell? ⟨w2.heap.size, 6, none⟩ = some (.string ⟨#[]⟩) := P2.out.pk.cell 6
      have f6' := P2.out.pk.free 6
      have hl := ld_bk P4.out.pk
      clear hb hcap hrd HV HOK HBad HGD HLN HP HLB
      go_wp2_with fail
      refine (pubValid_any 5 (rdPub f t j l (s.extract (a + n) s.size)) _ _ P4.out.into HO.out).mono ?_
      rintro e w5 ⟨rfl, hb⟩
      have P5 := Lib.hid (P4.out.below hb); clear hb hl k6 f6 k24 f24 k6' f6'
      generalize s.extract (a + n) s.size = y at *
      generalize pubE 5 (rdPub f t j l y) = E at *
      have hl := ld_bk P5.out.pk
      have hld := ld_bk P5.out.zero
      have hst := run_stPk P5.out.res
      rcases HW.out with ⟨h2, hr⟩ | ⟨h2, hr⟩
      · subst h2
        have HR := Lib.hid hr; clear hr
        go_wp2
        refine bodyPost_ret (results_pk rfl _ rfl P5.out.some.2.1) rfl ?_
        exact pkOut_ok HR.out P5.out.some.2.2 P5.out.some.1
      · have e0 : (E != 0) = true := bne_iff_ne.2 h2
        have HR := Lib.hid hr; clear hr h2
        go_wp2
        refine bodyPost_ret (results_pk rfl _ rfl P5.out.none.2) rfl ?_
        exact pkOut_bad HR.out P5.out.none.1
    · have e5 : (v == 5) = false := beq_eq_false_iff_ne.2 h5
      have hpr : pubPr v f s = ([], 0, 0) := by rw [HPr.out, if_neg h5]
      have HW := Lib.hid (HV.out [] 0 hpr)
      rw [Nat.add_zero] at HW
      have HO := HOK.out [] 0 (by simp) (by simp)
      rw [Nat.add_zero] at HO
      replace HO := Lib.hid HO
      have hle : (a : Int) ≤ (s.size : Int) := by have := HAle.out; omega
      have h0 : (0 : Int) ≤ (a : Int) := by omega
      have P2 := Lib.hid (P1.out.set 6 (.string (s.extract a s.size)) (i' := j) (u' := s.extract a s.size) rfl)
      have k6 : wc.cell? ⟨w2.heap.size, 6, none⟩ = some (.string ⟨#[]⟩) := P1.out.pk.cell 6
      have f6 := P1.out.pk.free 6
      have hl := ld_bk P2.out.pk
      clear h5 hpr HPr HV HOK HE4
      go_wp2_with fail
      refine (pubValid_any v (rdPub f t j [] (s.extract a s.size)) _ _ P2.out.into HO.out).mono ?_
      rintro e w4 ⟨rfl, hb⟩
      have P3 := Lib.hid (P2.out.below hb); clear hb hl k6 f6
      generalize s.extract a s.size = y at *
      generalize pubE v (rdPub f t j [] y) = E at *
      have hl := ld_bk P3.out.pk
      have hld := ld_bk P3.out.zero
      have hst := run_stPk P3.out.res
      rcases HW.out with ⟨h2, hr⟩ | ⟨h2, hr⟩
      · subst h2
        have HR := Lib.hid hr; clear hr
        go_wp2
        refine bodyPost_ret (results_pk rfl _ rfl P3.out.some.2.1) rfl ?_
        exact pkOut_ok HR.out P3.out.some.2.2 P3.out.some.1
      · have e0 : (E != 0) = true := bne_iff_ne.2 h2
        have HR := Lib.hid hr; clear hr h2
        go_wp2
        refine bodyPost_ret (results_pk rfl _ rfl P3.out.none.2) rfl ?_
        exact pkOut_bad HR.out P3.out.none.1
end Go.Proofs.YtbdgkkmbnahgiaaGreatDoor

namespace Go.Proofs.YtbdgkkmbnahgiaaGreatDoor
open Go.RowKit
theorem ls_framed (t r : ByteArray) : ls (framedS t ++ r) = putL t.size 2 ++ (ls t ++ ls r) := by
  unfold framedS
  rw [ls_app, ls_app, ls_mk, List.append_assoc]
/-- What is read stands in front. -/
theorem readU_back {s t : ByteArray} {n : Nat} (h : readU s = (t, n, 0)) : s = framedS t ++ s.extract n s.size ∧ t.size < 65536 ∧ validB t = true ∧ n = 2 + t.size ∧ n ≤ s.size := by
  have hb : readB s = (t, n, 0) ∧ validB t = true := by
    unfold readU at h
    by_cases hc : (readB s).2.2 = 0 ∧ validB (readB s).1 = false
    · rw [if_pos hc] at h; cases h
    · rw [if_neg hc] at h
      refine ⟨h, ?_⟩
      cases hv : validB t
      · exact absurd ⟨by rw [h], by rw [h]; exact hv⟩ hc
      · rfl
  obtain ⟨hb, hv⟩ := hb
  unfold readB at hb
  by_cases h1 : s.size < 2
  · rw [if_pos h1] at hb; cases hb
  rw [if_neg h1] at hb
  by_cases h2 : s.size < 2 + numS s 0 0 2
  · rw [if_pos h2] at hb; cases hb
  rw [if_neg h2] at hb
  simp only [Prod.mk.injEq] at hb
  obtain ⟨hx, rfl, -⟩ := hb
  have hnum : numS s 0 0 2 = getL ((ls s).take 2) := by
    unfold numS
    rw [show (2 : Int) = ((2 : Nat) : Int) from rfl, take_yes (by omega), extract_ls, List.drop_zero]
  have hl2 : ((ls s).take 2).length = 2 := by rw [List.length_take, ls_len]; omega
  have hlt : numS s 0 0 2 < 65536 := by
    rw [hnum]
    have := getL_lt ((ls s).take 2)
    rw [hl2] at this
    exact this
  have htz : t.size = numS s 0 0 2 := by rw [← hx, ByteArray.size_extract]; omega
  refine ⟨ls_ext ?_, by omega, hv, by omega, by omega⟩
  rw [ls_framed, rest_ls, htz, hnum, put_get2 _ hl2, ← hx, extract_ls, ← hnum, ← List.append_assoc]
  have e1 : List.drop (2 + numS s 0 0 2) (ls s) = List.drop (numS s 0 0 2) (List.drop 2 (ls s)) := by rw [List.drop_drop]
  rw [e1, List.append_assoc, List.take_append_drop, List.take_append_drop]
end Go.Proofs.YtbdgkkmbnahgiaaGreatDoor

namespace Go.Proofs.YtbdgkkmbnahgiaaGreatDoor
open Go.RowKit
theorem flags_good {p : Pk} (h : badQ p = false) : hdFlag3 (flagsP p) = true ∧ decide (8 ≤ flagsP p) = p.dup ∧ flagsP p / 2 % 4 = p.qos ∧ decide (flagsP p % 2 = 1) = p.retain := by
  have hb := of_decide_eq_false h
  unfold hdFlag3 flagsP
  obtain h0 | h1 | h2 : p.qos = 0 ∨ p.qos = 1 ∨ p.qos = 2 := by omega
  · rw [h0] at hb ⊢
    cases hd : p.dup
    · cases p.retain <;> decide
    · exact absurd (.inr (.inr ⟨rfl, hd⟩)) hb
  · rw [h1]
    cases p.dup <;> cases p.retain <;> decide
  · rw [h2]
    cases p.dup <;> cases p.retain <;> decide
end Go.Proofs.YtbdgkkmbnahgiaaGreatDoor

namespace Go.Proofs.YtbdgkkmbnahgiaaGreatDoor
open Go.RowKit
theorem pubS2_ls (v : Int) (p : Pk) (y : ByteArray) : ls (pubS2 v p ++ y) = (putL p.topic.size 2 ++ ls p.topic) ++ ((if p.qos ≠ 0 then putL p.id.toNat 2 else []) ++ ((if v = 5 then (bytesS p.kind p.props).1 else []) ++ ls y)) := by
  unfold pubS2 pubS1 framedS
  by_cases h5 : v = 5 <;> by_cases h0 : p.qos ≠ 0
  · rw [if_pos h5, if_pos h0, if_pos h0, if_pos h5]; simp only [ls_app, ls_mk, List.append_assoc]
  · rw [if_pos h5, if_neg h0, if_neg h0, if_pos h5]; simp only [ls_app, ls_mk, List.append_assoc, List.nil_append]
  · rw [if_neg h5, if_pos h0, if_pos h0, if_neg h5]; simp only [ls_app, ls_mk, List.append_assoc, List.nil_append]
  · rw [if_neg h5, if_neg h0, if_neg h0, if_neg h5]; simp only [ls_app, ls_mk, List.append_assoc, List.nil_append]
end Go.Proofs.YtbdgkkmbnahgiaaGreatDoor

namespace Go.Proofs.YtbdgkkmbnahgiaaGreatDoor
open Go.RowKit
theorem pubR_ok {v f : Int} {s : ByteArray} {q : Pk} (h : pubR v f s = (q, 0)) : hdKnown v = true ∧ hdCheck3 v f = 0 ∧ (readU s).2.2 = 0 ∧ ¬ (f / 2 % 4 ≠ 0 ∧ s.size < (readU s).2.1 + 2) ∧ (pubPr v f s).2.2 = 0 ∧ pubE v (pubFull v f s) = 0 ∧ q = pubFull v f s := by
  unfold pubR at h
  by_cases h1 : hdKnown v = false
  · rw [if_pos h1] at h; cases h
  rw [if_neg h1] at h
  by_cases h2 : hdCheck3 v f ≠ 0
  · rw [if_pos h2] at h; cases h
  rw [if_neg h2] at h
  by_cases h3 : (readU s).2.2 ≠ 0
  · rw [if_pos h3] at h; exact absurd (congrArg Prod.snd h) h3
  rw [if_neg h3] at h
  by_cases h4 : f / 2 % 4 ≠ 0 ∧ s.size < (readU s).2.1 + 2
  · rw [if_pos h4] at h; cases h
  rw [if_neg h4] at h
  by_cases h5 : (pubPr v f s).2.2 ≠ 0
  · rw [if_pos h5] at h; exact absurd (congrArg Prod.snd h) h5
  rw [if_neg h5] at h
  by_cases h6 : pubE v (pubFull v f s) ≠ 0
  · rw [if_pos h6] at h; exact absurd (congrArg Prod.snd h) h6
  rw [if_neg h6] at h
  exact ⟨by simpa using h1, Decidable.not_not.1 h2, Decidable.not_not.1 h3, h4, Decidable.not_not.1 h5, Decidable.not_not.1 h6, (congrArg Prod.fst h).symm⟩
theorem rdPub_back {v f : Int} (hk : hdKnown v = true) (hc : hdCheck3 v f = 0) (t : ByteArray) (i : Int) (l : List Pr) (y : ByteArray) : flagsP (rdPub f t i l y) = f := by
  have h2 : hdFlag3 f = true := by
    unfold hdCheck3 at hc
    rw [if_neg (fun x => by rw [hk] at x; cases x)] at hc
    cases hh : hdFlag3 f
    · rw [hh, if_pos rfl] at hc; exact absurd hc (by decide)
    · rfl
  have := of_decide_eq_true h2
  show 2 * (f / 2 % 4) + (if decide (f % 2 = 1) = true then 1 else 0) + (if decide (8 ≤ f) = true then 8 else 0) = f
  clear h2 hc hk
  obtain rfl | rfl | rfl | rfl | rfl | rfl | rfl | rfl | rfl | rfl := this
  all_goals decide
theorem pubR_back {v f : Int} {s : ByteArray} {q : Pk} (h : pubR v f s = (q, 0)) : pubE v q = 0 ∧ pubS2 v q ++ q.payload = s ∧ flagsP q = f := by
  obtain ⟨hk, hc, hu, hs, hp, he, rfl⟩ := pubR_ok h
  refine ⟨he, ?_, rdPub_back hk hc _ _ _ _⟩
  have hR : readU s = ((readU s).1, (readU s).2.1, 0) := by rw [← hu]
  obtain ⟨hs1, htz, hv, hn, hle⟩ := readU_back hR
  have hls : ls s = (putL (readU s).1.size 2 ++ ls (readU s).1) ++ (ls s).drop (readU s).2.1 := by
    have := congrArg ls hs1
    rw [ls_framed, rest_ls, ← List.append_assoc] at this
    exact this
  have hD : (ls s).drop (readU s).2.1 = (if f / 2 % 4 ≠ 0 then putL (pubId f s).toNat 2 else []) ++ (ls s).drop (pubAt f s) := by
    unfold pubId pubAt
    by_cases h0 : f / 2 % 4 ≠ 0
    · rw [if_pos h0, if_pos h0, if_pos h0, Int.toNat_natCast, extract_ls, put_get2 _ (by
        rw [List.length_take, List.length_drop, ls_len]
        have : ¬ s.size < (readU s).2.1 + 2 := fun z => hs ⟨h0, z⟩
        omega), ← List.drop_drop, List.take_append_drop]
    · rw [if_neg h0, if_neg h0]; rfl
  have hP : (ls s).drop (pubAt f s) = (if v = 5 then (bytesS 3 (pubPr v f s).1).1 else []) ++ (ls s).drop (pubAt f s + (pubPr v f s).2.1) := by
    unfold pubPr at hp ⊢
    by_cases h5 : v = 5
    · rw [if_pos h5] at hp ⊢
      rw [if_pos h5]
      have hb := (readP_back (kind := 3) (s := s.extract (pubAt f s) s.size) (l := (readP 3 (s.extract (pubAt f s) s.size)).1) (n := (readP 3 (s.extract (pubAt f s) s.size)).2.1) (by rw [← hp])).2.1
      rw [hb, rest_ls, ← List.drop_drop, List.take_append_drop]
    · rw [if_neg h5, if_neg h5]; rfl
  refine ls_ext ?_
  rw [pubS2_ls]
  show (putL (readU s).1.size 2 ++ ls (readU s).1) ++ ((if f / 2 % 4 ≠ 0 then putL (pubId f s).toNat 2 else []) ++ ((if v = 5 then (bytesS 3 (pubPr v f s).1).1 else []) ++ ls (s.extract (pubAt f s + (pubPr v f s).2.1) s.size))) = ls s
  rw [rest_ls, ← hP, ← hD, ← hls]
end Go.Proofs.YtbdgkkmbnahgiaaGreatDoor

namespace Go.Proofs.YtbdgkkmbnahgiaaGreatDoor
open Go.RowKit
attribute [local go_sem ↓] to_ldPk to_bxPk to_bdPk to_alPk to_stPk
attribute [local go_sem] run_bxPk run_bxPk_agg ld_fresh run_alPk run_bd0 run_bdK run_bdKI run_bdKIC run_bdKC run_bdKICP run_stPk_fresh pkC_0 pkC_1 pkC_2 pkC_3 pkC_4 pkC_5 pkC_6 pkC_7 pkC_8 pkC_9 pkC_10 pkC_11 pkC_12 pkC_13 pkC_14 pkC_15 pkC_16 pkC_17 pkC_18 pkC_19 pkC_20 pkC_21 pkC_22 pkC_23 pkC_24

theorem pubR_pk {v f : Int} {s : ByteArray} (hs : s.size ≤ 140737488351232) : PkOk (pubR v f s).1 := by
  have h0 : PkOk pk0 := pkOk_R1 (k := 0) (i := 0) (c := 0) (l := []) (by simp) (by simp)
  have hx : ∀ a b, (s.extract a b).size ≤ 140737488351232 := fun a b => by rw [ByteArray.size_extract]; omega
  have hU : (readU s).1.size ≤ 140737488351232 := by
    have z : (⟨#[]⟩ : ByteArray).size ≤ 140737488351232 := by decide
    unfold readU readB
    split
    · exact z
    · split
      · exact z
      · split
        · exact z
        · exact hx _ _
  have hpre : PkOk (pubFull v f s) := by
    unfold pubFull
    refine ⟨?_, ?_, ?_, ?_, ?_⟩
    · intro q hq; cases hq
    · show ∀ q ∈ (pubPr v f s).1, prGood q
      unfold pubPr
      split
      · exact readP_good (hx _ _)
      · intro q hq; cases hq
    · intro q hq; cases hq
    · exact ⟨hU, hx _ _, Nat.zero_le _, Nat.zero_le _, Nat.zero_le _, Nat.zero_le _, Nat.zero_le _⟩
    · refine ⟨Nat.zero_le _, Nat.zero_le _, Nat.zero_le _, ?_⟩
      show (pubPr v f s).1.length ≤ _
      unfold pubPr
      split
      · by_cases h : (readP 3 (s.extract (pubAt f s) s.size)).2.2 = 0
        · have := readP_len h; omega
        · rw [readP_bad h]; exact Nat.zero_le _
      · exact Nat.zero_le _
  unfold pubR
  repeat' split
  all_goals first | exact h0 | exact hpre
/-- What stands through the statement that looks at what is read. -/
abbrev NB (g0 g1 : Nat) (p : Pk) (h k : Hs) (Y : ByteArray) (W x : World) : Prop := (ldPk (.pointer (some ⟨g0, 0, none⟩))).run Tryz.prog x = .ok (pkV p h) x ∧ (ldPk (.pointer (some ⟨g1, 0, none⟩))).run Tryz.prog x = .ok (pkV p k) x ∧ x.cell? ⟨g0, 6, none⟩ = some (.string Y) ∧ Below W.heap.size W x
section
variable {w W x y : World} {g0 g1 : Nat} {p : Pk} {h k : Hs} {Y : ByteArray}
theorem NB.of (s : St w [(g0, p, h), (g1, p, k)] W) (hY : p.payload = Y) (hb : Below W.heap.size W x) : NB g0 g1 p h k Y W x :=
  ⟨(s.below hb).ld 0 rfl, (s.below hb).ld 1 rfl, by rw [← hY]; exact (s.below hb).cell 0 rfl 6, hb⟩
theorem NB.next (n : NB g0 g1 p h k Y W x) (s : St w [(g0, p, h), (g1, p, k)] W) (hY : p.payload = Y) (hb : Below x.heap.size x y) : NB g0 g1 p h k Y W y :=
  NB.of s hY (n.2.2.2.trans (hb.mono n.2.2.2.size))
end
end Go.Proofs.YtbdgkkmbnahgiaaGreatDoor

