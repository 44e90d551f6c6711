/- ack: the walk of Read. -/
import Derived.Test.YtpcaffimahapjaaGreatAckL
import Derived.Test.YtpcaffimahapjaaGreatMAck
namespace Go.Proofs.YtpcaffimahapjaaGreat
open Go.RowKit
attribute [local go_sem ↓] to_ldPk to_bxPk to_bdPk to_alPk to_stPk
attribute [local go_sem] run_bxPk run_bxPk_agg ld_fresh run_alPk run_bd0 run_bdK run_bdKI run_bdKIC run_bdKC run_bdKICP run_stPk_fresh pkC_0 pkC_1 pkC_2 pkC_3 pkC_4 pkC_5 pkC_6 pkC_7 pkC_8 pkC_9 pkC_10 pkC_11 pkC_12 pkC_13 pkC_14 pkC_15 pkC_16 pkC_17 pkC_18 pkC_19 pkC_20 pkC_21 pkC_22 pkC_23 pkC_24

theorem PkIn.R1 {w : World} {B : Nat} {A : Option Addr} {n : Nat} {l : List Pr} (h : Rd w B 4 A l.length (prs l)) (hn : l.length ≤ n) (k i c : Int) : PkIn w B (ackR1 k i c l) { hs0 with props := ⟨A, n⟩ } :=
  ⟨Rd.nil _ _ _ _, Rd.nil _ _ _ _, Rd.nil _ _ _ _, h, Nat.zero_le _, Nat.zero_le _, Nat.zero_le _, hn⟩

/-- What stands while a packet is read: the result's block, the packet's, the cursor's. -/
structure RI (w : World) (g gp gc : Nat) (k i c : Int) (l : List Pr) (A : Option Addr) (n : Nat) (t : ByteArray) (a : Nat) (e : Int) (x : World) : Prop where
  kept : Below w.heap.size w x
  res : Bk x g PkT (pkC pk0 hs0)
  pk : Bk x gp PkT (pkC (ackR1 k i c l) { hs0 with props := ⟨A, n⟩ })
  cur : Cur x gc t a e
  rd : Rd x x.heap.size 4 A l.length (prs l)
  cap : l.length ≤ n
  ne : g ≠ gp ∧ g ≠ gc ∧ gp ≠ gc
  base : w.heap.size ≤ g ∧ w.heap.size ≤ gp ∧ w.heap.size ≤ gc
section
variable {w x y : World} {g gp gc : Nat} {k i c : Int} {l : List Pr} {A : Option Addr} {n : Nat} {t : ByteArray} {a a' : Nat} {e e' : Int}
theorem RI.below (h : RI w g gp gc k i c l A n t a e x) (hb : Below x.heap.size x y) : RI w g gp gc k i c l A n t a e y :=
  ⟨h.kept.trans (hb.mono h.kept.size), h.res.below hb h.res.lt, h.pk.below hb h.pk.lt, h.cur.below hb, (h.rd.below hb).wider hb.size, h.cap, h.ne, h.base⟩
theorem RI.turn (h : RI w g gp gc k i c l A n t a e x) (hc : Cur y gc t a' e') (hm : x.grownBy y (some gc)) : RI w g gp gc k i c l A n t a' e' y :=
  ⟨below_mod h.kept hm h.kept.size h.base.2.2, h.res.mods (S := fun z => z = gc) (Mods.of_grown hm rfl) h.ne.2.1, h.pk.mods (S := fun z => z = gc) (Mods.of_grown hm rfl) h.ne.2.2, hc,
    (h.rd.other h.cur.1 (cur_no32 _ _ _) hm (Nat.le_refl _)).wider hm.size, h.cap, h.ne, h.base⟩
theorem RI.rest {r : Int × List Pr × Nat × Int} {ee : Ending} (h : RI w g gp gc k i 0 [] none 0 t a e x) (hr : RestOut gp gc k i t r x ee y) : ee = .returned (.tuple #[]) ∧ ∃ A n, RI w g gp gc k i r.1 r.2.1 A n t r.2.2.1 r.2.2.2 y := by
  obtain ⟨h1, A, n, h2, h3, h4, h5, h6⟩ := hr
  refine ⟨h1, A, n, ⟨Mods.below h.kept h6 h.kept.size (fun z hz => hz.elim (fun e => by rw [e]; exact h.base.2.1) (fun e => by rw [e]; exact h.base.2.2)), h.res.mods h6 (fun hz => hz.elim h.ne.1 h.ne.2.1), h4, h5, h3, h2, h.ne, h.base⟩⟩
theorem RI.into (h : RI w g gp gc k i c l A n t a e x) : PkIn x x.heap.size (ackR1 k i c l) { hs0 with props := ⟨A, n⟩ } := PkIn.R1 h.rd h.cap k i c
/-- The result stored. -/
theorem RI.none (h : RI w g gp gc k i c l A n t a e x) : Below w.heap.size w (putPk x g pk0 hs0) ∧ Bk (putPk x g pk0 hs0) g PkT (pkC pk0 hs0) := ⟨below_put h.kept h.kept.size h.base.1 _ _, put_bk h.res _ _⟩
theorem RI.some (h : RI w g gp gc k i c l A n t a e x) : Below w.heap.size w (putPk x g (ackR1 k i c l) { hs0 with props := ⟨A, n⟩ }) ∧ Bk (putPk x g (ackR1 k i c l) { hs0 with props := ⟨A, n⟩ }) g PkT (pkC (ackR1 k i c l) { hs0 with props := ⟨A, n⟩ }) ∧
    PkIn (putPk x g (ackR1 k i c l) { hs0 with props := ⟨A, n⟩ }) (putPk x g (ackR1 k i c l) { hs0 with props := ⟨A, n⟩ }).heap.size (ackR1 k i c l) { hs0 with props := ⟨A, n⟩ } :=
  ⟨below_put h.kept h.kept.size h.base.1 _ _, put_bk h.res _ _, PkIn.R1 ((h.rd.other h.res (pk_no32 _ _) (putPk_mods _ _ _ _) (Nat.le_refl _)).wider (putPk_mods _ _ _ _).size) h.cap k i c⟩
end
/-- What a reading of a packet leaves. -/
def PkOut (r : Pk × Int) (w : World) (e : Ending) (w' : World) : Prop := ∃ h, e = .returned (.tuple #[pkV r.1 h, .int .i64 r.2]) ∧ PkIn w' w'.heap.size r.1 h ∧ Below w.heap.size w w'
theorem pkOut_bad {r : Pk × Int} {x : Int} {w w' : World} (h : r = (pk0, x)) (hb : Below w.heap.size w w') : PkOut r w (.returned (.tuple #[pkV pk0 hs0, .int .i64 x])) w' := by
  subst h
  exact ⟨hs0, rfl, ⟨Rd.nil _ _ _ _, Rd.nil _ _ _ _, Rd.nil _ _ _ _, Rd.nil _ _ _ _, Nat.zero_le _, Nat.zero_le _, Nat.zero_le _, Nat.zero_le _⟩, hb⟩
theorem pkOut_ok {r : Pk × Int} {p : Pk} {h : Hs} {w w' : World} (hr : r = (p, 0)) (hi : PkIn w' w'.heap.size p h) (hb : Below w.heap.size w w') : PkOut r w (.returned (.tuple #[pkV p h, .int .i64 0])) w' := by
  subst hr
  exact ⟨h, rfl, hi, hb⟩
theorem fail_then {e n : Int} : (if e = 0 then n else e) = if e ≠ 0 then e else n := by
  by_cases h : e = 0
  · rw [if_pos h, if_neg (fun x => x h)]
  · rw [if_neg h, if_pos h]
theorem num_two_lt (t : ByteArray) (a : Nat) (e : Int) (ha : a ≤ t.size) : numS t a e 2 < 65536 := by
  unfold numS
  have h1 := getL_lt (ls (takeS t a e 2).1)
  have h2 : (ls (takeS t a e 2).1).length ≤ 2 := by
    rw [ls_len]
    exact takeS_size ha e 2 2 (by decide)
  have h3 : 256 ^ (ls (takeS t a e 2).1).length ≤ 256 ^ 2 := Nat.pow_le_pow_right (by omega) h2
  omega

theorem ackR_last {v k : Int} {s : ByteArray} (hk : ackK v k = true) (h2 : ¬ s.size < 2) :
    ((if ackErr v k s = 0 then ackE v (ackPre v k s) else ackErr v k s) = 0 ∧ ackR v k s = (ackPre v k s, 0)) ∨ ((if ackErr v k s = 0 then ackE v (ackPre v k s) else ackErr v k s) ≠ 0 ∧ ackR v k s = (pk0, (if ackErr v k s = 0 then ackE v (ackPre v k s) else ackErr v k s))) := by
  have e1 : ackR v k s = if ackErr v k s ≠ 0 then (pk0, ackErr v k s) else if ackE v (ackPre v k s) ≠ 0 then (pk0, ackE v (ackPre v k s)) else (ackPre v k s, 0) := by
    unfold ackR
    rw [if_neg (fun x => by rw [hk] at x; cases x), if_neg h2]
  rw [e1]
  by_cases h3 : ackErr v k s = 0
  · rw [if_pos h3, if_neg (fun x => x h3)]
    by_cases h4 : ackE v (ackPre v k s) = 0
    · rw [if_neg (fun x => x h4)]
      exact .inl ⟨h4, rfl⟩
    · rw [if_pos h4]
      exact .inr ⟨h4, rfl⟩
  · rw [if_neg h3, if_pos h3]
    exact .inr ⟨h3, rfl⟩
theorem ackR1_ki (k i : Int) : ({ pk0 with kind := k, id := i } : Pk) = ackR1 k i 0 [] := rfl
set_option maxHeartbeats 8000000 in
set_option maxRecDepth 10000 in
theorem ackRead_any (v k : Int) (s : ByteArray) (w : World) (hs : s.size ≤ 140737488351232) :
    Calls Tryz.prog 40 #[.int .i64 v, .int .i64 k, .string s] w (PkOut (ackR v k s) w) := by
  have HS := Lib.hid hs
  have HB0 := Lib.hid ((Below.refl w.heap.size w).alloc (Nat.le_refl _) (.cells (pkC pk0 hs0) PkT))
  have H60 := Lib.hid (Bk.fresh w PkT (pkC pk0 hs0))
  go_enter Tryz.func40, Tryz.ntmps40
  go_wp2_with fail
  refine (ackKnown_any v k _).mono ?_
  rintro e w1 ⟨rfl, rfl⟩
  cases hk : ackK v k
  · have HX : Hid (ackR v k s = (pk0, 2)) := Lib.hid (by unfold ackR; rw [if_pos hk])
    clear hk
    go_wp2
    refine bodyPost_ret (results_pk rfl _ rfl H60.out) rfl ?_
    exact pkOut_bad HX.out HB0.out
  have HK := Lib.hid hk
  clear hk
  go_wp2_with fail
  refine (newCur_any s _ (by have := HS.out; omega)).mono ?_
  rintro e w1 ⟨rfl, hc, hb⟩
  have hgc : (w.alloc (.cells (pkC pk0 hs0) PkT)).heap.size = w.heap.size + 1 := by simp
  have HB1 := Lib.hid (HB0.out.trans (hb.mono HB0.out.size)); have H61 := Lib.hid (H60.out.below hb H60.out.lt)
  rw [hgc] at hc ⊢
  have HC1 := Lib.hid hc
  clear hc hb hgc
  go_wp2_with fail
  refine (number_any (w.heap.size + 1) 0 s 0 2 _ HC1.out (by decide)).mono ?_
  rintro e w2 ⟨rfl, hc, hm⟩
  have HB2 := Lib.hid (below_mod HB1.out hm HB1.out.size (by omega)); have H62 := Lib.hid (H61.out.mods (S := fun z => z = w.heap.size + 1) (Mods.of_grown hm rfl) (by omega)); have HC2 := Lib.hid hc
  have HZ := Lib.hid HC2.out.lt
  have hid := num_two_lt s 0 0 (by omega)
  have HNUM : Hid (ackPre v k s = ackR1 k (numS s 0 0 2 : Nat) (restV v k s).1 (restV v k s).2.1) := Lib.hid rfl
  have HN0 : Hid (s.size < 2 → numS s 0 0 2 = 0) := Lib.hid fun h => by
    unfold numS
    rw [show ((2 : Int)) = ((2 : Nat) : Int) from rfl, take_no (by omega)]
    rfl
  clear hc hm
  generalize numS s 0 0 2 = m at *
  obtain ⟨id, hm1⟩ : ∃ id : Int, id = (m : Int) := ⟨_, rfl⟩
  have hw : IntKind.i64.wrap (m : Int) = id := by rw [hm1, IntKind.wrap_i64]; omega
  rw [← hm1] at HNUM
  have HM := Lib.hid hm1
  clear hid hm1
  have I3 : Hid (∀ e a, Cur w2 (w.heap.size + 1) s a e → RI w w.heap.size w2.heap.size (w.heap.size + 1) k id 0 [] none 0 s a e (w2.alloc (.cells (pkC (ackR1 k id 0 []) hs0) PkT))) := Lib.hid fun e a hc =>
    ⟨HB2.out.alloc HB2.out.size _, H62.out.alloc _, Bk.fresh _ _ _, ⟨hc.1.alloc _, hc.2⟩, Rd.nil _ _ _ _, Nat.le_refl _, ⟨by have := HZ.out; omega, by omega, by have := HZ.out; omega⟩, Nat.le_refl _, by have := HZ.out; omega, by omega⟩
  have h45 := ackK_four HK.out
  by_cases h2 : s.size < 2
  · have HT : Hid (takeS s 0 0 2 = (⟨#[]⟩, 0, 3)) := Lib.hid (take_no (k := 2) (by omega))
    obtain ⟨er, her⟩ : ∃ e : Int, e = 3 := ⟨3, rfl⟩
    have hc3 := HC2.out
    rw [HT.out] at hc3
    replace hc3 : Cur w2 (w.heap.size + 1) s 0 er := her ▸ hc3
    have hi0 : id = 0 := by rw [HM.out, HN0.out h2]; rfl
    have HW : Hid (((if er = 0 then ackE v (ackR1 k id 0 []) else er) = 0 ∧ ackR v k s = (ackR1 k id 0 [], 0)) ∨ ((if er = 0 then ackE v (ackR1 k id 0 []) else er) ≠ 0 ∧ ackR v k s = (pk0, (if er = 0 then ackE v (ackR1 k id 0 []) else er)))) := Lib.hid (by
      rw [if_neg (by omega)]
      refine .inr ⟨by omega, ?_⟩
      subst her
      unfold ackR
      rw [if_neg (by rw [HK.out]; decide), if_pos h2])
    have HOK : Hid (PkOk (ackR1 k id 0 [])) := Lib.hid (pkOk_R1 (by simp) (by simp))
    have I4 := Lib.hid (I3.out er 0 hc3)
    have e3 : (er == 0) = false := beq_eq_false_iff_ne.2 (by omega)
    clear hc3 HC2 hi0 I3 h2
    obtain ⟨E1, HE1'⟩ : ∃ E : Int, E = er := ⟨er, rfl⟩
    have HE1 : Hid (E1 = if er ≠ 0 then er else if 0 < s.size then 5 else 0) := Lib.hid (by rw [HE1', if_pos (by omega)])
    rw [← HE1'] at HW
    clear HE1' her
    rcases h45 with h4 | h5
    · have e5 : (v == 5) = false := beq_eq_false_iff_ne.2 (by omega)
      clear h4
      go_wp2_with fail
      refine (left_any _ 0 s er _ I4.out.cur).mono ?_
      rintro ee wL ⟨rfl, hb⟩
      have IL := Lib.hid (I4.out.below hb); clear hb
      by_cases hlt : 0 < s.size
      · have d1 : (0 : Int) < ((s.size - 0 : Nat) : Int) := by omega
        have HE3 : Hid ((if er = 0 then 5 else er) = E1) := Lib.hid (by rw [HE1.out, fail_then, if_pos hlt])
        clear hlt
        go_wp2_with fail
        refine (fail_any _ 0 s er 5 _ IL.out.cur).mono ?_
        rintro ee wF ⟨rfl, hc, hm⟩
        rw [HE3.out] at hc
        have IF := Lib.hid (IL.out.turn hc hm); clear hc hm
        have hl := ld_bk IF.out.pk
        go_wp2_with fail
        refine (ackValid_any v (ackR1 k id 0 []) _ _ IF.out.into HOK.out).mono ?_
        rintro ee wV ⟨rfl, hb⟩
        have IV := Lib.hid (IF.out.below hb); clear hb hl
        go_wp2_with fail
        refine (fail_any _ 0 s E1 (ackE v (ackR1 k id 0 [])) _ IV.out.cur).mono ?_
        rintro ee wG ⟨rfl, hc, hm⟩
        have IG := Lib.hid (IV.out.turn hc hm); clear hc hm
        have HW2 := HW
        generalize (if E1 = 0 then ackE v (ackR1 k id 0 []) else E1) = E2 at *
        go_wp2_with fail
        refine (err_any _ 0 s E2 _ IG.out.cur).mono ?_
        rintro ee wH ⟨rfl, rfl⟩
        have hl := ld_bk IG.out.pk
        have hst := run_stPk IG.out.res
        rcases HW2.out with ⟨h2, hr⟩ | ⟨h2, hr⟩
        · subst h2
          have HR := Lib.hid hr; clear hr
          go_wp2
          refine bodyPost_ret (results_pk rfl _ rfl IG.out.some.2.1) rfl ?_
          exact pkOut_ok HR.out IG.out.some.2.2 IG.out.some.1
        · have e0 : (E2 != 0) = true := bne_iff_ne.2 h2
          have HR := Lib.hid hr; clear hr h2
          go_wp2
          refine bodyPost_ret (results_pk rfl _ rfl IG.out.none.2) rfl ?_
          exact pkOut_bad HR.out IG.out.none.1
      · have d1 : ((s.size - 0 : Nat) : Int) ≤ 0 := by omega
        have HE3 : Hid (er = E1) := Lib.hid (by
          rw [HE1.out]
          by_cases h : er = 0
          · rw [if_neg (fun x => x h), if_neg hlt, h]
          · rw [if_pos h])
        have IF : Hid (RI w w.heap.size w2.heap.size (w.heap.size + 1) k id 0 [] none 0 s 0 E1 wL) := Lib.hid (HE3.out ▸ IL.out)
        clear hlt
        have hl := ld_bk IF.out.pk
        go_wp2_with fail
        refine (ackValid_any v (ackR1 k id 0 []) _ _ IF.out.into HOK.out).mono ?_
        rintro ee wV ⟨rfl, hb⟩
        have IV := Lib.hid (IF.out.below hb); clear hb hl
        go_wp2_with fail
        refine (fail_any _ 0 s E1 (ackE v (ackR1 k id 0 [])) _ IV.out.cur).mono ?_
        rintro ee wG ⟨rfl, hc, hm⟩
        have IG := Lib.hid (IV.out.turn hc hm); clear hc hm
        have HW2 := HW
        generalize (if E1 = 0 then ackE v (ackR1 k id 0 []) else E1) = E2 at *
        go_wp2_with fail
        refine (err_any _ 0 s E2 _ IG.out.cur).mono ?_
        rintro ee wH ⟨rfl, rfl⟩
        have hl := ld_bk IG.out.pk
        have hst := run_stPk IG.out.res
        rcases HW2.out with ⟨h2, hr⟩ | ⟨h2, hr⟩
        · subst h2
          have HR := Lib.hid hr; clear hr
          go_wp2
          refine bodyPost_ret (results_pk rfl _ rfl IG.out.some.2.1) rfl ?_
          exact pkOut_ok HR.out IG.out.some.2.2 IG.out.some.1
        · have e0 : (E2 != 0) = true := bne_iff_ne.2 h2
          have HR := Lib.hid hr; clear hr h2
          go_wp2
          refine bodyPost_ret (results_pk rfl _ rfl IG.out.none.2) rfl ?_
          exact pkOut_bad HR.out IG.out.none.1
    · have e5 : (v == 5) = true := beq_iff_eq.2 h5
      clear h5
      go_wp2_with fail
      rw [ackR1_ki]
      refine (err_any _ 0 s er _ I4.out.cur).mono ?_
      rintro ee wE ⟨rfl, rfl⟩
      go_wp2_with fail
      refine (left_any _ 0 s er _ I4.out.cur).mono ?_
      rintro ee wL ⟨rfl, hb⟩
      have IL := Lib.hid (I4.out.below hb); clear hb
      by_cases hlt : 0 < s.size
      · have d1 : (0 : Int) < ((s.size - 0 : Nat) : Int) := by omega
        have HE3 : Hid ((if er = 0 then 5 else er) = E1) := Lib.hid (by rw [HE1.out, fail_then, if_pos hlt])
        clear hlt
        go_wp2_with fail
        refine (fail_any _ 0 s er 5 _ IL.out.cur).mono ?_
        rintro ee wF ⟨rfl, hc, hm⟩
        rw [HE3.out] at hc
        have IF := Lib.hid (IL.out.turn hc hm); clear hc hm
        have hl := ld_bk IF.out.pk
        go_wp2_with fail
        refine (ackValid_any v (ackR1 k id 0 []) _ _ IF.out.into HOK.out).mono ?_
        rintro ee wV ⟨rfl, hb⟩
        have IV := Lib.hid (IF.out.below hb); clear hb hl
        go_wp2_with fail
        refine (fail_any _ 0 s E1 (ackE v (ackR1 k id 0 [])) _ IV.out.cur).mono ?_
        rintro ee wG ⟨rfl, hc, hm⟩
        have IG := Lib.hid (IV.out.turn hc hm); clear hc hm
        have HW2 := HW
        generalize (if E1 = 0 then ackE v (ackR1 k id 0 []) else E1) = E2 at *
        go_wp2_with fail
        refine (err_any _ 0 s E2 _ IG.out.cur).mono ?_
        rintro ee wH ⟨rfl, rfl⟩
        have hl := ld_bk IG.out.pk
        have hst := run_stPk IG.out.res
        rcases HW2.out with ⟨h2, hr⟩ | ⟨h2, hr⟩
        · subst h2
          have HR := Lib.hid hr; clear hr
          go_wp2
          refine bodyPost_ret (results_pk rfl _ rfl IG.out.some.2.1) rfl ?_
          exact pkOut_ok HR.out IG.out.some.2.2 IG.out.some.1
        · have e0 : (E2 != 0) = true := bne_iff_ne.2 h2
          have HR := Lib.hid hr; clear hr h2
          go_wp2
          refine bodyPost_ret (results_pk rfl _ rfl IG.out.none.2) rfl ?_
          exact pkOut_bad HR.out IG.out.none.1
      · have d1 : ((s.size - 0 : Nat) : Int) ≤ 0 := by omega
        have HE3 : Hid (er = E1) := Lib.hid (by
          rw [HE1.out]
          by_cases h : er = 0
          · rw [if_neg (fun x => x h), if_neg hlt, h]
          · rw [if_pos h])
        have IF : Hid (RI w w.heap.size w2.heap.size (w.heap.size + 1) k id 0 [] none 0 s 0 E1 wL) := Lib.hid (HE3.out ▸ IL.out)
        clear hlt
        have hl := ld_bk IF.out.pk
        go_wp2_with fail
        refine (ackValid_any v (ackR1 k id 0 []) _ _ IF.out.into HOK.out).mono ?_
        rintro ee wV ⟨rfl, hb⟩
        have IV := Lib.hid (IF.out.below hb); clear hb hl
        go_wp2_with fail
        refine (fail_any _ 0 s E1 (ackE v (ackR1 k id 0 [])) _ IV.out.cur).mono ?_
        rintro ee wG ⟨rfl, hc, hm⟩
        have IG := Lib.hid (IV.out.turn hc hm); clear hc hm
        have HW2 := HW
        generalize (if E1 = 0 then ackE v (ackR1 k id 0 []) else E1) = E2 at *
        go_wp2_with fail
        refine (err_any _ 0 s E2 _ IG.out.cur).mono ?_
        rintro ee wH ⟨rfl, rfl⟩
        have hl := ld_bk IG.out.pk
        have hst := run_stPk IG.out.res
        rcases HW2.out with ⟨h2, hr⟩ | ⟨h2, hr⟩
        · subst h2
          have HR := Lib.hid hr; clear hr
          go_wp2
          refine bodyPost_ret (results_pk rfl _ rfl IG.out.some.2.1) rfl ?_
          exact pkOut_ok HR.out IG.out.some.2.2 IG.out.some.1
        · have e0 : (E2 != 0) = true := bne_iff_ne.2 h2
          have HR := Lib.hid hr; clear hr h2
          go_wp2
          refine bodyPost_ret (results_pk rfl _ rfl IG.out.none.2) rfl ?_
          exact pkOut_bad HR.out IG.out.none.1
  · have HT : Hid (takeS s 0 0 2 = (s.extract 0 2, 2, 0)) := Lib.hid (take_yes (k := 2) (by omega))
    obtain ⟨er, her⟩ : ∃ e : Int, e = 0 := ⟨0, rfl⟩
    have hc3 := HC2.out
    rw [HT.out] at hc3
    replace hc3 : Cur w2 (w.heap.size + 1) s 2 er := her ▸ hc3
    have HW0 := Lib.hid (ackR_last HK.out h2)
    have I4 := Lib.hid (I3.out er 2 hc3)
    clear hc3 HC2 I3
    rcases h45 with h4 | h5
    · have e5 : (v == 5) = false := beq_eq_false_iff_ne.2 (by omega)
      have hv : restV v k s = (0, [], 2, 0) := by unfold restV; rw [if_neg (by omega)]
      rw [hv] at HNUM
      obtain ⟨E1, HE1'⟩ : ∃ E : Int, E = ackErr v k s := ⟨_, rfl⟩
      have HE1 : Hid (E1 = if er ≠ 0 then er else if 2 < s.size then 5 else 0) := Lib.hid (by rw [HE1', her]; unfold ackErr; rw [hv])
      have HW1 := HW0.out
      rw [← HE1', HNUM.out] at HW1
      have HW := Lib.hid HW1
      have HOK : Hid (PkOk (ackR1 k id 0 [])) := Lib.hid (pkOk_R1 (by simp) (by simp))
      clear h4 HE1' HW1 hv HNUM HW0 h2 her
      go_wp2_with fail
      refine (left_any _ 2 s er _ I4.out.cur).mono ?_
      rintro ee wL ⟨rfl, hb⟩
      have IL := Lib.hid (I4.out.below hb); clear hb
      by_cases hlt : 2 < s.size
      · have d1 : (0 : Int) < ((s.size - 2 : Nat) : Int) := by omega
        have HE3 : Hid ((if er = 0 then 5 else er) = E1) := Lib.hid (by rw [HE1.out, fail_then, if_pos hlt])
        clear hlt
        go_wp2_with fail
        refine (fail_any _ 2 s er 5 _ IL.out.cur).mono ?_
        rintro ee wF ⟨rfl, hc, hm⟩
        rw [HE3.out] at hc
        have IF := Lib.hid (IL.out.turn hc hm); clear hc hm
        have hl := ld_bk IF.out.pk
        go_wp2_with fail
        refine (ackValid_any v (ackR1 k id 0 []) _ _ IF.out.into HOK.out).mono ?_
        rintro ee wV ⟨rfl, hb⟩
        have IV := Lib.hid (IF.out.below hb); clear hb hl
        go_wp2_with fail
        refine (fail_any _ 2 s E1 (ackE v (ackR1 k id 0 [])) _ IV.out.cur).mono ?_
        rintro ee wG ⟨rfl, hc, hm⟩
        have IG := Lib.hid (IV.out.turn hc hm); clear hc hm
        have HW2 := HW
        generalize (if E1 = 0 then ackE v (ackR1 k id 0 []) else E1) = E2 at *
        go_wp2_with fail
        refine (err_any _ 2 s E2 _ IG.out.cur).mono ?_
        rintro ee wH ⟨rfl, rfl⟩
        have hl := ld_bk IG.out.pk
        have hst := run_stPk IG.out.res
        rcases HW2.out with ⟨h2, hr⟩ | ⟨h2, hr⟩
        · subst h2
          have HR := Lib.hid hr; clear hr
          go_wp2
          refine bodyPost_ret (results_pk rfl _ rfl IG.out.some.2.1) rfl ?_
          exact pkOut_ok HR.out IG.out.some.2.2 IG.out.some.1
        · have e0 : (E2 != 0) = true := bne_iff_ne.2 h2
          have HR := Lib.hid hr; clear hr h2
          go_wp2
          refine bodyPost_ret (results_pk rfl _ rfl IG.out.none.2) rfl ?_
          exact pkOut_bad HR.out IG.out.none.1
      · have d1 : ((s.size - 2 : Nat) : Int) ≤ 0 := by omega
        have HE3 : Hid (er = E1) := Lib.hid (by
          rw [HE1.out]
          by_cases h : er = 0
          · rw [if_neg (fun x => x h), if_neg hlt, h]
          · rw [if_pos h])
        have IF : Hid (RI w w.heap.size w2.heap.size (w.heap.size + 1) k id 0 [] none 0 s 2 E1 wL) := Lib.hid (HE3.out ▸ IL.out)
        clear hlt
        have hl := ld_bk IF.out.pk
        go_wp2_with fail
        refine (ackValid_any v (ackR1 k id 0 []) _ _ IF.out.into HOK.out).mono ?_
        rintro ee wV ⟨rfl, hb⟩
        have IV := Lib.hid (IF.out.below hb); clear hb hl
        go_wp2_with fail
        refine (fail_any _ 2 s E1 (ackE v (ackR1 k id 0 [])) _ IV.out.cur).mono ?_
        rintro ee wG ⟨rfl, hc, hm⟩
        have IG := Lib.hid (IV.out.turn hc hm); clear hc hm
        have HW2 := HW
        generalize (if E1 = 0 then ackE v (ackR1 k id 0 []) else E1) = E2 at *
        go_wp2_with fail
        refine (err_any _ 2 s E2 _ IG.out.cur).mono ?_
        rintro ee wH ⟨rfl, rfl⟩
        have hl := ld_bk IG.out.pk
        have hst := run_stPk IG.out.res
        rcases HW2.out with ⟨h2, hr⟩ | ⟨h2, hr⟩
        · subst h2
          have HR := Lib.hid hr; clear hr
          go_wp2
          refine bodyPost_ret (results_pk rfl _ rfl IG.out.some.2.1) rfl ?_
          exact pkOut_ok HR.out IG.out.some.2.2 IG.out.some.1
        · have e0 : (E2 != 0) = true := bne_iff_ne.2 h2
          have HR := Lib.hid hr; clear hr h2
          go_wp2
          refine bodyPost_ret (results_pk rfl _ rfl IG.out.none.2) rfl ?_
          exact pkOut_bad HR.out IG.out.none.1
    · have e5 : (v == 5) = true := beq_iff_eq.2 h5
      have hv : restV v k s = restS k s 2 := by unfold restV; rw [if_pos h5]
      rw [hv] at HNUM
      obtain ⟨E1, HE1'⟩ : ∃ E : Int, E = ackErr v k s := ⟨_, rfl⟩
      have HE0 : Hid (E1 = if (restS k s 2).2.2.2 ≠ 0 then (restS k s 2).2.2.2 else if (restS k s 2).2.2.1 < s.size then 5 else 0) := Lib.hid (by rw [HE1']; unfold ackErr; rw [hv])
      have HW1 := HW0.out
      rw [← HE1', HNUM.out] at HW1
      have HW2 := Lib.hid HW1
      have HOK0 : Hid (PkOk (ackR1 k id (restS k s 2).1 (restS k s 2).2.1)) := Lib.hid (pkOk_R1 (rest_good HS.out) (by have := rest_many k s 2; omega))
      clear h5 HE1' HW1 hv HNUM HW0 h2
      subst her
      go_wp2_with fail
      rw [ackR1_ki]
      refine (err_any _ 2 s 0 _ I4.out.cur).mono ?_
      rintro ee wE ⟨rfl, rfl⟩
      go_wp2_with fail
      refine (ackRest_any _ _ 2 s k id _ I4.out.pk I4.out.cur HS.out).mono ?_
      rintro ee wR hr
      obtain ⟨rfl, A, n, hI⟩ := I4.out.rest hr
      generalize restS k s 2 = R at *
      obtain ⟨c, l, a, er⟩ := R
      simp only at HE0 HW2 HOK0 hI
      have HE1 := HE0; have HW := HW2; have HOK := HOK0
      have I4 := Lib.hid hI
      clear hI hr
      go_wp2_with fail
      refine (left_any _ a s er _ I4.out.cur).mono ?_
      rintro ee wL ⟨rfl, hb⟩
      have IL := Lib.hid (I4.out.below hb); clear hb
      by_cases hlt : a < s.size
      · have d1 : (0 : Int) < ((s.size - a : Nat) : Int) := by omega
        have HE3 : Hid ((if er = 0 then 5 else er) = E1) := Lib.hid (by rw [HE1.out, fail_then, if_pos hlt])
        clear hlt
        go_wp2_with fail
        refine (fail_any _ a s er 5 _ IL.out.cur).mono ?_
        rintro ee wF ⟨rfl, hc, hm⟩
        rw [HE3.out] at hc
        have IF := Lib.hid (IL.out.turn hc hm); clear hc hm
        have hl := ld_bk IF.out.pk
        go_wp2_with fail
        refine (ackValid_any v (ackR1 k id c l) _ _ IF.out.into HOK.out).mono ?_
        rintro ee wV ⟨rfl, hb⟩
        have IV := Lib.hid (IF.out.below hb); clear hb hl
        go_wp2_with fail
        refine (fail_any _ a s E1 (ackE v (ackR1 k id c l)) _ IV.out.cur).mono ?_
        rintro ee wG ⟨rfl, hc, hm⟩
        have IG := Lib.hid (IV.out.turn hc hm); clear hc hm
        have HW2 := HW
        generalize (if E1 = 0 then ackE v (ackR1 k id c l) else E1) = E2 at *
        go_wp2_with fail
        refine (err_any _ a s E2 _ IG.out.cur).mono ?_
        rintro ee wH ⟨rfl, rfl⟩
        have hl := ld_bk IG.out.pk
        have hst := run_stPk IG.out.res
        rcases HW2.out with ⟨h2, hr⟩ | ⟨h2, hr⟩
        · subst h2
          have HR := Lib.hid hr; clear hr
          go_wp2
          refine bodyPost_ret (results_pk rfl _ rfl IG.out.some.2.1) rfl ?_
          exact pkOut_ok HR.out IG.out.some.2.2 IG.out.some.1
        · have e0 : (E2 != 0) = true := bne_iff_ne.2 h2
          have HR := Lib.hid hr; clear hr h2
          go_wp2
          refine bodyPost_ret (results_pk rfl _ rfl IG.out.none.2) rfl ?_
          exact pkOut_bad HR.out IG.out.none.1
      · have d1 : ((s.size - a : Nat) : Int) ≤ 0 := by omega
        have HE3 : Hid (er = E1) := Lib.hid (by
          rw [HE1.out]
          by_cases h : er = 0
          · rw [if_neg (fun x => x h), if_neg hlt, h]
          · rw [if_pos h])
        have IF : Hid (RI w w.heap.size w2.heap.size (w.heap.size + 1) k id c l A n s a E1 wL) := Lib.hid (HE3.out ▸ IL.out)
        clear hlt
        have hl := ld_bk IF.out.pk
        go_wp2_with fail
        refine (ackValid_any v (ackR1 k id c l) _ _ IF.out.into HOK.out).mono ?_
        rintro ee wV ⟨rfl, hb⟩
        have IV := Lib.hid (IF.out.below hb); clear hb hl
        go_wp2_with fail
        refine (fail_any _ a s E1 (ackE v (ackR1 k id c l)) _ IV.out.cur).mono ?_
        rintro ee wG ⟨rfl, hc, hm⟩
        have IG := Lib.hid (IV.out.turn hc hm); clear hc hm
        have HW2 := HW
        generalize (if E1 = 0 then ackE v (ackR1 k id c l) else E1) = E2 at *
        go_wp2_with fail
        refine (err_any _ a s E2 _ IG.out.cur).mono ?_
        rintro ee wH ⟨rfl, rfl⟩
        have hl := ld_bk IG.out.pk
        have hst := run_stPk IG.out.res
        rcases HW2.out with ⟨h2, hr⟩ | ⟨h2, hr⟩
        · subst h2
          have HR := Lib.hid hr; clear hr
          go_wp2
          refine bodyPost_ret (results_pk rfl _ rfl IG.out.some.2.1) rfl ?_
          exact pkOut_ok HR.out IG.out.some.2.2 IG.out.some.1
        · have e0 : (E2 != 0) = true := bne_iff_ne.2 h2
          have HR := Lib.hid hr; clear hr h2
          go_wp2
          refine bodyPost_ret (results_pk rfl _ rfl IG.out.none.2) rfl ?_
          exact pkOut_bad HR.out IG.out.none.1
end Go.Proofs.YtpcaffimahapjaaGreat
