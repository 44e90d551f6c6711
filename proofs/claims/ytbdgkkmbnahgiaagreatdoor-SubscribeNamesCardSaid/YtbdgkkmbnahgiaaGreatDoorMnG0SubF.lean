/- A part of what the laws stand on: SubF, Rtd. -/
import Derived.Test.YtbdgkkmbnahgiaaGreatDoorMnG0Rtc
import Derived.Deep.LoopGhost
namespace Go.Proofs.YtbdgkkmbnahgiaaGreatDoor
open Go.RowKit
attribute [local go_sem ↓] to_ldPk to_bxPk to_bdPk to_alPk to_stPk
attribute [local go_sem] run_bxPk run_bxPk_agg ld_fresh run_alPk run_bd0 run_bdK run_bdKI run_bdKIC run_bdKC run_bdKICP run_stPk_fresh pkC_0 pkC_1 pkC_2 pkC_3 pkC_4 pkC_5 pkC_6 pkC_7 pkC_8 pkC_9 pkC_10 pkC_11 pkC_12 pkC_13 pkC_14 pkC_15 pkC_16 pkC_17 pkC_18 pkC_19 pkC_20 pkC_21 pkC_22 pkC_23 pkC_24
theorem Mods.own {S : Nat → Prop} {w x y : World} {r : Option Nat} (h : Mods S w x) (hg : x.grownBy y r) (hr : ∀ k, r = some k → w.heap.size ≤ k) : Mods S w y :=
  ⟨hg.os.trans h.os, hg.tape.trans h.tape, hg.output.trans h.output, Nat.le_trans h.size hg.size, fun i hi hs => (hg.block i (Nat.lt_of_lt_of_le hi h.size) (fun e => by have := hr i e.symm; omega)).trans (h.block i hi hs)⟩
/-- What stands while list runs: the cursor, the packet's block, the row that holds one of its lists. -/
structure LS (w : World) (g gp : Nat) (t : ByteArray) (q : Pk) (hq : Hs) (a : Nat) (e : Int) (x : World) : Prop where
  cur : Cur x g t a e
  pk : Bk x gp PkT (pkC q hq)
  mods : Mods (two g gp) w x
  ne : g < w.heap.size ∧ gp < w.heap.size ∧ g ≠ gp
def OwnF (w x : World) (l : List Fi) (F : Hd) : Prop := x.ownsRow w.heap.size 32 5 (.slice F.a l.length F.c) l.length (fis l)
def OwnC (w x : World) (l : List Int) (C : Hd) : Prop := x.ownsRow w.heap.size 3 1 (.slice C.a l.length C.c) l.length (iv l)
section
variable {w x y : World} {g gp : Nat} {t : ByteArray} {q : Pk} {hq : Hs} {a a' : Nat} {e e' : Int}
theorem LS.drewN (s : LS w g gp t q hq a e x) (n : Nat) : LS w g gp t q hq a e (x.drewN n) := ⟨s.cur, s.pk, s.mods.drewN n, s.ne⟩
theorem LS.below (s : LS w g gp t q hq a e x) (hb : Below x.heap.size x y) : LS w g gp t q hq a e y := ⟨s.cur.below hb, s.pk.below hb s.pk.lt, s.mods.trans (Mods.of_below hb), s.ne⟩
theorem LS.alloc (s : LS w g gp t q hq a e x) (o : Obj) : LS w g gp t q hq a e (x.alloc o) := s.below ((Below.refl _ _).alloc (Nat.le_refl _) o)
theorem LS.turn (s : LS w g gp t q hq a e x) (hc : Cur y g t a' e') (hm : x.grownBy y (some g)) : LS w g gp t q hq a' e' y :=
  ⟨hc, s.pk.mods (S := fun i => i = g) (Mods.of_grown hm rfl) (fun e => s.ne.2.2 e.symm), s.mods.trans (Mods.of_grown hm (.inl rfl)), s.ne⟩
/-- Behind a change of a row of the call's own. -/
theorem LS.grown (s : LS w g gp t q hq a e x) {r : Option Nat} (hg : x.grownBy y r) (hr : ∀ k, r = some k → w.heap.size ≤ k) : LS w g gp t q hq a e y :=
  ⟨⟨(hg.block g s.cur.lt (fun h => by have := hr g h.symm; have := s.ne; omega)).trans s.cur.1, s.cur.2⟩, (hg.block gp s.pk.lt (fun h => by have := hr gp h.symm; have := s.ne; omega)).trans s.pk, s.mods.own hg hr, s.ne⟩
theorem LS.put (s : LS w g gp t q hq a e x) (i : Nat) (u : Value) {q' : Pk} {hq' : Hs} (hu : (pkC q hq).setIfInBounds i u = pkC q' hq') : LS w g gp t q' hq' a e (x.setCell ⟨gp, i, none⟩ u) :=
  ⟨⟨s.cur.1.other (by have := s.ne.2.2; simpa using this) _, s.cur.2⟩, s.pk.upd i u hu, s.mods.set gp i (.inl (.inr rfl)) _, s.ne⟩
theorem OwnF.stay {l : List Fi} {F : Hd} (h : OwnF w x l F) (hm : x.grownBy y (some g)) (hg : g < w.heap.size) : OwnF w y l F := own_mods h (Mods.of_grown (S := fun i => i = g) hm rfl) (fun k hk e => by have := (own_block h k hk).1; omega)
theorem OwnC.stay {l : List Int} {F : Hd} (h : OwnC w x l F) (hm : x.grownBy y (some g)) (hg : g < w.heap.size) : OwnC w y l F := own_mods h (Mods.of_grown (S := fun i => i = g) hm rfl) (fun k hk e => by have := (own_block h k hk).1; omega)
end
theorem OwnC.snoc {w x : World} {l : List Int} {A : Option Addr} {c : Nat} {y : Int} (h : x.ownsRow w.heap.size 3 1 (.slice A (l.length + 1) c) (l.length + 1) (iv l ++ [.int .i64 y])) {g i : Nat} (u : Value) (hg : g < w.heap.size) : OwnC w (x.setCell ⟨g, i, none⟩ u) (l ++ [y]) ⟨A, c⟩ := by
  have h1 : OwnC w x (l ++ [y]) ⟨A, c⟩ := by
    unfold OwnC
    rw [List.length_append]
    simpa [iv] using h
  exact h1.stay (mod_set x g i u) hg
theorem codes_put (q : Pk) (hq : Hs) (l : List Int) (y : Int) (A : Option Addr) (c : Nat) (C : Hd) : (pkC { q with codes := l } { hq with codes := C }).setIfInBounds 22 (.slice A (l.length + 1) c) = pkC { q with codes := l ++ [y] } { hq with codes := ⟨A, c⟩ } := by
  rw [show l.length + 1 = (l ++ [y]).length by simp]
  rfl
theorem LS.opt {w x y : World} {g gp gf : Nat} {t : ByteArray} {q : Pk} {hq : Hs} {a a' : Nat} {e e' : Int} (s : LS w g gp t q hq a e x) (hc : Cur y g t a' e') (hm : Mods (two g gf) x y) (hgf : w.heap.size ≤ gf) : LS w g gp t q hq a' e' y := by
  have h1 := s.ne
  exact ⟨hc, s.pk.mods hm (fun h => by rcases h with h | h <;> omega), ⟨hm.os.trans s.mods.os, hm.tape.trans s.mods.tape, hm.output.trans s.mods.output, Nat.le_trans s.mods.size hm.size, fun i hi hs =>
    (hm.block i (Nat.lt_of_lt_of_le hi s.mods.size) (fun h => by rcases h with h | h; exact hs (.inl h); omega)).trans (s.mods.block i hi hs)⟩, h1⟩
theorem OwnF.opt {w x y : World} {g gf : Nat} {l : List Fi} {F : Hd} (h : OwnF w x l F) (hm : Mods (two g gf) x y) (hg : g < w.heap.size) (hlt : ∀ q, (Value.slice F.a l.length F.c).ownBlock = some q → q < gf) : OwnF w y l F :=
  own_mods h hm (fun k hk e => by have h1 := (own_block h k hk).1; have h2 := hlt k hk; rcases e with e | e <;> omega)
theorem fis_snoc (l : List Fi) (f : Fi) : fis (l ++ [f]) = fis l ++ fiC f := by simp [fis]
theorem OwnF.snoc {w x : World} {l : List Fi} {A : Option Addr} {c : Nat} {f : Fi} (h : x.ownsRow w.heap.size 32 5 (.slice A (l.length + 1) c) (l.length + 1) (fis l ++ fiC f)) {g i : Nat} (u : Value) (hg : g < w.heap.size) : OwnF w (x.setCell ⟨g, i, none⟩ u) (l ++ [f]) ⟨A, c⟩ := by
  have h1 : OwnF w x (l ++ [f]) ⟨A, c⟩ := by
    unfold OwnF
    rw [List.length_append, fis_snoc]
    exact h
  exact h1.stay (mod_set x g i u) hg
theorem filters_put (q : Pk) (hq : Hs) (l : List Fi) (f : Fi) (A : Option Addr) (c : Nat) (F : Hd) : (pkC { q with filters := l } { hq with filters := F }).setIfInBounds 23 (.slice A (l.length + 1) c) = pkC { q with filters := l ++ [f] } { hq with filters := ⟨A, c⟩ } := by
  rw [show l.length + 1 = (l ++ [f]).length by simp]
  rfl
theorem rd_fi1 (W : World) (f : Fi) : Rd (W.alloc (.cells #[.string f.topic, .int .i64 f.qos, .bool f.noLocal, .bool f.asPub, .int .i64 f.handling] 32)) (W.heap.size + 1) 5 (some ⟨W.heap.size, 0, none⟩) 1 (fiC f) := by
  have h := Rd.fresh W (fiCells f) 32
  refine ⟨rfl, ?_⟩
  rcases h.2 with h | h
  · exact .inl h
  · exact .inr h
theorem fiC_one (f : Fi) : ∀ u ∈ fiC f, u.oneCell' = true := by
  intro u hu
  simp [fiC] at hu
  rcases hu with rfl | rfl | rfl | rfl | rfl <;> rfl
theorem lsR_succ (v k : Int) (t : ByteArray) (n a : Nat) (e : Int) (fi : List Fi) (cd : List Int) : lsR v k t (n + 1) a e fi cd =
    if e ≠ 0 ∨ t.size ≤ a then (fi, cd, a, e)
    else if sbAsk k = true then lsR v k t n (fiR v k t a).2.1 (fiR v k t a).2.2 (fi ++ [(fiR v k t a).1]) cd
    else lsR v k t n (a + 1) 0 fi (cd ++ [((numS t a 0 1 : Nat) : Int)]) := rfl
theorem lsR_err {v k : Int} {t : ByteArray} {n a : Nat} {e : Int} {fi : List Fi} {cd : List Int} (he : e ≠ 0) : lsR v k t n a e fi cd = (fi, cd, a, e) := by
  cases n with
  | zero => rfl
  | succ n => rw [lsR_succ, if_pos (.inl he)]
theorem readU_zero {r : ByteArray} (h : (readU r).2.2 ≠ 0) : (readU r).2.1 = 0 := by
  unfold readU readB at h ⊢
  split
  · rfl
  · rename_i hc
    rw [if_neg hc] at h
    split
    · rfl
    · rename_i h1
      rw [if_neg h1] at h
      split
      · rfl
      · rename_i h2
        rw [if_neg h2] at h
        exact absurd rfl h
theorem rt_take {t : ByteArray} {a : Nat} (ha : a ≤ t.size) : (takeS t a (readU (t.extract a t.size)).2.2 ((readU (t.extract a t.size)).2.1 : Nat)).2 = ((rtC t a 0).2.1, (rtC t a 0).2.2) := by
  have hR : rtC t a 0 = ((readU (t.extract a t.size)).1, a + (readU (t.extract a t.size)).2.1, (readU (t.extract a t.size)).2.2) := if_neg (fun x => x rfl)
  have hle := (readU_le (t.extract a t.size)).1
  rw [size_back] at hle
  rw [hR]
  by_cases hx : (readU (t.extract a t.size)).2.2 = 0
  · rw [hx, take_yes (by omega)]
  · rw [takeS_bad hx, readU_zero hx]
    rfl
set_option maxHeartbeats 8000000 in
set_option maxRecDepth 10000 in
theorem sbList_any (v : Int) (hv : v = 4 ∨ v = 5) (k : Int) (hk : sbKnown v k = true) (g gp a0 : Nat) (t : ByteArray) (e0 : Int) (p : Pk) (h : Hs) (w : World) (hkp : p.kind = k) (hc : Cur w g t a0 e0) (hp : Bk w gp PkT (pkC { p with filters := [], codes := [] } { h with filters := hd0, codes := hd0 })) (hne : g ≠ gp) (ht : t.size ≤ 1000000000000) :
    Calls Tryz.prog 67 #[.int .i64 v, .pointer (some ⟨g, 0, none⟩), .pointer (some ⟨gp, 0, none⟩)] w fun e' w' =>
      e' = .returned (.tuple #[]) ∧ ∃ F C fi cd a e, lsR v k t (t.size + 1) a0 e0 [] [] = (fi, cd, a, e) ∧ LS w g gp t { p with filters := fi, codes := cd } { h with filters := F, codes := C } a e w' ∧ OwnF w w' fi F ∧ OwnC w w' cd C := by
  have L0 : Hid (LS w g gp t { p with filters := [], codes := [] } { h with filters := hd0, codes := hd0 } a0 e0 w) := Lib.hid ⟨hc, hp, Mods.refl _, hc.lt, hp.lt, hne⟩
  have HK := Lib.hid hk; have HV := Lib.hid hv; have HKP := Lib.hid hkp; have HT := Lib.hid ht
  obtain ⟨RES, hRES⟩ : ∃ R, lsR v k t (t.size + 1) a0 e0 [] [] = R := ⟨_, rfl⟩
  rw [hRES]
  have HRES := Lib.hid hRES
  clear hk hv hkp hc hp hne ht hRES
  go_enter Tryz.func67, Tryz.ntmps67
  go_wp2
  go_step3
  go_wp2
  go_step3
  go_wp2
  go_loopg [] (t.size + 1) (fun n wr => ∃ (a : Nat) (e : Int) (fi : List Fi) (cd : List Int) (F C : Hd), lsR v k t n a e fi cd = RES ∧ (e = 0 → t.size - a < n) ∧ (e = 0 → fi.length ≤ a ∧ cd.length ≤ a) ∧ ((sbAsk k = true → cd = [] ∧ C = hd0) ∧ (sbAsk k = false → fi = [] ∧ F = hd0)) ∧
    LS w g gp t { p with filters := fi, codes := cd } { h with filters := F, codes := C } a e wr ∧ OwnF w wr fi F ∧ OwnC w wr cd C)
  case atStart => exact ⟨a0, e0, [], [], hd0, hd0, HRES.out, fun _ => by omega, fun _ => ⟨Nat.zero_le _, Nat.zero_le _⟩, ⟨fun _ => ⟨rfl, rfl⟩, fun _ => ⟨rfl, rfl⟩⟩, L0.out, World.ownsRow_nil _ _ _ _, World.ownsRow_nil _ _ _ _⟩
  case round =>
    obtain ⟨a, e, fi, cd, F, C, hl, hfu, hlen, hnil, hI, hF, hC⟩ := hrel
    have HNIL := Lib.hid hnil; clear hnil
    have HL := Lib.hid hl; have HFU := Lib.hid hfu; have HLEN := Lib.hid hlen; have I := Lib.hid hI; have OF := Lib.hid hF; have OC := Lib.hid hC
    clear hl hfu hlen hI hF hC
    go_wp2_with fail
    refine (err_any g a t e _ I.out.cur).mono ?_
    rintro e' w1 ⟨rfl, hw1⟩
    subst hw1
    by_cases he : e = 0
    rotate_left
    · have e1 : (e == 0) = false := beq_eq_false_iff_ne.2 he
      have HX : Hid (RES = (fi, cd, a, e)) := Lib.hid (by rw [← HL.out, lsR_err he])
      clear he
      go_wp2
      rw [Exit.noGoto_normal]
      go_end0
      exact ⟨rfl, F, C, fi, cd, a, e, HX.out, I.out, OF.out, OC.out⟩
    subst he
    obtain ⟨n, rfl⟩ : ∃ n, gk = n + 1 := ⟨gk - 1, by have := HFU.out (by first | rfl | trivial); omega⟩
    rw [lsR_succ] at HL
    go_wp2_with fail
    refine (left_any g a t 0 _ I.out.cur).mono ?_
    rintro e' w1 ⟨rfl, hb⟩
    have I1 := Lib.hid (I.out.below hb); have OF1 : Hid (OwnF w w1 fi F) := Lib.hid (own_below OF.out hb); have OC1 : Hid (OwnC w w1 cd C) := Lib.hid (own_below OC.out hb)
    clear hb I OF OC
    by_cases hz : t.size ≤ a
    · have e2 : (((t.size - a : Nat) : Int) == 0) = true := beq_iff_eq.2 (by omega)
      have HX : Hid (RES = (fi, cd, a, 0)) := Lib.hid (by rw [← HL.out, if_pos (.inr hz)])
      clear hz
      go_wp2
      rw [Exit.noGoto_normal]
      go_end0
      exact ⟨rfl, F, C, fi, cd, a, 0, HX.out, I1.out, OF1.out, OC1.out⟩
    have e2 : (((t.size - a : Nat) : Int) == 0) = false := beq_eq_false_iff_ne.2 (by omega)
    have HZ : Hid (a < t.size) := Lib.hid (by omega)
    clear hz
    have kk := (I1.out.pk.cell 0).trans (pkC_0 _ _)
    simp only [HKP.out] at kk
    go_wp2_with fail
    refine (sbAsk_any k _).mono ?_
    rintro e' w2 ⟨rfl, hw2⟩
    subst hw2
    cases hask : sbAsk k
    · have HA := Lib.hid hask
      clear hask
      have HL2 := HL.out
      rw [if_neg (fun x => by have := HZ.out; rcases x with x | x <;> omega), if_neg (by rw [HA.out]; decide)] at HL2
      replace HL2 := Lib.hid HL2
      clear HL
      obtain ⟨y, hy⟩ : ∃ y, (ls t).drop a = y :: (ls t).drop (a + 1) := ⟨_, List.drop_eq_getElem_cons (by rw [ls_len]; exact HZ.out)⟩
      have HY := Lib.hid (one_num hy)
      have HNUM : Hid ((takeS t a 0 1).2.1 = a + 1 ∧ (takeS t a 0 1).2.2 = 0) := Lib.hid (by
        have : takeS t a 0 1 = (t.extract a (a + 1), a + 1, 0) := take_yes (k := 1) HZ.out
        rw [this]; exact ⟨rfl, rfl⟩)
      have hyw : IntKind.i64.wrap (y.toNat : Int) = (y.toNat : Int) := by have := y.toNat_lt; rw [IntKind.wrap_i64]; omega
      clear hy kk
      have HLC : Hid (cd.length ≤ 1000000000000) := Lib.hid (by have := (HLEN.out (by first | rfl | trivial)).2; have := HZ.out; have := HT.out; omega)
      have HS : w1.cell? ⟨gp, 22, none⟩ = some (.slice C.a cd.length C.c) := (I1.out.pk.cell 22).trans (pkC_22 _ _)
      go_wp2_with fail
      refine wp_region_D (fun w' => w'.cell? ⟨gp, 22, none⟩ = some (.slice C.a cd.length C.c)) [10] (by kernel_rfl) ?_
      replace HS : w1.drew.cell? ⟨gp, 22, none⟩ = some (.slice C.a cd.length C.c) := HS
      refine anyD_pick (i := 0) (v := ?vc_0) [10] rfl (Or.inl ⟨by rfl, ?hc_0⟩) HS ?rc_0
      case hc_0 => intro w' hSw; (try dsimp only at hSw); go_simp; try with_reducible rfl
      (try simp only [Act.put]); (try simp only [List.setIfInBounds_toArray]); (try simp only [List.set_cons_succ]); (try simp only [List.set_cons_zero])
      refine anyD_pick (i := 1) (v := ?vc_1) [10] rfl (Or.inl ⟨by rfl, ?hc_1⟩) HS ?rc_1
      case hc_1 => intro w' hSw; (try dsimp only at hSw); go_simp; try with_reducible rfl
      (try simp only [Act.put]); (try simp only [List.setIfInBounds_toArray]); (try simp only [List.set_cons_succ]); (try simp only [List.set_cons_zero])
      refine anyD_pick (i := 2) (v := ?vc_2) [10] rfl (Or.inl ⟨by rfl, ?hc_2⟩) HS ?rc_2
      case hc_2 => intro w' hSw; (try dsimp only at hSw); go_simp; try with_reducible rfl
      (try simp only [Act.put]); (try simp only [List.setIfInBounds_toArray]); (try simp only [List.set_cons_succ]); (try simp only [List.set_cons_zero])
      refine anyD_pick (i := 3) (v := ?vc_3) [10] rfl (Or.inl ⟨by rfl, ?hc_3⟩) HS ?rc_3
      case hc_3 => intro w' hSw; (try dsimp only at hSw); go_simp; try with_reducible rfl
      (try simp only [Act.put]); (try simp only [List.setIfInBounds_toArray]); (try simp only [List.set_cons_succ]); (try simp only [List.set_cons_zero])
      refine anyD_pick (i := 4) (v := ?vc_4) [10] rfl (Or.inl ⟨by rfl, ?hc_4⟩) HS ?rc_4
      case hc_4 => intro w' hSw; (try dsimp only at hSw); go_simp; try with_reducible rfl
      (try simp only [Act.put]); (try simp only [List.setIfInBounds_toArray]); (try simp only [List.set_cons_succ]); (try simp only [List.set_cons_zero])
      refine anyD_pick (i := 5) (v := ?vc_5) [10] rfl (Or.inl ⟨by rfl, ?hc_5⟩) HS ?rc_5
      case hc_5 => intro w' hSw; (try dsimp only at hSw); go_simp; try with_reducible rfl
      (try simp only [Act.put]); (try simp only [List.setIfInBounds_toArray]); (try simp only [List.set_cons_succ]); (try simp only [List.set_cons_zero])
      refine anyD_one 6 rfl (fun K hK => ?_)
      go_simp
      go_at_call 61
      refine (number_any g a t 0 1 _ (I1.out.drewN 1).cur (by decide)).mono ?_
      rintro e' y1 ⟨rfl, hc, hm⟩
      rw [HNUM.out.1, HNUM.out.2] at hc
      have J1 := Lib.hid ((I1.out.drewN 1).turn hc hm)
      have P1 : Hid (OwnC w y1 cd C) := Lib.hid ((show OwnC w (w1.drewN 1) cd C from OC1.out).stay hm I1.out.ne.1)
      have T1 : Hid (OwnF w y1 fi F) := Lib.hid ((show OwnF w (w1.drewN 1) fi F from OF1.out).stay hm I1.out.ne.1)
      clear hc hm HS
      have HS := (J1.out.pk.cell 22).trans (pkC_22 _ _)
      simp only at HS
      rw [HY.out]
      go_simp
      refine hK.out _ _ (fun _ => HS) ?_
      clear hK K
      (try simp only [Act.put]); (try simp only [List.setIfInBounds_toArray]); (try simp only [List.set_cons_succ]); (try simp only [List.set_cons_zero])
      refine anyD_pick (i := 7) (v := ?vc_7) [10] rfl (Or.inl ⟨by rfl, ?hc_7⟩) HS ?rc_7
      case hc_7 => intro w' hSw; (try dsimp only at hSw); go_simp; try with_reducible rfl
      (try simp only [Act.put]); (try simp only [List.setIfInBounds_toArray]); (try simp only [List.set_cons_succ]); (try simp only [List.set_cons_zero])
      refine anyD_one 8 rfl (fun K hK => ?_)
      go_simp
      have J2 := Lib.hid (J1.out.alloc (.cells #[.int .i64 (y.toNat : Int)] 3))
      have P2 := Lib.hid (World.ownsRow.alloc P1.out (.cells #[.int .i64 (y.toNat : Int)] 3))
      have T2 := Lib.hid (World.ownsRow.alloc T1.out (.cells #[.int .i64 (y.toNat : Int)] 3))
      clear HS
      have HS := (J2.out.pk.cell 22).trans (pkC_22 _ _)
      simp only at HS
      refine hK.out _ _ (fun _ => HS) ?_
      clear hK K
      (try simp only [Act.put]); (try simp only [List.setIfInBounds_toArray]); (try simp only [List.set_cons_succ]); (try simp only [List.set_cons_zero])
      refine anyD_one 9 rfl (fun K hK => ?_)
      refine step_app rfl (.tmp 28) (.tmp 32) 26 rfl w.heap.size 3 _ 1 8 Tryz.underlying26 info_int rfl (by decide) (.slice C.a cd.length C.c) _ _ rfl P2.out _ _ 1 1 [.int .i64 (y.toNat : Int)] rfl (Rd.lit _ _ _ rfl (Nat.lt_succ_self _) rfl) (by intro u hu; simp at hu; subst hu; rfl) (by have := HLC.out; unfold maxLen; omega) (by have := HLC.out; omega) J2.out.mods.size ?_
      intro v' y3 hown hg hat
      obtain ⟨A', c', rfl, hcap, hrd⟩ := own_rd hown
      have J3 := Lib.hid (J2.out.grown hg (fun q hq => (own_block P2.out q hq).1))
      clear hcap hrd HS
      have HS := (J3.out.pk.cell 22).trans (pkC_22 _ _)
      simp only at HS
      refine hK.out _ _ (fun _ => HS) ?_
      clear hK K
      (try simp only [Act.put]); (try simp only [List.setIfInBounds_toArray]); (try simp only [List.set_cons_succ]); (try simp only [List.set_cons_zero])
      refine anyD_one 10 rfl (fun K hK => ?_)
      go_simp
      refine hK.out _ _ (fun hn => absurd (hn 10 (by simp)) (by decide)) (anyD_late (d := 10) (by simp) _ _ _ _ (by kernel_rfl) ?_)
      have c22 := HS
      have f22 := J3.out.pk.free 22
      clear hK K HS
      (try simp only [Act.put]); (try simp only [List.setIfInBounds_toArray]); (try simp only [List.set_cons_succ]); (try simp only [List.set_cons_zero])
      refine wpAny_take (i := 11) (v := ?vc_11) rfl (by kernel_rfl) (by kernel_rfl) (by kernel_rfl) (fun _ _ _ h => h) (Or.inl ⟨by rfl, ?hc_11⟩) ?rc_11
      case hc_11 => intro w'; go_simp; try with_reducible rfl
      (try simp only [Act.put]); (try simp only [List.setIfInBounds_toArray]); (try simp only [List.set_cons_succ]); (try simp only [List.set_cons_zero])
      refine wpAny_one 12 rfl (fun K hK => ?_)
      go_simp
      refine hK.out _ _ ?_
      clear hK K
      (try simp only [Act.put]); (try simp only [List.setIfInBounds_toArray]); (try simp only [List.set_cons_succ]); (try simp only [List.set_cons_zero])
      refine wpAny_done (by kernel_rfl) ?_ _

      go_wp2
      go_roundg n
      case measure => omega
      case rel =>
        obtain ⟨hn1, hn2⟩ := HNIL.out.2 HA.out
        refine ⟨a + 1, 0, fi, cd ++ [(y.toNat : Int)], F, ⟨A', c'⟩, ?_, fun _ => by have := HFU.out (by first | rfl | trivial); have := HZ.out; omega, fun _ => ?_, ⟨fun h => (by rw [HA.out] at h; cases h), fun _ => ⟨hn1, hn2⟩⟩, J3.out.put 22 _ (codes_put { p with filters := fi } { h with filters := F } cd y.toNat A' c' C), ?_, OwnC.snoc hown _ J3.out.ne.2.1⟩
        · have := HL2.out
          rw [HY.out] at this
          exact this
        · have h1 := HLEN.out (by first | rfl | trivial)
          rw [List.length_append]
          exact ⟨by omega, by simp; omega⟩
        · rw [hn1, hn2]
          exact World.ownsRow_nil _ _ _ _
    · have HA := Lib.hid hask
      clear hask
      have HL2 := HL.out
      rw [if_neg (fun x => by have := HZ.out; rcases x with x | x <;> omega), if_pos HA.out] at HL2
      replace HL2 := Lib.hid HL2
      have HLF : Hid (fi.length ≤ 1000000000000) := Lib.hid (by have := (HLEN.out (by first | rfl | trivial)).1; have := HZ.out; have := HT.out; omega)
      have hkk : k = 8 ∨ k = 10 := of_decide_eq_true (show decide (k = 8 ∨ k = 10) = true from HA.out)
      have HKK := Lib.hid hkk
      have HFB := Lib.hid (fun h0 => fiR_back (v := v) (t := t) hkk (Nat.le_of_lt HZ.out) h0)
      clear HL kk hkk
      go_wp2_with fail
      refine (rest_any g a t 0 _ I1.out.cur).mono ?_
      rintro e' w2 ⟨rfl, hb⟩
      have I2 := Lib.hid (I1.out.below hb); have OF2 : Hid (OwnF w w2 fi F) := Lib.hid (own_below OF1.out hb)
      clear hb I1 OF1 OC1
      go_wp2_with fail
      refine (readU_any (t.extract a t.size) _ (by rw [size_back]; have := HT.out; omega)).mono ?_
      rintro e' w3 ⟨rfl, hb⟩
      have I3 := Lib.hid (I2.out.below hb); have OF3 : Hid (OwnF w w3 fi F) := Lib.hid (own_below OF2.out hb)
      clear hb I2 OF2
      have HRT := Lib.hid (rt_take (t := t) (a := a) (Nat.le_of_lt HZ.out))
      have HRC : Hid (rtC t a 0 = ((readU (t.extract a t.size)).1, a + (readU (t.extract a t.size)).2.1, (readU (t.extract a t.size)).2.2)) := Lib.hid (if_neg (fun x => x rfl))
      obtain ⟨U, hU⟩ : ∃ U, readU (t.extract a t.size) = U := ⟨_, rfl⟩
      rw [hU] at HRT HRC ⊢
      clear hU
      obtain ⟨T, m, x⟩ := U
      simp only at HRT HRC ⊢
      rw [HRC.out] at HRT
      go_wp2_with fail
      refine (fail_any g a t 0 x _ I3.out.cur).mono ?_
      rintro e' w4 ⟨rfl, hc, hm⟩
      rw [if_pos rfl] at hc
      have I4 := Lib.hid (I3.out.turn hc hm); have OF4 : Hid (OwnF w w4 fi F) := Lib.hid (OF3.out.stay hm I3.out.ne.1)
      clear hc hm I3 OF3
      go_wp2_with fail
      refine (take_any g a t x (m : Int) _ I4.out.cur).mono ?_
      rintro e' w5 ⟨rfl, hc, hm⟩
      rw [HRT.out] at hc
      have I5 := Lib.hid (I4.out.turn hc hm); have OF5 : Hid (OwnF w w5 fi F) := Lib.hid (OF4.out.stay hm I4.out.ne.1)
      clear hc hm I4 OF4
      have I6 := Lib.hid (I5.out.alloc (.cells (fiCells ⟨T, 0, false, false, 0⟩) 32))
      have OF6 : Hid (OwnF w (w5.alloc (.cells (fiCells ⟨T, 0, false, false, 0⟩) 32)) fi F) := Lib.hid (World.ownsRow.alloc OF5.out _)
      have K6 := Lib.hid (Bk.fresh w5 32 (fiCells ⟨T, 0, false, false, 0⟩))
      have HGF : Hid (w.heap.size ≤ w5.heap.size) := Lib.hid I5.out.mods.size
      have kk : (w5.alloc (.cells #[.string T, .int .i64 0, .bool false, .bool false, .int .i64 0] 32)).cell? ⟨gp, 0, none⟩ = some (.int .i64 k) := (I6.out.pk.cell 0).trans ((pkC_0 _ _).trans (by rw [← HKP.out]))
      have OFL : Hid (∀ q, (Value.slice F.a fi.length F.c).ownBlock = some q → q < w5.heap.size) := Lib.hid fun q hq => (own_block OF5.out q hq).2
      by_cases h8 : k = 8
      · have e8 : (k == 8) = true := beq_iff_eq.2 h8
        have HFR : Hid (fiR v k t a = (fiOf T (opR v t (a + m) x).1, (opR v t (a + m) x).2.1, (opR v t (a + m) x).2.2)) := Lib.hid (by unfold fiR; rw [if_pos h8, HRC.out])
        clear h8
        go_wp2_with fail
        refine (option_any v HV.out g (a + m) t x w5.heap.size T _ I6.out.cur K6.out (by have := I5.out.ne; have := HGF.out; omega)).mono ?_
        rintro e' w7 ⟨rfl, hc, hk7, hm⟩
        have I7 := Lib.hid (I6.out.opt hc hm HGF.out)
        have OF7 : Hid (OwnF w w7 fi F) := Lib.hid (OF6.out.opt hm I5.out.ne.1 OFL.out)
        have K7 := Lib.hid hk7
        clear hc hm hk7 I6 OF6 K6 kk
        rw [HFR.out] at HL2 HFB
        obtain ⟨f, hf⟩ : ∃ f, fiOf T (opR v t (a + m) x).1 = f := ⟨_, rfl⟩
        rw [hf] at K7 HL2 HFB
        generalize (opR v t (a + m) x).2.1 = a7 at *
        generalize (opR v t (a + m) x).2.2 = e7 at *
        clear hf HFR
        simp only at HL2 HFB
        have q0 := K7.out.cell 0; have q1 := K7.out.cell 1; have q2 := K7.out.cell 2; have q3 := K7.out.cell 3; have q4 := K7.out.cell 4
        simp only [fiCells, List.getElem?_toArray, List.getElem?_cons_succ, List.getElem?_cons_zero] at q0 q1 q2 q3 q4
        have HS : w7.cell? ⟨gp, 23, none⟩ = some (.slice F.a fi.length F.c) ∧ w7.cell? ⟨w5.heap.size, 0, none⟩ = some (.string f.topic) ∧ w7.cell? ⟨w5.heap.size, 1, none⟩ = some (.int .i64 f.qos) ∧ w7.cell? ⟨w5.heap.size, 2, none⟩ = some (.bool f.noLocal) ∧ w7.cell? ⟨w5.heap.size, 3, none⟩ = some (.bool f.asPub) ∧ w7.cell? ⟨w5.heap.size, 4, none⟩ = some (.int .i64 f.handling) := ⟨(I7.out.pk.cell 23).trans (pkC_23 _ _), q0, q1, q2, q3, q4⟩
        clear q0 q1 q2 q3 q4
        go_wp2_with fail
        refine wp_region_D (fun w' => w'.cell? ⟨gp, 23, none⟩ = some (.slice F.a fi.length F.c) ∧ w'.cell? ⟨w5.heap.size, 0, none⟩ = some (.string f.topic) ∧ w'.cell? ⟨w5.heap.size, 1, none⟩ = some (.int .i64 f.qos) ∧ w'.cell? ⟨w5.heap.size, 2, none⟩ = some (.bool f.noLocal) ∧ w'.cell? ⟨w5.heap.size, 3, none⟩ = some (.bool f.asPub) ∧ w'.cell? ⟨w5.heap.size, 4, none⟩ = some (.int .i64 f.handling)) [8] (by kernel_rfl) ?_
        replace HS : w7.drew.cell? ⟨gp, 23, none⟩ = some (.slice F.a fi.length F.c) ∧ w7.drew.cell? ⟨w5.heap.size, 0, none⟩ = some (.string f.topic) ∧ w7.drew.cell? ⟨w5.heap.size, 1, none⟩ = some (.int .i64 f.qos) ∧ w7.drew.cell? ⟨w5.heap.size, 2, none⟩ = some (.bool f.noLocal) ∧ w7.drew.cell? ⟨w5.heap.size, 3, none⟩ = some (.bool f.asPub) ∧ w7.drew.cell? ⟨w5.heap.size, 4, none⟩ = some (.int .i64 f.handling) := HS
        refine anyD_pick (i := 0) (v := ?vf_0) [8] rfl (Or.inl ⟨by rfl, ?hf_0⟩) HS ?rf_0
        case hf_0 => intro w' hSw; (try dsimp only at hSw); go_simp; try with_reducible rfl
        (try simp only [Act.put]); (try simp only [List.setIfInBounds_toArray]); (try simp only [List.set_cons_succ]); (try simp only [List.set_cons_zero])
        refine anyD_pick (i := 1) (v := ?vf_1) [8] rfl (Or.inl ⟨by rfl, ?hf_1⟩) HS ?rf_1
        case hf_1 => intro w' hSw; (try dsimp only at hSw); go_simp; try with_reducible rfl
        (try simp only [Act.put]); (try simp only [List.setIfInBounds_toArray]); (try simp only [List.set_cons_succ]); (try simp only [List.set_cons_zero])
        refine anyD_pick (i := 2) (v := ?vf_2) [8] rfl (Or.inl ⟨by rfl, ?hf_2⟩) HS ?rf_2
        case hf_2 => intro w' hSw; (try dsimp only at hSw); go_simp; try with_reducible rfl
        (try simp only [Act.put]); (try simp only [List.setIfInBounds_toArray]); (try simp only [List.set_cons_succ]); (try simp only [List.set_cons_zero])
        refine anyD_pick (i := 3) (v := ?vf_3) [8] rfl (Or.inl ⟨by rfl, ?hf_3⟩) HS ?rf_3
        case hf_3 => intro w' hSw; (try dsimp only at hSw); go_simp; try with_reducible rfl
        (try simp only [Act.put]); (try simp only [List.setIfInBounds_toArray]); (try simp only [List.set_cons_succ]); (try simp only [List.set_cons_zero])
        refine anyD_pick (i := 4) (v := ?vf_4) [8] rfl (Or.inl ⟨by rfl, ?hf_4⟩) HS ?rf_4
        case hf_4 => intro w' hSw; (try dsimp only at hSw); go_simp; try with_reducible rfl
        (try simp only [Act.put]); (try simp only [List.setIfInBounds_toArray]); (try simp only [List.set_cons_succ]); (try simp only [List.set_cons_zero])
        refine anyD_pick (i := 5) (v := ?vf_5) [8] rfl (Or.inl ⟨by rfl, ?hf_5⟩) HS ?rf_5
        case hf_5 => intro w' hSw; (try dsimp only at hSw); go_simp; try with_reducible rfl
        (try simp only [Act.put]); (try simp only [List.setIfInBounds_toArray]); (try simp only [List.set_cons_succ]); (try simp only [List.set_cons_zero])
        have J1 := Lib.hid (I7.out.drewN 1)
        have P1 : Hid (OwnF w w7.drew fi F) := Lib.hid OF7.out
        have K8 : Hid (Bk w7.drew w5.heap.size 32 (fiCells f)) := Lib.hid K7.out
        refine anyD_one 6 rfl (fun K hK => ?_)
        go_simp
        have J2 := Lib.hid (J1.out.alloc (.cells #[.string f.topic, .int .i64 f.qos, .bool f.noLocal, .bool f.asPub, .int .i64 f.handling] 32))
        have P2 := Lib.hid (World.ownsRow.alloc P1.out (.cells #[.string f.topic, .int .i64 f.qos, .bool f.noLocal, .bool f.asPub, .int .i64 f.handling] 32))
        have K9 := Lib.hid (K8.out.alloc (.cells #[.string f.topic, .int .i64 f.qos, .bool f.noLocal, .bool f.asPub, .int .i64 f.handling] 32))
        clear HS
        have HS := And.intro ((J2.out.pk.cell 23).trans (pkC_23 _ _)) (And.intro (K9.out.cell 0) (And.intro (K9.out.cell 1) (And.intro (K9.out.cell 2) (And.intro (K9.out.cell 3) (K9.out.cell 4)))))
        simp only [fiCells, List.getElem?_toArray, List.getElem?_cons_succ, List.getElem?_cons_zero] at HS
        refine hK.out _ _ (fun _ => HS) ?_
        clear hK K
        (try simp only [Act.put]); (try simp only [List.setIfInBounds_toArray]); (try simp only [List.set_cons_succ]); (try simp only [List.set_cons_zero])
        refine anyD_one 7 rfl (fun K hK => ?_)
        refine step_app rfl (.tmp 63) (.tmp 65) 27 rfl w.heap.size 32 _ 5 40 Tryz.underlying27 info_filter rfl (by decide) (.slice F.a fi.length F.c) _ _ rfl P2.out _ _ 1 1 (fiC f) rfl (rd_fi1 _ f) (fiC_one f) (by have := HLF.out; unfold maxLen; omega) (by have := HLF.out; omega) J2.out.mods.size ?_
        intro v' y3 hown hg hat
        obtain ⟨A', c', rfl, hcap, hrd⟩ := own_rd hown
        have J3 := Lib.hid (J2.out.grown hg (fun q hq => (own_block P2.out q hq).1))
        have K10 := Lib.hid (OB_keeps hg K9.out (fun e => by have h2 := OFL.out _ e; omega))
        clear hcap hrd HS
        have HS := And.intro ((J3.out.pk.cell 23).trans (pkC_23 _ _)) (And.intro (K10.out.cell 0) (And.intro (K10.out.cell 1) (And.intro (K10.out.cell 2) (And.intro (K10.out.cell 3) (K10.out.cell 4)))))
        simp only [fiCells, List.getElem?_toArray, List.getElem?_cons_succ, List.getElem?_cons_zero] at HS
        refine hK.out _ _ (fun _ => HS) ?_
        clear hK K
        (try simp only [Act.put]); (try simp only [List.setIfInBounds_toArray]); (try simp only [List.set_cons_succ]); (try simp only [List.set_cons_zero])
        refine anyD_one 8 rfl (fun K hK => ?_)
        go_simp
        refine hK.out _ _ (fun hn => absurd (hn 8 (by simp)) (by decide)) (anyD_late (d := 8) (by simp) _ _ _ _ (by kernel_rfl) ?_)
        have c23 := HS.1
        have f23 := J3.out.pk.free 23
        clear hK K HS
        (try simp only [Act.put]); (try simp only [List.setIfInBounds_toArray]); (try simp only [List.set_cons_succ]); (try simp only [List.set_cons_zero])
        refine wpAny_take (i := 9) (v := ?vf_9) rfl (by kernel_rfl) (by kernel_rfl) (by kernel_rfl) (fun _ _ _ h => h) (Or.inl ⟨by rfl, ?hf_9⟩) ?rf_9
        case hf_9 => intro w'; go_simp; try with_reducible rfl
        (try simp only [Act.put]); (try simp only [List.setIfInBounds_toArray]); (try simp only [List.set_cons_succ]); (try simp only [List.set_cons_zero])
        refine wpAny_one 10 rfl (fun K hK => ?_)
        go_simp
        refine hK.out _ _ ?_
        clear hK K
        (try simp only [Act.put]); (try simp only [List.setIfInBounds_toArray]); (try simp only [List.set_cons_succ]); (try simp only [List.set_cons_zero])
        refine wpAny_done (by kernel_rfl) ?_ _
        go_wp2
        go_roundg n
        case measure => omega
        case rel =>
          obtain ⟨hn1, hn2⟩ := HNIL.out.1 HA.out
          refine ⟨a7, e7, fi ++ [f], cd, ⟨A', c'⟩, C, HL2.out, fun h0 => (by obtain ⟨b1, b2, b3⟩ := HFB.out h0; have := HFU.out (by first | rfl | trivial); have := HZ.out; omega), fun h0 => ?_, ⟨fun _ => ⟨hn1, hn2⟩, fun h => (by rw [HA.out] at h; cases h)⟩, J3.out.put 23 _ (filters_put { p with codes := cd } { h with codes := C } fi f A' c' F), OwnF.snoc hown _ J3.out.ne.2.1, ?_⟩
          · obtain ⟨b1, b2, b3⟩ := HFB.out h0
            have h1 := HLEN.out (by first | rfl | trivial)
            rw [List.length_append, hn1]
            exact ⟨by simp; omega, Nat.zero_le _⟩
          · rw [hn1, hn2]
            exact World.ownsRow_nil _ _ _ _

      · have e8 : (k == 8) = false := beq_eq_false_iff_ne.2 h8
        have HFR : Hid (fiR v k t a = (⟨T, 0, false, false, 0⟩, a + m, x)) := Lib.hid (by unfold fiR; rw [if_neg h8, HRC.out])
        clear h8
        rw [HFR.out] at HL2 HFB
        simp only at HL2 HFB
        obtain ⟨f, hf⟩ : ∃ f : Fi, ⟨T, 0, false, false, 0⟩ = f := ⟨_, rfl⟩
        rw [hf] at K6 HL2 HFB
        have I7 := I6; have OF7 := OF6; have K7 := K6
        clear I6 OF6 K6 HFR
        obtain ⟨a7, ha7⟩ : ∃ a7, a + m = a7 := ⟨_, rfl⟩
        rw [ha7] at I7 HL2 HFB
        obtain ⟨e7, he7⟩ : ∃ e7, x = e7 := ⟨_, rfl⟩
        rw [he7] at I7 HL2 HFB
        clear ha7 he7
        go_wp2_with fail
        rw [hf] at OF7 I7
        clear kk
        obtain ⟨w7, hw7⟩ : ∃ w7, w5.alloc (.cells #[.string T, .int .i64 0, .bool false, .bool false, .int .i64 0] 32) = w7 := ⟨_, rfl⟩
        have hw8 : w5.alloc (.cells (fiCells f) 32) = w7 := by rw [← hf]; exact hw7
        rw [hw8] at I7 OF7 K7
        rw [hw7]
        clear hw7 hw8 hf
        have q0 := K7.out.cell 0; have q1 := K7.out.cell 1; have q2 := K7.out.cell 2; have q3 := K7.out.cell 3; have q4 := K7.out.cell 4
        simp only [fiCells, List.getElem?_toArray, List.getElem?_cons_succ, List.getElem?_cons_zero] at q0 q1 q2 q3 q4
        have HS : w7.cell? ⟨gp, 23, none⟩ = some (.slice F.a fi.length F.c) ∧ w7.cell? ⟨w5.heap.size, 0, none⟩ = some (.string f.topic) ∧ w7.cell? ⟨w5.heap.size, 1, none⟩ = some (.int .i64 f.qos) ∧ w7.cell? ⟨w5.heap.size, 2, none⟩ = some (.bool f.noLocal) ∧ w7.cell? ⟨w5.heap.size, 3, none⟩ = some (.bool f.asPub) ∧ w7.cell? ⟨w5.heap.size, 4, none⟩ = some (.int .i64 f.handling) := ⟨(I7.out.pk.cell 23).trans (pkC_23 _ _), q0, q1, q2, q3, q4⟩
        clear q0 q1 q2 q3 q4
        refine wp_region_D (fun w' => w'.cell? ⟨gp, 23, none⟩ = some (.slice F.a fi.length F.c) ∧ w'.cell? ⟨w5.heap.size, 0, none⟩ = some (.string f.topic) ∧ w'.cell? ⟨w5.heap.size, 1, none⟩ = some (.int .i64 f.qos) ∧ w'.cell? ⟨w5.heap.size, 2, none⟩ = some (.bool f.noLocal) ∧ w'.cell? ⟨w5.heap.size, 3, none⟩ = some (.bool f.asPub) ∧ w'.cell? ⟨w5.heap.size, 4, none⟩ = some (.int .i64 f.handling)) [8] (by kernel_rfl) ?_
        replace HS : w7.drew.cell? ⟨gp, 23, none⟩ = some (.slice F.a fi.length F.c) ∧ w7.drew.cell? ⟨w5.heap.size, 0, none⟩ = some (.string f.topic) ∧ w7.drew.cell? ⟨w5.heap.size, 1, none⟩ = some (.int .i64 f.qos) ∧ w7.drew.cell? ⟨w5.heap.size, 2, none⟩ = some (.bool f.noLocal) ∧ w7.drew.cell? ⟨w5.heap.size, 3, none⟩ = some (.bool f.asPub) ∧ w7.drew.cell? ⟨w5.heap.size, 4, none⟩ = some (.int .i64 f.handling) := HS
        refine anyD_pick (i := 0) (v := ?vg_0) [8] rfl (Or.inl ⟨by rfl, ?hg_0⟩) HS ?rg_0
        case hg_0 => intro w' hSw; (try dsimp only at hSw); go_simp; try with_reducible rfl
        (try simp only [Act.put]); (try simp only [List.setIfInBounds_toArray]); (try simp only [List.set_cons_succ]); (try simp only [List.set_cons_zero])
        refine anyD_pick (i := 1) (v := ?vg_1) [8] rfl (Or.inl ⟨by rfl, ?hg_1⟩) HS ?rg_1
        case hg_1 => intro w' hSw; (try dsimp only at hSw); go_simp; try with_reducible rfl
        (try simp only [Act.put]); (try simp only [List.setIfInBounds_toArray]); (try simp only [List.set_cons_succ]); (try simp only [List.set_cons_zero])
        refine anyD_pick (i := 2) (v := ?vg_2) [8] rfl (Or.inl ⟨by rfl, ?hg_2⟩) HS ?rg_2
        case hg_2 => intro w' hSw; (try dsimp only at hSw); go_simp; try with_reducible rfl
        (try simp only [Act.put]); (try simp only [List.setIfInBounds_toArray]); (try simp only [List.set_cons_succ]); (try simp only [List.set_cons_zero])
        refine anyD_pick (i := 3) (v := ?vg_3) [8] rfl (Or.inl ⟨by rfl, ?hg_3⟩) HS ?rg_3
        case hg_3 => intro w' hSw; (try dsimp only at hSw); go_simp; try with_reducible rfl
        (try simp only [Act.put]); (try simp only [List.setIfInBounds_toArray]); (try simp only [List.set_cons_succ]); (try simp only [List.set_cons_zero])
        refine anyD_pick (i := 4) (v := ?vg_4) [8] rfl (Or.inl ⟨by rfl, ?hg_4⟩) HS ?rg_4
        case hg_4 => intro w' hSw; (try dsimp only at hSw); go_simp; try with_reducible rfl
        (try simp only [Act.put]); (try simp only [List.setIfInBounds_toArray]); (try simp only [List.set_cons_succ]); (try simp only [List.set_cons_zero])
        refine anyD_pick (i := 5) (v := ?vg_5) [8] rfl (Or.inl ⟨by rfl, ?hg_5⟩) HS ?rg_5
        case hg_5 => intro w' hSw; (try dsimp only at hSw); go_simp; try with_reducible rfl
        (try simp only [Act.put]); (try simp only [List.setIfInBounds_toArray]); (try simp only [List.set_cons_succ]); (try simp only [List.set_cons_zero])
        have J1 := Lib.hid (I7.out.drewN 1)
        have P1 : Hid (OwnF w w7.drew fi F) := Lib.hid OF7.out
        have K8 : Hid (Bk w7.drew w5.heap.size 32 (fiCells f)) := Lib.hid K7.out
        refine anyD_one 6 rfl (fun K hK => ?_)
        go_simp
        have J2 := Lib.hid (J1.out.alloc (.cells #[.string f.topic, .int .i64 f.qos, .bool f.noLocal, .bool f.asPub, .int .i64 f.handling] 32))
        have P2 := Lib.hid (World.ownsRow.alloc P1.out (.cells #[.string f.topic, .int .i64 f.qos, .bool f.noLocal, .bool f.asPub, .int .i64 f.handling] 32))
        have K9 := Lib.hid (K8.out.alloc (.cells #[.string f.topic, .int .i64 f.qos, .bool f.noLocal, .bool f.asPub, .int .i64 f.handling] 32))
        clear HS
        have HS := And.intro ((J2.out.pk.cell 23).trans (pkC_23 _ _)) (And.intro (K9.out.cell 0) (And.intro (K9.out.cell 1) (And.intro (K9.out.cell 2) (And.intro (K9.out.cell 3) (K9.out.cell 4)))))
        simp only [fiCells, List.getElem?_toArray, List.getElem?_cons_succ, List.getElem?_cons_zero] at HS
        refine hK.out _ _ (fun _ => HS) ?_
        clear hK K
        (try simp only [Act.put]); (try simp only [List.setIfInBounds_toArray]); (try simp only [List.set_cons_succ]); (try simp only [List.set_cons_zero])
        refine anyD_one 7 rfl (fun K hK => ?_)
        refine step_app rfl (.tmp 63) (.tmp 65) 27 rfl w.heap.size 32 _ 5 40 Tryz.underlying27 info_filter rfl (by decide) (.slice F.a fi.length F.c) _ _ rfl P2.out _ _ 1 1 (fiC f) rfl (rd_fi1 _ f) (fiC_one f) (by have := HLF.out; unfold maxLen; omega) (by have := HLF.out; omega) J2.out.mods.size ?_
        intro v' y3 hown hg hat
        obtain ⟨A', c', rfl, hcap, hrd⟩ := own_rd hown
        have J3 := Lib.hid (J2.out.grown hg (fun q hq => (own_block P2.out q hq).1))
        have K10 := Lib.hid (OB_keeps hg K9.out (fun e => by have h2 := OFL.out _ e; omega))
        clear hcap hrd HS
        have HS := And.intro ((J3.out.pk.cell 23).trans (pkC_23 _ _)) (And.intro (K10.out.cell 0) (And.intro (K10.out.cell 1) (And.intro (K10.out.cell 2) (And.intro (K10.out.cell 3) (K10.out.cell 4)))))
        simp only [fiCells, List.getElem?_toArray, List.getElem?_cons_succ, List.getElem?_cons_zero] at HS
        refine hK.out _ _ (fun _ => HS) ?_
        clear hK K
        (try simp only [Act.put]); (try simp only [List.setIfInBounds_toArray]); (try simp only [List.set_cons_succ]); (try simp only [List.set_cons_zero])
        refine anyD_one 8 rfl (fun K hK => ?_)
        go_simp
        refine hK.out _ _ (fun hn => absurd (hn 8 (by simp)) (by decide)) (anyD_late (d := 8) (by simp) _ _ _ _ (by kernel_rfl) ?_)
        have c23 := HS.1
        have f23 := J3.out.pk.free 23
        clear hK K HS
        (try simp only [Act.put]); (try simp only [List.setIfInBounds_toArray]); (try simp only [List.set_cons_succ]); (try simp only [List.set_cons_zero])
        refine wpAny_take (i := 9) (v := ?vg_9) rfl (by kernel_rfl) (by kernel_rfl) (by kernel_rfl) (fun _ _ _ h => h) (Or.inl ⟨by rfl, ?hg_9⟩) ?rg_9
        case hg_9 => intro w'; go_simp; try with_reducible rfl
        (try simp only [Act.put]); (try simp only [List.setIfInBounds_toArray]); (try simp only [List.set_cons_succ]); (try simp only [List.set_cons_zero])
        refine wpAny_one 10 rfl (fun K hK => ?_)
        go_simp
        refine hK.out _ _ ?_
        clear hK K
        (try simp only [Act.put]); (try simp only [List.setIfInBounds_toArray]); (try simp only [List.set_cons_succ]); (try simp only [List.set_cons_zero])
        refine wpAny_done (by kernel_rfl) ?_ _
        go_wp2
        go_roundg n
        case measure => omega
        case rel =>
          obtain ⟨hn1, hn2⟩ := HNIL.out.1 HA.out
          refine ⟨a7, e7, fi ++ [f], cd, ⟨A', c'⟩, C, HL2.out, fun h0 => (by obtain ⟨b1, b2, b3⟩ := HFB.out h0; have := HFU.out (by first | rfl | trivial); have := HZ.out; omega), fun h0 => ?_, ⟨fun _ => ⟨hn1, hn2⟩, fun h => (by rw [HA.out] at h; cases h)⟩, J3.out.put 23 _ (filters_put { p with codes := cd } { h with codes := C } fi f A' c' F), OwnF.snoc hown _ J3.out.ne.2.1, ?_⟩
          · obtain ⟨b1, b2, b3⟩ := HFB.out h0
            have h1 := HLEN.out (by first | rfl | trivial)
            rw [List.length_append, hn1]
            exact ⟨by simp; omega, Nat.zero_le _⟩
          · rw [hn1, hn2]
            exact World.ownsRow_nil _ _ _ _

end Go.Proofs.YtbdgkkmbnahgiaaGreatDoor

namespace Go.Proofs.YtbdgkkmbnahgiaaGreatDoor
open Go.RowKit
theorem rtC_le {t : ByteArray} {a : Nat} {e : Int} (h : a ≤ t.size) : (rtC t a e).2.1 ≤ t.size ∧ (rtC t a e).1.size ≤ 65535 := by
  unfold rtC
  split
  · exact ⟨h, Nat.zero_le _⟩
  · have := readU_le (t.extract a t.size)
    rw [ByteArray.size_extract] at this
    refine ⟨by show a + (readU (t.extract a t.size)).2.1 ≤ t.size; omega, this.2⟩
end Go.Proofs.YtbdgkkmbnahgiaaGreatDoor

