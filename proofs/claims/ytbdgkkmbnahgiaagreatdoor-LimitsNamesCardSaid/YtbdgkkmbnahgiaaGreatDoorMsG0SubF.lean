/- A part of what the laws stand on: SubF, Rtd, MSubG. -/
import Derived.Test.YtbdgkkmbnahgiaaGreatDoorMsG0Rtc
import Derived.Deep.LoopGhost
namespace Go.Proofs.YtbdgkkmbnahgiaaGreatDoor
open Go.RowKit
attribute [local go_sem ↓] to_ldPk to_bxPk to_bdPk to_alPk to_stPk
attribute [local go_sem] run_bxPk run_bxPk_agg ld_fresh run_alPk run_bd0 run_bdK run_bdKI run_bdKIC run_bdKC run_bdKICP run_stPk_fresh pkC_0 pkC_1 pkC_2 pkC_3 pkC_4 pkC_5 pkC_6 pkC_7 pkC_8 pkC_9 pkC_10 pkC_11 pkC_12 pkC_13 pkC_14 pkC_15 pkC_16 pkC_17 pkC_18 pkC_19 pkC_20 pkC_21 pkC_22 pkC_23 pkC_24
theorem Mods.own {S : Nat → Prop} {w x y : World} {r : Option Nat} (h : Mods S w x) (hg : x.grownBy y r) (hr : ∀ k, r = some k → w.heap.size ≤ k) : Mods S w y :=
  ⟨hg.os.trans h.os, hg.tape.trans h.tape, hg.output.trans h.output, Nat.le_trans h.size hg.size, fun i hi hs => (hg.block i (Nat.lt_of_lt_of_le hi h.size) (fun e => by have := hr i e.symm; omega)).trans (h.block i hi hs)⟩
/-- What stands while list runs: the cursor, the packet's block, the row that holds one of its lists. -/
structure LS (w : World) (g gp : Nat) (t : ByteArray) (q : Pk) (hq : Hs) (a : Nat) (e : Int) (x : World) : Prop where
  cur : Cur x g t a e
  pk : Bk x gp PkT (pkC q hq)
  mods : Mods (two g gp) w x
  ne : g < w.heap.size ∧ gp < w.heap.size ∧ g ≠ gp
def OwnF (w x : World) (l : List Fi) (F : Hd) : Prop := x.ownsRow w.heap.size 32 5 (.slice F.a l.length F.c) l.length (fis l)
def OwnC (w x : World) (l : List Int) (C : Hd) : Prop := x.ownsRow w.heap.size 3 1 (.slice C.a l.length C.c) l.length (iv l)
section
variable {w x y : World} {g gp : Nat} {t : ByteArray} {q : Pk} {hq : Hs} {a a' : Nat} {e e' : Int}
theorem LS.drewN (s : LS w g gp t q hq a e x) (n : Nat) : LS w g gp t q hq a e (x.drewN n) := ⟨s.cur, s.pk, s.mods.drewN n, s.ne⟩
theorem LS.below (s : LS w g gp t q hq a e x) (hb : Below x.heap.size x y) : LS w g gp t q hq a e y := ⟨s.cur.below hb, s.pk.below hb s.pk.lt, s.mods.trans (Mods.of_below hb), s.ne⟩
theorem LS.alloc (s : LS w g gp t q hq a e x) (o : Obj) : LS w g gp t q hq a e (x.alloc o) := s.below ((Below.refl _ _).alloc (Nat.le_refl _) o)
theorem LS.turn (s : LS w g gp t q hq a e x) (hc : Cur y g t a' e') (hm : x.grownBy y (some g)) : LS w g gp t q hq a' e' y :=
  ⟨hc, s.pk.mods (S := fun i => i = g) (Mods.of_grown hm rfl) (fun e => s.ne.2.2 e.symm), s.mods.trans (Mods.of_grown hm (.inl rfl)), s.ne⟩
/-- Behind a change of a row of the call's own. -/
theorem LS.grown (s : LS w g gp t q hq a e x) {r : Option Nat} (hg : x.grownBy y r) (hr : ∀ k, r = some k → w.heap.size ≤ k) : LS w g gp t q hq a e y :=
  ⟨⟨(hg.block g s.cur.lt (fun h => by have := hr g h.symm; have := s.ne; omega)).trans s.cur.1, s.cur.2⟩, (hg.block gp s.pk.lt (fun h => by have := hr gp h.symm; have := s.ne; omega)).trans s.pk, s.mods.own hg hr, s.ne⟩
theorem LS.put (s : LS w g gp t q hq a e x) (i : Nat) (u : Value) {q' : Pk} {hq' : Hs} (hu : (pkC q hq).setIfInBounds i u = pkC q' hq') : LS w g gp t q' hq' a e (x.setCell ⟨gp, i, none⟩ u) :=
  ⟨⟨s.cur.1.other (by have := s.ne.2.2; simpa using this) _, s.cur.2⟩, s.pk.upd i u hu, s.mods.set gp i (.inl (.inr rfl)) _, s.ne⟩
theorem OwnF.stay {l : List Fi} {F : Hd} (h : OwnF w x l F) (hm : x.grownBy y (some g)) (hg : g < w.heap.size) : OwnF w y l F := own_mods h (Mods.of_grown (S := fun i => i = g) hm rfl) (fun k hk e => by have := (own_block h k hk).1; omega)
theorem OwnC.stay {l : List Int} {F : Hd} (h : OwnC w x l F) (hm : x.grownBy y (some g)) (hg : g < w.heap.size) : OwnC w y l F := own_mods h (Mods.of_grown (S := fun i => i = g) hm rfl) (fun k hk e => by have := (own_block h k hk).1; omega)
end
theorem OwnC.snoc {w x : World} {l : List Int} {A : Option Addr} {c : Nat} {y : Int} (h : x.ownsRow w.heap.size 3 1 (.slice A (l.length + 1) c) (l.length + 1) (iv l ++ [.int .i64 y])) {g i : Nat} (u : Value) (hg : g < w.heap.size) : OwnC w (x.setCell ⟨g, i, none⟩ u) (l ++ [y]) ⟨A, c⟩ := by
  have h1 : OwnC w x (l ++ [y]) ⟨A, c⟩ := by
    unfold OwnC
    rw [List.length_append]
    simpa [iv] using h
  exact h1.stay (mod_set x g i u) hg
theorem codes_put (q : Pk) (hq : Hs) (l : List Int) (y : Int) (A : Option Addr) (c : Nat) (C : Hd) : (pkC { q with codes := l } { hq with codes := C }).setIfInBounds 22 (.slice A (l.length + 1) c) = pkC { q with codes := l ++ [y] } { hq with codes := ⟨A, c⟩ } := by
  rw [show l.length + 1 = (l ++ [y]).length by simp]
  rfl
theorem LS.opt {w x y : World} {g gp gf : Nat} {t : ByteArray} {q : Pk} {hq : Hs} {a a' : Nat} {e e' : Int} (s : LS w g gp t q hq a e x) (hc : Cur y g t a' e') (hm : Mods (two g gf) x y) (hgf : w.heap.size ≤ gf) : LS w g gp t q hq a' e' y := by
  have h1 := s.ne
  exact ⟨hc, s.pk.mods hm (fun h => by rcases h with h | h <;> omega), ⟨hm.os.trans s.mods.os, hm.tape.trans s.mods.tape, hm.output.trans s.mods.output, Nat.le_trans s.mods.size hm.size, fun i hi hs =>
    (hm.block i (Nat.lt_of_lt_of_le hi s.mods.size) (fun h => by rcases h with h | h; exact hs (.inl h); omega)).trans (s.mods.block i hi hs)⟩, h1⟩
theorem OwnF.opt {w x y : World} {g gf : Nat} {l : List Fi} {F : Hd} (h : OwnF w x l F) (hm : Mods (two g gf) x y) (hg : g < w.heap.size) (hlt : ∀ q, (Value.slice F.a l.length F.c).ownBlock = some q → q < gf) : OwnF w y l F :=
  own_mods h hm (fun k hk e => by have h1 := (own_block h k hk).1; have h2 := hlt k hk; rcases e with e | e <;> omega)
theorem fis_snoc (l : List Fi) (f : Fi) : fis (l ++ [f]) = fis l ++ fiC f := by simp [fis]
theorem OwnF.snoc {w x : World} {l : List Fi} {A : Option Addr} {c : Nat} {f : Fi} (h : x.ownsRow w.heap.size 32 5 (.slice A (l.length + 1) c) (l.length + 1) (fis l ++ fiC f)) {g i : Nat} (u : Value) (hg : g < w.heap.size) : OwnF w (x.setCell ⟨g, i, none⟩ u) (l ++ [f]) ⟨A, c⟩ := by
  have h1 : OwnF w x (l ++ [f]) ⟨A, c⟩ := by
    unfold OwnF
    rw [List.length_append, fis_snoc]
    exact h
  exact h1.stay (mod_set x g i u) hg
theorem filters_put (q : Pk) (hq : Hs) (l : List Fi) (f : Fi) (A : Option Addr) (c : Nat) (F : Hd) : (pkC { q with filters := l } { hq with filters := F }).setIfInBounds 23 (.slice A (l.length + 1) c) = pkC { q with filters := l ++ [f] } { hq with filters := ⟨A, c⟩ } := by
  rw [show l.length + 1 = (l ++ [f]).length by simp]
  rfl
theorem rd_fi1 (W : World) (f : Fi) : Rd (W.alloc (.cells #[.string f.topic, .int .i64 f.qos, .bool f.noLocal, .bool f.asPub, .int .i64 f.handling] 32)) (W.heap.size + 1) 5 (some ⟨W.heap.size, 0, none⟩) 1 (fiC f) := by
  have h := Rd.fresh W (fiCells f) 32
  refine ⟨rfl, ?_⟩
  rcases h.2 with h | h
  · exact .inl h
  · exact .inr h
theorem fiC_one (f : Fi) : ∀ u ∈ fiC f, u.oneCell' = true := by
  intro u hu
  simp [fiC] at hu
  rcases hu with rfl | rfl | rfl | rfl | rfl <;> rfl
theorem lsR_succ (v k : Int) (t : ByteArray) (n a : Nat) (e : Int) (fi : List Fi) (cd : List Int) : lsR v k t (n + 1) a e fi cd =
    if e ≠ 0 ∨ t.size ≤ a then (fi, cd, a, e)
    else if sbAsk k = true then lsR v k t n (fiR v k t a).2.1 (fiR v k t a).2.2 (fi ++ [(fiR v k t a).1]) cd
    else lsR v k t n (a + 1) 0 fi (cd ++ [((numS t a 0 1 : Nat) : Int)]) := rfl
theorem lsR_err {v k : Int} {t : ByteArray} {n a : Nat} {e : Int} {fi : List Fi} {cd : List Int} (he : e ≠ 0) : lsR v k t n a e fi cd = (fi, cd, a, e) := by
  cases n with
  | zero => rfl
  | succ n => rw [lsR_succ, if_pos (.inl he)]
theorem readU_zero {r : ByteArray} (h : (readU r).2.2 ≠ 0) : (readU r).2.1 = 0 := by
  unfold readU readB at h ⊢
  split
  · rfl
  · rename_i hc
    rw [if_neg hc] at h
    split
    · rfl
    · rename_i h1
      rw [if_neg h1] at h
      split
      · rfl
      · rename_i h2
        rw [if_neg h2] at h
        exact absurd rfl h
theorem rt_take {t : ByteArray} {a : Nat} (ha : a ≤ t.size) : (takeS t a (readU (t.extract a t.size)).2.2 ((readU (t.extract a t.size)).2.1 : Nat)).2 = ((rtC t a 0).2.1, (rtC t a 0).2.2) := by
  have hR : rtC t a 0 = ((readU (t.extract a t.size)).1, a + (readU (t.extract a t.size)).2.1, (readU (t.extract a t.size)).2.2) := if_neg (fun x => x rfl)
  have hle := (readU_le (t.extract a t.size)).1
  rw [size_back] at hle
  rw [hR]
  by_cases hx : (readU (t.extract a t.size)).2.2 = 0
  · rw [hx, take_yes (by omega)]
  · rw [takeS_bad hx, readU_zero hx]
    rfl
set_option maxHeartbeats 8000000 in
set_option maxRecDepth 10000 in
theorem sbList_any (v : Int) (hv : v = 4 ∨ v = 5) (k : Int) (hk : sbKnown v k = true) (g gp a0 : Nat) (t : ByteArray) (e0 : Int) (p : Pk) (h : Hs) (w : World) (hkp : p.kind = k) (hc : Cur w g t a0 e0) (hp : Bk w gp PkT (pkC { p with filters := [], codes := [] } { h with filters := hd0, codes := hd0 })) (hne : g ≠ gp) (ht : t.size ≤ 1000000000000) :
    Calls Tryz.prog 67 #[.int .i64 v, .pointer (some ⟨g, 0, none⟩), .pointer (some ⟨gp, 0, none⟩)] w fun e' w' =>
      e' = .returned (.tuple #[]) ∧ ∃ F C fi cd a e, lsR v k t (t.size + 1) a0 e0 [] [] = (fi, cd, a, e) ∧ LS w g gp t { p with filters := fi, codes := cd } { h with filters := F, codes := C } a e w' ∧ OwnF w w' fi F ∧ OwnC w w' cd C := by
  have L0 : Hid (LS w g gp t { p with filters := [], codes := [] } { h with filters := hd0, codes := hd0 } a0 e0 w) := Lib.hid ⟨hc, hp, Mods.refl _, hc.lt, hp.lt, hne⟩
  have HK := Lib.hid hk; have HV := Lib.hid hv; have HKP := Lib.hid hkp; have HT := Lib.hid ht
  obtain ⟨RES, hRES⟩ : ∃ R, lsR v k t (t.size + 1) a0 e0 [] [] = R := ⟨_, rfl⟩
  rw [hRES]
  have HRES := Lib.hid hRES
  clear hk hv hkp hc hp hne ht hRES
  go_enter Tryz.func67, Tryz.ntmps67
  go_wp2
  go_step3
  go_wp2
  go_step3
  go_wp2
  go_loopg [] (t.size + 1) (fun n wr => ∃ (a : Nat) (e : Int) (fi : List Fi) (cd : List Int) (F C : Hd), lsR v k t n a e fi cd = RES ∧ (e = 0 → t.size - a < n) ∧ (e = 0 → fi.length ≤ a ∧ cd.length ≤ a) ∧ ((sbAsk k = true → cd = [] ∧ C = hd0) ∧ (sbAsk k = false → fi = [] ∧ F = hd0)) ∧
    LS w g gp t { p with filters := fi, codes := cd } { h with filters := F, codes := C } a e wr ∧ OwnF w wr fi F ∧ OwnC w wr cd C)
  case atStart => exact ⟨a0, e0, [], [], hd0, hd0, HRES.out, fun _ => by omega, fun _ => ⟨Nat.zero_le _, Nat.zero_le _⟩, ⟨fun _ => ⟨rfl, rfl⟩, fun _ => ⟨rfl, rfl⟩⟩, L0.out, World.ownsRow_nil _ _ _ _, World.ownsRow_nil _ _ _ _⟩
  case round =>
    obtain ⟨a, e, fi, cd, F, C, hl, hfu, hlen, hnil, hI, hF, hC⟩ := hrel
    have HNIL := Lib.hid hnil; clear hnil
    have HL := Lib.hid hl; have HFU := Lib.hid hfu; have HLEN := Lib.hid hlen; have I := Lib.hid hI; have OF := Lib.hid hF; have OC := Lib.hid hC
    clear hl hfu hlen hI hF hC
    go_wp2_with fail
    refine (err_any g a t e _ I.out.cur).mono ?_
    rintro e' w1 ⟨rfl, hw1⟩
    subst hw1
    by_cases he : e = 0
    rotate_left
    · have e1 : (e == 0) = false := beq_eq_false_iff_ne.2 he
      have HX : Hid (RES = (fi, cd, a, e)) := Lib.hid (by rw [← HL.out, lsR_err he])
      clear he
      go_wp2
      rw [Exit.noGoto_normal]
      go_end0
      exact ⟨rfl, F, C, fi, cd, a, e, HX.out, I.out, OF.out, OC.out⟩
    subst he
    obtain ⟨n, rfl⟩ : ∃ n, gk = n + 1 := ⟨gk - 1, by have := HFU.out (by first | rfl | trivial); omega⟩
    rw [lsR_succ] at HL
    go_wp2_with fail
    refine (left_any g a t 0 _ I.out.cur).mono ?_
    rintro e' w1 ⟨rfl, hb⟩
    have I1 := Lib.hid (I.out.below hb); have OF1 : Hid (OwnF w w1 fi F) := Lib.hid (own_below OF.out hb); have OC1 : Hid (OwnC w w1 cd C) := Lib.hid (own_below OC.out hb)
    clear hb I OF OC
    by_cases hz : t.size ≤ a
    · have e2 : (((t.size - a : Nat) : Int) == 0) = true := beq_iff_eq.2 (by omega)
      have HX : Hid (RES = (fi, cd, a, 0)) := Lib.hid (by rw [← HL.out, if_pos (.inr hz)])
      clear hz
      go_wp2
      rw [Exit.noGoto_normal]
      go_end0
      exact ⟨rfl, F, C, fi, cd, a, 0, HX.out, I1.out, OF1.out, OC1.out⟩
    have e2 : (((t.size - a : Nat) : Int) == 0) = false := beq_eq_false_iff_ne.2 (by omega)
    have HZ : Hid (a < t.size) := Lib.hid (by omega)
    clear hz
    have kk := (I1.out.pk.cell 0).trans (pkC_0 _ _)
    simp only [HKP.out] at kk
    go_wp2_with fail
    refine (sbAsk_any k _).mono ?_
    rintro e' w2 ⟨rfl, hw2⟩
    subst hw2
    cases hask : sbAsk k
    · have HA := Lib.hid hask
      clear hask
      have HL2 := HL.out
      rw [if_neg (fun x => by have := HZ.out; rcases x with x | x <;> omega), if_neg (by rw [HA.out]; decide)] at HL2
      replace HL2 := Lib.hid HL2
      clear HL
      obtain ⟨y, hy⟩ : ∃ y, (ls t).drop a = y :: (ls t).drop (a + 1) := ⟨_, List.drop_eq_getElem_cons (by rw [ls_len]; exact HZ.out)⟩
      have HY := Lib.hid (one_num hy)
      have HNUM : Hid ((takeS t a 0 1).2.1 = a + 1 ∧ (takeS t a 0 1).2.2 = 0) := Lib.hid (by
        have : takeS t a 0 1 = (t.extract a (a + 1), a + 1, 0) := take_yes (k := 1) HZ.out
        rw [this]; exact ⟨rfl, rfl⟩)
      have hyw : IntKind.i64.wrap (y.toNat : Int) = (y.toNat : Int) := by have := y.toNat_lt; rw [IntKind.wrap_i64]; omega
      clear hy kk
      have HLC : Hid (cd.length ≤ 1000000000000) := Lib.hid (by have := (HLEN.out (by first | rfl | trivial)).2; have := HZ.out; have := HT.out; omega)
      have HS : w1.cell? ⟨gp, 22, none⟩ = some (.slice C.a cd.length C.c) := (I1.out.pk.cell 22).trans (pkC_22 _ _)
      go_wp2_with fail
      refine wp_region_D (fun w' => w'.cell? ⟨gp, 22, none⟩ = some (.slice C.a cd.length C.c)) [10] (by kernel_rfl) ?_
      replace HS : w1.drew.cell? ⟨gp, 22, none⟩ = some (.slice C.a cd.length C.c) := HS
      refine anyD_pick (i := 0) (v := ?vc_0) [10] rfl (Or.inl ⟨by rfl, ?hc_0⟩) HS ?rc_0
      case hc_0 => intro w' hSw; (try dsimp only at hSw); go_simp; try with_reducible rfl
      (try simp only [Act.put]); (try simp only [List.setIfInBounds_toArray]); (try simp only [List.set_cons_succ]); (try simp only [List.set_cons_zero])
      refine anyD_pick (i := 1) (v := ?vc_1) [10] rfl (Or.inl ⟨by rfl, ?hc_1⟩) HS ?rc_1
      case hc_1 => intro w' hSw; (try dsimp only at hSw); go_simp; try with_reducible rfl
      (try simp only [Act.put]); (try simp only [List.setIfInBounds_toArray]); (try simp only [List.set_cons_succ]); (try simp only [List.set_cons_zero])
      refine anyD_pick (i := 2) (v := ?vc_2) [10] rfl (Or.inl ⟨by rfl, ?hc_2⟩) HS ?rc_2
      case hc_2 => intro w' hSw; (try dsimp only at hSw); go_simp; try with_reducible rfl
      (try simp only [Act.put]); (try simp only [List.setIfInBounds_toArray]); (try simp only [List.set_cons_succ]); (try simp only [List.set_cons_zero])
      refine anyD_pick (i := 3) (v := ?vc_3) [10] rfl (Or.inl ⟨by rfl, ?hc_3⟩) HS ?rc_3
      case hc_3 => intro w' hSw; (try dsimp only at hSw); go_simp; try with_reducible rfl
      (try simp only [Act.put]); (try simp only [List.setIfInBounds_toArray]); (try simp only [List.set_cons_succ]); (try simp only [List.set_cons_zero])
      refine anyD_pick (i := 4) (v := ?vc_4) [10] rfl (Or.inl ⟨by rfl, ?hc_4⟩) HS ?rc_4
      case hc_4 => intro w' hSw; (try dsimp only at hSw); go_simp; try with_reducible rfl
      (try simp only [Act.put]); (try simp only [List.setIfInBounds_toArray]); (try simp only [List.set_cons_succ]); (try simp only [List.set_cons_zero])
      refine anyD_pick (i := 5) (v := ?vc_5) [10] rfl (Or.inl ⟨by rfl, ?hc_5⟩) HS ?rc_5
      case hc_5 => intro w' hSw; (try dsimp only at hSw); go_simp; try with_reducible rfl
      (try simp only [Act.put]); (try simp only [List.setIfInBounds_toArray]); (try simp only [List.set_cons_succ]); (try simp only [List.set_cons_zero])
      refine anyD_one 6 rfl (fun K hK => ?_)
      go_simp
      go_at_call 61
      refine (number_any g a t 0 1 _ (I1.out.drewN 1).cur (by decide)).mono ?_
      rintro e' y1 ⟨rfl, hc, hm⟩
      rw [HNUM.out.1, HNUM.out.2] at hc
      have J1 := Lib.hid ((I1.out.drewN 1).turn hc hm)
      have P1 : Hid (OwnC w y1 cd C) := Lib.hid ((show OwnC w (w1.drewN 1) cd C from OC1.out).stay hm I1.out.ne.1)
      have T1 : Hid (OwnF w y1 fi F) := Lib.hid ((show OwnF w (w1.drewN 1) fi F from OF1.out).stay hm I1.out.ne.1)
      clear hc hm HS
      have HS := (J1.out.pk.cell 22).trans (pkC_22 _ _)
      simp only at HS
      rw [HY.out]
      go_simp
      refine hK.out _ _ (fun _ => HS) ?_
      clear hK K
      (try simp only [Act.put]); (try simp only [List.setIfInBounds_toArray]); (try simp only [List.set_cons_succ]); (try simp only [List.set_cons_zero])
      refine anyD_pick (i := 7) (v := ?vc_7) [10] rfl (Or.inl ⟨by rfl, ?hc_7⟩) HS ?rc_7
      case hc_7 => intro w' hSw; (try dsimp only at hSw); go_simp; try with_reducible rfl
      (try simp only [Act.put]); (try simp only [List.setIfInBounds_toArray]); (try simp only [List.set_cons_succ]); (try simp only [List.set_cons_zero])
      refine anyD_one 8 rfl (fun K hK => ?_)
      go_simp
      have J2 := Lib.hid (J1.out.alloc (.cells #[.int .i64 (y.toNat : Int)] 3))
      have P2 := Lib.hid (World.ownsRow.alloc P1.out (.cells #[.int .i64 (y.toNat : Int)] 3))
      have T2 := Lib.hid (World.ownsRow.alloc T1.out (.cells #[.int .i64 (y.toNat : Int)] 3))
      clear HS
      have HS := (J2.out.pk.cell 22).trans (pkC_22 _ _)
      simp only at HS
      refine hK.out _ _ (fun _ => HS) ?_
      clear hK K
      (try simp only [Act.put]); (try simp only [List.setIfInBounds_toArray]); (try simp only [List.set_cons_succ]); (try simp only [List.set_cons_zero])
      refine anyD_one 9 rfl (fun K hK => ?_)
      refine step_app rfl (.tmp 28) (.tmp 32) 26 rfl w.heap.size 3 _ 1 8 Tryz.underlying26 info_int rfl (by decide) (.slice C.a cd.length C.c) _ _ rfl P2.out _ _ 1 1 [.int .i64 (y.toNat : Int)] rfl (Rd.lit _ _ _ rfl (Nat.lt_succ_self _) rfl) (by intro u hu; simp at hu; subst hu; rfl) (by have := HLC.out; unfold maxLen; omega) (by have := HLC.out; omega) J2.out.mods.size ?_
      intro v' y3 hown hg hat
      obtain ⟨A', c', rfl, hcap, hrd⟩ := own_rd hown
      have J3 := Lib.hid (J2.out.grown hg (fun q hq => (own_block P2.out q hq).1))
      clear hcap hrd HS
      have HS := (J3.out.pk.cell 22).trans (pkC_22 _ _)
      simp only at HS
      refine hK.out _ _ (fun _ => HS) ?_
      clear hK K
      (try simp only [Act.put]); (try simp only [List.setIfInBounds_toArray]); (try simp only [List.set_cons_succ]); (try simp only [List.set_cons_zero])
      refine anyD_one 10 rfl (fun K hK => ?_)
      go_simp
      refine hK.out _ _ (fun hn => absurd (hn 10 (by simp)) (by decide)) (anyD_late (d := 10) (by simp) _ _ _ _ (by kernel_rfl) ?_)
      have c22 := HS
      have f22 := J3.out.pk.free 22
      clear hK K HS
      (try simp only [Act.put]); (try simp only [List.setIfInBounds_toArray]); (try simp only [List.set_cons_succ]); (try simp only [List.set_cons_zero])
      refine wpAny_take (i := 11) (v := ?vc_11) rfl (by kernel_rfl) (by kernel_rfl) (by kernel_rfl) (fun _ _ _ h => h) (Or.inl ⟨by rfl, ?hc_11⟩) ?rc_11
      case hc_11 => intro w'; go_simp; try with_reducible rfl
      (try simp only [Act.put]); (try simp only [List.setIfInBounds_toArray]); (try simp only [List.set_cons_succ]); (try simp only [List.set_cons_zero])
      refine wpAny_one 12 rfl (fun K hK => ?_)
      go_simp
      refine hK.out _ _ ?_
      clear hK K
      (try simp only [Act.put]); (try simp only [List.setIfInBounds_toArray]); (try simp only [List.set_cons_succ]); (try simp only [List.set_cons_zero])
      refine wpAny_done (by kernel_rfl) ?_ _

      go_wp2
      go_roundg n
      case measure => omega
      case rel =>
        obtain ⟨hn1, hn2⟩ := HNIL.out.2 HA.out
        refine ⟨a + 1, 0, fi, cd ++ [(y.toNat : Int)], F, ⟨A', c'⟩, ?_, fun _ => by have := HFU.out (by first | rfl | trivial); have := HZ.out; omega, fun _ => ?_, ⟨fun h => (by rw [HA.out] at h; cases h), fun _ => ⟨hn1, hn2⟩⟩, J3.out.put 22 _ (codes_put { p with filters := fi } { h with filters := F } cd y.toNat A' c' C), ?_, OwnC.snoc hown _ J3.out.ne.2.1⟩
        · have := HL2.out
          rw [HY.out] at this
          exact this
        · have h1 := HLEN.out (by first | rfl | trivial)
          rw [List.length_append]
          exact ⟨by omega, by simp; omega⟩
        · rw [hn1, hn2]
          exact World.ownsRow_nil _ _ _ _
    · have HA := Lib.hid hask
      clear hask
      have HL2 := HL.out
      rw [if_neg (fun x => by have := HZ.out; rcases x with x | x <;> omega), if_pos HA.out] at HL2
      replace HL2 := Lib.hid HL2
      have HLF : Hid (fi.length ≤ 1000000000000) := Lib.hid (by have := (HLEN.out (by first | rfl | trivial)).1; have := HZ.out; have := HT.out; omega)
      have hkk : k = 8 ∨ k = 10 := of_decide_eq_true (show decide (k = 8 ∨ k = 10) = true from HA.out)
      have HKK := Lib.hid hkk
      have HFB := Lib.hid (fun h0 => fiR_back (v := v) (t := t) hkk (Nat.le_of_lt HZ.out) h0)
      clear HL kk hkk
      go_wp2_with fail
      refine (rest_any g a t 0 _ I1.out.cur).mono ?_
      rintro e' w2 ⟨rfl, hb⟩
      have I2 := Lib.hid (I1.out.below hb); have OF2 : Hid (OwnF w w2 fi F) := Lib.hid (own_below OF1.out hb)
      clear hb I1 OF1 OC1
      go_wp2_with fail
      refine (readU_any (t.extract a t.size) _ (by rw [size_back]; have := HT.out; omega)).mono ?_
      rintro e' w3 ⟨rfl, hb⟩
      have I3 := Lib.hid (I2.out.below hb); have OF3 : Hid (OwnF w w3 fi F) := Lib.hid (own_below OF2.out hb)
      clear hb I2 OF2
      have HRT := Lib.hid (rt_take (t := t) (a := a) (Nat.le_of_lt HZ.out))
      have HRC : Hid (rtC t a 0 = ((readU (t.extract a t.size)).1, a + (readU (t.extract a t.size)).2.1, (readU (t.extract a t.size)).2.2)) := Lib.hid (if_neg (fun x => x rfl))
      obtain ⟨U, hU⟩ : ∃ U, readU (t.extract a t.size) = U := ⟨_, rfl⟩
      rw [hU] at HRT HRC ⊢
      clear hU
      obtain ⟨T, m, x⟩ := U
      simp only at HRT HRC ⊢
      rw [HRC.out] at HRT
      go_wp2_with fail
      refine (fail_any g a t 0 x _ I3.out.cur).mono ?_
      rintro e' w4 ⟨rfl, hc, hm⟩
      rw [if_pos rfl] at hc
      have I4 := Lib.hid (I3.out.turn hc hm); have OF4 : Hid (OwnF w w4 fi F) := Lib.hid (OF3.out.stay hm I3.out.ne.1)
      clear hc hm I3 OF3
      go_wp2_with fail
      refine (take_any g a t x (m : Int) _ I4.out.cur).mono ?_
      rintro e' w5 ⟨rfl, hc, hm⟩
      rw [HRT.out] at hc
      have I5 := Lib.hid (I4.out.turn hc hm); have OF5 : Hid (OwnF w w5 fi F) := Lib.hid (OF4.out.stay hm I4.out.ne.1)
      clear hc hm I4 OF4
      have I6 := Lib.hid (I5.out.alloc (.cells (fiCells ⟨T, 0, false, false, 0⟩) 32))
      have OF6 : Hid (OwnF w (w5.alloc (.cells (fiCells ⟨T, 0, false, false, 0⟩) 32)) fi F) := Lib.hid (World.ownsRow.alloc OF5.out _)
      have K6 := Lib.hid (Bk.fresh w5 32 (fiCells ⟨T, 0, false, false, 0⟩))
      have HGF : Hid (w.heap.size ≤ w5.heap.size) := Lib.hid I5.out.mods.size
      have kk : (w5.alloc (.cells #[.string T, .int .i64 0, .bool false, .bool false, .int .i64 0] 32)).cell? ⟨gp, 0, none⟩ = some (.int .i64 k) := (I6.out.pk.cell 0).trans ((pkC_0 _ _).trans (by rw [← HKP.out]))
      have OFL : Hid (∀ q, (Value.slice F.a fi.length F.c).ownBlock = some q → q < w5.heap.size) := Lib.hid fun q hq => (own_block OF5.out q hq).2
      by_cases h8 : k = 8
      · have e8 : (k == 8) = true := beq_iff_eq.2 h8
        have HFR : Hid (fiR v k t a = (fiOf T (opR v t (a + m) x).1, (opR v t (a + m) x).2.1, (opR v t (a + m) x).2.2)) := Lib.hid (by unfold fiR; rw [if_pos h8, HRC.out])
        clear h8
        go_wp2_with fail
        refine (option_any v HV.out g (a + m) t x w5.heap.size T _ I6.out.cur K6.out (by have := I5.out.ne; have := HGF.out; omega)).mono ?_
        rintro e' w7 ⟨rfl, hc, hk7, hm⟩
        have I7 := Lib.hid (I6.out.opt hc hm HGF.out)
        have OF7 : Hid (OwnF w w7 fi F) := Lib.hid (OF6.out.opt hm I5.out.ne.1 OFL.out)
        have K7 := Lib.hid hk7
        clear hc hm hk7 I6 OF6 K6 kk
        rw [HFR.out] at HL2 HFB
        obtain ⟨f, hf⟩ : ∃ f, fiOf T (opR v t (a + m) x).1 = f := ⟨_, rfl⟩
        rw [hf] at K7 HL2 HFB
        generalize (opR v t (a + m) x).2.1 = a7 at *
        generalize (opR v t (a + m) x).2.2 = e7 at *
        clear hf HFR
        simp only at HL2 HFB
        have q0 := K7.out.cell 0; have q1 := K7.out.cell 1; have q2 := K7.out.cell 2; have q3 := K7.out.cell 3; have q4 := K7.out.cell 4
        simp only [fiCells, List.getElem?_toArray, List.getElem?_cons_succ, List.getElem?_cons_zero] at q0 q1 q2 q3 q4
        have HS : w7.cell? ⟨gp, 23, none⟩ = some (.slice F.a fi.length F.c) ∧ w7.cell? ⟨w5.heap.size, 0, none⟩ = some (.string f.topic) ∧ w7.cell? ⟨w5.heap.size, 1, none⟩ = some (.int .i64 f.qos) ∧ w7.cell? ⟨w5.heap.size, 2, none⟩ = some (.bool f.noLocal) ∧ w7.cell? ⟨w5.heap.size, 3, none⟩ = some (.bool f.asPub) ∧ w7.cell? ⟨w5.heap.size, 4, none⟩ = some (.int .i64 f.handling) := ⟨(I7.out.pk.cell 23).trans (pkC_23 _ _), q0, q1, q2, q3, q4⟩
        clear q0 q1 q2 q3 q4
        go_wp2_with fail
        refine wp_region_D (fun w' => w'.cell? ⟨gp, 23, none⟩ = some (.slice F.a fi.length F.c) ∧ w'.cell? ⟨w5.heap.size, 0, none⟩ = some (.string f.topic) ∧ w'.cell? ⟨w5.heap.size, 1, none⟩ = some (.int .i64 f.qos) ∧ w'.cell? ⟨w5.heap.size, 2, none⟩ = some (.bool f.noLocal) ∧ w'.cell? ⟨w5.heap.size, 3, none⟩ = some (.bool f.asPub) ∧ w'.cell? ⟨w5.heap.size, 4, none⟩ = some (.int .i64 f.handling)) [8] (by kernel_rfl) ?_
        replace HS : w7.drew.cell? ⟨gp, 23, none⟩ = some (.slice F.a fi.length F.c) ∧ w7.drew.cell? ⟨w5.heap.size, 0, none⟩ = some (.string f.topic) ∧ w7.drew.cell? ⟨w5.heap.size, 1, none⟩ = some (.int .i64 f.qos) ∧ w7.drew.cell? ⟨w5.heap.size, 2, none⟩ = some (.bool f.noLocal) ∧ w7.drew.cell? ⟨w5.heap.size, 3, none⟩ = some (.bool f.asPub) ∧ w7.drew.cell? ⟨w5.heap.size, 4, none⟩ = some (.int .i64 f.handling) := HS
        refine anyD_pick (i := 0) (v := ?vf_0) [8] rfl (Or.inl ⟨by rfl, ?hf_0⟩) HS ?rf_0
        case hf_0 => intro w' hSw; (try dsimp only at hSw); go_simp; try with_reducible rfl
        (try simp only [Act.put]); (try simp only [List.setIfInBounds_toArray]); (try simp only [List.set_cons_succ]); (try simp only [List.set_cons_zero])
        refine anyD_pick (i := 1) (v := ?vf_1) [8] rfl (Or.inl ⟨by rfl, ?hf_1⟩) HS ?rf_1
        case hf_1 => intro w' hSw; (try dsimp only at hSw); go_simp; try with_reducible rfl
        (try simp only [Act.put]); (try simp only [List.setIfInBounds_toArray]); (try simp only [List.set_cons_succ]); (try simp only [List.set_cons_zero])
        refine anyD_pick (i := 2) (v := ?vf_2) [8] rfl (Or.inl ⟨by rfl, ?hf_2⟩) HS ?rf_2
        case hf_2 => intro w' hSw; (try dsimp only at hSw); go_simp; try with_reducible rfl
        (try simp only [Act.put]); (try simp only [List.setIfInBounds_toArray]); (try simp only [List.set_cons_succ]); (try simp only [List.set_cons_zero])
        refine anyD_pick (i := 3) (v := ?vf_3) [8] rfl (Or.inl ⟨by rfl, ?hf_3⟩) HS ?rf_3
        case hf_3 => intro w' hSw; (try dsimp only at hSw); go_simp; try with_reducible rfl
        (try simp only [Act.put]); (try simp only [List.setIfInBounds_toArray]); (try simp only [List.set_cons_succ]); (try simp only [List.set_cons_zero])
        refine anyD_pick (i := 4) (v := ?vf_4) [8] rfl (Or.inl ⟨by rfl, ?hf_4⟩) HS ?rf_4
        case hf_4 => intro w' hSw; (try dsimp only at hSw); go_simp; try with_reducible rfl
        (try simp only [Act.put]); (try simp only [List.setIfInBounds_toArray]); (try simp only [List.set_cons_succ]); (try simp only [List.set_cons_zero])
        refine anyD_pick (i := 5) (v := ?vf_5) [8] rfl (Or.inl ⟨by rfl, ?hf_5⟩) HS ?rf_5
        case hf_5 => intro w' hSw; (try dsimp only at hSw); go_simp; try with_reducible rfl
        (try simp only [Act.put]); (try simp only [List.setIfInBounds_toArray]); (try simp only [List.set_cons_succ]); (try simp only [List.set_cons_zero])
        have J1 := Lib.hid (I7.out.drewN 1)
        have P1 : Hid (OwnF w w7.drew fi F) := Lib.hid OF7.out
        have K8 : Hid (Bk w7.drew w5.heap.size 32 (fiCells f)) := Lib.hid K7.out
        refine anyD_one 6 rfl (fun K hK => ?_)
        go_simp
        have J2 := Lib.hid (J1.out.alloc (.cells #[.string f.topic, .int .i64 f.qos, .bool f.noLocal, .bool f.asPub, .int .i64 f.handling] 32))
        have P2 := Lib.hid (World.ownsRow.alloc P1.out (.cells #[.string f.topic, .int .i64 f.qos, .bool f.noLocal, .bool f.asPub, .int .i64 f.handling] 32))
        have K9 := Lib.hid (K8.out.alloc (.cells #[.string f.topic, .int .i64 f.qos, .bool f.noLocal, .bool f.asPub, .int .i64 f.handling] 32))
        clear HS
        have HS := And.intro ((J2.out.pk.cell 23).trans (pkC_23 _ _)) (And.intro (K9.out.cell 0) (And.intro (K9.out.cell 1) (And.intro (K9.out.cell 2) (And.intro (K9.out.cell 3) (K9.out.cell 4)))))
        simp only [fiCells, List.getElem?_toArray, List.getElem?_cons_succ, List.getElem?_cons_zero] at HS
        refine hK.out _ _ (fun _ => HS) ?_
        clear hK K
        (try simp only [Act.put]); (try simp only [List.setIfInBounds_toArray]); (try simp only [List.set_cons_succ]); (try simp only [List.set_cons_zero])
        refine anyD_one 7 rfl (fun K hK => ?_)
        refine step_app rfl (.tmp 63) (.tmp 65) 27 rfl w.heap.size 32 _ 5 40 Tryz.underlying27 info_filter rfl (by decide) (.slice F.a fi.length F.c) _ _ rfl P2.out _ _ 1 1 (fiC f) rfl (rd_fi1 _ f) (fiC_one f) (by have := HLF.out; unfold maxLen; omega) (by have := HLF.out; omega) J2.out.mods.size ?_
        intro v' y3 hown hg hat
        obtain ⟨A', c', rfl, hcap, hrd⟩ := own_rd hown
        have J3 := Lib.hid (J2.out.grown hg (fun q hq => (own_block P2.out q hq).1))
        have K10 := Lib.hid (OB_keeps hg K9.out (fun e => by have h2 := OFL.out _ e; omega))
        clear hcap hrd HS
        have HS := And.intro ((J3.out.pk.cell 23).trans (pkC_23 _ _)) (And.intro (K10.out.cell 0) (And.intro (K10.out.cell 1) (And.intro (K10.out.cell 2) (And.intro (K10.out.cell 3) (K10.out.cell 4)))))
        simp only [fiCells, List.getElem?_toArray, List.getElem?_cons_succ, List.getElem?_cons_zero] at HS
        refine hK.out _ _ (fun _ => HS) ?_
        clear hK K
        (try simp only [Act.put]); (try simp only [List.setIfInBounds_toArray]); (try simp only [List.set_cons_succ]); (try simp only [List.set_cons_zero])
        refine anyD_one 8 rfl (fun K hK => ?_)
        go_simp
        refine hK.out _ _ (fun hn => absurd (hn 8 (by simp)) (by decide)) (anyD_late (d := 8) (by simp) _ _ _ _ (by kernel_rfl) ?_)
        have c23 := HS.1
        have f23 := J3.out.pk.free 23
        clear hK K HS
        (try simp only [Act.put]); (try simp only [List.setIfInBounds_toArray]); (try simp only [List.set_cons_succ]); (try simp only [List.set_cons_zero])
        refine wpAny_take (i := 9) (v := ?vf_9) rfl (by kernel_rfl) (by kernel_rfl) (by kernel_rfl) (fun _ _ _ h => h) (Or.inl ⟨by rfl, ?hf_9⟩) ?rf_9
        case hf_9 => intro w'; go_simp; try with_reducible rfl
        (try simp only [Act.put]); (try simp only [List.setIfInBounds_toArray]); (try simp only [List.set_cons_succ]); (try simp only [List.set_cons_zero])
        refine wpAny_one 10 rfl (fun K hK => ?_)
        go_simp
        refine hK.out _ _ ?_
        clear hK K
        (try simp only [Act.put]); (try simp only [List.setIfInBounds_toArray]); (try simp only [List.set_cons_succ]); (try simp only [List.set_cons_zero])
        refine wpAny_done (by kernel_rfl) ?_ _
        go_wp2
        go_roundg n
        case measure => omega
        case rel =>
          obtain ⟨hn1, hn2⟩ := HNIL.out.1 HA.out
          refine ⟨a7, e7, fi ++ [f], cd, ⟨A', c'⟩, C, HL2.out, fun h0 => (by obtain ⟨b1, b2, b3⟩ := HFB.out h0; have := HFU.out (by first | rfl | trivial); have := HZ.out; omega), fun h0 => ?_, ⟨fun _ => ⟨hn1, hn2⟩, fun h => (by rw [HA.out] at h; cases h)⟩, J3.out.put 23 _ (filters_put { p with codes := cd } { h with codes := C } fi f A' c' F), OwnF.snoc hown _ J3.out.ne.2.1, ?_⟩
          · obtain ⟨b1, b2, b3⟩ := HFB.out h0
            have h1 := HLEN.out (by first | rfl | trivial)
            rw [List.length_append, hn1]
            exact ⟨by simp; omega, Nat.zero_le _⟩
          · rw [hn1, hn2]
            exact World.ownsRow_nil _ _ _ _

      · have e8 : (k == 8) = false := beq_eq_false_iff_ne.2 h8
        have HFR : Hid (fiR v k t a = (⟨T, 0, false, false, 0⟩, a + m, x)) := Lib.hid (by unfold fiR; rw [if_neg h8, HRC.out])
        clear h8
        rw [HFR.out] at HL2 HFB
        simp only at HL2 HFB
        obtain ⟨f, hf⟩ : ∃ f : Fi, ⟨T, 0, false, false, 0⟩ = f := ⟨_, rfl⟩
        rw [hf] at K6 HL2 HFB
        have I7 := I6; have OF7 := OF6; have K7 := K6
        clear I6 OF6 K6 HFR
        obtain ⟨a7, ha7⟩ : ∃ a7, a + m = a7 := ⟨_, rfl⟩
        rw [ha7] at I7 HL2 HFB
        obtain ⟨e7, he7⟩ : ∃ e7, x = e7 := ⟨_, rfl⟩
        rw [he7] at I7 HL2 HFB
        clear ha7 he7
        go_wp2_with fail
        rw [hf] at OF7 I7
        clear kk
        obtain ⟨w7, hw7⟩ : ∃ w7, w5.alloc (.cells #[.string T, .int .i64 0, .bool false, .bool false, .int .i64 0] 32) = w7 := ⟨_, rfl⟩
        have hw8 : w5.alloc (.cells (fiCells f) 32) = w7 := by rw [← hf]; exact hw7
        rw [hw8] at I7 OF7 K7
        rw [hw7]
        clear hw7 hw8 hf
        have q0 := K7.out.cell 0; have q1 := K7.out.cell 1; have q2 := K7.out.cell 2; have q3 := K7.out.cell 3; have q4 := K7.out.cell 4
        simp only [fiCells, List.getElem?_toArray, List.getElem?_cons_succ, List.getElem?_cons_zero] at q0 q1 q2 q3 q4
        have HS : w7.cell? ⟨gp, 23, none⟩ = some (.slice F.a fi.length F.c) ∧ w7.cell? ⟨w5.heap.size, 0, none⟩ = some (.string f.topic) ∧ w7.cell? ⟨w5.heap.size, 1, none⟩ = some (.int .i64 f.qos) ∧ w7.cell? ⟨w5.heap.size, 2, none⟩ = some (.bool f.noLocal) ∧ w7.cell? ⟨w5.heap.size, 3, none⟩ = some (.bool f.asPub) ∧ w7.cell? ⟨w5.heap.size, 4, none⟩ = some (.int .i64 f.handling) := ⟨(I7.out.pk.cell 23).trans (pkC_23 _ _), q0, q1, q2, q3, q4⟩
        clear q0 q1 q2 q3 q4
        refine wp_region_D (fun w' => w'.cell? ⟨gp, 23, none⟩ = some (.slice F.a fi.length F.c) ∧ w'.cell? ⟨w5.heap.size, 0, none⟩ = some (.string f.topic) ∧ w'.cell? ⟨w5.heap.size, 1, none⟩ = some (.int .i64 f.qos) ∧ w'.cell? ⟨w5.heap.size, 2, none⟩ = some (.bool f.noLocal) ∧ w'.cell? ⟨w5.heap.size, 3, none⟩ = some (.bool f.asPub) ∧ w'.cell? ⟨w5.heap.size, 4, none⟩ = some (.int .i64 f.handling)) [8] (by kernel_rfl) ?_
        replace HS : w7.drew.cell? ⟨gp, 23, none⟩ = some (.slice F.a fi.length F.c) ∧ w7.drew.cell? ⟨w5.heap.size, 0, none⟩ = some (.string f.topic) ∧ w7.drew.cell? ⟨w5.heap.size, 1, none⟩ = some (.int .i64 f.qos) ∧ w7.drew.cell? ⟨w5.heap.size, 2, none⟩ = some (.bool f.noLocal) ∧ w7.drew.cell? ⟨w5.heap.size, 3, none⟩ = some (.bool f.asPub) ∧ w7.drew.cell? ⟨w5.heap.size, 4, none⟩ = some (.int .i64 f.handling) := HS
        refine anyD_pick (i := 0) (v := ?vg_0) [8] rfl (Or.inl ⟨by rfl, ?hg_0⟩) HS ?rg_0
        case hg_0 => intro w' hSw; (try dsimp only at hSw); go_simp; try with_reducible rfl
        (try simp only [Act.put]); (try simp only [List.setIfInBounds_toArray]); (try simp only [List.set_cons_succ]); (try simp only [List.set_cons_zero])
        refine anyD_pick (i := 1) (v := ?vg_1) [8] rfl (Or.inl ⟨by rfl, ?hg_1⟩) HS ?rg_1
        case hg_1 => intro w' hSw; (try dsimp only at hSw); go_simp; try with_reducible rfl
        (try simp only [Act.put]); (try simp only [List.setIfInBounds_toArray]); (try simp only [List.set_cons_succ]); (try simp only [List.set_cons_zero])
        refine anyD_pick (i := 2) (v := ?vg_2) [8] rfl (Or.inl ⟨by rfl, ?hg_2⟩) HS ?rg_2
        case hg_2 => intro w' hSw; (try dsimp only at hSw); go_simp; try with_reducible rfl
        (try simp only [Act.put]); (try simp only [List.setIfInBounds_toArray]); (try simp only [List.set_cons_succ]); (try simp only [List.set_cons_zero])
        refine anyD_pick (i := 3) (v := ?vg_3) [8] rfl (Or.inl ⟨by rfl, ?hg_3⟩) HS ?rg_3
        case hg_3 => intro w' hSw; (try dsimp only at hSw); go_simp; try with_reducible rfl
        (try simp only [Act.put]); (try simp only [List.setIfInBounds_toArray]); (try simp only [List.set_cons_succ]); (try simp only [List.set_cons_zero])
        refine anyD_pick (i := 4) (v := ?vg_4) [8] rfl (Or.inl ⟨by rfl, ?hg_4⟩) HS ?rg_4
        case hg_4 => intro w' hSw; (try dsimp only at hSw); go_simp; try with_reducible rfl
        (try simp only [Act.put]); (try simp only [List.setIfInBounds_toArray]); (try simp only [List.set_cons_succ]); (try simp only [List.set_cons_zero])
        refine anyD_pick (i := 5) (v := ?vg_5) [8] rfl (Or.inl ⟨by rfl, ?hg_5⟩) HS ?rg_5
        case hg_5 => intro w' hSw; (try dsimp only at hSw); go_simp; try with_reducible rfl
        (try simp only [Act.put]); (try simp only [List.setIfInBounds_toArray]); (try simp only [List.set_cons_succ]); (try simp only [List.set_cons_zero])
        have J1 := Lib.hid (I7.out.drewN 1)
        have P1 : Hid (OwnF w w7.drew fi F) := Lib.hid OF7.out
        have K8 : Hid (Bk w7.drew w5.heap.size 32 (fiCells f)) := Lib.hid K7.out
        refine anyD_one 6 rfl (fun K hK => ?_)
        go_simp
        have J2 := Lib.hid (J1.out.alloc (.cells #[.string f.topic, .int .i64 f.qos, .bool f.noLocal, .bool f.asPub, .int .i64 f.handling] 32))
        have P2 := Lib.hid (World.ownsRow.alloc P1.out (.cells #[.string f.topic, .int .i64 f.qos, .bool f.noLocal, .bool f.asPub, .int .i64 f.handling] 32))
        have K9 := Lib.hid (K8.out.alloc (.cells #[.string f.topic, .int .i64 f.qos, .bool f.noLocal, .bool f.asPub, .int .i64 f.handling] 32))
        clear HS
        have HS := And.intro ((J2.out.pk.cell 23).trans (pkC_23 _ _)) (And.intro (K9.out.cell 0) (And.intro (K9.out.cell 1) (And.intro (K9.out.cell 2) (And.intro (K9.out.cell 3) (K9.out.cell 4)))))
        simp only [fiCells, List.getElem?_toArray, List.getElem?_cons_succ, List.getElem?_cons_zero] at HS
        refine hK.out _ _ (fun _ => HS) ?_
        clear hK K
        (try simp only [Act.put]); (try simp only [List.setIfInBounds_toArray]); (try simp only [List.set_cons_succ]); (try simp only [List.set_cons_zero])
        refine anyD_one 7 rfl (fun K hK => ?_)
        refine step_app rfl (.tmp 63) (.tmp 65) 27 rfl w.heap.size 32 _ 5 40 Tryz.underlying27 info_filter rfl (by decide) (.slice F.a fi.length F.c) _ _ rfl P2.out _ _ 1 1 (fiC f) rfl (rd_fi1 _ f) (fiC_one f) (by have := HLF.out; unfold maxLen; omega) (by have := HLF.out; omega) J2.out.mods.size ?_
        intro v' y3 hown hg hat
        obtain ⟨A', c', rfl, hcap, hrd⟩ := own_rd hown
        have J3 := Lib.hid (J2.out.grown hg (fun q hq => (own_block P2.out q hq).1))
        have K10 := Lib.hid (OB_keeps hg K9.out (fun e => by have h2 := OFL.out _ e; omega))
        clear hcap hrd HS
        have HS := And.intro ((J3.out.pk.cell 23).trans (pkC_23 _ _)) (And.intro (K10.out.cell 0) (And.intro (K10.out.cell 1) (And.intro (K10.out.cell 2) (And.intro (K10.out.cell 3) (K10.out.cell 4)))))
        simp only [fiCells, List.getElem?_toArray, List.getElem?_cons_succ, List.getElem?_cons_zero] at HS
        refine hK.out _ _ (fun _ => HS) ?_
        clear hK K
        (try simp only [Act.put]); (try simp only [List.setIfInBounds_toArray]); (try simp only [List.set_cons_succ]); (try simp only [List.set_cons_zero])
        refine anyD_one 8 rfl (fun K hK => ?_)
        go_simp
        refine hK.out _ _ (fun hn => absurd (hn 8 (by simp)) (by decide)) (anyD_late (d := 8) (by simp) _ _ _ _ (by kernel_rfl) ?_)
        have c23 := HS.1
        have f23 := J3.out.pk.free 23
        clear hK K HS
        (try simp only [Act.put]); (try simp only [List.setIfInBounds_toArray]); (try simp only [List.set_cons_succ]); (try simp only [List.set_cons_zero])
        refine wpAny_take (i := 9) (v := ?vg_9) rfl (by kernel_rfl) (by kernel_rfl) (by kernel_rfl) (fun _ _ _ h => h) (Or.inl ⟨by rfl, ?hg_9⟩) ?rg_9
        case hg_9 => intro w'; go_simp; try with_reducible rfl
        (try simp only [Act.put]); (try simp only [List.setIfInBounds_toArray]); (try simp only [List.set_cons_succ]); (try simp only [List.set_cons_zero])
        refine wpAny_one 10 rfl (fun K hK => ?_)
        go_simp
        refine hK.out _ _ ?_
        clear hK K
        (try simp only [Act.put]); (try simp only [List.setIfInBounds_toArray]); (try simp only [List.set_cons_succ]); (try simp only [List.set_cons_zero])
        refine wpAny_done (by kernel_rfl) ?_ _
        go_wp2
        go_roundg n
        case measure => omega
        case rel =>
          obtain ⟨hn1, hn2⟩ := HNIL.out.1 HA.out
          refine ⟨a7, e7, fi ++ [f], cd, ⟨A', c'⟩, C, HL2.out, fun h0 => (by obtain ⟨b1, b2, b3⟩ := HFB.out h0; have := HFU.out (by first | rfl | trivial); have := HZ.out; omega), fun h0 => ?_, ⟨fun _ => ⟨hn1, hn2⟩, fun h => (by rw [HA.out] at h; cases h)⟩, J3.out.put 23 _ (filters_put { p with codes := cd } { h with codes := C } fi f A' c' F), OwnF.snoc hown _ J3.out.ne.2.1, ?_⟩
          · obtain ⟨b1, b2, b3⟩ := HFB.out h0
            have h1 := HLEN.out (by first | rfl | trivial)
            rw [List.length_append, hn1]
            exact ⟨by simp; omega, Nat.zero_le _⟩
          · rw [hn1, hn2]
            exact World.ownsRow_nil _ _ _ _

end Go.Proofs.YtbdgkkmbnahgiaaGreatDoor

namespace Go.Proofs.YtbdgkkmbnahgiaaGreatDoor
open Go.RowKit
theorem rtC_le {t : ByteArray} {a : Nat} {e : Int} (h : a ≤ t.size) : (rtC t a e).2.1 ≤ t.size ∧ (rtC t a e).1.size ≤ 65535 := by
  unfold rtC
  split
  · exact ⟨h, Nat.zero_le _⟩
  · have := readU_le (t.extract a t.size)
    rw [ByteArray.size_extract] at this
    refine ⟨by show a + (readU (t.extract a t.size)).2.1 ≤ t.size; omega, this.2⟩
end Go.Proofs.YtbdgkkmbnahgiaaGreatDoor

namespace Go.Proofs.YtbdgkkmbnahgiaaGreatDoor
open Go.RowKit
attribute [local go_sem ↓] to_ldPk to_bxPk to_bdPk to_alPk to_stPk
attribute [local go_sem] run_bxPk run_bxPk_agg ld_fresh run_alPk run_bd0 run_bdK run_bdKI run_bdKIC run_bdKC run_bdKICP run_stPk_fresh pkC_0 pkC_1 pkC_2 pkC_3 pkC_4 pkC_5 pkC_6 pkC_7 pkC_8 pkC_9 pkC_10 pkC_11 pkC_12 pkC_13 pkC_14 pkC_15 pkC_16 pkC_17 pkC_18 pkC_19 pkC_20 pkC_21 pkC_22 pkC_23 pkC_24
theorem lsR_len (v k : Int) (t : ByteArray) : ∀ (n a : Nat) (e : Int) (fi : List Fi) (cd : List Int), (lsR v k t n a e fi cd).1.length ≤ fi.length + n ∧ (lsR v k t n a e fi cd).2.1.length ≤ cd.length + n ∧ ∀ f ∈ (lsR v k t n a e fi cd).1, f ∈ fi ∨ f.topic.size ≤ 65535
  | 0, a, e, fi, cd => ⟨Nat.le_refl _, Nat.le_refl _, fun f hf => .inl hf⟩
  | n + 1, a, e, fi, cd => by
    rw [lsR_succ]
    split
    · exact ⟨by show fi.length ≤ _; omega, by show cd.length ≤ _; omega, fun f hf => .inl hf⟩
    · rename_i hc
      have hlt : a < t.size := Nat.lt_of_not_le fun x => hc (.inr x)
      split
      · obtain ⟨h1, h2, h3⟩ := lsR_len v k t n (fiR v k t a).2.1 (fiR v k t a).2.2 (fi ++ [(fiR v k t a).1]) cd
        rw [List.length_append] at h1
        simp only [List.length_cons, List.length_nil] at h1
        refine ⟨by omega, by omega, fun f hf => ?_⟩
        rcases h3 f hf with h | h
        · rcases List.mem_append.1 h with h | h
          · exact .inl h
          · right
            obtain rfl := List.mem_singleton.1 h
            have := (rtC_le (t := t) (a := a) (e := 0) (Nat.le_of_lt hlt)).2
            unfold fiR
            split
            · exact this
            · exact this
        · exact .inr h
      · obtain ⟨h1, h2, h3⟩ := lsR_len v k t n (a + 1) 0 fi (cd ++ [((numS t a 0 1 : Nat) : Int)])
        rw [List.length_append] at h2
        simp only [List.length_cons, List.length_nil] at h2
        exact ⟨by omega, by omega, h3⟩
theorem prpC_ok (v k : Int) (t : ByteArray) (a : Nat) (e : Int) (ht : t.size ≤ 140737488351232) : (∀ p ∈ (prpC v k t a e).1, prGood p) ∧ (prpC v k t a e).1.length ≤ 1000 := by
  unfold prpC
  split
  · exact ⟨by simp, Nat.zero_le _⟩
  · refine ⟨readP_good (by rw [ByteArray.size_extract]; omega), ?_⟩
    by_cases h : (readP k (t.extract a t.size)).2.2 = 0
    · exact readP_len h
    · have := readP_bad h
      rw [this]
      exact Nat.zero_le _
theorem sbFull_ok {v k : Int} {s : ByteArray} (hs : s.size ≤ 140737488351000) : PkOk (sbFull v k s) := by
  obtain ⟨h1, h2, h3⟩ := lsR_len v k s (s.size + 1) (sbPr v k s).2.1 (sbPr v k s).2.2 [] []
  obtain ⟨p1, p2⟩ := prpC_ok v k s (takeS s 0 0 2).2.1 (takeS s 0 0 2).2.2 (by omega)
  refine ⟨(by intro q hq; cases hq), p1, fun f hf => ?_, ?_, ?_⟩
  · rcases h3 f hf with h | h
    · cases h
    · omega
  · exact ⟨Nat.zero_le _, Nat.zero_le _, Nat.zero_le _, Nat.zero_le _, Nat.zero_le _, Nat.zero_le _, Nat.zero_le _⟩
  · simp only [List.length_nil] at h1 h2
    exact ⟨Nat.zero_le _, by show (sbLs v k s).2.1.length ≤ _; unfold sbLs; omega, by show (sbLs v k s).1.length ≤ _; unfold sbLs; omega, by show (sbPr v k s).1.length ≤ _; unfold sbPr; omega⟩
theorem rd_both {x y : World} {B : Nat} {A : Option Addr} {l : List Pr} {t1 t2 : TypeId} {c1 c2 : Array Value} {g1 g2 : Nat} (h : Rd x B 4 A l.length (prs l)) (b1 : Bk x g1 t1 c1) (b2 : Bk x g2 t2 c2)
    (n1 : ∀ (i : Nat) (n : Int), c1[i]? ≠ some (Value.int IntKind.u32 n)) (n2 : ∀ (i : Nat) (n : Int), c2[i]? ≠ some (Value.int IntKind.u32 n)) (hm : Mods (two g1 g2) x y) (hB : B ≤ x.heap.size) : Rd y B 4 A l.length (prs l) := by
  rcases h.2 with h0 | ⟨b, o, rfl, hb, hc⟩
  · exact ⟨h.1, .inl h0⟩
  · by_cases hl : 0 < l.length
    · obtain ⟨b', o', he, _, _, q1, _⟩ := h.atP hl
      simp only [Option.some.injEq, Addr.mk.injEq] at he
      obtain ⟨rfl, rfl, -⟩ := he
      refine ⟨h.1, .inr ⟨b, o, rfl, hb, fun j u hu => (World.cell?_of_block (a := ⟨b, o + j, none⟩) (hm.block b (by omega) (fun e => ?_))).trans (hc j u hu)⟩⟩
      rcases e with rfl | rfl
      · rw [b1.cell] at q1; exact n1 _ _ q1
      · rw [b2.cell] at q1; exact n2 _ _ q1
    · have hz : l = [] := List.eq_nil_of_length_eq_zero (by omega)
      subst hz
      exact Rd.nil _ _ _ _
/-- What stands behind list. -/
structure SG (w wL : World) (g gp gc : Nat) (k i : Int) (l : List Pr) (A : Option Addr) (n : Nat) (fi : List Fi) (cd : List Int) (F C : Hd) (t : ByteArray) (a : Nat) (e : Int) (x : World) : Prop where
  kept : Below w.heap.size w x
  res : Bk x g PkT (pkC pk0 hs0)
  pk : Bk x gp PkT (pkC { ackR1 k i 0 l with filters := fi, codes := cd } { hs0 with props := ⟨A, n⟩, filters := F, codes := C })
  cur : Cur x gc t a e
  rd : Rd x x.heap.size 4 A l.length (prs l)
  cap : l.length ≤ n
  ofi : OwnF wL x fi F
  ocd : OwnC wL x cd C
  ne : g ≠ gp ∧ g ≠ gc ∧ gp ≠ gc
  base : w.heap.size ≤ g ∧ w.heap.size ≤ gp ∧ w.heap.size ≤ gc
  lt : g < wL.heap.size ∧ gp < wL.heap.size ∧ gc < wL.heap.size
section
variable {w wL x y : World} {g gp gc : Nat} {k i : Int} {l : List Pr} {A : Option Addr} {n : Nat} {fi : List Fi} {cd : List Int} {F C : Hd} {t : ByteArray} {a a' : Nat} {e e' : Int}
theorem OwnF.into (h : OwnF wL x fi F) : Rd x x.heap.size 5 F.a fi.length (fis fi) ∧ fi.length ≤ F.c := by
  obtain ⟨A, c, hv, h1, h2⟩ := own_rd h
  simp only [Value.slice.injEq] at hv
  obtain ⟨rfl, -, rfl⟩ := hv
  exact ⟨h2, h1⟩
theorem OwnC.into (h : OwnC wL x cd C) : Rd x x.heap.size 1 C.a cd.length (iv cd) ∧ cd.length ≤ C.c := by
  obtain ⟨A, c, hv, h1, h2⟩ := own_rd h
  simp only [Value.slice.injEq] at hv
  obtain ⟨rfl, -, rfl⟩ := hv
  exact ⟨h2, h1⟩
theorem SG.into (s : SG w wL g gp gc k i l A n fi cd F C t a e x) : PkIn x x.heap.size { ackR1 k i 0 l with filters := fi, codes := cd } { hs0 with props := ⟨A, n⟩, filters := F, codes := C } :=
  ⟨Rd.nil _ _ _ _, s.ocd.into.1, s.ofi.into.1, s.rd, Nat.zero_le _, s.ocd.into.2, s.ofi.into.2, s.cap⟩
theorem SG.below (s : SG w wL g gp gc k i l A n fi cd F C t a e x) (hb : Below x.heap.size x y) : SG w wL g gp gc k i l A n fi cd F C t a e y :=
  ⟨s.kept.trans (hb.mono s.kept.size), s.res.below hb s.res.lt, s.pk.below hb s.pk.lt, s.cur.below hb, (s.rd.below hb).wider hb.size, s.cap, own_below s.ofi hb, own_below s.ocd hb, s.ne, s.base, s.lt⟩
theorem SG.turn (s : SG w wL g gp gc k i l A n fi cd F C t a e x) (hc : Cur y gc t a' e') (hm : x.grownBy y (some gc)) : SG w wL g gp gc k i l A n fi cd F C t a' e' y :=
  ⟨below_mod s.kept hm s.kept.size s.base.2.2, s.res.mods (S := fun z => z = gc) (Mods.of_grown hm rfl) s.ne.2.1, s.pk.mods (S := fun z => z = gc) (Mods.of_grown hm rfl) s.ne.2.2, hc,
    (s.rd.other s.cur.1 (cur_no32 _ _ _) hm (Nat.le_refl _)).wider hm.size, s.cap, s.ofi.stay hm s.lt.2.2, s.ocd.stay hm s.lt.2.2, s.ne, s.base, s.lt⟩
theorem SG.none (s : SG w wL g gp gc k i l A n fi cd F C t a e x) : Below w.heap.size w (putPk x g pk0 hs0) ∧ Bk (putPk x g pk0 hs0) g PkT (pkC pk0 hs0) := ⟨below_put s.kept s.kept.size s.base.1 _ _, put_bk s.res _ _⟩
theorem SG.some (s : SG w wL g gp gc k i l A n fi cd F C t a e x) (P : Pk := { ackR1 k i 0 l with filters := fi, codes := cd }) (H : Hs := { hs0 with props := ⟨A, n⟩, filters := F, codes := C }) (hP : P = { ackR1 k i 0 l with filters := fi, codes := cd } := by rfl) (hH : H = { hs0 with props := ⟨A, n⟩, filters := F, codes := C } := by rfl) :
    Below w.heap.size w (putPk x g P H) ∧ Bk (putPk x g P H) g PkT (pkC P H) ∧ PkIn (putPk x g P H) (putPk x g P H).heap.size P H := by
  subst hP hH
  have hm := putPk_mods x g { ackR1 k i 0 l with filters := fi, codes := cd } { hs0 with props := ⟨A, n⟩, filters := F, codes := C }
  refine ⟨below_put s.kept s.kept.size s.base.1 _ _, put_bk s.res _ _, ?_⟩
  exact ⟨Rd.nil _ _ _ _, (s.ocd.stay hm s.lt.1).into.1, (s.ofi.stay hm s.lt.1).into.1, (s.rd.other s.res (pk_no32 _ _) hm (Nat.le_refl _)).wider hm.size, Nat.zero_le _, s.ocd.into.2, s.ofi.into.2, s.cap⟩
theorem SG.of_list {ai : Nat} {ei : Int} (s : RI w g gp gc k i 0 l A n t ai ei wL) (hL : LS wL gc gp t { ackR1 k i 0 l with filters := fi, codes := cd } { { hs0 with props := ⟨A, n⟩ } with filters := F, codes := C } a e x) (hF : OwnF wL x fi F) (hC : OwnC wL x cd C) : SG w wL g gp gc k i l A n fi cd F C t a e x :=
  ⟨hL.mods.below s.kept s.kept.size (fun q hq => by rcases hq with rfl | rfl; exact s.base.2.2; exact s.base.2.1), s.res.mods hL.mods (fun h => by rcases h with h | h; exact s.ne.2.1 h; exact s.ne.1 h), hL.pk, hL.cur,
    (rd_both s.rd s.cur.1 s.pk (cur_no32 _ _ _) (pk_no32 _ _) hL.mods (Nat.le_refl _)).wider hL.mods.size, s.cap, hF, hC, s.ne, s.base, s.res.lt, s.pk.lt, s.cur.lt⟩
end
theorem ri_props {w x : World} {g gp gc : Nat} {k i : Int} {l : List Pr} {A A' : Option Addr} {n n' : Nat} {t : ByteArray} {a : Nat} {e : Int} {l' : List Pr} (s : RI w g gp gc k i 0 l A n t a e x) (hr : Rd x x.heap.size 4 A' l'.length (prs l')) (hc : l'.length ≤ n') :
    RI w g gp gc k i 0 l' A' n' t a e (x.setCell ⟨gp, 24, none⟩ (.slice A' l'.length n')) := by
  have hm := mod_set x gp 24 (.slice A' l'.length n')
  exact ⟨below_mod s.kept hm s.kept.size s.base.2.1, s.res.other (by have := s.ne.1; simpa using this) _, s.pk.upd 24 _ rfl, ⟨s.cur.1.other (by have := s.ne.2.2; simpa using this.symm) _, s.cur.2⟩,
    (hr.other s.pk (pk_no32 _ _) hm (Nat.le_refl _)).wider hm.size, hc, s.ne, s.base⟩
/-- As PkOut; and a code's slice is one that the call has made. -/
def PkOutC (r : Pk × Int) (w : World) (e : Ending) (w' : World) : Prop := ∃ h, e = .returned (.tuple #[pkV r.1 h, .int .i64 r.2]) ∧ PkIn w' w'.heap.size r.1 h ∧ Below w.heap.size w w' ∧ (∀ b o, h.codes.a = some ⟨b, o, none⟩ → w.heap.size ≤ b)
theorem pkOutC_bad {r : Pk × Int} {x : Int} {w w' : World} (h : r = (pk0, x)) (hb : Below w.heap.size w w') : PkOutC r w (.returned (.tuple #[pkV pk0 hs0, .int .i64 x])) w' := by
  subst h
  exact ⟨hs0, rfl, pk0_in _ _, hb, fun b o e => by cases e⟩
theorem pkOutC_ok {r : Pk × Int} {p : Pk} {h : Hs} {w w' : World} (hr : r = (p, 0)) (hi : PkIn w' w'.heap.size p h) (hb : Below w.heap.size w w') (hf : ∀ b o, h.codes.a = some ⟨b, o, none⟩ → w.heap.size ≤ b) : PkOutC r w (.returned (.tuple #[pkV p h, .int .i64 0])) w' := by
  subst hr
  exact ⟨h, rfl, hi, hb, hf⟩
theorem SG.fresh {w wL x : World} {g gp gc : Nat} {k i : Int} {l : List Pr} {A : Option Addr} {n : Nat} {fi : List Fi} {cd : List Int} {F C : Hd} {t : ByteArray} {a : Nat} {e : Int} (s : SG w wL g gp gc k i l A n fi cd F C t a e x) : ∀ b o, C.a = Option.some ⟨b, o, Option.none⟩ → w.heap.size ≤ b := fun b o h => by
  have h1 := (own_block s.ocd b (by rw [h]; rfl)).1
  have h2 := s.base.1
  have h3 := s.lt.1
  omega
set_option maxHeartbeats 8000000 in
set_option maxRecDepth 10000 in
theorem sbReadC_any (v k : Int) (s : ByteArray) (w : World) (hs : s.size ≤ 1000000000000) :
    Calls Tryz.prog 13 #[.int .i64 v, .int .i64 k, .string s] w (PkOutC (sbR v k s) w) := by
  have HS := Lib.hid hs
  have HB0 := Lib.hid ((Below.refl w.heap.size w).alloc (Nat.le_refl _) (.cells (pkC pk0 hs0) PkT))
  have H60 := Lib.hid (Bk.fresh w PkT (pkC pk0 hs0))
  have hst := run_stPk H60.out
  go_enter Tryz.func13, Tryz.ntmps13
  go_wp2_with fail
  refine (sbKnown_any v k _).mono ?_
  rintro e w1 ⟨rfl, hw1⟩
  subst hw1
  cases hk : sbKnown v k
  · have HX : Hid (sbR v k s = (pk0, 2)) := Lib.hid (by unfold sbR; rw [if_pos hk])
    clear hk
    go_wp2
    refine bodyPost_ret (results_pk rfl _ rfl (put_bk H60.out _ _)) rfl ?_
    exact pkOutC_bad HX.out (below_put HB0.out HB0.out.size (Nat.le_refl _) _ _)
  have HK := Lib.hid hk
  have h45 : v = 4 ∨ v = 5 := (of_decide_eq_true (show decide ((v = 4 ∨ v = 5) ∧ 8 ≤ k ∧ k ≤ 11) = true from hk)).1
  have HV := Lib.hid h45
  clear hk hst
  go_wp2_with fail
  refine (newCur_any s _ (by have := HS.out; omega)).mono ?_
  rintro e w1 ⟨rfl, hc, hb⟩
  have hgc : (w.alloc (.cells (pkC pk0 hs0) PkT)).heap.size = w.heap.size + 1 := by simp
  have HB1 := Lib.hid (HB0.out.trans (hb.mono HB0.out.size)); have H61 := Lib.hid (H60.out.below hb H60.out.lt)
  rw [hgc] at hc ⊢
  have HC1 := Lib.hid hc
  clear hc hb hgc
  go_wp2_with fail
  refine (number_any (w.heap.size + 1) 0 s 0 2 _ HC1.out (by decide)).mono ?_
  rintro e w2 ⟨rfl, hc, hm⟩
  have HB2 := Lib.hid (below_mod HB1.out hm HB1.out.size (by omega)); have H62 := Lib.hid (H61.out.mods (S := fun z => z = w.heap.size + 1) (Mods.of_grown hm rfl) (by omega)); have HC2 := Lib.hid hc
  have HZ := Lib.hid HC2.out.lt
  have hid := num_two_lt s 0 0 (by omega)
  obtain ⟨m, hm2⟩ : ∃ m, numS s 0 0 2 = m := ⟨_, rfl⟩
  rw [hm2] at hid ⊢
  have HM2 := Lib.hid hm2
  obtain ⟨TK, hTK⟩ : ∃ T, takeS s 0 0 2 = T := ⟨_, rfl⟩
  have HPR0 : Hid (sbPr v k s = prpC v k s TK.2.1 TK.2.2) := Lib.hid (by unfold sbPr; rw [hTK])
  rw [hTK] at HC2
  clear hc hm hm2 hTK
  obtain ⟨T0, a0, e0⟩ := TK
  simp only at HPR0 HC2
  obtain ⟨id, hm1⟩ : ∃ id : Int, id = (m : Int) := ⟨_, rfl⟩
  have hw : IntKind.i64.wrap (m : Int) = id := by rw [hm1, IntKind.wrap_i64]; omega
  have HM : Hid (id = (m : Int)) := Lib.hid hm1
  clear hid hm1
  have I3 : Hid (RI w w.heap.size w2.heap.size (w.heap.size + 1) k id 0 [] none 0 s a0 e0 (w2.alloc (.cells (pkC (ackR1 k id 0 []) hs0) PkT))) := Lib.hid
    ⟨HB2.out.alloc HB2.out.size _, H62.out.alloc _, Bk.fresh _ _ _, ⟨HC2.out.1.alloc _, HC2.out.2⟩, Rd.nil _ _ _ _, Nat.le_refl _, ⟨by have := HZ.out; omega, by omega, by have := HZ.out; omega⟩, Nat.le_refl _, by have := HZ.out; omega, by omega⟩
  have HLE : Hid (a0 ≤ s.size) := Lib.hid HC2.out.2.1
  clear HB2 H62 HC2 HB1 H61 HC1
  rcases h45 with h4 | h5
  · have e5 : (v == 5) = false := beq_eq_false_iff_ne.2 (by omega)
    have HPR : Hid (sbPr v k s = ([], a0, e0)) := Lib.hid (by rw [HPR0.out]; unfold prpC; rw [if_pos (.inl h4)])
    have HLG : Hid (∀ q ∈ ([] : List Pr), prGood q) := Lib.hid (by simp)
    obtain ⟨l, hl⟩ : ∃ l : List Pr, l = [] := ⟨_, rfl⟩
    obtain ⟨a1, ha1⟩ : ∃ a1, a1 = a0 := ⟨_, rfl⟩
    obtain ⟨e1, he1⟩ : ∃ e1, e1 = e0 := ⟨_, rfl⟩
    obtain ⟨A, hA⟩ : ∃ A : Option Addr, A = none := ⟨_, rfl⟩
    obtain ⟨n, hn⟩ : ∃ n : Nat, n = 0 := ⟨_, rfl⟩
    rw [← hl, ← ha1, ← he1] at HPR
    rw [← hl] at HLG
    replace I3 : Hid (RI w w.heap.size w2.heap.size (w.heap.size + 1) k id 0 l A n s a1 e1 (w2.alloc (.cells (pkC (ackR1 k id 0 []) hs0) PkT))) := by subst hl ha1 he1 hA hn; exact I3
    clear h4 hl ha1 he1 hA hn
    have HPG := Lib.hid (show ∀ q ∈ l, prGood q from HLG.out)
    go_wp2_with fail
    refine (sbList_any v (by first | exact HV.out | exact .inr rfl) k HK.out (w.heap.size + 1) w2.heap.size a1 s e1 (ackR1 k id 0 l) { hs0 with props := ⟨A, n⟩ } _ rfl I3.out.cur I3.out.pk (by have := HZ.out; omega) HS.out).mono ?_
    rintro ee wX ⟨rfl, F, C, fi, cd, a2, e2, hls, hL, hF, hC⟩
    have G0 := Lib.hid (SG.of_list I3.out hL hF hC)
    have HLS : Hid (sbLs v k s = (fi, cd, a2, e2)) := Lib.hid (by unfold sbLs; rw [HPR.out]; exact hls)
    have HFU : Hid (sbFull v k s = sbPk k m l fi cd) := Lib.hid (by unfold sbFull; rw [HLS.out, HPR.out, HM2.out])
    have HOK : Hid (PkOk (sbPk k m l fi cd)) := Lib.hid (by rw [← HFU.out]; exact sbFull_ok (by have := HS.out; omega))
    have HE2 : Hid (sbR v k s = if e2 ≠ 0 then (pk0, e2) else if sbE v (sbPk k m l fi cd) ≠ 0 then (pk0, sbE v (sbPk k m l fi cd)) else (sbPk k m l fi cd, 0)) := Lib.hid (by
      unfold sbR; rw [if_neg (by rw [HK.out]; decide), HLS.out, HFU.out])
    clear hls hL hF hC
    rw [HM.out] at G0
    have hl : (ldPk (.pointer (some ⟨w2.heap.size, 0, none⟩))).run Tryz.prog wX = .ok (pkV (sbPk k m l fi cd) { hs0 with props := ⟨A, n⟩, filters := F, codes := C }) wX := ld_bk G0.out.pk
    have HGI : Hid (PkIn wX wX.heap.size (sbPk k m l fi cd) { hs0 with props := ⟨A, n⟩, filters := F, codes := C }) := Lib.hid G0.out.into
    obtain ⟨P, hP⟩ : ∃ P, sbPk k m l fi cd = P := ⟨_, rfl⟩
    rw [hP] at hl HGI HOK HE2
    have HPE := Lib.hid hP
    clear hP
    go_wp2_with fail
    refine (sbValid_any v P _ _ HGI.out HOK.out).mono ?_
    rintro ee wV ⟨rfl, hb⟩
    have G1 := Lib.hid (G0.out.below hb); clear hb hl HGI
    go_wp2_with fail
    refine (fail_any _ a2 s e2 (sbE v P) _ G1.out.cur).mono ?_
    rintro ee wF ⟨rfl, hc, hm⟩
    have G2 := Lib.hid (G1.out.turn hc hm); clear hc hm
    have HW : Hid (((if e2 = 0 then sbE v P else e2) = 0 ∧ sbR v k s = (P, 0)) ∨ ((if e2 = 0 then sbE v P else e2) ≠ 0 ∧ sbR v k s = (pk0, (if e2 = 0 then sbE v P else e2)))) := Lib.hid (by
      rw [HE2.out]
      by_cases h2 : e2 = 0
      · rw [if_pos h2, if_neg (fun x => x h2)]
        by_cases h3 : sbE v P = 0
        · rw [if_neg (fun x => x h3)]; exact .inl ⟨h3, rfl⟩
        · rw [if_pos h3]; exact .inr ⟨h3, rfl⟩
      · rw [if_neg h2, if_pos h2]; exact .inr ⟨h2, rfl⟩)
    generalize (if e2 = 0 then sbE v P else e2) = E at *
    go_wp2_with fail
    refine (err_any _ a2 s E _ G2.out.cur).mono ?_
    rintro ee wH ⟨rfl, hwh⟩
    subst hwh
    have hl := ld_bk G2.out.pk
    have hst := run_stPk G2.out.res
    rcases HW.out with ⟨h2, hr⟩ | ⟨h2, hr⟩
    · subst h2
      have HR := Lib.hid hr; clear hr
      go_wp2
      refine bodyPost_ret (results_pk rfl _ rfl G2.out.some.2.1) rfl ?_
      exact pkOutC_ok (HR.out.trans (by rw [← HPE.out]; rfl)) G2.out.some.2.2 G2.out.some.1 G2.out.fresh
    · have e0 : (E != 0) = true := bne_iff_ne.2 h2
      have HR := Lib.hid hr; clear hr h2
      go_wp2
      refine bodyPost_ret (results_pk rfl _ rfl G2.out.none.2) rfl ?_
      exact pkOutC_bad HR.out G2.out.none.1

  · subst h5
    go_wp2_with fail
    refine (err_any _ a0 s e0 _ I3.out.cur).mono ?_
    rintro ee wE ⟨rfl, hwe⟩
    subst hwe
    by_cases he : e0 = 0
    rotate_left
    · have e9 : (e0 == 0) = false := beq_eq_false_iff_ne.2 he
      have HPR : Hid (sbPr 5 k s = ([], a0, e0)) := Lib.hid (by rw [HPR0.out]; unfold prpC; rw [if_pos (.inr he)])
      have HLG : Hid (∀ q ∈ ([] : List Pr), prGood q) := Lib.hid (by simp)
      clear he
      obtain ⟨l, hl⟩ : ∃ l : List Pr, l = [] := ⟨_, rfl⟩
      obtain ⟨a1, ha1⟩ : ∃ a1, a1 = a0 := ⟨_, rfl⟩
      obtain ⟨e1, he1⟩ : ∃ e1, e1 = e0 := ⟨_, rfl⟩
      obtain ⟨A, hA⟩ : ∃ A : Option Addr, A = none := ⟨_, rfl⟩
      obtain ⟨n, hn⟩ : ∃ n : Nat, n = 0 := ⟨_, rfl⟩
      rw [← hl, ← ha1, ← he1] at HPR
      rw [← hl] at HLG
      replace I3 : Hid (RI w w.heap.size w2.heap.size (w.heap.size + 1) k id 0 l A n s a1 e1 (w2.alloc (.cells (pkC (ackR1 k id 0 []) hs0) PkT))) := by subst hl ha1 he1 hA hn; exact I3
      clear hl ha1 hA hn he1
      have HPG := Lib.hid (show ∀ q ∈ l, prGood q from HLG.out)
      go_wp2_with fail
      refine (sbList_any 5 (by first | exact HV.out | exact .inr rfl) k HK.out (w.heap.size + 1) w2.heap.size a1 s e1 (ackR1 k id 0 l) { hs0 with props := ⟨A, n⟩ } _ rfl I3.out.cur I3.out.pk (by have := HZ.out; omega) HS.out).mono ?_
      rintro ee wX ⟨rfl, F, C, fi, cd, a2, e2, hls, hL, hF, hC⟩
      have G0 := Lib.hid (SG.of_list I3.out hL hF hC)
      have HLS : Hid (sbLs 5 k s = (fi, cd, a2, e2)) := Lib.hid (by unfold sbLs; rw [HPR.out]; exact hls)
      have HFU : Hid (sbFull 5 k s = sbPk k m l fi cd) := Lib.hid (by unfold sbFull; rw [HLS.out, HPR.out, HM2.out])
      have HOK : Hid (PkOk (sbPk k m l fi cd)) := Lib.hid (by rw [← HFU.out]; exact sbFull_ok (by have := HS.out; omega))
      have HE2 : Hid (sbR 5 k s = if e2 ≠ 0 then (pk0, e2) else if sbE 5 (sbPk k m l fi cd) ≠ 0 then (pk0, sbE 5 (sbPk k m l fi cd)) else (sbPk k m l fi cd, 0)) := Lib.hid (by
        unfold sbR; rw [if_neg (by rw [HK.out]; decide), HLS.out, HFU.out])
      clear hls hL hF hC
      rw [HM.out] at G0
      have hl : (ldPk (.pointer (some ⟨w2.heap.size, 0, none⟩))).run Tryz.prog wX = .ok (pkV (sbPk k m l fi cd) { hs0 with props := ⟨A, n⟩, filters := F, codes := C }) wX := ld_bk G0.out.pk
      have HGI : Hid (PkIn wX wX.heap.size (sbPk k m l fi cd) { hs0 with props := ⟨A, n⟩, filters := F, codes := C }) := Lib.hid G0.out.into
      obtain ⟨P, hP⟩ : ∃ P, sbPk k m l fi cd = P := ⟨_, rfl⟩
      rw [hP] at hl HGI HOK HE2
      have HPE := Lib.hid hP
      clear hP
      go_wp2_with fail
      refine (sbValid_any 5 P _ _ HGI.out HOK.out).mono ?_
      rintro ee wV ⟨rfl, hb⟩
      have G1 := Lib.hid (G0.out.below hb); clear hb hl HGI
      go_wp2_with fail
      refine (fail_any _ a2 s e2 (sbE 5 P) _ G1.out.cur).mono ?_
      rintro ee wF ⟨rfl, hc, hm⟩
      have G2 := Lib.hid (G1.out.turn hc hm); clear hc hm
      have HW : Hid (((if e2 = 0 then sbE 5 P else e2) = 0 ∧ sbR 5 k s = (P, 0)) ∨ ((if e2 = 0 then sbE 5 P else e2) ≠ 0 ∧ sbR 5 k s = (pk0, (if e2 = 0 then sbE 5 P else e2)))) := Lib.hid (by
        rw [HE2.out]
        by_cases h2 : e2 = 0
        · rw [if_pos h2, if_neg (fun x => x h2)]
          by_cases h3 : sbE 5 P = 0
          · rw [if_neg (fun x => x h3)]; exact .inl ⟨h3, rfl⟩
          · rw [if_pos h3]; exact .inr ⟨h3, rfl⟩
        · rw [if_neg h2, if_pos h2]; exact .inr ⟨h2, rfl⟩)
      generalize (if e2 = 0 then sbE 5 P else e2) = E at *
      go_wp2_with fail
      refine (err_any _ a2 s E _ G2.out.cur).mono ?_
      rintro ee wH ⟨rfl, hwh⟩
      subst hwh
      have hl := ld_bk G2.out.pk
      have hst := run_stPk G2.out.res
      rcases HW.out with ⟨h2, hr⟩ | ⟨h2, hr⟩
      · subst h2
        have HR := Lib.hid hr; clear hr
        go_wp2
        refine bodyPost_ret (results_pk rfl _ rfl G2.out.some.2.1) rfl ?_
        exact pkOutC_ok (HR.out.trans (by rw [← HPE.out]; rfl)) G2.out.some.2.2 G2.out.some.1 G2.out.fresh
      · have e0 : (E != 0) = true := bne_iff_ne.2 h2
        have HR := Lib.hid hr; clear hr h2
        go_wp2
        refine bodyPost_ret (results_pk rfl _ rfl G2.out.none.2) rfl ?_
        exact pkOutC_bad HR.out G2.out.none.1

    · subst he
      have HPR1 : Hid (sbPr 5 k s = ((readP k (s.extract a0 s.size)).1, a0 + (readP k (s.extract a0 s.size)).2.1, (readP k (s.extract a0 s.size)).2.2)) := Lib.hid (by rw [HPR0.out]; unfold prpC; rw [if_neg (by omega)])
      have HRG := Lib.hid (readP_good (kind := k) (s := s.extract a0 s.size) (by rw [ByteArray.size_extract]; have := HS.out; omega))
      have HTK : Hid ((takeS s a0 (readP k (s.extract a0 s.size)).2.2 ((readP k (s.extract a0 s.size)).2.1 : Nat)).2 = (a0 + (readP k (s.extract a0 s.size)).2.1, (readP k (s.extract a0 s.size)).2.2)) := Lib.hid (by
        by_cases hx : (readP k (s.extract a0 s.size)).2.2 = 0
        · have := (readP_back (kind := k) (s := s.extract a0 s.size) (l := (readP k (s.extract a0 s.size)).1) (n := (readP k (s.extract a0 s.size)).2.1) (by rw [← hx])).2.2
          rw [ByteArray.size_extract] at this
          have hle := HLE.out
          rw [hx, take_yes (by omega)]
        · rw [takeS_bad hx, readP_bad hx]; rfl)
      go_wp2_with fail
      refine (rest_any _ a0 s 0 _ I3.out.cur).mono ?_
      rintro ee w3 ⟨rfl, hb⟩
      have I4 := Lib.hid (I3.out.below hb); clear hb
      go_wp2_with fail
      refine (readP_any k (s.extract a0 s.size) _ (by rw [ByteArray.size_extract]; have := HS.out; omega)).mono ?_
      rintro ee w4 ⟨A, n, rfl, hcap, hrd, hb⟩
      have I5 := Lib.hid (I4.out.below hb)
      have RD5 := Lib.hid hrd; have HCAP := Lib.hid hcap
      clear hb hrd hcap
      obtain ⟨R, hR⟩ : ∃ R, readP k (s.extract a0 s.size) = R := ⟨_, rfl⟩
      rw [hR] at HPR1 HRG HTK RD5 HCAP ⊢
      clear hR
      obtain ⟨l, z, x⟩ := R
      simp only at HPR1 HRG HTK RD5 HCAP ⊢
      go_wp2_with fail
      refine (fail_any _ a0 s 0 x _ I5.out.cur).mono ?_
      rintro ee w5 ⟨rfl, hc, hm⟩
      rw [if_pos rfl] at hc
      have RD6 := Lib.hid ((RD5.out.other I5.out.cur.1 (cur_no32 _ _ _) hm (Nat.le_refl _)).wider hm.size)
      have I6 := Lib.hid (I5.out.turn hc hm)
      clear hc hm
      go_wp2_with fail
      refine (take_any _ a0 s x (z : Int) _ I6.out.cur).mono ?_
      rintro ee w6 ⟨rfl, hc, hm⟩
      rw [HTK.out] at hc
      have RD7 := Lib.hid ((RD6.out.other I6.out.cur.1 (cur_no32 _ _ _) hm (Nat.le_refl _)).wider hm.size)
      have I7 := Lib.hid (I6.out.turn hc hm)
      clear hc hm
      have I8 := Lib.hid (ri_props I7.out RD7.out HCAP.out)
      have q24 := (I7.out.pk.cell 24).trans (pkC_24 _ _)
      have f24 := I7.out.pk.free 24
      have HPR : Hid (sbPr 5 k s = (l, a0 + z, x)) := HPR1
      have HLG : Hid (∀ q ∈ l, prGood q) := HRG
      obtain ⟨a1, ha1⟩ : ∃ a1, a0 + z = a1 := ⟨_, rfl⟩
      obtain ⟨e1, he1⟩ : ∃ e1, x = e1 := ⟨_, rfl⟩
      rw [ha1, he1] at HPR I8
      clear ha1 he1
      have HPG := Lib.hid (show ∀ q ∈ l, prGood q from HLG.out)
      go_wp2_with fail
      refine (sbList_any 5 (by first | exact HV.out | exact .inr rfl) k HK.out (w.heap.size + 1) w2.heap.size a1 s e1 (ackR1 k id 0 l) { hs0 with props := ⟨A, n⟩ } _ rfl I8.out.cur I8.out.pk (by have := HZ.out; omega) HS.out).mono ?_
      rintro ee wX ⟨rfl, F, C, fi, cd, a2, e2, hls, hL, hF, hC⟩
      have G0 := Lib.hid (SG.of_list I8.out hL hF hC)
      have HLS : Hid (sbLs 5 k s = (fi, cd, a2, e2)) := Lib.hid (by unfold sbLs; rw [HPR.out]; exact hls)
      have HFU : Hid (sbFull 5 k s = sbPk k m l fi cd) := Lib.hid (by unfold sbFull; rw [HLS.out, HPR.out, HM2.out])
      have HOK : Hid (PkOk (sbPk k m l fi cd)) := Lib.hid (by rw [← HFU.out]; exact sbFull_ok (by have := HS.out; omega))
      have HE2 : Hid (sbR 5 k s = if e2 ≠ 0 then (pk0, e2) else if sbE 5 (sbPk k m l fi cd) ≠ 0 then (pk0, sbE 5 (sbPk k m l fi cd)) else (sbPk k m l fi cd, 0)) := Lib.hid (by
        unfold sbR; rw [if_neg (by rw [HK.out]; decide), HLS.out, HFU.out])
      clear hls hL hF hC
      rw [HM.out] at G0
      have hl : (ldPk (.pointer (some ⟨w2.heap.size, 0, none⟩))).run Tryz.prog wX = .ok (pkV (sbPk k m l fi cd) { hs0 with props := ⟨A, n⟩, filters := F, codes := C }) wX := ld_bk G0.out.pk
      have HGI : Hid (PkIn wX wX.heap.size (sbPk k m l fi cd) { hs0 with props := ⟨A, n⟩, filters := F, codes := C }) := Lib.hid G0.out.into
      obtain ⟨P, hP⟩ : ∃ P, sbPk k m l fi cd = P := ⟨_, rfl⟩
      rw [hP] at hl HGI HOK HE2
      have HPE := Lib.hid hP
      clear hP
      go_wp2_with fail
      refine (sbValid_any 5 P _ _ HGI.out HOK.out).mono ?_
      rintro ee wV ⟨rfl, hb⟩
      have G1 := Lib.hid (G0.out.below hb); clear hb hl HGI
      go_wp2_with fail
      refine (fail_any _ a2 s e2 (sbE 5 P) _ G1.out.cur).mono ?_
      rintro ee wF ⟨rfl, hc, hm⟩
      have G2 := Lib.hid (G1.out.turn hc hm); clear hc hm
      have HW : Hid (((if e2 = 0 then sbE 5 P else e2) = 0 ∧ sbR 5 k s = (P, 0)) ∨ ((if e2 = 0 then sbE 5 P else e2) ≠ 0 ∧ sbR 5 k s = (pk0, (if e2 = 0 then sbE 5 P else e2)))) := Lib.hid (by
        rw [HE2.out]
        by_cases h2 : e2 = 0
        · rw [if_pos h2, if_neg (fun x => x h2)]
          by_cases h3 : sbE 5 P = 0
          · rw [if_neg (fun x => x h3)]; exact .inl ⟨h3, rfl⟩
          · rw [if_pos h3]; exact .inr ⟨h3, rfl⟩
        · rw [if_neg h2, if_pos h2]; exact .inr ⟨h2, rfl⟩)
      generalize (if e2 = 0 then sbE 5 P else e2) = E at *
      go_wp2_with fail
      refine (err_any _ a2 s E _ G2.out.cur).mono ?_
      rintro ee wH ⟨rfl, hwh⟩
      subst hwh
      have hl := ld_bk G2.out.pk
      have hst := run_stPk G2.out.res
      rcases HW.out with ⟨h2, hr⟩ | ⟨h2, hr⟩
      · subst h2
        have HR := Lib.hid hr; clear hr
        go_wp2
        refine bodyPost_ret (results_pk rfl _ rfl G2.out.some.2.1) rfl ?_
        exact pkOutC_ok (HR.out.trans (by rw [← HPE.out]; rfl)) G2.out.some.2.2 G2.out.some.1 G2.out.fresh
      · have e0 : (E != 0) = true := bne_iff_ne.2 h2
        have HR := Lib.hid hr; clear hr h2
        go_wp2
        refine bodyPost_ret (results_pk rfl _ rfl G2.out.none.2) rfl ?_
        exact pkOutC_bad HR.out G2.out.none.1

end Go.Proofs.YtbdgkkmbnahgiaaGreatDoor

