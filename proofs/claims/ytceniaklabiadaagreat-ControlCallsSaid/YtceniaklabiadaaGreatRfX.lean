/- Reference 10: Read. -/
import Derived.Test.YtceniaklabiadaaGreatRfV
import Derived.Test.YtceniaklabiadaaGreatOrdD
namespace Go.Proofs.YtceniaklabiadaaGreat
open Go.RowKit
attribute [local go_sem ↓] to_ldPk to_bxPk to_bdPk to_alPk to_stPk
attribute [local go_sem] run_bxPk run_bxPk_agg ld_fresh run_alPk run_bd0 run_bdK run_bdKI run_bdKIC run_bdKC run_bdKICP run_stPk_fresh pkC_0 pkC_1 pkC_2 pkC_3 pkC_4 pkC_5 pkC_6 pkC_7 pkC_8 pkC_9 pkC_10 pkC_11 pkC_12 pkC_13 pkC_14 pkC_15 pkC_16 pkC_17 pkC_18 pkC_19 pkC_20 pkC_21 pkC_22 pkC_23 pkC_24

/-- What stands while a packet is read: the result's block, the packet's, the cursor's. -/
structure RK (w : World) (g gp gc : Nat) (k i c : Int) (l : List Pr) (A : Option Addr) (n : Nat) (t : ByteArray) (a : Nat) (e : Int) (x : World) : Prop where
  kept : Below w.heap.size w x
  res : Bk x g PkT (pkC pk0 hs0)
  pk : Bk x gp PkT (pkC (ackR1 k i c l) { hs0 with props := ⟨A, n⟩ })
  cur : RCur x gc t a e
  rd : Rd x x.heap.size 4 A l.length (prs l)
  cap : l.length ≤ n
  ne : g ≠ gp ∧ g ≠ gc ∧ gp ≠ gc
  base : w.heap.size ≤ g ∧ w.heap.size ≤ gp ∧ w.heap.size ≤ gc
section
variable {w x y : World} {g gp gc : Nat} {k i c : Int} {l : List Pr} {A : Option Addr} {n : Nat} {t : ByteArray} {a a' : Nat} {e e' : Int}
theorem RK.below (h : RK w g gp gc k i c l A n t a e x) (hb : Below x.heap.size x y) : RK w g gp gc k i c l A n t a e y :=
  ⟨h.kept.trans (hb.mono h.kept.size), h.res.below hb h.res.lt, h.pk.below hb h.pk.lt, h.cur.below hb, (h.rd.below hb).wider hb.size, h.cap, h.ne, h.base⟩
theorem RK.turn (h : RK w g gp gc k i c l A n t a e x) (hc : RCur y gc t a' e') (hm : x.grownBy y (some gc)) : RK w g gp gc k i c l A n t a' e' y :=
  ⟨below_mod h.kept hm h.kept.size h.base.2.2, h.res.mods (S := fun z => z = gc) (Mods.of_grown hm rfl) h.ne.2.1, h.pk.mods (S := fun z => z = gc) (Mods.of_grown hm rfl) h.ne.2.2, hc,
    (h.rd.other h.cur.1 (rcur_no32 _ _ _) hm (Nat.le_refl _)).wider hm.size, h.cap, h.ne, h.base⟩
theorem pk_put {w : World} {g : Nat} {k i c : Int} {l : List Pr} {A : Option Addr} {n : Nat} (h : Bk w g PkT (pkC (ackR1 k i 0 []) hs0)) : Bk ((w.setCell ⟨g, 21, .none⟩ (.int .i64 c)).setCell ⟨g, 24, .none⟩ (.slice A l.length n)) g PkT (pkC (ackR1 k i c l) { hs0 with props := ⟨A, n⟩ }) :=
  (h.upd 21 (.int .i64 c) (pk_code k i 0 c [] hs0)).upd 24 _ (pk_props k i c [] l A n hs0)
theorem RK.put (h : RK w g gp gc k i 0 [] Option.none 0 t a e x) {A' : Option Addr} {n' : Nat} {l' : List Pr} {c' : Int} (hr : Rd x x.heap.size 4 A' l'.length (prs l')) (hn : l'.length ≤ n') :
    RK w g gp gc k i c' l' A' n' t a e ((x.setCell ⟨gp, 21, .none⟩ (.int .i64 c')).setCell ⟨gp, 24, .none⟩ (.slice A' l'.length n')) := by
  have hm := (mod_set x gp 21 (.int .i64 c')).trans (mod_set _ gp 24 (.slice A' l'.length n'))
  exact ⟨below_mod h.kept hm h.kept.size h.base.2.1, (h.res.other h.ne.1 _).other h.ne.1 _, pk_put h.pk, ⟨(h.cur.1.other (Ne.symm h.ne.2.2) _).other (Ne.symm h.ne.2.2) _, h.cur.2⟩, (hr.other h.pk (pk_no32 _ _) hm (Nat.le_refl _)).wider hm.size, hn, h.ne, h.base⟩
/-- The packet stays while the cursor goes. -/
theorem RK.stay (h : RK w g gp gc k i c l A n t a e x) (hm : Mods (fun z => z = gc) x y) : PkIn y y.heap.size (ackR1 k i c l) { hs0 with props := ⟨A, n⟩ } :=
  PkIn.R1 ((h.rd.other h.cur.1 (rcur_no32 _ _ _) hm.grown (Nat.le_refl _)).wider hm.size) h.cap k i c
theorem RK.drewN (h : RK w g gp gc k i c l A n t a e x) (m : Nat) : RK w g gp gc k i c l A n t a e (x.drewN m) := h.below (below_drawn (Below.refl _ _) m)
/-- What Done hands back, stored into the result. -/
theorem RK.done {r : Pk × Int} {kk : Hs} (h : RK w g gp gc k i c l A n t a e x) (_hi : PkIn y y.heap.size r.1 kk) (hm : x.grownBy y (some gc)) (hst : ∀ z, y.grownBy z (some g) → PkIn z z.heap.size r.1 kk) :
    Below w.heap.size w (putPk y g r.1 kk) ∧ Bk (putPk y g r.1 kk) g PkT (pkC r.1 kk) ∧ PkIn (putPk y g r.1 kk) (putPk y g r.1 kk).heap.size r.1 kk :=
  ⟨below_put (below_mod h.kept hm h.kept.size h.base.2.2) (Nat.le_trans h.kept.size hm.size) h.base.1 _ _, put_bk (h.res.mods (S := fun z => z = gc) (Mods.of_grown hm rfl) h.ne.2.1) _ _, hst _ (putPk_mods _ _ _ _)⟩
theorem RK.into (h : RK w g gp gc k i c l A n t a e x) : PkIn x x.heap.size (ackR1 k i c l) { hs0 with props := ⟨A, n⟩ } := PkIn.R1 h.rd h.cap k i c
/-- The result stored. -/
theorem RK.none (h : RK w g gp gc k i c l A n t a e x) : Below w.heap.size w (putPk x g pk0 hs0) ∧ Bk (putPk x g pk0 hs0) g PkT (pkC pk0 hs0) := ⟨below_put h.kept h.kept.size h.base.1 _ _, put_bk h.res _ _⟩
theorem RK.some (h : RK w g gp gc k i c l A n t a e x) : Below w.heap.size w (putPk x g (ackR1 k i c l) { hs0 with props := ⟨A, n⟩ }) ∧ Bk (putPk x g (ackR1 k i c l) { hs0 with props := ⟨A, n⟩ }) g PkT (pkC (ackR1 k i c l) { hs0 with props := ⟨A, n⟩ }) ∧
    PkIn (putPk x g (ackR1 k i c l) { hs0 with props := ⟨A, n⟩ }) (putPk x g (ackR1 k i c l) { hs0 with props := ⟨A, n⟩ }).heap.size (ackR1 k i c l) { hs0 with props := ⟨A, n⟩ } :=
  ⟨below_put h.kept h.kept.size h.base.1 _ _, put_bk h.res _ _, PkIn.R1 ((h.rd.other h.res (pk_no32 _ _) (putPk_mods _ _ _ _) (Nat.le_refl _)).wider (putPk_mods _ _ _ _).size) h.cap k i c⟩
end
/-- A packet that has no codes, no filters stays while a block without numbers of 32 bits goes. -/
theorem PkIn.other_blk {w w' : World} {g : Nat} {p : Pk} {h : Hs} {t : TypeId} {cs : Array Value} (hi : PkIn w w.heap.size p h) (h1 : p.codes = []) (h2 : p.filters = []) (hb : Bk w g t cs) (hcs : ∀ (i : Nat) (n : Int), cs[i]? ≠ some (Value.int IntKind.u32 n)) (hm : w.grownBy w' (some g)) : PkIn w' w'.heap.size p h :=
  ⟨(hi.wp.other hb hcs hm (Nat.le_refl _)).wider hm.size, (hi.codes.grown hm (Nat.le_refl _) (fun _ _ _ hx => absurd (by rw [h1]; rfl) hx)).wider hm.size,
    (hi.filters.grown hm (Nat.le_refl _) (fun _ _ _ hx => absurd (by rw [h2]; rfl) hx)).wider hm.size, (hi.props.other hb hcs hm (Nat.le_refl _)).wider hm.size, hi.caps⟩
theorem doneR_lists {p : Pk} {t : ByteArray} {a : Nat} {e x : Int} (h1 : p.codes = []) (h2 : p.filters = []) : (doneR p t a e x).1.codes = [] ∧ (doneR p t a e x).1.filters = [] := by
  unfold doneR
  split
  · exact ⟨rfl, rfl⟩
  · exact ⟨h1, h2⟩
set_option maxHeartbeats 2000000 in
set_option maxRecDepth 10000 in
theorem refAckRead_any (v k : Int) (s : ByteArray) (w : World) (hs : s.size ≤ 140737488351232) :
    Calls Tryz.prog 16 #[.int .i64 v, .int .i64 k, .string s] w (PkOut (ackR v k s) w) := by
  have HS := Lib.hid hs
  have HB0 := Lib.hid ((Below.refl w.heap.size w).alloc (Nat.le_refl _) (.cells (pkC pk0 hs0) PkT))
  have HR0 := Lib.hid (Bk.fresh w PkT (pkC pk0 hs0))
  have hst := run_stPk HR0.out
  go_enter Tryz.func16, Tryz.ntmps16
  go_wp2_with fail
  refine (refVersion_any v _).mono ?_
  rintro e w1 ⟨rfl, rfl⟩
  cases hk : hdKnown v
  · have HX : Hid (ackR v k s = (pk0, 2)) := Lib.hid (by unfold ackR; rw [if_pos (show ackK v k = false from decide_eq_false (fun x => by have h2 := of_decide_eq_false (show decide (v = 4 ∨ v = 5) = false from hk); exact h2 x.1))])
    clear hk
    go_wp2
    refine bodyPost_ret (results_pk rfl _ rfl (put_bk HR0.out _ _)) rfl ?_
    exact pkOut_bad HX.out (below_put HB0.out HB0.out.size (Nat.le_refl _) _ _)
  by_cases h4 : k < 4
  · have HX : Hid (ackR v k s = (pk0, 2)) := Lib.hid (by unfold ackR; rw [if_pos (show ackK v k = false from decide_eq_false (fun x => by omega))])
    clear hk
    go_wp2
    refine bodyPost_ret (results_pk rfl _ rfl (put_bk HR0.out _ _)) rfl ?_
    exact pkOut_bad HX.out (below_put HB0.out HB0.out.size (Nat.le_refl _) _ _)
  have d4 : decide (k < (4 : Int)) = false := decide_eq_false h4
  by_cases h7 : 7 < k
  · have HX : Hid (ackR v k s = (pk0, 2)) := Lib.hid (by unfold ackR; rw [if_pos (show ackK v k = false from decide_eq_false (fun x => by omega))])
    clear hk h4
    go_wp2
    refine bodyPost_ret (results_pk rfl _ rfl (put_bk HR0.out _ _)) rfl ?_
    exact pkOut_bad HX.out (below_put HB0.out HB0.out.size (Nat.le_refl _) _ _)
  have d7 : decide ((7 : Int) < k) = false := decide_eq_false h7
  have HKN : Hid (ackK v k = true) := Lib.hid (decide_eq_true ⟨of_decide_eq_true (show decide (v = 4 ∨ v = 5) = true from hk), by omega, by omega⟩)
  have HRR := Lib.hid (ackR_ref (s := s) HKN.out)
  clear hk h4 h7 hst
  go_wp2_with fail
  refine (refNew_any s _ (by have := HS.out; omega)).mono ?_
  rintro e w1 ⟨rfl, hcu, hb⟩
  have hgc : (w.alloc (.cells (pkC pk0 hs0) PkT)).heap.size = w.heap.size + 1 := by simp
  have HB1 := Lib.hid (HB0.out.trans (hb.mono HB0.out.size)); have HR1 := Lib.hid (HR0.out.below hb HR0.out.lt)
  rw [hgc] at hcu ⊢
  have HC1 := Lib.hid hcu
  clear hcu hb hgc
  go_wp2_with fail
  refine (refNumber_any (w.heap.size + 1) 0 s 0 2 _ HC1.out (by decide)).mono ?_
  rintro e w2 ⟨rfl, hcu, hm⟩
  have HB2 := Lib.hid (below_mod HB1.out hm HB1.out.size (by omega)); have HR2 := Lib.hid (HR1.out.mods (S := fun z => z = w.heap.size + 1) (Mods.of_grown hm rfl) (by omega)); have HC2 := Lib.hid hcu
  have HZ := Lib.hid HC2.out.lt
  have hid := num_two_lt s 0 0 (by omega)
  have HQ : Hid (rkQ v k s = ackR1 k (numS s 0 0 2 : Nat) (rkR v k s).1 (rkR v k s).2.1) := Lib.hid rfl
  have HRK : Hid (rkR v k s = rkRest v k s (takeS s 0 0 2).2.1 (takeS s 0 0 2).2.2) := Lib.hid rfl
  clear hcu hm
  generalize numS s 0 0 2 = m at *
  generalize (takeS s 0 0 2).2.1 = a1 at *
  generalize (takeS s 0 0 2).2.2 = e1 at *
  obtain ⟨id, hm1⟩ : ∃ id : Int, id = (m : Int) := ⟨_, rfl⟩
  have hw : IntKind.i64.wrap (m : Int) = id := by rw [hm1, IntKind.wrap_i64]; omega
  rw [← hm1] at HQ
  clear hid hm1
  have I3 : Hid (RK w w.heap.size w2.heap.size (w.heap.size + 1) k id 0 [] none 0 s a1 e1 (w2.alloc (.cells (pkC (ackR1 k id 0 []) hs0) PkT))) := Lib.hid
    ⟨HB2.out.alloc HB2.out.size _, HR2.out.alloc _, Bk.fresh _ _ _, ⟨HC2.out.1.alloc _, HC2.out.2⟩, Rd.nil _ _ _ _, Nat.le_refl _, ⟨by have := HZ.out; omega, by omega, by have := HZ.out; omega⟩, Nat.le_refl _, by have := HZ.out; omega, by omega⟩
  go_wp2_with fail
  rw [ackR1_ki]
  refine (refAckRest_any v k (w.heap.size + 1) a1 s e1 _ I3.out.cur HS.out).mono ?_
  rintro e' x1 ⟨A, q, rfl, hlc, hr, hcu, hm⟩
  rw [← HRK.out] at hlc hr hcu ⊢
  have HOK : Hid (PkOk (rkQ v k s)) := Lib.hid (by rw [HQ.out, HRK.out]; exact rkRest_ok HS.out)
  generalize rkR v k s = R at *
  obtain ⟨c, l, a2, e2⟩ := R
  simp only at hlc hr hcu HQ HRR ⊢
  rw [HQ.out] at HRR HOK
  have I4 := Lib.hid (I3.out.turn hcu hm)
  have I5 := Lib.hid (I4.out.put (c' := c) hr hlc)
  have f21 := I4.out.pk.free 21
  have p21 := I4.out.pk.cell 21
  have f24 := I4.out.pk.free 24
  have p24 := I4.out.pk.cell 24
  rw [pkC_21] at p21
  rw [pkC_24] at p24
  clear hlc hr hcu hm hw
  generalize hgp : w2.heap.size = gp at *
  clear hgp
  have HS := ld_bk (I5.out.pk.drewN 1)
  go_wp2_with fail
  refine wp_region_D (fun w' => (ldPk (.pointer (some ⟨gp, 0, none⟩))).run Tryz.prog w' = .ok (pkV (ackR1 k id c l) { hs0 with props := ⟨A, q⟩ }) w') [5] (by kernel_rfl) ?_
  refine anyD_take (i := 0) (v := ?v0) [5] rfl (by kernel_rfl) (by kernel_rfl) (by kernel_rfl) (by kernel_rfl) (by kernel_rfl) (by kernel_rfl) (fun _ _ _ h => h) (Or.inl ⟨by rfl, ?h0⟩) HS ?r0
  case h0 => intro w' hSw; (try dsimp only at hSw); go_simp; try with_reducible rfl
  (try simp only [Act.put]); (try simp only [List.setIfInBounds_toArray]); (try simp only [List.set_cons_succ]); (try simp only [List.set_cons_zero])
  refine anyD_take (i := 1) (v := ?v1) [5] rfl (by kernel_rfl) (by kernel_rfl) (by kernel_rfl) (by kernel_rfl) (by kernel_rfl) (by kernel_rfl) (fun _ _ _ h => h) (Or.inl ⟨by rfl, ?h1⟩) HS ?r1
  case h1 => intro w' hSw; (try dsimp only at hSw); go_simp; try with_reducible rfl
  (try simp only [Act.put]); (try simp only [List.setIfInBounds_toArray]); (try simp only [List.set_cons_succ]); (try simp only [List.set_cons_zero])
  refine anyD_take (i := 2) (v := ?v2) [4, 5] rfl (by kernel_rfl) (by kernel_rfl) (by kernel_rfl) (by kernel_rfl) (by kernel_rfl) (by kernel_rfl) (fun _ _ _ h => h) (Or.inl ⟨by rfl, ?h2⟩) HS ?r2
  case h2 => intro w' hSw; (try dsimp only at hSw); go_simp; try with_reducible rfl
  (try simp only [Act.put]); (try simp only [List.setIfInBounds_toArray]); (try simp only [List.set_cons_succ]); (try simp only [List.set_cons_zero])
  refine anyD_take (i := 3) (v := ?v3) [4, 5] rfl (by kernel_rfl) (by kernel_rfl) (by kernel_rfl) (by kernel_rfl) (by kernel_rfl) (by kernel_rfl) (fun _ _ _ h => h) (Or.inl ⟨by rfl, ?h3⟩) HS ?r3
  case h3 => intro w' hSw; (try dsimp only at hSw); go_simp; try with_reducible rfl
  (try simp only [Act.put]); (try simp only [List.setIfInBounds_toArray]); (try simp only [List.set_cons_succ]); (try simp only [List.set_cons_zero])
  refine anyD_ready (rs := [4]) (by kernel_rfl) (by simp) (AllD.cons rfl (fun K hK => ?_) AllD.nil)
  go_simp
  go_at_call 21
  refine (refAckValid_any v (ackR1 k id c l) _ _ (I5.out.drewN 1).into HOK.out).mono ?_
  rintro e' z1 ⟨rfl, hb⟩
  have J1 := Lib.hid ((I5.out.drewN 1).below hb); clear hb HS
  have HS := ld_bk J1.out.pk
  go_simp
  refine hK.out _ _ (fun _ => HS) ?_
  clear hK K
  (try simp only [Act.put]); (try simp only [List.setIfInBounds_toArray]); (try simp only [List.set_cons_succ]); (try simp only [List.set_cons_zero])
  refine anyD_ready (rs := [5]) (by kernel_rfl) (by simp) (AllD.cons rfl (fun K hK => ?_) AllD.nil)
  go_simp
  go_at_call 72
  refine (refDone_any (w.heap.size + 1) a2 s e2 (ackE v (ackR1 k id c l)) (ackR1 k id c l) { hs0 with props := ⟨A, q⟩ } _ J1.out.cur (fun y hm => J1.out.stay hm)).mono ?_
  rintro e' z2 ⟨kk, rfl, hi, hm⟩
  go_simp
  refine hK.out _ _ (fun hn => absurd (hn 5 (by simp)) (by decide)) (anyD_late (d := 5) (by simp) _ _ _ _ (by kernel_rfl) ?_)
  clear hK K HS
  (try simp only [Act.put]); (try simp only [List.setIfInBounds_toArray]); (try simp only [List.set_cons_succ]); (try simp only [List.set_cons_zero])
  have HRL := Lib.hid (doneR_lists (p := ackR1 k id c l) (t := s) (a := a2) (e := e2) (x := ackE v (ackR1 k id c l)) rfl rfl)
  obtain ⟨R, hR⟩ : ∃ R, doneR (ackR1 k id c l) s a2 e2 (ackE v (ackR1 k id c l)) = R := ⟨_, rfl⟩
  rw [hR] at hi HRR HRL ⊢
  clear hR
  have HST : Hid (∀ y, z2.grownBy y (some w.heap.size) → PkIn y y.heap.size R.1 kk) := Lib.hid (fun y hy => PkIn.other_blk hi HRL.out.1 HRL.out.2 (J1.out.res.mods (S := fun z => z = w.heap.size + 1) (Mods.of_grown hm rfl) (by omega)) (pk_no32 _ _) hy)
  have HFD := Lib.hid (J1.out.done (r := R) hi hm HST.out)
  have hst := run_stPk (J1.out.res.mods (S := fun z => z = w.heap.size + 1) (Mods.of_grown hm rfl) J1.out.ne.2.1)
  refine wpAny_take (i := 6) (v := ?v6) rfl (by kernel_rfl) (by kernel_rfl) (by kernel_rfl) (fun _ _ _ h => h) (Or.inl ⟨by rfl, ?h6⟩) ?r6
  case h6 => intro w'; go_simp; try with_reducible rfl
  (try simp only [Act.put]); (try simp only [List.setIfInBounds_toArray]); (try simp only [List.set_cons_succ]); (try simp only [List.set_cons_zero])
  refine wpAny_take (i := 7) (v := ?v7) rfl (by kernel_rfl) (by kernel_rfl) (by kernel_rfl) (fun _ _ _ h => h) (Or.inl ⟨by rfl, ?h7⟩) ?r7
  case h7 => intro w'; go_simp; try with_reducible rfl
  (try simp only [Act.put]); (try simp only [List.setIfInBounds_toArray]); (try simp only [List.set_cons_succ]); (try simp only [List.set_cons_zero])
  refine wpAny_ready (rs := [8]) (by kernel_rfl) (by simp) (allShut rfl (fun K hK => ?_) AllReady.nil)
  go_simp
  refine hK.out _ _ ?_
  clear hK K
  (try simp only [Act.put]); (try simp only [List.setIfInBounds_toArray]); (try simp only [List.set_cons_succ]); (try simp only [List.set_cons_zero])
  refine wpAny_ready (rs := [9]) (by kernel_rfl) (by simp) (allShut rfl (fun K hK => ?_) AllReady.nil)
  go_simp
  refine hK.out _ _ ?_
  clear hK K
  (try simp only [Act.put]); (try simp only [List.setIfInBounds_toArray]); (try simp only [List.set_cons_succ]); (try simp only [List.set_cons_zero])
  refine wpAny_done (by kernel_rfl) ?_ _
  go_wp2
  refine bodyPost_ret (results_pk rfl _ rfl HFD.out.2.1) rfl ?_
  rw [HRR.out]
  exact ⟨kk, rfl, HFD.out.2.2, HFD.out.1⟩
end Go.Proofs.YtceniaklabiadaaGreat
