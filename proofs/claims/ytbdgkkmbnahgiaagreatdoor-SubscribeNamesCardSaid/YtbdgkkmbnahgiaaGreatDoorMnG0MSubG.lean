/- A part of what the laws stand on: MSubG, OrdG. -/
import Derived.Test.YtbdgkkmbnahgiaaGreatDoorMnG0SubF
import Derived.Below
namespace Go.Proofs.YtbdgkkmbnahgiaaGreatDoor
open Go.RowKit
attribute [local go_sem ↓] to_ldPk to_bxPk to_bdPk to_alPk to_stPk
attribute [local go_sem] run_bxPk run_bxPk_agg ld_fresh run_alPk run_bd0 run_bdK run_bdKI run_bdKIC run_bdKC run_bdKICP run_stPk_fresh pkC_0 pkC_1 pkC_2 pkC_3 pkC_4 pkC_5 pkC_6 pkC_7 pkC_8 pkC_9 pkC_10 pkC_11 pkC_12 pkC_13 pkC_14 pkC_15 pkC_16 pkC_17 pkC_18 pkC_19 pkC_20 pkC_21 pkC_22 pkC_23 pkC_24
theorem lsR_len (v k : Int) (t : ByteArray) : ∀ (n a : Nat) (e : Int) (fi : List Fi) (cd : List Int), (lsR v k t n a e fi cd).1.length ≤ fi.length + n ∧ (lsR v k t n a e fi cd).2.1.length ≤ cd.length + n ∧ ∀ f ∈ (lsR v k t n a e fi cd).1, f ∈ fi ∨ f.topic.size ≤ 65535
  | 0, a, e, fi, cd => ⟨Nat.le_refl _, Nat.le_refl _, fun f hf => .inl hf⟩
  | n + 1, a, e, fi, cd => by
    rw [lsR_succ]
    split
    · exact ⟨by show fi.length ≤ _; omega, by show cd.length ≤ _; omega, fun f hf => .inl hf⟩
    · rename_i hc
      have hlt : a < t.size := Nat.lt_of_not_le fun x => hc (.inr x)
      split
      · obtain ⟨h1, h2, h3⟩ := lsR_len v k t n (fiR v k t a).2.1 (fiR v k t a).2.2 (fi ++ [(fiR v k t a).1]) cd
        rw [List.length_append] at h1
        simp only [List.length_cons, List.length_nil] at h1
        refine ⟨by omega, by omega, fun f hf => ?_⟩
        rcases h3 f hf with h | h
        · rcases List.mem_append.1 h with h | h
          · exact .inl h
          · right
            obtain rfl := List.mem_singleton.1 h
            have := (rtC_le (t := t) (a := a) (e := 0) (Nat.le_of_lt hlt)).2
            unfold fiR
            split
            · exact this
            · exact this
        · exact .inr h
      · obtain ⟨h1, h2, h3⟩ := lsR_len v k t n (a + 1) 0 fi (cd ++ [((numS t a 0 1 : Nat) : Int)])
        rw [List.length_append] at h2
        simp only [List.length_cons, List.length_nil] at h2
        exact ⟨by omega, by omega, h3⟩
theorem prpC_ok (v k : Int) (t : ByteArray) (a : Nat) (e : Int) (ht : t.size ≤ 140737488351232) : (∀ p ∈ (prpC v k t a e).1, prGood p) ∧ (prpC v k t a e).1.length ≤ 1000 := by
  unfold prpC
  split
  · exact ⟨by simp, Nat.zero_le _⟩
  · refine ⟨readP_good (by rw [ByteArray.size_extract]; omega), ?_⟩
    by_cases h : (readP k (t.extract a t.size)).2.2 = 0
    · exact readP_len h
    · have := readP_bad h
      rw [this]
      exact Nat.zero_le _
theorem sbFull_ok {v k : Int} {s : ByteArray} (hs : s.size ≤ 140737488351000) : PkOk (sbFull v k s) := by
  obtain ⟨h1, h2, h3⟩ := lsR_len v k s (s.size + 1) (sbPr v k s).2.1 (sbPr v k s).2.2 [] []
  obtain ⟨p1, p2⟩ := prpC_ok v k s (takeS s 0 0 2).2.1 (takeS s 0 0 2).2.2 (by omega)
  refine ⟨(by intro q hq; cases hq), p1, fun f hf => ?_, ?_, ?_⟩
  · rcases h3 f hf with h | h
    · cases h
    · omega
  · exact ⟨Nat.zero_le _, Nat.zero_le _, Nat.zero_le _, Nat.zero_le _, Nat.zero_le _, Nat.zero_le _, Nat.zero_le _⟩
  · simp only [List.length_nil] at h1 h2
    exact ⟨Nat.zero_le _, by show (sbLs v k s).2.1.length ≤ _; unfold sbLs; omega, by show (sbLs v k s).1.length ≤ _; unfold sbLs; omega, by show (sbPr v k s).1.length ≤ _; unfold sbPr; omega⟩
theorem rd_both {x y : World} {B : Nat} {A : Option Addr} {l : List Pr} {t1 t2 : TypeId} {c1 c2 : Array Value} {g1 g2 : Nat} (h : Rd x B 4 A l.length (prs l)) (b1 : Bk x g1 t1 c1) (b2 : Bk x g2 t2 c2)
    (n1 : ∀ (i : Nat) (n : Int), c1[i]? ≠ some (Value.int IntKind.u32 n)) (n2 : ∀ (i : Nat) (n : Int), c2[i]? ≠ some (Value.int IntKind.u32 n)) (hm : Mods (two g1 g2) x y) (hB : B ≤ x.heap.size) : Rd y B 4 A l.length (prs l) := by
  rcases h.2 with h0 | ⟨b, o, rfl, hb, hc⟩
  · exact ⟨h.1, .inl h0⟩
  · by_cases hl : 0 < l.length
    · obtain ⟨b', o', he, _, _, q1, _⟩ := h.atP hl
      simp only [Option.some.injEq, Addr.mk.injEq] at he
      obtain ⟨rfl, rfl, -⟩ := he
      refine ⟨h.1, .inr ⟨b, o, rfl, hb, fun j u hu => (World.cell?_of_block (a := ⟨b, o + j, none⟩) (hm.block b (by omega) (fun e => ?_))).trans (hc j u hu)⟩⟩
      rcases e with rfl | rfl
      · rw [b1.cell] at q1; exact n1 _ _ q1
      · rw [b2.cell] at q1; exact n2 _ _ q1
    · have hz : l = [] := List.eq_nil_of_length_eq_zero (by omega)
      subst hz
      exact Rd.nil _ _ _ _
/-- What stands behind list. -/
structure SG (w wL : World) (g gp gc : Nat) (k i : Int) (l : List Pr) (A : Option Addr) (n : Nat) (fi : List Fi) (cd : List Int) (F C : Hd) (t : ByteArray) (a : Nat) (e : Int) (x : World) : Prop where
  kept : Below w.heap.size w x
  res : Bk x g PkT (pkC pk0 hs0)
  pk : Bk x gp PkT (pkC { ackR1 k i 0 l with filters := fi, codes := cd } { hs0 with props := ⟨A, n⟩, filters := F, codes := C })
  cur : Cur x gc t a e
  rd : Rd x x.heap.size 4 A l.length (prs l)
  cap : l.length ≤ n
  ofi : OwnF wL x fi F
  ocd : OwnC wL x cd C
  ne : g ≠ gp ∧ g ≠ gc ∧ gp ≠ gc
  base : w.heap.size ≤ g ∧ w.heap.size ≤ gp ∧ w.heap.size ≤ gc
  lt : g < wL.heap.size ∧ gp < wL.heap.size ∧ gc < wL.heap.size
section
variable {w wL x y : World} {g gp gc : Nat} {k i : Int} {l : List Pr} {A : Option Addr} {n : Nat} {fi : List Fi} {cd : List Int} {F C : Hd} {t : ByteArray} {a a' : Nat} {e e' : Int}
theorem OwnF.into (h : OwnF wL x fi F) : Rd x x.heap.size 5 F.a fi.length (fis fi) ∧ fi.length ≤ F.c := by
  obtain ⟨A, c, hv, h1, h2⟩ := own_rd h
  simp only [Value.slice.injEq] at hv
  obtain ⟨rfl, -, rfl⟩ := hv
  exact ⟨h2, h1⟩
theorem OwnC.into (h : OwnC wL x cd C) : Rd x x.heap.size 1 C.a cd.length (iv cd) ∧ cd.length ≤ C.c := by
  obtain ⟨A, c, hv, h1, h2⟩ := own_rd h
  simp only [Value.slice.injEq] at hv
  obtain ⟨rfl, -, rfl⟩ := hv
  exact ⟨h2, h1⟩
theorem SG.into (s : SG w wL g gp gc k i l A n fi cd F C t a e x) : PkIn x x.heap.size { ackR1 k i 0 l with filters := fi, codes := cd } { hs0 with props := ⟨A, n⟩, filters := F, codes := C } :=
  ⟨Rd.nil _ _ _ _, s.ocd.into.1, s.ofi.into.1, s.rd, Nat.zero_le _, s.ocd.into.2, s.ofi.into.2, s.cap⟩
theorem SG.below (s : SG w wL g gp gc k i l A n fi cd F C t a e x) (hb : Below x.heap.size x y) : SG w wL g gp gc k i l A n fi cd F C t a e y :=
  ⟨s.kept.trans (hb.mono s.kept.size), s.res.below hb s.res.lt, s.pk.below hb s.pk.lt, s.cur.below hb, (s.rd.below hb).wider hb.size, s.cap, own_below s.ofi hb, own_below s.ocd hb, s.ne, s.base, s.lt⟩
theorem SG.turn (s : SG w wL g gp gc k i l A n fi cd F C t a e x) (hc : Cur y gc t a' e') (hm : x.grownBy y (some gc)) : SG w wL g gp gc k i l A n fi cd F C t a' e' y :=
  ⟨below_mod s.kept hm s.kept.size s.base.2.2, s.res.mods (S := fun z => z = gc) (Mods.of_grown hm rfl) s.ne.2.1, s.pk.mods (S := fun z => z = gc) (Mods.of_grown hm rfl) s.ne.2.2, hc,
    (s.rd.other s.cur.1 (cur_no32 _ _ _) hm (Nat.le_refl _)).wider hm.size, s.cap, s.ofi.stay hm s.lt.2.2, s.ocd.stay hm s.lt.2.2, s.ne, s.base, s.lt⟩
theorem SG.none (s : SG w wL g gp gc k i l A n fi cd F C t a e x) : Below w.heap.size w (putPk x g pk0 hs0) ∧ Bk (putPk x g pk0 hs0) g PkT (pkC pk0 hs0) := ⟨below_put s.kept s.kept.size s.base.1 _ _, put_bk s.res _ _⟩
theorem SG.some (s : SG w wL g gp gc k i l A n fi cd F C t a e x) (P : Pk := { ackR1 k i 0 l with filters := fi, codes := cd }) (H : Hs := { hs0 with props := ⟨A, n⟩, filters := F, codes := C }) (hP : P = { ackR1 k i 0 l with filters := fi, codes := cd } := by rfl) (hH : H = { hs0 with props := ⟨A, n⟩, filters := F, codes := C } := by rfl) :
    Below w.heap.size w (putPk x g P H) ∧ Bk (putPk x g P H) g PkT (pkC P H) ∧ PkIn (putPk x g P H) (putPk x g P H).heap.size P H := by
  subst hP hH
  have hm := putPk_mods x g { ackR1 k i 0 l with filters := fi, codes := cd } { hs0 with props := ⟨A, n⟩, filters := F, codes := C }
  refine ⟨below_put s.kept s.kept.size s.base.1 _ _, put_bk s.res _ _, ?_⟩
  exact ⟨Rd.nil _ _ _ _, (s.ocd.stay hm s.lt.1).into.1, (s.ofi.stay hm s.lt.1).into.1, (s.rd.other s.res (pk_no32 _ _) hm (Nat.le_refl _)).wider hm.size, Nat.zero_le _, s.ocd.into.2, s.ofi.into.2, s.cap⟩
theorem SG.of_list {ai : Nat} {ei : Int} (s : RI w g gp gc k i 0 l A n t ai ei wL) (hL : LS wL gc gp t { ackR1 k i 0 l with filters := fi, codes := cd } { { hs0 with props := ⟨A, n⟩ } with filters := F, codes := C } a e x) (hF : OwnF wL x fi F) (hC : OwnC wL x cd C) : SG w wL g gp gc k i l A n fi cd F C t a e x :=
  ⟨hL.mods.below s.kept s.kept.size (fun q hq => by rcases hq with rfl | rfl; exact s.base.2.2; exact s.base.2.1), s.res.mods hL.mods (fun h => by rcases h with h | h; exact s.ne.2.1 h; exact s.ne.1 h), hL.pk, hL.cur,
    (rd_both s.rd s.cur.1 s.pk (cur_no32 _ _ _) (pk_no32 _ _) hL.mods (Nat.le_refl _)).wider hL.mods.size, s.cap, hF, hC, s.ne, s.base, s.res.lt, s.pk.lt, s.cur.lt⟩
end
theorem ri_props {w x : World} {g gp gc : Nat} {k i : Int} {l : List Pr} {A A' : Option Addr} {n n' : Nat} {t : ByteArray} {a : Nat} {e : Int} {l' : List Pr} (s : RI w g gp gc k i 0 l A n t a e x) (hr : Rd x x.heap.size 4 A' l'.length (prs l')) (hc : l'.length ≤ n') :
    RI w g gp gc k i 0 l' A' n' t a e (x.setCell ⟨gp, 24, none⟩ (.slice A' l'.length n')) := by
  have hm := mod_set x gp 24 (.slice A' l'.length n')
  exact ⟨below_mod s.kept hm s.kept.size s.base.2.1, s.res.other (by have := s.ne.1; simpa using this) _, s.pk.upd 24 _ rfl, ⟨s.cur.1.other (by have := s.ne.2.2; simpa using this.symm) _, s.cur.2⟩,
    (hr.other s.pk (pk_no32 _ _) hm (Nat.le_refl _)).wider hm.size, hc, s.ne, s.base⟩
/-- As PkOut; and a code's slice is one that the call has made. -/
def PkOutC (r : Pk × Int) (w : World) (e : Ending) (w' : World) : Prop := ∃ h, e = .returned (.tuple #[pkV r.1 h, .int .i64 r.2]) ∧ PkIn w' w'.heap.size r.1 h ∧ Below w.heap.size w w' ∧ (∀ b o, h.codes.a = some ⟨b, o, none⟩ → w.heap.size ≤ b)
theorem pkOutC_bad {r : Pk × Int} {x : Int} {w w' : World} (h : r = (pk0, x)) (hb : Below w.heap.size w w') : PkOutC r w (.returned (.tuple #[pkV pk0 hs0, .int .i64 x])) w' := by
  subst h
  exact ⟨hs0, rfl, pk0_in _ _, hb, fun b o e => by cases e⟩
theorem pkOutC_ok {r : Pk × Int} {p : Pk} {h : Hs} {w w' : World} (hr : r = (p, 0)) (hi : PkIn w' w'.heap.size p h) (hb : Below w.heap.size w w') (hf : ∀ b o, h.codes.a = some ⟨b, o, none⟩ → w.heap.size ≤ b) : PkOutC r w (.returned (.tuple #[pkV p h, .int .i64 0])) w' := by
  subst hr
  exact ⟨h, rfl, hi, hb, hf⟩
theorem SG.fresh {w wL x : World} {g gp gc : Nat} {k i : Int} {l : List Pr} {A : Option Addr} {n : Nat} {fi : List Fi} {cd : List Int} {F C : Hd} {t : ByteArray} {a : Nat} {e : Int} (s : SG w wL g gp gc k i l A n fi cd F C t a e x) : ∀ b o, C.a = Option.some ⟨b, o, Option.none⟩ → w.heap.size ≤ b := fun b o h => by
  have h1 := (own_block s.ocd b (by rw [h]; rfl)).1
  have h2 := s.base.1
  have h3 := s.lt.1
  omega
set_option maxHeartbeats 8000000 in
set_option maxRecDepth 10000 in
theorem sbReadC_any (v k : Int) (s : ByteArray) (w : World) (hs : s.size ≤ 1000000000000) :
    Calls Tryz.prog 13 #[.int .i64 v, .int .i64 k, .string s] w (PkOutC (sbR v k s) w) := by
  have HS := Lib.hid hs
  have HB0 := Lib.hid ((Below.refl w.heap.size w).alloc (Nat.le_refl _) (.cells (pkC pk0 hs0) PkT))
  have H60 := Lib.hid (Bk.fresh w PkT (pkC pk0 hs0))
  have hst := run_stPk H60.out
  go_enter Tryz.func13, Tryz.ntmps13
  go_wp2_with fail
  refine (sbKnown_any v k _).mono ?_
  rintro e w1 ⟨rfl, hw1⟩
  subst hw1
  cases hk : sbKnown v k
  · have HX : Hid (sbR v k s = (pk0, 2)) := Lib.hid (by unfold sbR; rw [if_pos hk])
    clear hk
    go_wp2
    refine bodyPost_ret (results_pk rfl _ rfl (put_bk H60.out _ _)) rfl ?_
    exact pkOutC_bad HX.out (below_put HB0.out HB0.out.size (Nat.le_refl _) _ _)
  have HK := Lib.hid hk
  have h45 : v = 4 ∨ v = 5 := (of_decide_eq_true (show decide ((v = 4 ∨ v = 5) ∧ 8 ≤ k ∧ k ≤ 11) = true from hk)).1
  have HV := Lib.hid h45
  clear hk hst
  go_wp2_with fail
  refine (newCur_any s _ (by have := HS.out; omega)).mono ?_
  rintro e w1 ⟨rfl, hc, hb⟩
  have hgc : (w.alloc (.cells (pkC pk0 hs0) PkT)).heap.size = w.heap.size + 1 := by simp
  have HB1 := Lib.hid (HB0.out.trans (hb.mono HB0.out.size)); have H61 := Lib.hid (H60.out.below hb H60.out.lt)
  rw [hgc] at hc ⊢
  have HC1 := Lib.hid hc
  clear hc hb hgc
  go_wp2_with fail
  refine (number_any (w.heap.size + 1) 0 s 0 2 _ HC1.out (by decide)).mono ?_
  rintro e w2 ⟨rfl, hc, hm⟩
  have HB2 := Lib.hid (below_mod HB1.out hm HB1.out.size (by omega)); have H62 := Lib.hid (H61.out.mods (S := fun z => z = w.heap.size + 1) (Mods.of_grown hm rfl) (by omega)); have HC2 := Lib.hid hc
  have HZ := Lib.hid HC2.out.lt
  have hid := num_two_lt s 0 0 (by omega)
  obtain ⟨m, hm2⟩ : ∃ m, numS s 0 0 2 = m := ⟨_, rfl⟩
  rw [hm2] at hid ⊢
  have HM2 := Lib.hid hm2
  obtain ⟨TK, hTK⟩ : ∃ T, takeS s 0 0 2 = T := ⟨_, rfl⟩
  have HPR0 : Hid (sbPr v k s = prpC v k s TK.2.1 TK.2.2) := Lib.hid (by unfold sbPr; rw [hTK])
  rw [hTK] at HC2
  clear hc hm hm2 hTK
  obtain ⟨T0, a0, e0⟩ := TK
  simp only at HPR0 HC2
  obtain ⟨id, hm1⟩ : ∃ id : Int, id = (m : Int) := ⟨_, rfl⟩
  have hw : IntKind.i64.wrap (m : Int) = id := by rw [hm1, IntKind.wrap_i64]; omega
  have HM : Hid (id = (m : Int)) := Lib.hid hm1
  clear hid hm1
  have I3 : Hid (RI w w.heap.size w2.heap.size (w.heap.size + 1) k id 0 [] none 0 s a0 e0 (w2.alloc (.cells (pkC (ackR1 k id 0 []) hs0) PkT))) := Lib.hid
    ⟨HB2.out.alloc HB2.out.size _, H62.out.alloc _, Bk.fresh _ _ _, ⟨HC2.out.1.alloc _, HC2.out.2⟩, Rd.nil _ _ _ _, Nat.le_refl _, ⟨by have := HZ.out; omega, by omega, by have := HZ.out; omega⟩, Nat.le_refl _, by have := HZ.out; omega, by omega⟩
  have HLE : Hid (a0 ≤ s.size) := Lib.hid HC2.out.2.1
  clear HB2 H62 HC2 HB1 H61 HC1
  rcases h45 with h4 | h5
  · have e5 : (v == 5) = false := beq_eq_false_iff_ne.2 (by omega)
    have HPR : Hid (sbPr v k s = ([], a0, e0)) := Lib.hid (by rw [HPR0.out]; unfold prpC; rw [if_pos (.inl h4)])
    have HLG : Hid (∀ q ∈ ([] : List Pr), prGood q) := Lib.hid (by simp)
    obtain ⟨l, hl⟩ : ∃ l : List Pr, l = [] := ⟨_, rfl⟩
    obtain ⟨a1, ha1⟩ : ∃ a1, a1 = a0 := ⟨_, rfl⟩
    obtain ⟨e1, he1⟩ : ∃ e1, e1 = e0 := ⟨_, rfl⟩
    obtain ⟨A, hA⟩ : ∃ A : Option Addr, A = none := ⟨_, rfl⟩
    obtain ⟨n, hn⟩ : ∃ n : Nat, n = 0 := ⟨_, rfl⟩
    rw [← hl, ← ha1, ← he1] at HPR
    rw [← hl] at HLG
    replace I3 : Hid (RI w w.heap.size w2.heap.size (w.heap.size + 1) k id 0 l A n s a1 e1 (w2.alloc (.cells (pkC (ackR1 k id 0 []) hs0) PkT))) := by subst hl ha1 he1 hA hn; exact I3
    clear h4 hl ha1 he1 hA hn
    have HPG := Lib.hid (show ∀ q ∈ l, prGood q from HLG.out)
    go_wp2_with fail
    refine (sbList_any v (by first | exact HV.out | exact .inr rfl) k HK.out (w.heap.size + 1) w2.heap.size a1 s e1 (ackR1 k id 0 l) { hs0 with props := ⟨A, n⟩ } _ rfl I3.out.cur I3.out.pk (by have := HZ.out; omega) HS.out).mono ?_
    rintro ee wX ⟨rfl, F, C, fi, cd, a2, e2, hls, hL, hF, hC⟩
    have G0 := Lib.hid (SG.of_list I3.out hL hF hC)
    have HLS : Hid (sbLs v k s = (fi, cd, a2, e2)) := Lib.hid (by unfold sbLs; rw [HPR.out]; exact hls)
    have HFU : Hid (sbFull v k s = sbPk k m l fi cd) := Lib.hid (by unfold sbFull; rw [HLS.out, HPR.out, HM2.out])
    have HOK : Hid (PkOk (sbPk k m l fi cd)) := Lib.hid (by rw [← HFU.out]; exact sbFull_ok (by have := HS.out; omega))
    have HE2 : Hid (sbR v k s = if e2 ≠ 0 then (pk0, e2) else if sbE v (sbPk k m l fi cd) ≠ 0 then (pk0, sbE v (sbPk k m l fi cd)) else (sbPk k m l fi cd, 0)) := Lib.hid (by
      unfold sbR; rw [if_neg (by rw [HK.out]; decide), HLS.out, HFU.out])
    clear hls hL hF hC
    rw [HM.out] at G0
    have hl : (ldPk (.pointer (some ⟨w2.heap.size, 0, none⟩))).run Tryz.prog wX = .ok (pkV (sbPk k m l fi cd) { hs0 with props := ⟨A, n⟩, filters := F, codes := C }) wX := ld_bk G0.out.pk
    have HGI : Hid (PkIn wX wX.heap.size (sbPk k m l fi cd) { hs0 with props := ⟨A, n⟩, filters := F, codes := C }) := Lib.hid G0.out.into
    obtain ⟨P, hP⟩ : ∃ P, sbPk k m l fi cd = P := ⟨_, rfl⟩
    rw [hP] at hl HGI HOK HE2
    have HPE := Lib.hid hP
    clear hP
    go_wp2_with fail
    refine (sbValid_any v P _ _ HGI.out HOK.out).mono ?_
    rintro ee wV ⟨rfl, hb⟩
    have G1 := Lib.hid (G0.out.below hb); clear hb hl HGI
    go_wp2_with fail
    refine (fail_any _ a2 s e2 (sbE v P) _ G1.out.cur).mono ?_
    rintro ee wF ⟨rfl, hc, hm⟩
    have G2 := Lib.hid (G1.out.turn hc hm); clear hc hm
    have HW : Hid (((if e2 = 0 then sbE v P else e2) = 0 ∧ sbR v k s = (P, 0)) ∨ ((if e2 = 0 then sbE v P else e2) ≠ 0 ∧ sbR v k s = (pk0, (if e2 = 0 then sbE v P else e2)))) := Lib.hid (by
      rw [HE2.out]
      by_cases h2 : e2 = 0
      · rw [if_pos h2, if_neg (fun x => x h2)]
        by_cases h3 : sbE v P = 0
        · rw [if_neg (fun x => x h3)]; exact .inl ⟨h3, rfl⟩
        · rw [if_pos h3]; exact .inr ⟨h3, rfl⟩
      · rw [if_neg h2, if_pos h2]; exact .inr ⟨h2, rfl⟩)
    generalize (if e2 = 0 then sbE v P else e2) = E at *
    go_wp2_with fail
    refine (err_any _ a2 s E _ G2.out.cur).mono ?_
    rintro ee wH ⟨rfl, hwh⟩
    subst hwh
    have hl := ld_bk G2.out.pk
    have hst := run_stPk G2.out.res
    rcases HW.out with ⟨h2, hr⟩ | ⟨h2, hr⟩
    · subst h2
      have HR := Lib.hid hr; clear hr
      go_wp2
      refine bodyPost_ret (results_pk rfl _ rfl G2.out.some.2.1) rfl ?_
      exact pkOutC_ok (HR.out.trans (by rw [← HPE.out]; rfl)) G2.out.some.2.2 G2.out.some.1 G2.out.fresh
    · have e0 : (E != 0) = true := bne_iff_ne.2 h2
      have HR := Lib.hid hr; clear hr h2
      go_wp2
      refine bodyPost_ret (results_pk rfl _ rfl G2.out.none.2) rfl ?_
      exact pkOutC_bad HR.out G2.out.none.1

  · subst h5
    go_wp2_with fail
    refine (err_any _ a0 s e0 _ I3.out.cur).mono ?_
    rintro ee wE ⟨rfl, hwe⟩
    subst hwe
    by_cases he : e0 = 0
    rotate_left
    · have e9 : (e0 == 0) = false := beq_eq_false_iff_ne.2 he
      have HPR : Hid (sbPr 5 k s = ([], a0, e0)) := Lib.hid (by rw [HPR0.out]; unfold prpC; rw [if_pos (.inr he)])
      have HLG : Hid (∀ q ∈ ([] : List Pr), prGood q) := Lib.hid (by simp)
      clear he
      obtain ⟨l, hl⟩ : ∃ l : List Pr, l = [] := ⟨_, rfl⟩
      obtain ⟨a1, ha1⟩ : ∃ a1, a1 = a0 := ⟨_, rfl⟩
      obtain ⟨e1, he1⟩ : ∃ e1, e1 = e0 := ⟨_, rfl⟩
      obtain ⟨A, hA⟩ : ∃ A : Option Addr, A = none := ⟨_, rfl⟩
      obtain ⟨n, hn⟩ : ∃ n : Nat, n = 0 := ⟨_, rfl⟩
      rw [← hl, ← ha1, ← he1] at HPR
      rw [← hl] at HLG
      replace I3 : Hid (RI w w.heap.size w2.heap.size (w.heap.size + 1) k id 0 l A n s a1 e1 (w2.alloc (.cells (pkC (ackR1 k id 0 []) hs0) PkT))) := by subst hl ha1 he1 hA hn; exact I3
      clear hl ha1 hA hn he1
      have HPG := Lib.hid (show ∀ q ∈ l, prGood q from HLG.out)
      go_wp2_with fail
      refine (sbList_any 5 (by first | exact HV.out | exact .inr rfl) k HK.out (w.heap.size + 1) w2.heap.size a1 s e1 (ackR1 k id 0 l) { hs0 with props := ⟨A, n⟩ } _ rfl I3.out.cur I3.out.pk (by have := HZ.out; omega) HS.out).mono ?_
      rintro ee wX ⟨rfl, F, C, fi, cd, a2, e2, hls, hL, hF, hC⟩
      have G0 := Lib.hid (SG.of_list I3.out hL hF hC)
      have HLS : Hid (sbLs 5 k s = (fi, cd, a2, e2)) := Lib.hid (by unfold sbLs; rw [HPR.out]; exact hls)
      have HFU : Hid (sbFull 5 k s = sbPk k m l fi cd) := Lib.hid (by unfold sbFull; rw [HLS.out, HPR.out, HM2.out])
      have HOK : Hid (PkOk (sbPk k m l fi cd)) := Lib.hid (by rw [← HFU.out]; exact sbFull_ok (by have := HS.out; omega))
      have HE2 : Hid (sbR 5 k s = if e2 ≠ 0 then (pk0, e2) else if sbE 5 (sbPk k m l fi cd) ≠ 0 then (pk0, sbE 5 (sbPk k m l fi cd)) else (sbPk k m l fi cd, 0)) := Lib.hid (by
        unfold sbR; rw [if_neg (by rw [HK.out]; decide), HLS.out, HFU.out])
      clear hls hL hF hC
      rw [HM.out] at G0
      have hl : (ldPk (.pointer (some ⟨w2.heap.size, 0, none⟩))).run Tryz.prog wX = .ok (pkV (sbPk k m l fi cd) { hs0 with props := ⟨A, n⟩, filters := F, codes := C }) wX := ld_bk G0.out.pk
      have HGI : Hid (PkIn wX wX.heap.size (sbPk k m l fi cd) { hs0 with props := ⟨A, n⟩, filters := F, codes := C }) := Lib.hid G0.out.into
      obtain ⟨P, hP⟩ : ∃ P, sbPk k m l fi cd = P := ⟨_, rfl⟩
      rw [hP] at hl HGI HOK HE2
      have HPE := Lib.hid hP
      clear hP
      go_wp2_with fail
      refine (sbValid_any 5 P _ _ HGI.out HOK.out).mono ?_
      rintro ee wV ⟨rfl, hb⟩
      have G1 := Lib.hid (G0.out.below hb); clear hb hl HGI
      go_wp2_with fail
      refine (fail_any _ a2 s e2 (sbE 5 P) _ G1.out.cur).mono ?_
      rintro ee wF ⟨rfl, hc, hm⟩
      have G2 := Lib.hid (G1.out.turn hc hm); clear hc hm
      have HW : Hid (((if e2 = 0 then sbE 5 P else e2) = 0 ∧ sbR 5 k s = (P, 0)) ∨ ((if e2 = 0 then sbE 5 P else e2) ≠ 0 ∧ sbR 5 k s = (pk0, (if e2 = 0 then sbE 5 P else e2)))) := Lib.hid (by
        rw [HE2.out]
        by_cases h2 : e2 = 0
        · rw [if_pos h2, if_neg (fun x => x h2)]
          by_cases h3 : sbE 5 P = 0
          · rw [if_neg (fun x => x h3)]; exact .inl ⟨h3, rfl⟩
          · rw [if_pos h3]; exact .inr ⟨h3, rfl⟩
        · rw [if_neg h2, if_pos h2]; exact .inr ⟨h2, rfl⟩)
      generalize (if e2 = 0 then sbE 5 P else e2) = E at *
      go_wp2_with fail
      refine (err_any _ a2 s E _ G2.out.cur).mono ?_
      rintro ee wH ⟨rfl, hwh⟩
      subst hwh
      have hl := ld_bk G2.out.pk
      have hst := run_stPk G2.out.res
      rcases HW.out with ⟨h2, hr⟩ | ⟨h2, hr⟩
      · subst h2
        have HR := Lib.hid hr; clear hr
        go_wp2
        refine bodyPost_ret (results_pk rfl _ rfl G2.out.some.2.1) rfl ?_
        exact pkOutC_ok (HR.out.trans (by rw [← HPE.out]; rfl)) G2.out.some.2.2 G2.out.some.1 G2.out.fresh
      · have e0 : (E != 0) = true := bne_iff_ne.2 h2
        have HR := Lib.hid hr; clear hr h2
        go_wp2
        refine bodyPost_ret (results_pk rfl _ rfl G2.out.none.2) rfl ?_
        exact pkOutC_bad HR.out G2.out.none.1

    · subst he
      have HPR1 : Hid (sbPr 5 k s = ((readP k (s.extract a0 s.size)).1, a0 + (readP k (s.extract a0 s.size)).2.1, (readP k (s.extract a0 s.size)).2.2)) := Lib.hid (by rw [HPR0.out]; unfold prpC; rw [if_neg (by omega)])
      have HRG := Lib.hid (readP_good (kind := k) (s := s.extract a0 s.size) (by rw [ByteArray.size_extract]; have := HS.out; omega))
      have HTK : Hid ((takeS s a0 (readP k (s.extract a0 s.size)).2.2 ((readP k (s.extract a0 s.size)).2.1 : Nat)).2 = (a0 + (readP k (s.extract a0 s.size)).2.1, (readP k (s.extract a0 s.size)).2.2)) := Lib.hid (by
        by_cases hx : (readP k (s.extract a0 s.size)).2.2 = 0
        · have := (readP_back (kind := k) (s := s.extract a0 s.size) (l := (readP k (s.extract a0 s.size)).1) (n := (readP k (s.extract a0 s.size)).2.1) (by rw [← hx])).2.2
          rw [ByteArray.size_extract] at this
          have hle := HLE.out
          rw [hx, take_yes (by omega)]
        · rw [takeS_bad hx, readP_bad hx]; rfl)
      go_wp2_with fail
      refine (rest_any _ a0 s 0 _ I3.out.cur).mono ?_
      rintro ee w3 ⟨rfl, hb⟩
      have I4 := Lib.hid (I3.out.below hb); clear hb
      go_wp2_with fail
      refine (readP_any k (s.extract a0 s.size) _ (by rw [ByteArray.size_extract]; have := HS.out; omega)).mono ?_
      rintro ee w4 ⟨A, n, rfl, hcap, hrd, hb⟩
      have I5 := Lib.hid (I4.out.below hb)
      have RD5 := Lib.hid hrd; have HCAP := Lib.hid hcap
      clear hb hrd hcap
      obtain ⟨R, hR⟩ : ∃ R, readP k (s.extract a0 s.size) = R := ⟨_, rfl⟩
      rw [hR] at HPR1 HRG HTK RD5 HCAP ⊢
      clear hR
      obtain ⟨l, z, x⟩ := R
      simp only at HPR1 HRG HTK RD5 HCAP ⊢
      go_wp2_with fail
      refine (fail_any _ a0 s 0 x _ I5.out.cur).mono ?_
      rintro ee w5 ⟨rfl, hc, hm⟩
      rw [if_pos rfl] at hc
      have RD6 := Lib.hid ((RD5.out.other I5.out.cur.1 (cur_no32 _ _ _) hm (Nat.le_refl _)).wider hm.size)
      have I6 := Lib.hid (I5.out.turn hc hm)
      clear hc hm
      go_wp2_with fail
      refine (take_any _ a0 s x (z : Int) _ I6.out.cur).mono ?_
      rintro ee w6 ⟨rfl, hc, hm⟩
      rw [HTK.out] at hc
      have RD7 := Lib.hid ((RD6.out.other I6.out.cur.1 (cur_no32 _ _ _) hm (Nat.le_refl _)).wider hm.size)
      have I7 := Lib.hid (I6.out.turn hc hm)
      clear hc hm
      have I8 := Lib.hid (ri_props I7.out RD7.out HCAP.out)
      have q24 := (I7.out.pk.cell 24).trans (pkC_24 _ _)
      have f24 := I7.out.pk.free 24
      have HPR : Hid (sbPr 5 k s = (l, a0 + z, x)) := HPR1
      have HLG : Hid (∀ q ∈ l, prGood q) := HRG
      obtain ⟨a1, ha1⟩ : ∃ a1, a0 + z = a1 := ⟨_, rfl⟩
      obtain ⟨e1, he1⟩ : ∃ e1, x = e1 := ⟨_, rfl⟩
      rw [ha1, he1] at HPR I8
      clear ha1 he1
      have HPG := Lib.hid (show ∀ q ∈ l, prGood q from HLG.out)
      go_wp2_with fail
      refine (sbList_any 5 (by first | exact HV.out | exact .inr rfl) k HK.out (w.heap.size + 1) w2.heap.size a1 s e1 (ackR1 k id 0 l) { hs0 with props := ⟨A, n⟩ } _ rfl I8.out.cur I8.out.pk (by have := HZ.out; omega) HS.out).mono ?_
      rintro ee wX ⟨rfl, F, C, fi, cd, a2, e2, hls, hL, hF, hC⟩
      have G0 := Lib.hid (SG.of_list I8.out hL hF hC)
      have HLS : Hid (sbLs 5 k s = (fi, cd, a2, e2)) := Lib.hid (by unfold sbLs; rw [HPR.out]; exact hls)
      have HFU : Hid (sbFull 5 k s = sbPk k m l fi cd) := Lib.hid (by unfold sbFull; rw [HLS.out, HPR.out, HM2.out])
      have HOK : Hid (PkOk (sbPk k m l fi cd)) := Lib.hid (by rw [← HFU.out]; exact sbFull_ok (by have := HS.out; omega))
      have HE2 : Hid (sbR 5 k s = if e2 ≠ 0 then (pk0, e2) else if sbE 5 (sbPk k m l fi cd) ≠ 0 then (pk0, sbE 5 (sbPk k m l fi cd)) else (sbPk k m l fi cd, 0)) := Lib.hid (by
        unfold sbR; rw [if_neg (by rw [HK.out]; decide), HLS.out, HFU.out])
      clear hls hL hF hC
      rw [HM.out] at G0
      have hl : (ldPk (.pointer (some ⟨w2.heap.size, 0, none⟩))).run Tryz.prog wX = .ok (pkV (sbPk k m l fi cd) { hs0 with props := ⟨A, n⟩, filters := F, codes := C }) wX := ld_bk G0.out.pk
      have HGI : Hid (PkIn wX wX.heap.size (sbPk k m l fi cd) { hs0 with props := ⟨A, n⟩, filters := F, codes := C }) := Lib.hid G0.out.into
      obtain ⟨P, hP⟩ : ∃ P, sbPk k m l fi cd = P := ⟨_, rfl⟩
      rw [hP] at hl HGI HOK HE2
      have HPE := Lib.hid hP
      clear hP
      go_wp2_with fail
      refine (sbValid_any 5 P _ _ HGI.out HOK.out).mono ?_
      rintro ee wV ⟨rfl, hb⟩
      have G1 := Lib.hid (G0.out.below hb); clear hb hl HGI
      go_wp2_with fail
      refine (fail_any _ a2 s e2 (sbE 5 P) _ G1.out.cur).mono ?_
      rintro ee wF ⟨rfl, hc, hm⟩
      have G2 := Lib.hid (G1.out.turn hc hm); clear hc hm
      have HW : Hid (((if e2 = 0 then sbE 5 P else e2) = 0 ∧ sbR 5 k s = (P, 0)) ∨ ((if e2 = 0 then sbE 5 P else e2) ≠ 0 ∧ sbR 5 k s = (pk0, (if e2 = 0 then sbE 5 P else e2)))) := Lib.hid (by
        rw [HE2.out]
        by_cases h2 : e2 = 0
        · rw [if_pos h2, if_neg (fun x => x h2)]
          by_cases h3 : sbE 5 P = 0
          · rw [if_neg (fun x => x h3)]; exact .inl ⟨h3, rfl⟩
          · rw [if_pos h3]; exact .inr ⟨h3, rfl⟩
        · rw [if_neg h2, if_pos h2]; exact .inr ⟨h2, rfl⟩)
      generalize (if e2 = 0 then sbE 5 P else e2) = E at *
      go_wp2_with fail
      refine (err_any _ a2 s E _ G2.out.cur).mono ?_
      rintro ee wH ⟨rfl, hwh⟩
      subst hwh
      have hl := ld_bk G2.out.pk
      have hst := run_stPk G2.out.res
      rcases HW.out with ⟨h2, hr⟩ | ⟨h2, hr⟩
      · subst h2
        have HR := Lib.hid hr; clear hr
        go_wp2
        refine bodyPost_ret (results_pk rfl _ rfl G2.out.some.2.1) rfl ?_
        exact pkOutC_ok (HR.out.trans (by rw [← HPE.out]; rfl)) G2.out.some.2.2 G2.out.some.1 G2.out.fresh
      · have e0 : (E != 0) = true := bne_iff_ne.2 h2
        have HR := Lib.hid hr; clear hr h2
        go_wp2
        refine bodyPost_ret (results_pk rfl _ rfl G2.out.none.2) rfl ?_
        exact pkOutC_bad HR.out G2.out.none.1

theorem sbRead_any (v k : Int) (s : ByteArray) (w : World) (hs : s.size ≤ 1000000000000) :
    Calls Tryz.prog 13 #[.int .i64 v, .int .i64 k, .string s] w (PkOut (sbR v k s) w) := by
  refine (sbReadC_any v k s w hs).mono ?_
  rintro e w' ⟨h, he, hi, hb, -⟩
  exact ⟨h, he, hi, hb⟩
end Go.Proofs.YtbdgkkmbnahgiaaGreatDoor

namespace Go.Proofs.YtbdgkkmbnahgiaaGreatDoor
open Go.RowKit
attribute [local go_sem ↓] to_ldPk to_bxPk to_bdPk to_alPk to_stPk
attribute [local go_sem] run_bxPk run_bxPk_agg ld_fresh run_alPk run_bd0 run_bdK run_bdKI run_bdKIC run_bdKC run_bdKICP run_stPk_fresh pkC_0 pkC_1 pkC_2 pkC_3 pkC_4 pkC_5 pkC_6 pkC_7 pkC_8 pkC_9 pkC_10 pkC_11 pkC_12 pkC_13 pkC_14 pkC_15 pkC_16 pkC_17 pkC_18 pkC_19 pkC_20 pkC_21 pkC_22 pkC_23 pkC_24
theorem St.pushB {w x : World} {l : List (Nat × Pk × Hs)} {g : Nat} {p : Pk} {h : Hs} (s : St w l x) (hg : g = x.heap.size) (ip : PkIn x x.heap.size p h) : St w (l ++ [(g, p, h)]) (x.alloc (.cells (pkC p h) PkT)) := by
  subst hg
  exact s.push ip
set_option maxHeartbeats 4000000 in
set_option maxRecDepth 10000 in
theorem sbAns_any (v : Int) (p q : Pk) (h k : Hs) (w : World) (ip : PkIn w w.heap.size p h) (iq : PkIn w w.heap.size q k) (ok : PkOk p) (okq : PkOk q) :
    Calls Tryz.prog 16 #[.int .i64 v, pkV p h, pkV q k] w fun e w' => e = .returned (.bool (sbAns v p q)) ∧ Below w.heap.size w w' := by
  have OK := Lib.hid ok
  have OKQ := Lib.hid okq
  have S00 := Lib.hid ((St.start w).push ip)
  have IQ : PkIn (w.alloc (.cells (pkC p h) PkT)) (w.alloc (.cells (pkC p h) PkT)).heap.size q k := (iq.below ((Below.refl _ _).alloc (Nat.le_refl _) _)).wider (by simp)
  have S0 := Lib.hid (S00.out.pushB (g := w.heap.size + 1) (by simp) IQ)
  have HE : Hid (sbAns v p q = (sbAsk p.kind && (decide (q.kind = p.kind + 1) && (decide (q.id = p.id) && (decide (sbE v p = 0) && (decide (sbE v q = 0) && (sbSil v q.kind || decide (q.codes.length = p.filters.length)))))))) := Lib.hid rfl
  have k0 := (S0.out.cell 0 rfl 0).trans (pkC_0 _ _)
  clear ip ok iq okq IQ S00
  go_enter Tryz.func16, Tryz.ntmps16
  go_wp2_with fail
  refine (sbAsk_any p.kind _).mono ?_
  rintro e w1 ⟨rfl, hw1⟩
  subst hw1
  cases hk : sbAsk p.kind
  · have HX : Hid (sbAns v p q = false) := Lib.hid (by rw [HE.out, hk]; rfl)
    clear hk
    go_wp2
    go_ret
    exact ⟨by rw [HX.out]; rfl, S0.out.kept⟩
  have hk8 : p.kind = 8 ∨ p.kind = 10 := of_decide_eq_true hk
  have HE1 : Hid (sbAns v p q = (decide (q.kind = p.kind + 1) && (decide (q.id = p.id) && (decide (sbE v p = 0) && (decide (sbE v q = 0) && (sbSil v q.kind || decide (q.codes.length = p.filters.length))))))) := Lib.hid (by rw [HE.out, hk, Bool.true_and])
  clear hk HE
  have k4 := (S0.out.cell 0 rfl 4).trans (pkC_4 _ _)
  have j0 := (S0.out.cell 1 rfl 0).trans (pkC_0 _ _)
  have j4 := (S0.out.cell 1 rfl 4).trans (pkC_4 _ _)
  by_cases hq : q.kind = p.kind + 1
  rotate_left
  · have HX : Hid (sbAns v p q = false) := Lib.hid (by rw [HE1.out, decide_eq_false hq]; rfl)
    have e1 : (q.kind != p.kind + 1) = true := bne_iff_ne.2 hq
    clear hq
    have hP0 : 8 ≤ p.kind := by omega
    have hP1 : p.kind ≤ 10 := by omega
    clear hk8
    go_wp2
    go_ret
    exact ⟨by rw [HX.out]; rfl, S0.out.kept⟩
  have HE2 : Hid (sbAns v p q = (decide (q.id = p.id) && (decide (sbE v p = 0) && (decide (sbE v q = 0) && (sbSil v q.kind || decide (q.codes.length = p.filters.length)))))) := Lib.hid (by rw [HE1.out, decide_eq_true hq, Bool.true_and])
  have e1 : (q.kind != p.kind + 1) = false := by rw [hq]; exact bne_self_eq_false _
  have hP0 : 8 ≤ p.kind := by omega
  have hP1 : p.kind ≤ 10 := by omega
  clear hq hk8 HE1
  by_cases hi : q.id = p.id
  rotate_left
  · have HX : Hid (sbAns v p q = false) := Lib.hid (by rw [HE2.out, decide_eq_false hi]; rfl)
    have e2 : (q.id != p.id) = true := bne_iff_ne.2 hi
    clear hi
    go_wp2
    go_ret
    exact ⟨by rw [HX.out]; rfl, S0.out.kept⟩
  have HE3 : Hid (sbAns v p q = (decide (sbE v p = 0) && (decide (sbE v q = 0) && (sbSil v q.kind || decide (q.codes.length = p.filters.length))))) := Lib.hid (by rw [HE2.out, decide_eq_true hi, Bool.true_and])
  have e2 : (q.id != p.id) = false := by rw [hi]; exact bne_self_eq_false _
  clear hi HE2
  have l0 := S0.out.ld 0 rfl
  go_wp2_with fail
  refine (sbValid_any v p h _ (S0.out.into 0 rfl) OK.out).mono ?_
  rintro e w1 ⟨rfl, hb⟩
  have S1 := Lib.hid (S0.out.below hb); clear hb l0 k0 k4 j0 j4
  obtain ⟨x, hx⟩ : ∃ x, sbE v p = x := ⟨_, rfl⟩
  rw [hx] at HE3 ⊢
  clear hx
  by_cases hx : x = 0
  rotate_left
  · have HX : Hid (sbAns v p q = false) := Lib.hid (by rw [HE3.out, decide_eq_false hx]; rfl)
    have e0 : (x != 0) = true := bne_iff_ne.2 hx
    clear hx
    go_wp2
    go_ret
    exact ⟨by rw [HX.out]; rfl, S1.out.kept⟩
  have HE4 : Hid (sbAns v p q = (decide (sbE v q = 0) && (sbSil v q.kind || decide (q.codes.length = p.filters.length)))) := Lib.hid (by rw [HE3.out, decide_eq_true hx, Bool.true_and])
  have e0 : (x != 0) = false := by rw [hx]; rfl
  clear hx HE3
  have l1 := S1.out.ld 1 rfl
  go_wp2_with fail
  refine (sbValid_any v q k _ (S1.out.into 1 rfl) OKQ.out).mono ?_
  rintro e w2 ⟨rfl, hb⟩
  have S2 := Lib.hid (S1.out.below hb); clear hb l1
  have j0 := (S2.out.cell 1 rfl 0).trans (pkC_0 _ _)
  obtain ⟨y, hy⟩ : ∃ y, sbE v q = y := ⟨_, rfl⟩
  rw [hy] at HE4 ⊢
  clear hy
  by_cases hy : y = 0
  rotate_left
  · have HX : Hid (sbAns v p q = false) := Lib.hid (by rw [HE4.out, decide_eq_false hy]; rfl)
    have e3 : (y != 0) = true := bne_iff_ne.2 hy
    clear hy
    go_wp2
    go_ret
    exact ⟨by rw [HX.out]; rfl, S2.out.kept⟩
  have HE5 : Hid (sbAns v p q = (sbSil v q.kind || decide (q.codes.length = p.filters.length))) := Lib.hid (by rw [HE4.out, decide_eq_true hy, Bool.true_and])
  have e3 : (y != 0) = false := by rw [hy]; rfl
  clear hy HE4
  go_wp2_with fail
  refine (sbSil_any v q.kind _).mono ?_
  rintro e w3 ⟨rfl, hw3⟩
  subst hw3
  obtain ⟨n, hn⟩ : ∃ n, q.codes.length = n := ⟨_, rfl⟩
  obtain ⟨m, hm⟩ : ∃ m, p.filters.length = m := ⟨_, rfl⟩
  have k22 := S2.out.cell 1 rfl 22
  have k23 := S2.out.cell 0 rfl 23
  rw [pkC_22, hn] at k22
  rw [pkC_23, hm] at k23
  rw [hn, hm] at HE5
  clear hn hm
  cases hs : sbSil v q.kind
  · have HX : Hid (sbAns v p q = decide ((n : Int) = (m : Int))) := Lib.hid (by
      rw [HE5.out, hs, Bool.false_or]
      by_cases e : n = m
      · rw [decide_eq_true e, decide_eq_true (by rw [e])]
      · rw [decide_eq_false e, decide_eq_false (by omega)])
    clear hs
    by_cases hnm : (n : Int) = (m : Int)
    · have e4 : ((n : Int) == (m : Int)) = true := beq_iff_eq.2 hnm
      rw [decide_eq_true hnm] at HX
      clear hnm
      go_wp2
      go_ret
      exact ⟨by rw [HX.out]; rfl, S2.out.kept⟩
    · have e4 : ((n : Int) == (m : Int)) = false := beq_eq_false_iff_ne.2 hnm
      rw [decide_eq_false hnm] at HX
      clear hnm
      go_wp2
      go_ret
      exact ⟨by rw [HX.out]; rfl, S2.out.kept⟩
  · have HX : Hid (sbAns v p q = true) := Lib.hid (by rw [HE5.out, hs]; rfl)
    clear hs
    go_wp2
    go_ret
    exact ⟨by rw [HX.out]; rfl, S2.out.kept⟩
end Go.Proofs.YtbdgkkmbnahgiaaGreatDoor

namespace Go.Proofs.YtbdgkkmbnahgiaaGreatDoor
open Go.RowKit
attribute [local go_sem ↓] to_ldPk to_bxPk to_bdPk to_alPk to_stPk
attribute [local go_sem] run_bxPk run_bxPk_agg ld_fresh run_alPk run_bd0 run_bdK run_bdKI run_bdKIC run_bdKC run_bdKICP run_stPk_fresh pkC_0 pkC_1 pkC_2 pkC_3 pkC_4 pkC_5 pkC_6 pkC_7 pkC_8 pkC_9 pkC_10 pkC_11 pkC_12 pkC_13 pkC_14 pkC_15 pkC_16 pkC_17 pkC_18 pkC_19 pkC_20 pkC_21 pkC_22 pkC_23 pkC_24
/-- A packet with one filter. -/
def askF (i : Int) (f : Fi) : Pk := { pk0 with kind := 8, id := i, filters := [f] }
def askH (A : Option Addr) : Hs := { hs0 with filters := ⟨A, 1⟩ }
theorem run_bdKIF (i : Int) (f : Fi) (A : Option Addr) (w : World) : (bdPk #[(0, .int .i64 8), (4, .int .i64 i), (19, .slice A 1 1)]).run Tryz.prog w = .ok (pkV (askF i f) (askH A)) w := by kernel_rfl
theorem askF_in {w : World} {B : Nat} {A : Option Addr} {f : Fi} (i : Int) (h : Rd w B 5 A 1 (fiC f)) : PkIn w B (askF i f) (askH A) := by
  refine ⟨Rd.nil _ _ _ _, Rd.nil _ _ _ _, ?_, Rd.nil _ _ _ _, Nat.le_refl _, Nat.le_refl _, Nat.le_refl _, Nat.le_refl _⟩
  show Rd w B 5 A 1 (fis [f])
  rw [show fis [f] = fiC f from List.append_nil _]
  exact h
theorem askF_ok (i : Int) {f : Fi} (h : f.topic.size ≤ 140737488351232) : PkOk (askF i f) := by
  refine ⟨?_, ?_, ?_, ?_, ?_⟩
  · intro q hq; cases hq
  · intro q hq; cases hq
  · intro q hq
    obtain rfl : q = f := by simpa [askF] using hq
    exact h
  · exact ⟨Nat.zero_le _, Nat.zero_le _, Nat.zero_le _, Nat.zero_le _, Nat.zero_le _, Nat.zero_le _, Nat.zero_le _⟩
  · exact ⟨Nat.zero_le _, Nat.zero_le _, show 1 ≤ 140737488351232 by decide, Nat.zero_le _⟩
def fiA : Fi := ⟨⟨#[97, 47, 35]⟩, 2, false, false, 0⟩
theorem example_sub : sbB 4 (askF 1 fiA) = (⟨#[0, 1, 0, 3, 97, 47, 35, 2]⟩, 0) := by decide +kernel
theorem askF_put (w : World) (i : Int) (f : Fi) : ∃ W, W = (w.alloc (.cells (pkC pk0 hs0) PkT)).alloc (.cells (fiCells f) 32) ∧
    (stPk (.pointer (some ⟨w.heap.size, 0, none⟩)) (pkV (askF i f) (askH (some ⟨w.heap.size + 1, 0, none⟩)))).run Tryz.prog W = .ok () (putPk W w.heap.size (askF i f) (askH (some ⟨w.heap.size + 1, 0, none⟩))) ∧
    Bk (putPk W w.heap.size (askF i f) (askH (some ⟨w.heap.size + 1, 0, none⟩))) w.heap.size PkT (pkC (askF i f) (askH (some ⟨w.heap.size + 1, 0, none⟩))) ∧
    PkIn (putPk W w.heap.size (askF i f) (askH (some ⟨w.heap.size + 1, 0, none⟩))) (putPk W w.heap.size (askF i f) (askH (some ⟨w.heap.size + 1, 0, none⟩))).heap.size (askF i f) (askH (some ⟨w.heap.size + 1, 0, none⟩)) ∧
    Below w.heap.size w (putPk W w.heap.size (askF i f) (askH (some ⟨w.heap.size + 1, 0, none⟩))) := by
  refine ⟨_, rfl, ?_⟩
  have b0 := Bk.fresh w PkT (pkC pk0 hs0)
  have b1 := Below.refl w.heap.size w
  have b2 := b1.alloc (Nat.le_refl _) (.cells (pkC pk0 hs0) PkT)
  have bk := b0.below ((Below.refl (w.alloc (.cells (pkC pk0 hs0) PkT)).heap.size (w.alloc (.cells (pkC pk0 hs0) PkT))).alloc (Nat.le_refl _) (.cells (fiCells f) 32)) b0.lt
  have hr := rd_fi1 (w.alloc (.cells (pkC pk0 hs0) PkT)) f
  have b3 := b2.alloc b2.size (.cells (fiCells f) 32)
  have e : (w.alloc (.cells (pkC pk0 hs0) PkT)).heap.size = w.heap.size + 1 := by simp
  rw [e] at hr
  refine ⟨run_stPk bk _ _, put_bk bk _ _, askF_in i ?_, below_put b3 b3.size (Nat.le_refl _) _ _⟩
  have hr2 := hr.wider (B' := ((w.alloc (.cells (pkC pk0 hs0) PkT)).alloc (.cells (fiCells f) 32)).heap.size) (by simp)
  refine (hr2.grown (putPk_mods _ w.heap.size _ _) (Nat.le_refl _) fun b o hA hx hbg => ?_).wider (putPk_mods _ _ _ _).size
  cases hA
  omega
set_option maxHeartbeats 1000000 in
set_option maxRecDepth 10000 in
theorem one11_any (w : World) : Calls Tryz.prog 11 #[] w fun e w' => ∃ K, e = .returned (pkV (askF 1 fiA) K) ∧ PkIn w' w'.heap.size (askF 1 fiA) K ∧ Below w.heap.size w w' := by
  have hf := run_fi
  have hb := fun A w => run_bdKIF 1 fiA A w
  obtain ⟨W, hW, hst, hbk, hin, hbel⟩ := askF_put w 1 fiA
  have HW := Lib.hid hW
  have HBK := Lib.hid hbk
  have HIN := Lib.hid hin
  have HBL := Lib.hid hbel
  rw [HW.out, show fiCells fiA = #[.string ⟨#[97, 47, 35]⟩, .int .i64 2, .bool false, .bool false, .int .i64 0] from rfl] at hst
  clear hW hbk hin hbel
  go_enter Tryz.func11, Tryz.ntmps11
  go_wp2
  have e2 := HW.out
  rw [show fiCells fiA = #[.string ⟨#[97, 47, 35]⟩, .int .i64 2, .bool false, .bool false, .int .i64 0] from rfl] at e2
  rw [← e2]
  refine bodyPost_ret (results_pk1 rfl _ rfl HBK.out) rfl ?_
  exact ⟨_, rfl, HIN.out, HBL.out⟩
theorem sb_small : (sbS 4 (askF 1 fiA)).length ≤ 140737488351232 := by decide +kernel
set_option maxHeartbeats 1000000 in
set_option maxRecDepth 10000 in
theorem lives11_any (w : World) :
    Calls Tryz.prog 10 #[] w fun e w' => e = .returned (.bool true) ∧ Below w.heap.size w w' := by
  go_enter Tryz.func10, Tryz.ntmps10
  go_wp2_with fail
  refine (one11_any _).mono ?_
  rintro e w1 ⟨K, rfl, hin, hb⟩
  have HB := Lib.hid hb; clear hb
  go_wp2_with fail
  refine (sbBody_any 4 (askF 1 fiA) K _ hin (askF_ok 1 (show 3 ≤ 140737488351232 by decide)) sb_small).mono ?_
  rintro e w2 ⟨rfl, hb⟩
  have HB2 := Lib.hid (HB.out.trans (hb.mono HB.out.size)); clear hb
  rw [example_sub]
  go_wp2
  go_ret
  exact ⟨rfl, HB2.out⟩
end Go.Proofs.YtbdgkkmbnahgiaaGreatDoor

namespace Go.Proofs.YtbdgkkmbnahgiaaGreatDoor
open Go Go.RowKit

/-- What an operation yields: one value, or a value of which a relation is known. -/
inductive Kd where
  | fix (v : Value)
  | rel (R : Value → World → Prop)
def Kd.val : Kd → Value → Value
  | .fix v, _ => v
  | .rel _, u => u
def Kd.fits : Kd → Value → World → Prop
  | .fix v, u, _ => u = v
  | .rel R, u, w => R u w
def Kd.holds (k : Kd) (u : Value) (w : World) : Prop := k.fits (k.val u) w
def Kd.stable (k : Kd) : Prop := ∀ u x y, k.fits u x → Below x.heap.size x y → k.fits u y
theorem Kd.val_of {k : Kd} {u : Value} {w : World} (h : k.fits u w) : k.val u = u := by
  cases k with
  | fix v => exact h.symm
  | rel R => rfl
theorem stable_fix (v : Value) : (Kd.fix v).stable := fun _ _ _ h _ => h
/-- What an operation's run gives. -/
def givesG (P : Program) (Post : Value → World → Prop) : Result Next → Prop
  | .ok (.value v) w' => Post v w'
  | .ok .skip w' => Post undef w'
  | .ok (.enter f args) w' => Calls P f args w' fun e w'' => ∃ v, e = .returned v ∧ Post v w''
  | _ => False
def waitsB (o : Oper) (j : Nat) : Bool := o.after.any fun e => Region.binds .any e && e.on == j
/-- Two operations: each slot is written once, and looked at by those alone that wait for who writes it. -/
def pairB (ops : Array Oper) (i : Nat) (o oj : Oper) : Bool :=
  (match o.dst with | some d => oj.dst != some d && (!(oj.looksAt ops).contains d || waitsB oj i) | none => true) &&
  (match oj.dst with | some d => !(o.looksAt ops).contains d | none => true)
def chkG (ops : Array Oper) : Nat → List Oper → Bool
  | _, [] => true
  | i, o :: l => (o.after.all fun e => !Region.binds .any e || decide (e.on < i)) && ((match o.dst with | some d => !(o.looksAt ops).contains d | none => true) && ((l.all fun oj => pairB ops i o oj) && chkG ops (i + 1) l))

section
variable {P : Program} {ops : Array Oper} {Q : Exit → Act → World → Prop}

structure ChkG (ops : Array Oper) : Prop where
  up : ∀ (i : Nat) (o : Oper), ops[i]? = some o → ∀ e ∈ o.after, Region.binds .any e = true → e.on < i
  one : ∀ (i j : Nat) (o oj : Oper) (d : Tmp), ops[i]? = some o → ops[j]? = some oj → o.dst = some d → oj.dst = some d → i = j
  look : ∀ (i j : Nat) (o oj : Oper) (d : Tmp), ops[i]? = some o → ops[j]? = some oj → oj.dst = some d → d ∈ o.looksAt ops → waitsB o j = true
theorem chk_pair {i : Nat} : ∀ {l : List Oper} {k : Nat}, chkG ops k l = true → ∀ a b o oj, a < b → l[a]? = some o → l[b]? = some oj → pairB ops (k + a) o oj = true
  | [], _, _, a, _, _, _, _, h, _ => by simp at h
  | x :: l, k, hB, a, b, o, oj, hab, ha, hb => by
    simp only [chkG, Bool.and_eq_true] at hB
    obtain ⟨-, -, h1, h2⟩ := hB
    obtain ⟨b, rfl⟩ : ∃ c, b = c + 1 := ⟨b - 1, by omega⟩
    rw [List.getElem?_cons_succ] at hb
    cases a with
    | zero =>
      rw [List.getElem?_cons_zero] at ha
      cases ha
      exact List.all_eq_true.1 h1 oj (List.mem_of_getElem? hb)
    | succ a =>
      rw [List.getElem?_cons_succ] at ha
      have := chk_pair (i := i) h2 a b o oj (by omega) ha hb
      rwa [Nat.add_assoc, Nat.add_comm 1 a] at this
theorem chk_self : ∀ {l : List Oper} {k : Nat}, chkG ops k l = true → ∀ a o, l[a]? = some o → (∀ e ∈ o.after, Region.binds .any e = true → e.on < k + a) ∧ (∀ d, o.dst = some d → d ∉ o.looksAt ops)
  | [], _, _, a, _, h => by simp at h
  | x :: l, k, hB, a, o, ha => by
    simp only [chkG, Bool.and_eq_true] at hB
    obtain ⟨h1, h2, h3, h4⟩ := hB
    cases a with
    | zero =>
      rw [List.getElem?_cons_zero] at ha
      cases ha
      refine ⟨fun e he hb => ?_, fun d hd hm => ?_⟩
      · have := Array.all_eq_true_iff_forall_mem.1 h1 e he
        rw [hb] at this
        simpa using this
      · rw [hd] at h2
        simp only [Bool.not_eq_true', List.contains_eq_mem, decide_eq_false_iff_not] at h2
        exact h2 hm
    | succ a =>
      rw [List.getElem?_cons_succ] at ha
      have := chk_self h4 a o ha
      rwa [Nat.add_assoc, Nat.add_comm 1 a] at this
theorem chk_of (h : chkG ops 0 ops.toList = true) : ChkG ops := by
  have hl : ∀ i, ops.toList[i]? = ops[i]? := fun i => Array.getElem?_toList
  refine ⟨fun i o ho e he hb => ?_, fun i j o oj d ho hoj hd hd' => ?_, fun i j o oj d ho hoj hd hm => ?_⟩
  · have := (chk_self h i o (by rw [hl]; exact ho)).1 e he hb
    omega
  · rcases Nat.lt_trichotomy i j with hij | hij | hij
    · have := chk_pair (i := 0) h i j o oj hij (by rw [hl]; exact ho) (by rw [hl]; exact hoj)
      simp [pairB, hd, hd'] at this
    · exact hij
    · have := chk_pair (i := 0) h j i oj o hij (by rw [hl]; exact hoj) (by rw [hl]; exact ho)
      simp [pairB, hd, hd'] at this
  · rcases Nat.lt_trichotomy i j with hij | hij | hij
    · have := chk_pair (i := 0) h i j o oj hij (by rw [hl]; exact ho) (by rw [hl]; exact hoj)
      simp only [pairB, hd, Bool.and_eq_true, Bool.not_eq_true', List.contains_eq_mem, decide_eq_false_iff_not] at this
      exact absurd hm this.2
    · subst hij
      obtain rfl : o = oj := Option.some.inj (ho.symm.trans hoj)
      exact absurd hm ((chk_self h i o (by rw [hl]; exact ho)).2 d hd)
    · have := chk_pair (i := 0) h j i oj o hij (by rw [hl]; exact hoj) (by rw [hl]; exact ho)
      simp only [pairB, hd, Bool.and_eq_true, Bool.or_eq_true, Bool.not_eq_true', List.contains_eq_mem, decide_eq_false_iff_not, Nat.zero_add] at this
      exact this.1.2.resolve_left (fun x => x hm)
/-- The act in which just the operations of L have come up. -/
structure ActIs (ops : Array Oper) (a0 : Act) (f : Nat → Value) (L : Nat → Prop) (a : Act) : Prop where
  size : a.tmps.size = a0.tmps.size
  defs : a.defers = a0.defers
  got : ∀ (j : Nat) (o : Oper) (d : Tmp), ops[j]? = some o → o.dst = some d → L j → a.tmps[d]? = if d < a0.tmps.size then some (f j) else none
  old : ∀ d : Tmp, (∀ (j : Nat) (o : Oper), ops[j]? = some o → o.dst = some d → ¬ L j) → a.tmps[d]? = a0.tmps[d]?
theorem ActIs.eq {a0 a b : Act} {f : Nat → Value} {L : Nat → Prop} (ha : ActIs ops a0 f L a) (hb : ActIs ops a0 f L b) : a = b := by
  obtain ⟨ta, da⟩ := a
  obtain ⟨tb, db⟩ := b
  obtain rfl : da = db := ha.defs.trans hb.defs.symm
  congr 1
  apply Array.ext_getElem?
  intro d
  by_cases h : ∃ j : Nat, ∃ o : Oper, ops[j]? = some o ∧ o.dst = some d ∧ L j
  · obtain ⟨j, o, h1, h2, h3⟩ := h
    exact (ha.got j o d h1 h2 h3).trans (hb.got j o d h1 h2 h3).symm
  · have h' : ∀ j (o : Oper), ops[j]? = some o → o.dst = some d → ¬ L j := fun j o h1 h2 h3 => h ⟨j, o, h1, h2, h3⟩
    exact (ha.old d h').trans (hb.old d h').symm
theorem ActIs.congr {a0 a : Act} {f g : Nat → Value} {L L' : Nat → Prop} (ha : ActIs ops a0 f L a) (hL : ∀ j, L j ↔ L' j) (hf : ∀ j, L j → f j = g j) : ActIs ops a0 g L' a :=
  ⟨ha.size, ha.defs, fun j o d h1 h2 h3 => by rw [ha.got j o d h1 h2 ((hL j).2 h3), hf j ((hL j).2 h3)], fun d h => ha.old d fun j o h1 h2 h3 => h j o h1 h2 ((hL j).1 h3)⟩
theorem ActIs.put {a0 a : Act} {f : Nat → Value} {L : Nat → Prop} (hc : ChkG ops) (ha : ActIs ops a0 f L a) {i : Nat} {o : Oper} (ho : ops[i]? = some o) (hi : ¬ L i) : ActIs ops a0 f (fun j => L j ∨ j = i) (a.put o.dst (f i)) := by
  unfold Act.put
  cases hd : o.dst with
  | none =>
    refine ⟨ha.size, ha.defs, fun j oj d h1 h2 h3 => ?_, fun d h => ha.old d fun j oj h1 h2 h3 => h j oj h1 h2 (.inl h3)⟩
    rcases h3 with h3 | rfl
    · exact ha.got j oj d h1 h2 h3
    · rw [ho] at h1
      cases h1
      rw [hd] at h2
      cases h2
  | some e =>
    refine ⟨by simp [ha.size], ha.defs, fun j oj d h1 h2 h3 => ?_, fun d h => ?_⟩
    · show (a.tmps.setIfInBounds e (f i))[d]? = _
      by_cases hde : e = d
      · subst hde
        obtain rfl := hc.one i j o oj e ho h1 hd h2
        rw [← ha.size]
        simp [Array.getElem?_setIfInBounds]
      · rw [Array.getElem?_setIfInBounds_ne hde]
        rcases h3 with h3 | rfl
        · exact ha.got j oj d h1 h2 h3
        · rw [ho] at h1
          cases h1
          rw [hd] at h2
          exact absurd (Option.some.inj h2) hde
    · show (a.tmps.setIfInBounds e (f i))[d]? = _
      have hde : e ≠ d := fun x => h i o ho (by rw [hd, x]) (.inr rfl)
      rw [Array.getElem?_setIfInBounds_ne hde]
      exact ha.old d fun j oj h1 h2 h3 => h j oj h1 h2 (.inl h3)
theorem ActIs.slot {a0 a b : Act} {f : Nat → Value} {L L' : Nat → Prop} (hc : ChkG ops) (ha : ActIs ops a0 f L a) (hb : ActIs ops a0 f L' b) {i : Nat} {o : Oper} (ho : ops[i]? = some o)
    (h1 : ∀ j, waitsB o j = true → L j ∧ L' j) {t : Tmp} (ht : t ∈ o.looksAt ops) : a.tmps[t]? = b.tmps[t]? := by
  by_cases h : ∃ j : Nat, ∃ oj : Oper, ops[j]? = some oj ∧ oj.dst = some t
  · obtain ⟨j, oj, h2, h3⟩ := h
    have h4 := h1 j (hc.look i j o oj t ho h2 h3 ht)
    exact (ha.got j oj t h2 h3 h4.1).trans (hb.got j oj t h2 h3 h4.2).symm
  · exact (ha.old t fun j oj h2 h3 _ => h ⟨j, oj, h2, h3⟩).trans (hb.old t fun j oj h2 h3 _ => h ⟨j, oj, h2, h3⟩).symm
theorem ActIs.exec {a0 a b : Act} {f : Nat → Value} {L L' : Nat → Prop} (hc : ChkG ops) (ha : ActIs ops a0 f L a) (hb : ActIs ops a0 f L' b) {i : Nat} {o : Oper} (ho : ops[i]? = some o) (hs : ∀ cs b, o.op ≠ .select cs b)
    (h1 : ∀ j, waitsB o j = true → L j ∧ L' j) : execOp a.eval o = execOp b.eval o ∧ Region.wanted o (yielded ops a.tmps) = Region.wanted o (yielded ops b.tmps) := by
  refine ⟨execOp_congr o hs fun x hx => ?_, ?_⟩
  · cases x with
    | tmp t =>
      have ht : t ∈ o.looksAt ops := List.mem_append_left _ (List.mem_filterMap.2 ⟨.tmp t, by simpa using hx, rfl⟩)
      have := ha.slot hc hb ho h1 ht
      simp only [Act.eval, Array.getD_eq_getD_getElem?, this]
    | _ => rfl
  · unfold Region.wanted
    cases hg : o.guard with
    | none => rfl
    | some gw =>
      obtain ⟨g, want⟩ := gw
      have hy : yielded ops a.tmps g = yielded ops b.tmps g := by
        unfold yielded
        cases ht : (ops[g]?).bind (·.dst) with
        | none => rfl
        | some t =>
          have := ha.slot hc hb ho h1 (t := t) (by simp [Oper.looksAt, hg, ht])
          simp only [Option.bind_some, this]
      simp only [hy]
/-- One operation in the text's order. -/
def clauseG (P : Program) (ops : Array Oper) (w0 : World) (H : Nat → World → Prop) (o : Oper) (a : Act) (kd : Kd) : Prop :=
  kd.stable ∧ ∀ x, Below w0.heap.size w0 x → (∀ j, waitsB o j = true → H j x) → if Region.wanted o (yielded ops a.tmps) = true then givesG P (fun u y => kd.fits u y ∧ Below x.heap.size x y) ((execOp a.eval o).run P x) else kd.fits undef x
def wpG (P : Program) (ops : Array Oper) (w0 : World) (vs : Nat → Value) (H : Nat → World → Prop) (Qf : Act → Prop) : List Kd → Nat → List Oper → Act → Prop
  | kd :: ks, k, o :: l, a => clauseG P ops w0 H o a kd ∧ wpG P ops w0 vs H Qf ks (k + 1) l (a.put o.dst (kd.val (vs k)))
  | [], _, [], a => Qf a
  | _, _, _, _ => False
theorem wpG_all {w0 : World} {vs : Nat → Value} {H : Nat → World → Prop} {Qf : Act → Prop} {a0 : Act} {K : Nat → Kd} (hc : ChkG ops) : ∀ (ks : List Kd) (k : Nat) (l : List Oper) (a : Act), wpG P ops w0 vs H Qf ks k l a → (∀ j, l[j]? = ops[k + j]?) → (∀ j, j < ks.length → ks[j]? = some (K (k + j))) →
    ActIs ops a0 (fun j => (K j).val (vs j)) (fun j => j < k) a →
    (∀ i o, k ≤ i → ops[i]? = some o → ∃ b, ActIs ops a0 (fun j => (K j).val (vs j)) (fun j => j < i) b ∧ clauseG P ops w0 H o b (K i)) ∧ ∃ b, ActIs ops a0 (fun j => (K j).val (vs j)) (fun j => j < ops.size) b ∧ Qf b
  | kd :: ks, k, o :: l, a, h, hl, hK, hA => by
    obtain ⟨h1, h2⟩ := h
    have ho : ops[k]? = some o := (hl 0).symm
    have hk : kd = K k := by
      have := hK 0 (by simp)
      simpa using this
    subst hk
    obtain ⟨i1, i2⟩ := wpG_all hc ks (k + 1) l _ h2 (fun j => by have := hl (j + 1); rw [List.getElem?_cons_succ] at this; rw [this]; congr 1; omega) (fun j hj => by have := hK (j + 1) (by simpa using hj); rw [List.getElem?_cons_succ] at this; rw [this]; congr 2; omega)
      ((hA.put hc ho (Nat.lt_irrefl k)).congr (fun j => by omega) (fun _ _ => rfl))
    refine ⟨fun i oi hi hoi => ?_, i2⟩
    rcases Nat.eq_or_lt_of_le hi with rfl | hlt
    · rw [ho] at hoi
      cases hoi
      exact ⟨a, hA, h1⟩
    · exact i1 i oi hlt hoi
  | [], k, [], a, h, hl, _, hA => by
    have hn : ops.size ≤ k := by
      have := hl 0
      rw [List.getElem?_nil, Nat.add_zero] at this
      exact Array.getElem?_eq_none_iff.1 this.symm
    have hno : ∀ j o, ops[j]? = some o → j < ops.size := fun j o ho => (Array.getElem?_eq_some_iff.1 ho).1
    refine ⟨fun i o hi ho => absurd (hno i o ho) (by omega), a, ⟨hA.size, hA.defs, fun j o d h1 h2 h3 => hA.got j o d h1 h2 (by omega), fun d hd => hA.old d fun j o h1 h2 _ => hd j o h1 h2 (hno j o h1)⟩, h⟩
  | [], _, _ :: _, _, h, _, _, _ => by cases h
  | _ :: _, _, [], _, h, _, _, _ => by cases h
theorem cnt_le {p q : Nat → Bool} (h : ∀ x, q x = true → p x = true) : ∀ l : List Nat, (l.filter q).length ≤ (l.filter p).length
  | [] => Nat.le_refl _
  | x :: l => by
    have := cnt_le h l
    by_cases hq : q x = true
    · rw [List.filter_cons_of_pos hq, List.filter_cons_of_pos (h x hq)]
      simpa using this
    · rw [List.filter_cons_of_neg hq]
      by_cases hp : p x = true
      · rw [List.filter_cons_of_pos hp, List.length_cons]
        omega
      · rw [List.filter_cons_of_neg hp]
        exact this
theorem cnt_lt {p q : Nat → Bool} (h : ∀ x, q x = true → p x = true) {i : Nat} (hp : p i = true) (hq : ¬ q i = true) : ∀ l : List Nat, i ∈ l → (l.filter q).length < (l.filter p).length
  | [], h => by cases h
  | x :: l, hm => by
    have hle := cnt_le h l
    by_cases hx : x = i
    · subst hx
      rw [List.filter_cons_of_pos hp, List.filter_cons_of_neg hq, List.length_cons]
      omega
    · have := cnt_lt h hp hq l ((List.mem_cons.1 hm).resolve_left (fun e => hx e.symm))
      by_cases hqx : q x = true
      · rw [List.filter_cons_of_pos hqx, List.filter_cons_of_pos (h x hqx)]
        simpa using this
      · rw [List.filter_cons_of_neg hqx]
        by_cases hpx : p x = true
        · rw [List.filter_cons_of_pos hpx, List.length_cons]
          omega
        · rw [List.filter_cons_of_neg hpx]
          exact this
theorem listed_tt {listed : Array Bool} {j : Nat} (hj : j < listed.size) (h : listed.getD j true = false) : listed.getD j false = false := by
  simp [hj] at h ⊢
  exact h
theorem any_G {w0 : World} {a0 : Act} {K : Nat → Kd} (hc : ChkG ops) (hs : Region.noSelect ops = true) (hst : ∀ j, (K j).stable)
    (hcl : ∀ vs : Nat → Value, (∀ i o, ops[i]? = some o → ∃ b, ActIs ops a0 (fun j => (K j).val (vs j)) (fun j => j < i) b ∧ clauseG P ops w0 (fun j x => (K j).holds (vs j) x) o b (K i)) ∧
      ∃ b, ActIs ops a0 (fun j => (K j).val (vs j)) (fun j => j < ops.size) b ∧ ∀ x, Below w0.heap.size w0 x → (∀ j, j < ops.size → (K j).holds (vs j) x) → Q .normal b x) :
    ∀ (fuel : Nat) (listed : Array Bool) (a : Act) (w : World) (vs : Nat → Value), listed.size = ops.size → ((List.range ops.size).filter fun i => !listed.getD i true).length ≤ fuel →
      ActIs ops a0 (fun j => (K j).val (vs j)) (fun j => listed.getD j false = true) a → Below w0.heap.size w0 w → (∀ j, listed.getD j false = true → (K j).holds (vs j) w) → wpAny P .any ops Q fuel listed a w := by
  have hend : ∀ (listed : Array Bool) (a : Act) (w : World) (vs : Nat → Value), listed.size = ops.size → ActIs ops a0 (fun j => (K j).val (vs j)) (fun j => listed.getD j false = true) a → Below w0.heap.size w0 w → (∀ j, listed.getD j false = true → (K j).holds (vs j) w) → (∀ j, j < ops.size → listed.getD j false = true) → Q .normal a w := by
    intro listed a w vs hz hA hB hR hall
    obtain ⟨-, b, hb, hq⟩ := hcl vs
    have : a = b := (hA.congr (L' := fun j => j < ops.size) (fun j => ⟨fun h => by
      rcases Nat.lt_or_ge j listed.size with h' | h'
      · omega
      · simp [Array.getElem?_eq_none h'] at h, hall j⟩) (fun _ _ => rfl)).eq hb
    rw [this]
    exact hq w hB fun j hj => hR j (hall j hj)
  intro fuel
  induction fuel with
  | zero =>
    intro listed a w vs hz hf hA hB hR
    have h0 := List.eq_nil_of_length_eq_zero (Nat.le_zero.1 hf)
    have hall : ∀ j, j < ops.size → listed.getD j false = true := fun j hj => by
      have := List.filter_eq_nil_iff.1 h0 j (List.mem_range.2 hj)
      simp [show j < listed.size by omega] at this ⊢
      exact this
    refine ⟨List.eq_nil_iff_forall_not_mem.2 fun j hj => ?_, hend listed a w vs hz hA hB hR hall⟩
    obtain ⟨h1, o, ho, -⟩ := mem_ready.1 hj
    have hlt : j < ops.size := (Array.getElem?_eq_some_iff.1 ho).1
    have := hall j hlt
    rw [listed_tt (by omega) h1] at this
    cases this
  | succ fuel ih =>
    intro listed a w vs hz hf hA hB hR
    refine ⟨fun h0 => hend listed a w vs hz hA hB hR fun j hj => ?_, fun i hi => ?_⟩
    · induction j using Nat.strongRecOn with
      | ind j ihj =>
        cases hl : listed.getD j false with
        | true => rfl
        | false =>
          exfalso
          obtain ⟨o, ho⟩ : ∃ o, ops[j]? = some o := ⟨ops[j], Array.getElem?_eq_getElem hj⟩
          have : j ∈ Region.ready .any ops listed := mem_ready.2 ⟨by
            simp [show j < listed.size by omega] at hl ⊢
            exact hl, o, ho, fun e he hb => by
            have := hc.up j o ho e he hb
            exact ihj e.on this (by omega)⟩
          rw [h0] at this
          cases this
    · obtain ⟨hun, o, ho, hall⟩ := mem_ready.1 hi
      have hlt : i < ops.size := (Array.getElem?_eq_some_iff.1 ho).1
      have hunl := listed_tt (by omega) hun
      have hdep : ∀ j, waitsB o j = true → listed.getD j false = true ∧ j < i := fun j hj => by
        obtain ⟨e, he, hb⟩ := Array.any_eq_true'.1 hj
        simp only [Bool.and_eq_true, beq_iff_eq] at hb
        rw [← hb.2]
        exact ⟨hall e he hb.1, hc.up i o ho e he hb.1⟩
      obtain ⟨b, hb, hcl1⟩ := (hcl vs).1 i o ho
      obtain ⟨he, hw⟩ := hA.exec hc hb ho (fun cs b => Region.noSelect_spec hs i o cs b ho) hdep
      have hres := hcl1.2 w hB fun j hj => hR j (hdep j hj).1
      have next : ∀ u y, (K i).fits u y → Below w.heap.size w y → wpAny P .any ops Q fuel (listed.setIfInBounds i true) (a.put o.dst u) y := by
        intro u y hu hy
        have hsz : i < listed.size := by omega
        have hset : ∀ j, (listed.setIfInBounds i true).getD j false = true ↔ (listed.getD j false = true ∨ j = i) := fun j => by
          by_cases hij : i = j
          · subst hij
            simp [hsz]
          · rw [getD_set_ne false hij]
            exact ⟨.inl, fun h => h.resolve_right fun e => hij e.symm⟩
        have hA' := (hA.congr (g := fun j => (K j).val (if j = i then u else vs j)) (fun _ => Iff.rfl) (fun j hj => by
          rw [if_neg (fun e => by rw [e, hunl] at hj; cases hj)])).put hc ho (by rw [hunl]; decide)
        rw [if_pos rfl, Kd.val_of hu] at hA'
        refine ih (listed.setIfInBounds i true) (a.put o.dst u) y (fun j => if j = i then u else vs j) (by rw [Array.size_setIfInBounds]; exact hz) ?_ (hA'.congr (fun j => (hset j).symm) (fun _ _ => rfl)) (hB.trans (hy.mono hB.size)) fun j hj => ?_
        · have := cnt_lt (p := fun k => !listed.getD k true) (q := fun k => !(listed.setIfInBounds i true).getD k true) (fun k hk => by
            by_cases hik : i = k
            · subst hik
              simp [hsz] at hk
            · rw [getD_set_ne true hik] at hk
              exact hk) (i := i) (by simp [hun]) (by simp [hsz]) (List.range ops.size) (List.mem_range.2 hlt)
          omega
        · rcases (hset j).1 hj with h | rfl
          · rw [if_neg (fun e => by rw [e, hunl] at h; cases h)]
            exact hst j _ w y (hR j h) hy
          · rw [if_pos rfl]
            unfold Kd.holds
            rw [Kd.val_of hu]
            exact hu
      unfold wpOp
      simp only [ho]
      rw [hw]
      split
      · rename_i hwt
        rw [if_pos hwt] at hres
        refine .inl ?_
        unfold Oper.wp
        rw [he]
        generalize (execOp b.eval o).run P w = r at *
        cases r with
        | ok n w' =>
          cases n <;> simp only [givesG] at hres <;> simp only [Oper.upon]
          case value u => exact next u w' hres.1 hres.2
          case skip => exact next undef w' hres.1 hres.2
          case enter f args =>
            refine Calls.mono hres fun e w'' hp => ?_
            obtain ⟨u, rfl, h1, h2⟩ := hp
            exact next u w'' h1 h2
        | halt x w' => exact absurd hres (by simp [givesG])
      · rename_i hwt
        rw [if_neg hwt] at hres
        exact next undef w hres (Below.refl _ _)
theorem wp_region_G {id : Nat} {a : Act} {w : World} (ks : List Kd) (hm : P.follows .mixedOrders = true)
    (h : ∀ vs : Nat → Value, wpG P ops w vs (fun j x => (ks.getD j (.fix undef)).holds (vs j) x) (fun a' => ∀ x, Below w.heap.size w x → (∀ j, j < ops.size → (ks.getD j (.fix undef)).holds (vs j) x) → Q .normal a' x) ks 0 ops.toList a)
    (hB : (Region.noSelect ops && (ks.length == ops.size && chkG ops 0 ops.toList)) = true) : (Code.region id ops true).wp P Q a w := by
  simp only [Bool.and_eq_true, beq_iff_eq] at hB
  obtain ⟨h1, h2, h3⟩ := hB
  have hc := chk_of h3
  have hA0 : ∀ f : Nat → Value, ActIs ops a f (fun j => j < 0) a := fun f => ⟨rfl, rfl, fun j o d _ _ h => absurd h (Nat.not_lt_zero _), fun d _ => rfl⟩
  have hall := fun vs : Nat → Value => wpG_all (K := fun j => ks.getD j (.fix undef)) hc ks 0 ops.toList a (h vs) (fun j => by rw [Nat.zero_add]; exact Array.getElem?_toList) (fun j hj => by
    rw [Nat.zero_add, List.getElem?_eq_getElem hj]
    simp [List.getD_eq_getElem?_getD, List.getElem?_eq_getElem hj]) (hA0 _)
  have hrep : ∀ j, (Array.replicate ops.size false).getD j false = false := fun j => by
    rcases Nat.lt_or_ge j ops.size with h' | h' <;> simp [h']
  refine wp_region_any hm (any_G (w0 := w) (a0 := a) (K := fun j => ks.getD j (.fix undef)) hc h1 (fun j => ?_) (fun vs => ⟨fun i o ho => (hall vs).1 i o (Nat.zero_le _) ho, (hall vs).2⟩) ops.size _ a _ (fun _ => undef) (by simp) ?_ ((hA0 _).congr (fun j => by rw [hrep]; simp) (fun _ _ => rfl)) ?_ (fun j hj => ?_))
  · rcases Nat.lt_or_ge j ops.size with hj | hj
    · obtain ⟨b, -, hb⟩ := (hall fun _ => undef).1 j ops[j] (Nat.zero_le _) (Array.getElem?_eq_getElem hj)
      exact hb.1
    · show (ks.getD j (.fix undef)).stable
      rw [List.getD_eq_getElem?_getD, List.getElem?_eq_none (by omega)]
      exact stable_fix undef
  · refine Nat.le_trans (List.length_filter_le _ _) ?_
    rw [List.length_range]
    exact Nat.le_refl _
  · exact ⟨rfl, rfl, rfl, Nat.le_refl _, fun _ _ => rfl⟩
  · rw [hrep] at hj
    cases hj
theorem wpG_fix {w0 : World} {vs : Nat → Value} {H : Nat → World → Prop} {Qf : Act → Prop} {ks : List Kd} {k : Nat} {o : Oper} {l : List Oper} {a : Act} {v : Value}
    (hy : YieldsIf P ops (fun x => Below w0.heap.size w0 x) o v a) (h : wpG P ops w0 vs H Qf ks (k + 1) l (a.put o.dst v)) : wpG P ops w0 vs H Qf (.fix v :: ks) k (o :: l) a := by
  refine ⟨⟨stable_fix v, fun x hx _ => ?_⟩, h⟩
  rcases hy with ⟨h1, h2⟩ | ⟨h1, h2⟩
  · rw [if_pos h1, h2 x hx]
    exact ⟨rfl, Below.refl _ _⟩
  · rw [if_neg (by rw [h1]; decide)]
    exact h2.symm
/-- A call with one answer. -/
theorem wpG_call {w0 : World} {vs : Nat → Value} {H : Nat → World → Prop} {Qf : Act → Prop} {ks : List Kd} {k : Nat} {o : Oper} {l : List Oper} {a : Act} {v : Value} {f : FuncId} {args : Array Value}
    (hc : ∀ x, Below w0.heap.size w0 x → (∀ j, waitsB o j = true → H j x) → Calls P f args x fun e y => e = .returned v ∧ Below x.heap.size x y) (hw : Region.wanted o (yielded ops a.tmps) = true)
    (hr : ∀ x, Below w0.heap.size w0 x → (execOp a.eval o).run P x = .ok (.enter f args) x) (h : wpG P ops w0 vs H Qf ks (k + 1) l (a.put o.dst v)) : wpG P ops w0 vs H Qf (.fix v :: ks) k (o :: l) a :=
  ⟨⟨stable_fix v, fun x hx hH => by
    rw [if_pos hw, hr x hx]
    exact (hc x hx hH).mono fun e y he => ⟨v, he.1, rfl, he.2⟩⟩, h⟩
/-- A call of whose answer a relation is known. -/
theorem wpG_callR {w0 : World} {vs : Nat → Value} {H : Nat → World → Prop} {Qf : Act → Prop} {ks : List Kd} {k : Nat} {o : Oper} {l : List Oper} {a : Act} {f : FuncId} {args : Array Value} (R : Value → World → Prop) (hR : (Kd.rel R).stable)
    (hc : ∀ x, Below w0.heap.size w0 x → (∀ j, waitsB o j = true → H j x) → Calls P f args x fun e y => ∃ u, e = .returned u ∧ R u y ∧ Below x.heap.size x y) (hw : Region.wanted o (yielded ops a.tmps) = true)
    (hr : ∀ x, Below w0.heap.size w0 x → (execOp a.eval o).run P x = .ok (.enter f args) x) (h : wpG P ops w0 vs H Qf ks (k + 1) l (a.put o.dst (vs k))) : wpG P ops w0 vs H Qf (.rel R :: ks) k (o :: l) a :=
  ⟨⟨hR, fun x hx hH => by
    rw [if_pos hw, hr x hx]
    exact hc x hx hH⟩, h⟩
/-- Whatever else leaves a value of which a relation is known. -/
theorem wpG_rel {w0 : World} {vs : Nat → Value} {H : Nat → World → Prop} {Qf : Act → Prop} {ks : List Kd} {k : Nat} {o : Oper} {l : List Oper} {a : Act} (R : Value → World → Prop) (hR : (Kd.rel R).stable)
    (hw : Region.wanted o (yielded ops a.tmps) = true) (hy : ∀ x, Below w0.heap.size w0 x → (∀ j, waitsB o j = true → H j x) → ∃ u y, (execOp a.eval o).run P x = .ok (.value u) y ∧ R u y ∧ Below x.heap.size x y) (h : wpG P ops w0 vs H Qf ks (k + 1) l (a.put o.dst (vs k))) : wpG P ops w0 vs H Qf (.rel R :: ks) k (o :: l) a :=
  ⟨⟨hR, fun x hx hH => by
    obtain ⟨u, y, h1, h2⟩ := hy x hx hH
    rw [if_pos hw, h1]
    exact h2⟩, h⟩
theorem wpG_nil {w0 : World} {vs : Nat → Value} {H : Nat → World → Prop} {Qf : Act → Prop} {k : Nat} {a : Act} (h : Qf a) : wpG P ops w0 vs H Qf [] k [] a := h
end
end Go.Proofs.YtbdgkkmbnahgiaaGreatDoor

