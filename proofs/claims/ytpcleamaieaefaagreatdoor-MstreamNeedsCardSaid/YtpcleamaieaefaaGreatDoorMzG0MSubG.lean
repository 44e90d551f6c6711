/- A part of what the laws stand on: MSubG, SubJ, MqA, HdC, ConB, ConC. -/
import Derived.Test.YtpcleamaieaefaaGreatDoorMzG0SubF
import Derived.Laws.Rows
namespace Go.Proofs.YtpcleamaieaefaaGreatDoor
open Go.RowKit
attribute [local go_sem ↓] to_ldPk to_bxPk to_bdPk to_alPk to_stPk
attribute [local go_sem] run_bxPk run_bxPk_agg ld_fresh run_alPk run_bd0 run_bdK run_bdKI run_bdKIC run_bdKC run_bdKICP run_stPk_fresh pkC_0 pkC_1 pkC_2 pkC_3 pkC_4 pkC_5 pkC_6 pkC_7 pkC_8 pkC_9 pkC_10 pkC_11 pkC_12 pkC_13 pkC_14 pkC_15 pkC_16 pkC_17 pkC_18 pkC_19 pkC_20 pkC_21 pkC_22 pkC_23 pkC_24
theorem lsR_len (v k : Int) (t : ByteArray) : ∀ (n a : Nat) (e : Int) (fi : List Fi) (cd : List Int), (lsR v k t n a e fi cd).1.length ≤ fi.length + n ∧ (lsR v k t n a e fi cd).2.1.length ≤ cd.length + n ∧ ∀ f ∈ (lsR v k t n a e fi cd).1, f ∈ fi ∨ f.topic.size ≤ 65535
  | 0, a, e, fi, cd => ⟨Nat.le_refl _, Nat.le_refl _, fun f hf => .inl hf⟩
  | n + 1, a, e, fi, cd => by
    rw [lsR_succ]
    split
    · exact ⟨by show fi.length ≤ _; omega, by show cd.length ≤ _; omega, fun f hf => .inl hf⟩
    · rename_i hc
      have hlt : a < t.size := Nat.lt_of_not_le fun x => hc (.inr x)
      split
      · obtain ⟨h1, h2, h3⟩ := lsR_len v k t n (fiR v k t a).2.1 (fiR v k t a).2.2 (fi ++ [(fiR v k t a).1]) cd
        rw [List.length_append] at h1
        simp only [List.length_cons, List.length_nil] at h1
        refine ⟨by omega, by omega, fun f hf => ?_⟩
        rcases h3 f hf with h | h
        · rcases List.mem_append.1 h with h | h
          · exact .inl h
          · right
            obtain rfl := List.mem_singleton.1 h
            have := (rtC_le (t := t) (a := a) (e := 0) (Nat.le_of_lt hlt)).2
            unfold fiR
            split
            · exact this
            · exact this
        · exact .inr h
      · obtain ⟨h1, h2, h3⟩ := lsR_len v k t n (a + 1) 0 fi (cd ++ [((numS t a 0 1 : Nat) : Int)])
        rw [List.length_append] at h2
        simp only [List.length_cons, List.length_nil] at h2
        exact ⟨by omega, by omega, h3⟩
theorem prpC_ok (v k : Int) (t : ByteArray) (a : Nat) (e : Int) (ht : t.size ≤ 140737488351232) : (∀ p ∈ (prpC v k t a e).1, prGood p) ∧ (prpC v k t a e).1.length ≤ 1000 := by
  unfold prpC
  split
  · exact ⟨by simp, Nat.zero_le _⟩
  · refine ⟨readP_good (by rw [ByteArray.size_extract]; omega), ?_⟩
    by_cases h : (readP k (t.extract a t.size)).2.2 = 0
    · exact readP_len h
    · have := readP_bad h
      rw [this]
      exact Nat.zero_le _
theorem sbFull_ok {v k : Int} {s : ByteArray} (hs : s.size ≤ 140737488351000) : PkOk (sbFull v k s) := by
  obtain ⟨h1, h2, h3⟩ := lsR_len v k s (s.size + 1) (sbPr v k s).2.1 (sbPr v k s).2.2 [] []
  obtain ⟨p1, p2⟩ := prpC_ok v k s (takeS s 0 0 2).2.1 (takeS s 0 0 2).2.2 (by omega)
  refine ⟨(by intro q hq; cases hq), p1, fun f hf => ?_, ?_, ?_⟩
  · rcases h3 f hf with h | h
    · cases h
    · omega
  · exact ⟨Nat.zero_le _, Nat.zero_le _, Nat.zero_le _, Nat.zero_le _, Nat.zero_le _, Nat.zero_le _, Nat.zero_le _⟩
  · simp only [List.length_nil] at h1 h2
    exact ⟨Nat.zero_le _, by show (sbLs v k s).2.1.length ≤ _; unfold sbLs; omega, by show (sbLs v k s).1.length ≤ _; unfold sbLs; omega, by show (sbPr v k s).1.length ≤ _; unfold sbPr; omega⟩
theorem rd_both {x y : World} {B : Nat} {A : Option Addr} {l : List Pr} {t1 t2 : TypeId} {c1 c2 : Array Value} {g1 g2 : Nat} (h : Rd x B 4 A l.length (prs l)) (b1 : Bk x g1 t1 c1) (b2 : Bk x g2 t2 c2)
    (n1 : ∀ (i : Nat) (n : Int), c1[i]? ≠ some (Value.int IntKind.u32 n)) (n2 : ∀ (i : Nat) (n : Int), c2[i]? ≠ some (Value.int IntKind.u32 n)) (hm : Mods (two g1 g2) x y) (hB : B ≤ x.heap.size) : Rd y B 4 A l.length (prs l) := by
  rcases h.2 with h0 | ⟨b, o, rfl, hb, hc⟩
  · exact ⟨h.1, .inl h0⟩
  · by_cases hl : 0 < l.length
    · obtain ⟨b', o', he, _, _, q1, _⟩ := h.atP hl
      simp only [Option.some.injEq, Addr.mk.injEq] at he
      obtain ⟨rfl, rfl, -⟩ := he
      refine ⟨h.1, .inr ⟨b, o, rfl, hb, fun j u hu => (World.cell?_of_block (a := ⟨b, o + j, none⟩) (hm.block b (by omega) (fun e => ?_))).trans (hc j u hu)⟩⟩
      rcases e with rfl | rfl
      · rw [b1.cell] at q1; exact n1 _ _ q1
      · rw [b2.cell] at q1; exact n2 _ _ q1
    · have hz : l = [] := List.eq_nil_of_length_eq_zero (by omega)
      subst hz
      exact Rd.nil _ _ _ _
/-- What stands behind list. -/
structure SG (w wL : World) (g gp gc : Nat) (k i : Int) (l : List Pr) (A : Option Addr) (n : Nat) (fi : List Fi) (cd : List Int) (F C : Hd) (t : ByteArray) (a : Nat) (e : Int) (x : World) : Prop where
  kept : Below w.heap.size w x
  res : Bk x g PkT (pkC pk0 hs0)
  pk : Bk x gp PkT (pkC { ackR1 k i 0 l with filters := fi, codes := cd } { hs0 with props := ⟨A, n⟩, filters := F, codes := C })
  cur : Cur x gc t a e
  rd : Rd x x.heap.size 4 A l.length (prs l)
  cap : l.length ≤ n
  ofi : OwnF wL x fi F
  ocd : OwnC wL x cd C
  ne : g ≠ gp ∧ g ≠ gc ∧ gp ≠ gc
  base : w.heap.size ≤ g ∧ w.heap.size ≤ gp ∧ w.heap.size ≤ gc
  lt : g < wL.heap.size ∧ gp < wL.heap.size ∧ gc < wL.heap.size
section
variable {w wL x y : World} {g gp gc : Nat} {k i : Int} {l : List Pr} {A : Option Addr} {n : Nat} {fi : List Fi} {cd : List Int} {F C : Hd} {t : ByteArray} {a a' : Nat} {e e' : Int}
theorem OwnF.into (h : OwnF wL x fi F) : Rd x x.heap.size 5 F.a fi.length (fis fi) ∧ fi.length ≤ F.c := by
  obtain ⟨A, c, hv, h1, h2⟩ := own_rd h
  simp only [Value.slice.injEq] at hv
  obtain ⟨rfl, -, rfl⟩ := hv
  exact ⟨h2, h1⟩
theorem OwnC.into (h : OwnC wL x cd C) : Rd x x.heap.size 1 C.a cd.length (iv cd) ∧ cd.length ≤ C.c := by
  obtain ⟨A, c, hv, h1, h2⟩ := own_rd h
  simp only [Value.slice.injEq] at hv
  obtain ⟨rfl, -, rfl⟩ := hv
  exact ⟨h2, h1⟩
theorem SG.into (s : SG w wL g gp gc k i l A n fi cd F C t a e x) : PkIn x x.heap.size { ackR1 k i 0 l with filters := fi, codes := cd } { hs0 with props := ⟨A, n⟩, filters := F, codes := C } :=
  ⟨Rd.nil _ _ _ _, s.ocd.into.1, s.ofi.into.1, s.rd, Nat.zero_le _, s.ocd.into.2, s.ofi.into.2, s.cap⟩
theorem SG.below (s : SG w wL g gp gc k i l A n fi cd F C t a e x) (hb : Below x.heap.size x y) : SG w wL g gp gc k i l A n fi cd F C t a e y :=
  ⟨s.kept.trans (hb.mono s.kept.size), s.res.below hb s.res.lt, s.pk.below hb s.pk.lt, s.cur.below hb, (s.rd.below hb).wider hb.size, s.cap, own_below s.ofi hb, own_below s.ocd hb, s.ne, s.base, s.lt⟩
theorem SG.turn (s : SG w wL g gp gc k i l A n fi cd F C t a e x) (hc : Cur y gc t a' e') (hm : x.grownBy y (some gc)) : SG w wL g gp gc k i l A n fi cd F C t a' e' y :=
  ⟨below_mod s.kept hm s.kept.size s.base.2.2, s.res.mods (S := fun z => z = gc) (Mods.of_grown hm rfl) s.ne.2.1, s.pk.mods (S := fun z => z = gc) (Mods.of_grown hm rfl) s.ne.2.2, hc,
    (s.rd.other s.cur.1 (cur_no32 _ _ _) hm (Nat.le_refl _)).wider hm.size, s.cap, s.ofi.stay hm s.lt.2.2, s.ocd.stay hm s.lt.2.2, s.ne, s.base, s.lt⟩
theorem SG.none (s : SG w wL g gp gc k i l A n fi cd F C t a e x) : Below w.heap.size w (putPk x g pk0 hs0) ∧ Bk (putPk x g pk0 hs0) g PkT (pkC pk0 hs0) := ⟨below_put s.kept s.kept.size s.base.1 _ _, put_bk s.res _ _⟩
theorem SG.some (s : SG w wL g gp gc k i l A n fi cd F C t a e x) (P : Pk := { ackR1 k i 0 l with filters := fi, codes := cd }) (H : Hs := { hs0 with props := ⟨A, n⟩, filters := F, codes := C }) (hP : P = { ackR1 k i 0 l with filters := fi, codes := cd } := by rfl) (hH : H = { hs0 with props := ⟨A, n⟩, filters := F, codes := C } := by rfl) :
    Below w.heap.size w (putPk x g P H) ∧ Bk (putPk x g P H) g PkT (pkC P H) ∧ PkIn (putPk x g P H) (putPk x g P H).heap.size P H := by
  subst hP hH
  have hm := putPk_mods x g { ackR1 k i 0 l with filters := fi, codes := cd } { hs0 with props := ⟨A, n⟩, filters := F, codes := C }
  refine ⟨below_put s.kept s.kept.size s.base.1 _ _, put_bk s.res _ _, ?_⟩
  exact ⟨Rd.nil _ _ _ _, (s.ocd.stay hm s.lt.1).into.1, (s.ofi.stay hm s.lt.1).into.1, (s.rd.other s.res (pk_no32 _ _) hm (Nat.le_refl _)).wider hm.size, Nat.zero_le _, s.ocd.into.2, s.ofi.into.2, s.cap⟩
theorem SG.of_list {ai : Nat} {ei : Int} (s : RI w g gp gc k i 0 l A n t ai ei wL) (hL : LS wL gc gp t { ackR1 k i 0 l with filters := fi, codes := cd } { { hs0 with props := ⟨A, n⟩ } with filters := F, codes := C } a e x) (hF : OwnF wL x fi F) (hC : OwnC wL x cd C) : SG w wL g gp gc k i l A n fi cd F C t a e x :=
  ⟨hL.mods.below s.kept s.kept.size (fun q hq => by rcases hq with rfl | rfl; exact s.base.2.2; exact s.base.2.1), s.res.mods hL.mods (fun h => by rcases h with h | h; exact s.ne.2.1 h; exact s.ne.1 h), hL.pk, hL.cur,
    (rd_both s.rd s.cur.1 s.pk (cur_no32 _ _ _) (pk_no32 _ _) hL.mods (Nat.le_refl _)).wider hL.mods.size, s.cap, hF, hC, s.ne, s.base, s.res.lt, s.pk.lt, s.cur.lt⟩
end
theorem ri_props {w x : World} {g gp gc : Nat} {k i : Int} {l : List Pr} {A A' : Option Addr} {n n' : Nat} {t : ByteArray} {a : Nat} {e : Int} {l' : List Pr} (s : RI w g gp gc k i 0 l A n t a e x) (hr : Rd x x.heap.size 4 A' l'.length (prs l')) (hc : l'.length ≤ n') :
    RI w g gp gc k i 0 l' A' n' t a e (x.setCell ⟨gp, 24, none⟩ (.slice A' l'.length n')) := by
  have hm := mod_set x gp 24 (.slice A' l'.length n')
  exact ⟨below_mod s.kept hm s.kept.size s.base.2.1, s.res.other (by have := s.ne.1; simpa using this) _, s.pk.upd 24 _ rfl, ⟨s.cur.1.other (by have := s.ne.2.2; simpa using this.symm) _, s.cur.2⟩,
    (hr.other s.pk (pk_no32 _ _) hm (Nat.le_refl _)).wider hm.size, hc, s.ne, s.base⟩
/-- As PkOut; and a code's slice is one that the call has made. -/
def PkOutC (r : Pk × Int) (w : World) (e : Ending) (w' : World) : Prop := ∃ h, e = .returned (.tuple #[pkV r.1 h, .int .i64 r.2]) ∧ PkIn w' w'.heap.size r.1 h ∧ Below w.heap.size w w' ∧ (∀ b o, h.codes.a = some ⟨b, o, none⟩ → w.heap.size ≤ b)
theorem pkOutC_bad {r : Pk × Int} {x : Int} {w w' : World} (h : r = (pk0, x)) (hb : Below w.heap.size w w') : PkOutC r w (.returned (.tuple #[pkV pk0 hs0, .int .i64 x])) w' := by
  subst h
  exact ⟨hs0, rfl, pk0_in _ _, hb, fun b o e => by cases e⟩
theorem pkOutC_ok {r : Pk × Int} {p : Pk} {h : Hs} {w w' : World} (hr : r = (p, 0)) (hi : PkIn w' w'.heap.size p h) (hb : Below w.heap.size w w') (hf : ∀ b o, h.codes.a = some ⟨b, o, none⟩ → w.heap.size ≤ b) : PkOutC r w (.returned (.tuple #[pkV p h, .int .i64 0])) w' := by
  subst hr
  exact ⟨h, rfl, hi, hb, hf⟩
theorem SG.fresh {w wL x : World} {g gp gc : Nat} {k i : Int} {l : List Pr} {A : Option Addr} {n : Nat} {fi : List Fi} {cd : List Int} {F C : Hd} {t : ByteArray} {a : Nat} {e : Int} (s : SG w wL g gp gc k i l A n fi cd F C t a e x) : ∀ b o, C.a = Option.some ⟨b, o, Option.none⟩ → w.heap.size ≤ b := fun b o h => by
  have h1 := (own_block s.ocd b (by rw [h]; rfl)).1
  have h2 := s.base.1
  have h3 := s.lt.1
  omega
set_option maxHeartbeats 8000000 in
set_option maxRecDepth 10000 in
theorem sbReadC_any (v k : Int) (s : ByteArray) (w : World) (hs : s.size ≤ 1000000000000) :
    Calls Tryz.prog 13 #[.int .i64 v, .int .i64 k, .string s] w (PkOutC (sbR v k s) w) := by
  have HS := Lib.hid hs
  have HB0 := Lib.hid ((Below.refl w.heap.size w).alloc (Nat.le_refl _) (.cells (pkC pk0 hs0) PkT))
  have H60 := Lib.hid (Bk.fresh w PkT (pkC pk0 hs0))
  have hst := run_stPk H60.out
  go_enter Tryz.func13, Tryz.ntmps13
  go_wp2_with fail
  refine (sbKnown_any v k _).mono ?_
  rintro e w1 ⟨rfl, hw1⟩
  subst hw1
  cases hk : sbKnown v k
  · have HX : Hid (sbR v k s = (pk0, 2)) := Lib.hid (by unfold sbR; rw [if_pos hk])
    clear hk
    go_wp2
    refine bodyPost_ret (results_pk rfl _ rfl (put_bk H60.out _ _)) rfl ?_
    exact pkOutC_bad HX.out (below_put HB0.out HB0.out.size (Nat.le_refl _) _ _)
  have HK := Lib.hid hk
  have h45 : v = 4 ∨ v = 5 := (of_decide_eq_true (show decide ((v = 4 ∨ v = 5) ∧ 8 ≤ k ∧ k ≤ 11) = true from hk)).1
  have HV := Lib.hid h45
  clear hk hst
  go_wp2_with fail
  refine (newCur_any s _ (by have := HS.out; omega)).mono ?_
  rintro e w1 ⟨rfl, hc, hb⟩
  have hgc : (w.alloc (.cells (pkC pk0 hs0) PkT)).heap.size = w.heap.size + 1 := by simp
  have HB1 := Lib.hid (HB0.out.trans (hb.mono HB0.out.size)); have H61 := Lib.hid (H60.out.below hb H60.out.lt)
  rw [hgc] at hc ⊢
  have HC1 := Lib.hid hc
  clear hc hb hgc
  go_wp2_with fail
  refine (number_any (w.heap.size + 1) 0 s 0 2 _ HC1.out (by decide)).mono ?_
  rintro e w2 ⟨rfl, hc, hm⟩
  have HB2 := Lib.hid (below_mod HB1.out hm HB1.out.size (by omega)); have H62 := Lib.hid (H61.out.mods (S := fun z => z = w.heap.size + 1) (Mods.of_grown hm rfl) (by omega)); have HC2 := Lib.hid hc
  have HZ := Lib.hid HC2.out.lt
  have hid := num_two_lt s 0 0 (by omega)
  obtain ⟨m, hm2⟩ : ∃ m, numS s 0 0 2 = m := ⟨_, rfl⟩
  rw [hm2] at hid ⊢
  have HM2 := Lib.hid hm2
  obtain ⟨TK, hTK⟩ : ∃ T, takeS s 0 0 2 = T := ⟨_, rfl⟩
  have HPR0 : Hid (sbPr v k s = prpC v k s TK.2.1 TK.2.2) := Lib.hid (by unfold sbPr; rw [hTK])
  rw [hTK] at HC2
  clear hc hm hm2 hTK
  obtain ⟨T0, a0, e0⟩ := TK
  simp only at HPR0 HC2
  obtain ⟨id, hm1⟩ : ∃ id : Int, id = (m : Int) := ⟨_, rfl⟩
  have hw : IntKind.i64.wrap (m : Int) = id := by rw [hm1, IntKind.wrap_i64]; omega
  have HM : Hid (id = (m : Int)) := Lib.hid hm1
  clear hid hm1
  have I3 : Hid (RI w w.heap.size w2.heap.size (w.heap.size + 1) k id 0 [] none 0 s a0 e0 (w2.alloc (.cells (pkC (ackR1 k id 0 []) hs0) PkT))) := Lib.hid
    ⟨HB2.out.alloc HB2.out.size _, H62.out.alloc _, Bk.fresh _ _ _, ⟨HC2.out.1.alloc _, HC2.out.2⟩, Rd.nil _ _ _ _, Nat.le_refl _, ⟨by have := HZ.out; omega, by omega, by have := HZ.out; omega⟩, Nat.le_refl _, by have := HZ.out; omega, by omega⟩
  have HLE : Hid (a0 ≤ s.size) := Lib.hid HC2.out.2.1
  clear HB2 H62 HC2 HB1 H61 HC1
  rcases h45 with h4 | h5
  · have e5 : (v == 5) = false := beq_eq_false_iff_ne.2 (by omega)
    have HPR : Hid (sbPr v k s = ([], a0, e0)) := Lib.hid (by rw [HPR0.out]; unfold prpC; rw [if_pos (.inl h4)])
    have HLG : Hid (∀ q ∈ ([] : List Pr), prGood q) := Lib.hid (by simp)
    obtain ⟨l, hl⟩ : ∃ l : List Pr, l = [] := ⟨_, rfl⟩
    obtain ⟨a1, ha1⟩ : ∃ a1, a1 = a0 := ⟨_, rfl⟩
    obtain ⟨e1, he1⟩ : ∃ e1, e1 = e0 := ⟨_, rfl⟩
    obtain ⟨A, hA⟩ : ∃ A : Option Addr, A = none := ⟨_, rfl⟩
    obtain ⟨n, hn⟩ : ∃ n : Nat, n = 0 := ⟨_, rfl⟩
    rw [← hl, ← ha1, ← he1] at HPR
    rw [← hl] at HLG
    replace I3 : Hid (RI w w.heap.size w2.heap.size (w.heap.size + 1) k id 0 l A n s a1 e1 (w2.alloc (.cells (pkC (ackR1 k id 0 []) hs0) PkT))) := by subst hl ha1 he1 hA hn; exact I3
    clear h4 hl ha1 he1 hA hn
    have HPG := Lib.hid (show ∀ q ∈ l, prGood q from HLG.out)
    go_wp2_with fail
    refine (sbList_any v (by first | exact HV.out | exact .inr rfl) k HK.out (w.heap.size + 1) w2.heap.size a1 s e1 (ackR1 k id 0 l) { hs0 with props := ⟨A, n⟩ } _ rfl I3.out.cur I3.out.pk (by have := HZ.out; omega) HS.out).mono ?_
    rintro ee wX ⟨rfl, F, C, fi, cd, a2, e2, hls, hL, hF, hC⟩
    have G0 := Lib.hid (SG.of_list I3.out hL hF hC)
    have HLS : Hid (sbLs v k s = (fi, cd, a2, e2)) := Lib.hid (by unfold sbLs; rw [HPR.out]; exact hls)
    have HFU : Hid (sbFull v k s = sbPk k m l fi cd) := Lib.hid (by unfold sbFull; rw [HLS.out, HPR.out, HM2.out])
    have HOK : Hid (PkOk (sbPk k m l fi cd)) := Lib.hid (by rw [← HFU.out]; exact sbFull_ok (by have := HS.out; omega))
    have HE2 : Hid (sbR v k s = if e2 ≠ 0 then (pk0, e2) else if sbE v (sbPk k m l fi cd) ≠ 0 then (pk0, sbE v (sbPk k m l fi cd)) else (sbPk k m l fi cd, 0)) := Lib.hid (by
      unfold sbR; rw [if_neg (by rw [HK.out]; decide), HLS.out, HFU.out])
    clear hls hL hF hC
    rw [HM.out] at G0
    have hl : (ldPk (.pointer (some ⟨w2.heap.size, 0, none⟩))).run Tryz.prog wX = .ok (pkV (sbPk k m l fi cd) { hs0 with props := ⟨A, n⟩, filters := F, codes := C }) wX := ld_bk G0.out.pk
    have HGI : Hid (PkIn wX wX.heap.size (sbPk k m l fi cd) { hs0 with props := ⟨A, n⟩, filters := F, codes := C }) := Lib.hid G0.out.into
    obtain ⟨P, hP⟩ : ∃ P, sbPk k m l fi cd = P := ⟨_, rfl⟩
    rw [hP] at hl HGI HOK HE2
    have HPE := Lib.hid hP
    clear hP
    go_wp2_with fail
    refine (sbValid_any v P _ _ HGI.out HOK.out).mono ?_
    rintro ee wV ⟨rfl, hb⟩
    have G1 := Lib.hid (G0.out.below hb); clear hb hl HGI
    go_wp2_with fail
    refine (fail_any _ a2 s e2 (sbE v P) _ G1.out.cur).mono ?_
    rintro ee wF ⟨rfl, hc, hm⟩
    have G2 := Lib.hid (G1.out.turn hc hm); clear hc hm
    have HW : Hid (((if e2 = 0 then sbE v P else e2) = 0 ∧ sbR v k s = (P, 0)) ∨ ((if e2 = 0 then sbE v P else e2) ≠ 0 ∧ sbR v k s = (pk0, (if e2 = 0 then sbE v P else e2)))) := Lib.hid (by
      rw [HE2.out]
      by_cases h2 : e2 = 0
      · rw [if_pos h2, if_neg (fun x => x h2)]
        by_cases h3 : sbE v P = 0
        · rw [if_neg (fun x => x h3)]; exact .inl ⟨h3, rfl⟩
        · rw [if_pos h3]; exact .inr ⟨h3, rfl⟩
      · rw [if_neg h2, if_pos h2]; exact .inr ⟨h2, rfl⟩)
    generalize (if e2 = 0 then sbE v P else e2) = E at *
    go_wp2_with fail
    refine (err_any _ a2 s E _ G2.out.cur).mono ?_
    rintro ee wH ⟨rfl, hwh⟩
    subst hwh
    have hl := ld_bk G2.out.pk
    have hst := run_stPk G2.out.res
    rcases HW.out with ⟨h2, hr⟩ | ⟨h2, hr⟩
    · subst h2
      have HR := Lib.hid hr; clear hr
      go_wp2
      refine bodyPost_ret (results_pk rfl _ rfl G2.out.some.2.1) rfl ?_
      exact pkOutC_ok (HR.out.trans (by rw [← HPE.out]; rfl)) G2.out.some.2.2 G2.out.some.1 G2.out.fresh
    · have e0 : (E != 0) = true := bne_iff_ne.2 h2
      have HR := Lib.hid hr; clear hr h2
      go_wp2
      refine bodyPost_ret (results_pk rfl _ rfl G2.out.none.2) rfl ?_
      exact pkOutC_bad HR.out G2.out.none.1

  · subst h5
    go_wp2_with fail
    refine (err_any _ a0 s e0 _ I3.out.cur).mono ?_
    rintro ee wE ⟨rfl, hwe⟩
    subst hwe
    by_cases he : e0 = 0
    rotate_left
    · have e9 : (e0 == 0) = false := beq_eq_false_iff_ne.2 he
      have HPR : Hid (sbPr 5 k s = ([], a0, e0)) := Lib.hid (by rw [HPR0.out]; unfold prpC; rw [if_pos (.inr he)])
      have HLG : Hid (∀ q ∈ ([] : List Pr), prGood q) := Lib.hid (by simp)
      clear he
      obtain ⟨l, hl⟩ : ∃ l : List Pr, l = [] := ⟨_, rfl⟩
      obtain ⟨a1, ha1⟩ : ∃ a1, a1 = a0 := ⟨_, rfl⟩
      obtain ⟨e1, he1⟩ : ∃ e1, e1 = e0 := ⟨_, rfl⟩
      obtain ⟨A, hA⟩ : ∃ A : Option Addr, A = none := ⟨_, rfl⟩
      obtain ⟨n, hn⟩ : ∃ n : Nat, n = 0 := ⟨_, rfl⟩
      rw [← hl, ← ha1, ← he1] at HPR
      rw [← hl] at HLG
      replace I3 : Hid (RI w w.heap.size w2.heap.size (w.heap.size + 1) k id 0 l A n s a1 e1 (w2.alloc (.cells (pkC (ackR1 k id 0 []) hs0) PkT))) := by subst hl ha1 he1 hA hn; exact I3
      clear hl ha1 hA hn he1
      have HPG := Lib.hid (show ∀ q ∈ l, prGood q from HLG.out)
      go_wp2_with fail
      refine (sbList_any 5 (by first | exact HV.out | exact .inr rfl) k HK.out (w.heap.size + 1) w2.heap.size a1 s e1 (ackR1 k id 0 l) { hs0 with props := ⟨A, n⟩ } _ rfl I3.out.cur I3.out.pk (by have := HZ.out; omega) HS.out).mono ?_
      rintro ee wX ⟨rfl, F, C, fi, cd, a2, e2, hls, hL, hF, hC⟩
      have G0 := Lib.hid (SG.of_list I3.out hL hF hC)
      have HLS : Hid (sbLs 5 k s = (fi, cd, a2, e2)) := Lib.hid (by unfold sbLs; rw [HPR.out]; exact hls)
      have HFU : Hid (sbFull 5 k s = sbPk k m l fi cd) := Lib.hid (by unfold sbFull; rw [HLS.out, HPR.out, HM2.out])
      have HOK : Hid (PkOk (sbPk k m l fi cd)) := Lib.hid (by rw [← HFU.out]; exact sbFull_ok (by have := HS.out; omega))
      have HE2 : Hid (sbR 5 k s = if e2 ≠ 0 then (pk0, e2) else if sbE 5 (sbPk k m l fi cd) ≠ 0 then (pk0, sbE 5 (sbPk k m l fi cd)) else (sbPk k m l fi cd, 0)) := Lib.hid (by
        unfold sbR; rw [if_neg (by rw [HK.out]; decide), HLS.out, HFU.out])
      clear hls hL hF hC
      rw [HM.out] at G0
      have hl : (ldPk (.pointer (some ⟨w2.heap.size, 0, none⟩))).run Tryz.prog wX = .ok (pkV (sbPk k m l fi cd) { hs0 with props := ⟨A, n⟩, filters := F, codes := C }) wX := ld_bk G0.out.pk
      have HGI : Hid (PkIn wX wX.heap.size (sbPk k m l fi cd) { hs0 with props := ⟨A, n⟩, filters := F, codes := C }) := Lib.hid G0.out.into
      obtain ⟨P, hP⟩ : ∃ P, sbPk k m l fi cd = P := ⟨_, rfl⟩
      rw [hP] at hl HGI HOK HE2
      have HPE := Lib.hid hP
      clear hP
      go_wp2_with fail
      refine (sbValid_any 5 P _ _ HGI.out HOK.out).mono ?_
      rintro ee wV ⟨rfl, hb⟩
      have G1 := Lib.hid (G0.out.below hb); clear hb hl HGI
      go_wp2_with fail
      refine (fail_any _ a2 s e2 (sbE 5 P) _ G1.out.cur).mono ?_
      rintro ee wF ⟨rfl, hc, hm⟩
      have G2 := Lib.hid (G1.out.turn hc hm); clear hc hm
      have HW : Hid (((if e2 = 0 then sbE 5 P else e2) = 0 ∧ sbR 5 k s = (P, 0)) ∨ ((if e2 = 0 then sbE 5 P else e2) ≠ 0 ∧ sbR 5 k s = (pk0, (if e2 = 0 then sbE 5 P else e2)))) := Lib.hid (by
        rw [HE2.out]
        by_cases h2 : e2 = 0
        · rw [if_pos h2, if_neg (fun x => x h2)]
          by_cases h3 : sbE 5 P = 0
          · rw [if_neg (fun x => x h3)]; exact .inl ⟨h3, rfl⟩
          · rw [if_pos h3]; exact .inr ⟨h3, rfl⟩
        · rw [if_neg h2, if_pos h2]; exact .inr ⟨h2, rfl⟩)
      generalize (if e2 = 0 then sbE 5 P else e2) = E at *
      go_wp2_with fail
      refine (err_any _ a2 s E _ G2.out.cur).mono ?_
      rintro ee wH ⟨rfl, hwh⟩
      subst hwh
      have hl := ld_bk G2.out.pk
      have hst := run_stPk G2.out.res
      rcases HW.out with ⟨h2, hr⟩ | ⟨h2, hr⟩
      · subst h2
        have HR := Lib.hid hr; clear hr
        go_wp2
        refine bodyPost_ret (results_pk rfl _ rfl G2.out.some.2.1) rfl ?_
        exact pkOutC_ok (HR.out.trans (by rw [← HPE.out]; rfl)) G2.out.some.2.2 G2.out.some.1 G2.out.fresh
      · have e0 : (E != 0) = true := bne_iff_ne.2 h2
        have HR := Lib.hid hr; clear hr h2
        go_wp2
        refine bodyPost_ret (results_pk rfl _ rfl G2.out.none.2) rfl ?_
        exact pkOutC_bad HR.out G2.out.none.1

    · subst he
      have HPR1 : Hid (sbPr 5 k s = ((readP k (s.extract a0 s.size)).1, a0 + (readP k (s.extract a0 s.size)).2.1, (readP k (s.extract a0 s.size)).2.2)) := Lib.hid (by rw [HPR0.out]; unfold prpC; rw [if_neg (by omega)])
      have HRG := Lib.hid (readP_good (kind := k) (s := s.extract a0 s.size) (by rw [ByteArray.size_extract]; have := HS.out; omega))
      have HTK : Hid ((takeS s a0 (readP k (s.extract a0 s.size)).2.2 ((readP k (s.extract a0 s.size)).2.1 : Nat)).2 = (a0 + (readP k (s.extract a0 s.size)).2.1, (readP k (s.extract a0 s.size)).2.2)) := Lib.hid (by
        by_cases hx : (readP k (s.extract a0 s.size)).2.2 = 0
        · have := (readP_back (kind := k) (s := s.extract a0 s.size) (l := (readP k (s.extract a0 s.size)).1) (n := (readP k (s.extract a0 s.size)).2.1) (by rw [← hx])).2.2
          rw [ByteArray.size_extract] at this
          have hle := HLE.out
          rw [hx, take_yes (by omega)]
        · rw [takeS_bad hx, readP_bad hx]; rfl)
      go_wp2_with fail
      refine (rest_any _ a0 s 0 _ I3.out.cur).mono ?_
      rintro ee w3 ⟨rfl, hb⟩
      have I4 := Lib.hid (I3.out.below hb); clear hb
      go_wp2_with fail
      refine (readP_any k (s.extract a0 s.size) _ (by rw [ByteArray.size_extract]; have := HS.out; omega)).mono ?_
      rintro ee w4 ⟨A, n, rfl, hcap, hrd, hb⟩
      have I5 := Lib.hid (I4.out.below hb)
      have RD5 := Lib.hid hrd; have HCAP := Lib.hid hcap
      clear hb hrd hcap
      obtain ⟨R, hR⟩ : ∃ R, readP k (s.extract a0 s.size) = R := ⟨_, rfl⟩
      rw [hR] at HPR1 HRG HTK RD5 HCAP ⊢
      clear hR
      obtain ⟨l, z, x⟩ := R
      simp only at HPR1 HRG HTK RD5 HCAP ⊢
      go_wp2_with fail
      refine (fail_any _ a0 s 0 x _ I5.out.cur).mono ?_
      rintro ee w5 ⟨rfl, hc, hm⟩
      rw [if_pos rfl] at hc
      have RD6 := Lib.hid ((RD5.out.other I5.out.cur.1 (cur_no32 _ _ _) hm (Nat.le_refl _)).wider hm.size)
      have I6 := Lib.hid (I5.out.turn hc hm)
      clear hc hm
      go_wp2_with fail
      refine (take_any _ a0 s x (z : Int) _ I6.out.cur).mono ?_
      rintro ee w6 ⟨rfl, hc, hm⟩
      rw [HTK.out] at hc
      have RD7 := Lib.hid ((RD6.out.other I6.out.cur.1 (cur_no32 _ _ _) hm (Nat.le_refl _)).wider hm.size)
      have I7 := Lib.hid (I6.out.turn hc hm)
      clear hc hm
      have I8 := Lib.hid (ri_props I7.out RD7.out HCAP.out)
      have q24 := (I7.out.pk.cell 24).trans (pkC_24 _ _)
      have f24 := I7.out.pk.free 24
      have HPR : Hid (sbPr 5 k s = (l, a0 + z, x)) := HPR1
      have HLG : Hid (∀ q ∈ l, prGood q) := HRG
      obtain ⟨a1, ha1⟩ : ∃ a1, a0 + z = a1 := ⟨_, rfl⟩
      obtain ⟨e1, he1⟩ : ∃ e1, x = e1 := ⟨_, rfl⟩
      rw [ha1, he1] at HPR I8
      clear ha1 he1
      have HPG := Lib.hid (show ∀ q ∈ l, prGood q from HLG.out)
      go_wp2_with fail
      refine (sbList_any 5 (by first | exact HV.out | exact .inr rfl) k HK.out (w.heap.size + 1) w2.heap.size a1 s e1 (ackR1 k id 0 l) { hs0 with props := ⟨A, n⟩ } _ rfl I8.out.cur I8.out.pk (by have := HZ.out; omega) HS.out).mono ?_
      rintro ee wX ⟨rfl, F, C, fi, cd, a2, e2, hls, hL, hF, hC⟩
      have G0 := Lib.hid (SG.of_list I8.out hL hF hC)
      have HLS : Hid (sbLs 5 k s = (fi, cd, a2, e2)) := Lib.hid (by unfold sbLs; rw [HPR.out]; exact hls)
      have HFU : Hid (sbFull 5 k s = sbPk k m l fi cd) := Lib.hid (by unfold sbFull; rw [HLS.out, HPR.out, HM2.out])
      have HOK : Hid (PkOk (sbPk k m l fi cd)) := Lib.hid (by rw [← HFU.out]; exact sbFull_ok (by have := HS.out; omega))
      have HE2 : Hid (sbR 5 k s = if e2 ≠ 0 then (pk0, e2) else if sbE 5 (sbPk k m l fi cd) ≠ 0 then (pk0, sbE 5 (sbPk k m l fi cd)) else (sbPk k m l fi cd, 0)) := Lib.hid (by
        unfold sbR; rw [if_neg (by rw [HK.out]; decide), HLS.out, HFU.out])
      clear hls hL hF hC
      rw [HM.out] at G0
      have hl : (ldPk (.pointer (some ⟨w2.heap.size, 0, none⟩))).run Tryz.prog wX = .ok (pkV (sbPk k m l fi cd) { hs0 with props := ⟨A, n⟩, filters := F, codes := C }) wX := ld_bk G0.out.pk
      have HGI : Hid (PkIn wX wX.heap.size (sbPk k m l fi cd) { hs0 with props := ⟨A, n⟩, filters := F, codes := C }) := Lib.hid G0.out.into
      obtain ⟨P, hP⟩ : ∃ P, sbPk k m l fi cd = P := ⟨_, rfl⟩
      rw [hP] at hl HGI HOK HE2
      have HPE := Lib.hid hP
      clear hP
      go_wp2_with fail
      refine (sbValid_any 5 P _ _ HGI.out HOK.out).mono ?_
      rintro ee wV ⟨rfl, hb⟩
      have G1 := Lib.hid (G0.out.below hb); clear hb hl HGI
      go_wp2_with fail
      refine (fail_any _ a2 s e2 (sbE 5 P) _ G1.out.cur).mono ?_
      rintro ee wF ⟨rfl, hc, hm⟩
      have G2 := Lib.hid (G1.out.turn hc hm); clear hc hm
      have HW : Hid (((if e2 = 0 then sbE 5 P else e2) = 0 ∧ sbR 5 k s = (P, 0)) ∨ ((if e2 = 0 then sbE 5 P else e2) ≠ 0 ∧ sbR 5 k s = (pk0, (if e2 = 0 then sbE 5 P else e2)))) := Lib.hid (by
        rw [HE2.out]
        by_cases h2 : e2 = 0
        · rw [if_pos h2, if_neg (fun x => x h2)]
          by_cases h3 : sbE 5 P = 0
          · rw [if_neg (fun x => x h3)]; exact .inl ⟨h3, rfl⟩
          · rw [if_pos h3]; exact .inr ⟨h3, rfl⟩
        · rw [if_neg h2, if_pos h2]; exact .inr ⟨h2, rfl⟩)
      generalize (if e2 = 0 then sbE 5 P else e2) = E at *
      go_wp2_with fail
      refine (err_any _ a2 s E _ G2.out.cur).mono ?_
      rintro ee wH ⟨rfl, hwh⟩
      subst hwh
      have hl := ld_bk G2.out.pk
      have hst := run_stPk G2.out.res
      rcases HW.out with ⟨h2, hr⟩ | ⟨h2, hr⟩
      · subst h2
        have HR := Lib.hid hr; clear hr
        go_wp2
        refine bodyPost_ret (results_pk rfl _ rfl G2.out.some.2.1) rfl ?_
        exact pkOutC_ok (HR.out.trans (by rw [← HPE.out]; rfl)) G2.out.some.2.2 G2.out.some.1 G2.out.fresh
      · have e0 : (E != 0) = true := bne_iff_ne.2 h2
        have HR := Lib.hid hr; clear hr h2
        go_wp2
        refine bodyPost_ret (results_pk rfl _ rfl G2.out.none.2) rfl ?_
        exact pkOutC_bad HR.out G2.out.none.1

end Go.Proofs.YtpcleamaieaefaaGreatDoor

namespace Go.Proofs.YtpcleamaieaefaaGreatDoor
open Go.RowKit
attribute [local go_sem ↓] to_ldPk to_bxPk to_bdPk to_alPk to_stPk
attribute [local go_sem] run_bxPk run_bxPk_agg ld_fresh run_alPk run_bd0 run_bdK run_bdKI run_bdKIC run_bdKC run_bdKICP run_stPk_fresh pkC_0 pkC_1 pkC_2 pkC_3 pkC_4 pkC_5 pkC_6 pkC_7 pkC_8 pkC_9 pkC_10 pkC_11 pkC_12 pkC_13 pkC_14 pkC_15 pkC_16 pkC_17 pkC_18 pkC_19 pkC_20 pkC_21 pkC_22 pkC_23 pkC_24
theorem sbR_ok {v k : Int} {s : ByteArray} (hs : s.size ≤ 140737488351000) : PkOk (sbR v k s).1 := by
  have h0 : PkOk pk0 := pkOk_R1 (k := 0) (i := 0) (c := 0) (l := []) (by simp) (by simp)
  unfold sbR
  split
  · exact h0
  · split
    · exact h0
    · split
      · exact h0
      · exact sbFull_ok hs
end Go.Proofs.YtpcleamaieaefaaGreatDoor

namespace Go.Proofs.YtpcleamaieaefaaGreatDoor
open Go.RowKit

/-- A body, by its kind's chapter. -/
def chB (v : Int) (p : Pk) : ByteArray × Int :=
  if p.kind ≤ 2 then cntB v p
  else if p.kind = 3 then pubB v p
  else if p.kind ≤ 7 then (⟨(ackB v p).1.toArray⟩, (ackB v p).2)
  else if p.kind ≤ 11 then sbB v p
  else (⟨(conB v p).1.toArray⟩, (conB v p).2)
def chE (v : Int) (p : Pk) : Int :=
  if p.kind ≤ 2 then cntE v p
  else if p.kind = 3 then pubE v p
  else if p.kind ≤ 7 then ackE v p
  else if p.kind ≤ 11 then sbE v p
  else conE v p
/-- A body read, by its kind's chapter. -/
def chR (v : Int) (h : Hdr) (s : ByteArray) : Pk × Int :=
  if h.k ≤ 2 then cntR v h.k s
  else if h.k = 3 then pubR v h.f s
  else if h.k ≤ 7 then ackR v h.k s
  else if h.k ≤ 11 then sbR v h.k s
  else conR v h.k s
def mqE (v : Int) (p : Pk) : Int :=
  if hdKnown v = false then 2
  else if hdKinds v p.kind = false then 8
  else if chE v p ≠ 0 then chE v p
  else if 268435455 < (chB v p).1.size then 4 else 0
def mqF (p : Pk) : Int := if p.kind = 3 then flagsP p else hdFixed p.kind
def mqS (v : Int) (p : Pk) : ByteArray := ⟨(hdS p.kind (mqF p) (chB v p).1.size).toArray⟩ ++ (chB v p).1
def mqR (v : Int) (s : ByteArray) : Pk × Nat × Int :=
  if (hdR v s).2.2 ≠ 0 then (pk0, 0, (hdR v s).2.2)
  else if s.size < (hdR v s).2.1 + (hdR v s).1.n then (pk0, 0, 3)
  else if (chR v (hdR v s).1 (s.extract (hdR v s).2.1 ((hdR v s).2.1 + (hdR v s).1.n))).2 = 0 then ((chR v (hdR v s).1 (s.extract (hdR v s).2.1 ((hdR v s).2.1 + (hdR v s).1.n))).1, (hdR v s).2.1 + (hdR v s).1.n, 0)
  else (pk0, 0, if (chR v (hdR v s).1 (s.extract (hdR v s).2.1 ((hdR v s).2.1 + (hdR v s).1.n))).2 = 3 then 5 else (chR v (hdR v s).1 (s.extract (hdR v s).2.1 ((hdR v s).2.1 + (hdR v s).1.n))).2)
theorem mqE_of {v : Int} {p : Pk} (h1 : hdKnown v = true) (h2 : hdKinds v p.kind = true) (h3 : chE v p = 0) (h4 : (chB v p).1.size ≤ 268435455) : mqE v p = 0 := by
  unfold mqE
  rw [if_neg (by rw [h1]; decide), if_neg (by rw [h2]; decide), if_neg (by rw [h3]; decide), if_neg (by omega)]
theorem ch_back {v : Int} {x : Hdr} {s : ByteArray} {q : Pk} (hc : hdChk v x.k x.f = 0) (h : chR v x s = (q, 0)) : chE v q = 0 ∧ (chB v q).1 = s ∧ q.kind = x.k ∧ mqF q = x.f := by
  obtain ⟨-, -, hf⟩ := hdChk_ok.1 hc
  have hfix : x.k ≠ 3 → x.f = hdFixed x.k := fun hk => by
    unfold hdFlagged at hf
    rw [if_neg hk] at hf
    exact of_decide_eq_true hf
  unfold chR at h
  split at h
  · rename_i h1
    obtain ⟨a, b, c⟩ := cntR_back h
    have k1 : q.kind ≤ 2 := by rw [c]; exact h1
    have k2 : ¬ q.kind = 3 := by omega
    simp only [chE, chB, mqF, if_pos k1, if_neg k2]
    exact ⟨a, by rw [b], c, by rw [c]; exact (hfix (by omega)).symm⟩
  rename_i h1
  split at h
  · rename_i h2
    obtain ⟨a, b, c⟩ := pubR_back h
    have k2 := (pubE_good a).kind
    have k1 : ¬ q.kind ≤ 2 := by omega
    simp only [chE, chB, mqF, pubB, if_pos k2, if_neg k1, if_pos a]
    exact ⟨a, b, by rw [k2, h2], c⟩
  rename_i h2
  split at h
  · rename_i h3
    rcases ackR_ways v x.k s with ⟨a, b⟩ | ⟨a, b, c, d⟩
    · rw [h] at b; exact absurd rfl b
    · rw [h] at b c d
      dsimp only at b c d
      have k1 : ¬ q.kind ≤ 2 := by omega
      have k2 : ¬ q.kind = 3 := by omega
      have k3 : q.kind ≤ 7 := by omega
      simp only [chE, chB, mqF, ackB, if_neg k2, if_neg k1, if_pos k3, if_pos b.ok]
      exact ⟨b.ok, by rw [d, mk_ls], c, by rw [c]; exact (hfix h2).symm⟩
  rename_i h3
  split at h
  · rename_i h4
    obtain ⟨a, b, c⟩ := sbR_back h
    have k1 : ¬ q.kind ≤ 2 := by omega
    have k2 : ¬ q.kind = 3 := by omega
    have k3 : ¬ q.kind ≤ 7 := by omega
    have k4 : q.kind ≤ 11 := by omega
    simp only [chE, chB, mqF, sbB, if_neg k2, if_neg k1, if_neg k3, if_pos k4, if_pos a]
    exact ⟨a, by rw [b, mk_ls], c, by rw [c]; exact (hfix h2).symm⟩
  rename_i h4
  rcases conR_ways v x.k s with ⟨a, b⟩ | ⟨a, b, c, d⟩
  · rw [h] at b; exact absurd rfl b
  · rw [h] at b c d
    dsimp only at b c d
    have k1 : ¬ q.kind ≤ 2 := by omega
    have k2 : ¬ q.kind = 3 := by omega
    have k3 : ¬ q.kind ≤ 7 := by omega
    have k4 : ¬ q.kind ≤ 11 := by omega
    simp only [chE, chB, mqF, conB, if_neg k2, if_neg k1, if_neg k3, if_neg k4, if_pos b.ok]
    exact ⟨b.ok, by rw [d, mk_ls], c, by rw [c]; exact (hfix h2).symm⟩
theorem chR_ok {v : Int} {x : Hdr} {s : ByteArray} (hs : s.size ≤ 1000000000000) : PkOk (chR v x s).1 := by
  unfold chR
  split
  · exact cntR_ok (by omega)
  split
  · exact pubR_pk (by omega)
  split
  · exact ackR_ok (by omega)
  split
  · exact sbR_ok (by omega)
  exact conR_ok (by omega)

theorem mqS_ls (v : Int) (p : Pk) : ls (mqS v p) = hdS p.kind (mqF p) (chB v p).1.size ++ ls (chB v p).1 := by
  unfold mqS
  rw [ls_app, ls_mk]
theorem mqS_size (v : Int) (p : Pk) : (mqS v p).size = (hdS p.kind (mqF p) (chB v p).1.size).length + (chB v p).1.size := by
  rw [← ls_len, mqS_ls, List.length_append, ls_len]
theorem mqS_two (v : Int) (p : Pk) : 2 ≤ (mqS v p).size := by
  rw [mqS_size]
  have := hdS_two p.kind (mqF p) (chB v p).1.size
  omega
theorem mqR_back {v : Int} {s : ByteArray} {q : Pk} {n : Nat} (h : mqR v s = (q, n, 0)) : mqE v q = 0 ∧ mqS v q = s.extract 0 n ∧ n ≤ s.size ∧ n = (mqS v q).size := by
  unfold mqR at h
  split at h
  · rename_i h1
    simp only [Prod.mk.injEq] at h
    exact absurd h.2.2 h1
  rename_i h1
  split at h
  · simp at h
  rename_i h2
  split at h
  · rename_i h3
    simp only [Prod.mk.injEq] at h
    obtain ⟨rfl, rfl, -⟩ := h
    obtain ⟨b1, b2, b3, b4, b5⟩ := hdR_back (v := v) (s := s) (h := (hdR v s).1) (a := (hdR v s).2.1) (by rw [← Classical.not_not.1 h1])
    generalize hdR v s = r at *
    obtain ⟨c1, c2, c3, c4⟩ := ch_back (q := (chR v r.1 (s.extract r.2.1 (r.2.1 + r.1.n))).1) b1 (by rw [← h3])
    generalize (chR v r.1 (s.extract r.2.1 (r.2.1 + r.1.n))).1 = q at *
    obtain ⟨k1, k2, -⟩ := hdChk_ok.1 b1
    have hsz : (chB v q).1.size = r.1.n := by
      rw [c2, ByteArray.size_extract]
      omega
    have hS : mqS v q = s.extract 0 (r.2.1 + r.1.n) := by
      apply ls_ext
      rw [mqS_ls, c3, c4, hsz, c2, extract_ls]
      have : ls (s.extract 0 (r.2.1 + r.1.n)) = (ls s).take (r.2.1 + r.1.n) := by
        have := extract_ls s 0 (r.2.1 + r.1.n)
        rwa [Nat.zero_add, List.drop_zero] at this
      rw [this]
      generalize ls s = X at *
      rw [b4] at b3 ⊢
      generalize hdS r.1.k r.1.f r.1.n = Y at *
      rw [b3, List.take_append, List.take_of_length_le (Nat.le_add_right _ _), Nat.add_sub_cancel_left, List.drop_left]
    refine ⟨mqE_of k1 (by rw [c3]; exact k2) c1 (by omega), hS, by omega, ?_⟩
    rw [hS, ByteArray.size_extract]
    omega
  · rename_i h3
    simp only [Prod.mk.injEq] at h
    obtain ⟨-, -, h4⟩ := h
    split at h4
    · cases h4
    · exact absurd h4 h3
theorem mqR_okP {v : Int} {s : ByteArray} (hs : s.size ≤ 1000000000000) : PkOk (mqR v s).1 := by
  have hz : PkOk pk0 := PkOk.zero 0 0 0
  unfold mqR
  split
  · exact hz
  split
  · exact hz
  split
  · refine chR_ok ?_
    rw [ByteArray.size_extract]
    omega
  · exact hz
theorem mqR_step {v : Int} {s : ByteArray} (h : (mqR v s).2.2 = 0) : 2 ≤ (mqR v s).2.1 ∧ (mqR v s).2.1 ≤ s.size := by
  obtain ⟨a, b, c, d⟩ := mqR_back (q := (mqR v s).1) (n := (mqR v s).2.1) (by rw [← h])
  have := mqS_two v (mqR v s).1
  omega

theorem drop_ls (s : ByteArray) (a : Nat) : ls (s.extract a s.size) = (ls s).drop a := by
  unfold ls
  rw [Lib.extract_data, List.take_of_length_le]
  rw [List.length_drop]
  exact Nat.le_refl _
end Go.Proofs.YtpcleamaieaefaaGreatDoor

namespace Go.Proofs.YtpcleamaieaefaaGreatDoor
open Go.RowKit

theorem varL_pos (n : Nat) : 0 < (varL n).length := by
  unfold varL varF
  split <;> simp
set_option maxHeartbeats 1000000 in
set_option maxRecDepth 10000 in
theorem varSize_any (n : Nat) (w : World) (hn : n ≤ 268435455) : Calls Tryz.prog 164 #[.int .i64 n] w fun e w' => e = .returned (.int .i64 (varL n).length) ∧ Below w.heap.size w w' := by
  have hm : Hid (mayV n = true) := by show _ = _; simp [mayV]; omega
  have HB := Lib.hid (Below.refl w.heap.size w)
  go_enter Tryz.func164, Tryz.ntmps164
  go_wp2_with fail
  refine (mayV_any n _).mono ?_
  rintro e w1 ⟨rfl, rfl⟩
  rw [hm.out]
  go_wp2
  go_loopw [0, 3] (fun v o wr => ∃ (m f j : Nat), f ≤ 3 ∧ m < 128 ^ (f + 1) ∧ j + f = 4 ∧ v = .int .i64 m ∧ o = .int .i64 j ∧ (varL n).length + 1 = j + (varF f m).length ∧ Below w.heap.size w wr) (fun v _ _ => (intOf v).toNat)
  case atStart => exact ⟨n, 3, 1, by omega, by simp; omega, by omega, rfl, rfl, by show _ = 1 + (varL n).length; omega, HB.out⟩
  case round =>
    obtain ⟨m, f, j, hf, hmf, hj, rfl, rfl, hv, hbel⟩ := hrel
    have HV := Lib.hid hv; have HBE := Lib.hid hbel; have HMF := Lib.hid hmf; have HJ := Lib.hid hj
    have hj4 : j ≤ 4 := by omega
    have hm2 : m < 268435456 := by
      have : 128 ^ (f + 1) ≤ 128 ^ 4 := Nat.pow_le_pow_right (by omega) (by omega)
      have h4 : (128 : Nat) ^ 4 = 268435456 := by decide
      omega
    clear hv hbel hmf hj hm
    by_cases hge : 128 ≤ m
    · have hge' : (128 : Int) ≤ (m : Int) := by omega
      have HR : Hid (∃ f', f = f' + 1 ∧ m / 128 < 128 ^ (f' + 1) ∧ (varF f m).length = 1 + (varF f' (m / 128)).length) := Lib.hid (by
        have h1 := HMF.out
        rcases Nat.eq_zero_or_pos f with rfl | h
        · simp at h1; omega
        · obtain ⟨f', rfl⟩ : ∃ f', f = f' + 1 := ⟨f - 1, by omega⟩
          refine ⟨f', rfl, ?_, ?_⟩
          · rw [Nat.pow_succ] at h1
            exact Nat.div_lt_of_lt_mul (by rw [Nat.mul_comm]; exact h1)
          · rw [varF, if_neg (by omega), List.length_cons, Nat.add_comm])
      go_wp2
      go_roundw
      case rel =>
        obtain ⟨f', h0, h1, h2⟩ := HR.out
        exact ⟨m / 128, f', j + 1, by omega, h1, by have := HJ.out; omega, by simp, by simp, by rw [HV.out, h2]; omega, HBE.out⟩
      case measure => simp [intOf]; omega
    · have hlt : (m : Int) < 128 := by omega
      have HF : Hid ((varL n).length = j) := Lib.hid (by
        have : (varF f m).length = 1 := by
          cases f with
          | zero => rfl
          | succ f => rw [varF, if_pos (by omega)]; rfl
        have := HV.out
        omega)
      go_wp2
      go_ret
      exact ⟨by rw [HF.out]; rfl, HBE.out⟩

set_option maxHeartbeats 400000 in
set_option maxRecDepth 10000 in
theorem hdFlagged_any (k f : Int) (w : World) : Calls Tryz.prog 163 #[.int .i64 k, .int .i64 f] w fun e w' => e = .returned (.bool (hdFlagged k f)) ∧ w = w' := by
  by_cases h3 : k = 3
  · subst h3
    rw [show hdFlagged 3 f = hdFlag3 f from if_pos rfl]
    exact hdFlag3_any f w
  · have HE : Hid (hdFlagged k f = decide (f = hdFixed k)) := Lib.hid (if_neg h3)
    have e3 : (k != 3) = true := bne_iff_ne.2 h3
    clear h3
    go_enter Tryz.func163, Tryz.ntmps163
    go_wp2_with fail
    refine (hdFixed_any k _).mono ?_
    rintro e w1 ⟨rfl, rfl⟩
    go_wp2
    go_ret
    refine ⟨ret_bool ?_, rfl⟩
    rw [HE.out]
    by_cases e : f = hdFixed k <;> simp [e]

set_option maxHeartbeats 1000000 in
set_option maxRecDepth 10000 in
theorem hdCheck_any (v k f : Int) (n : Nat) (w : World) (hn : n ≤ 268435455) : Calls Tryz.prog 117 #[.int .i64 v, hdrV ⟨k, f, n⟩] w fun e w' => e = .returned (.int .i64 (hdChk v k f)) ∧ Below w.heap.size w w' := by
  have HE : Hid (hdChk v k f = if hdKnown v = false then 2 else if hdKinds v k = false then 8 else if hdFlagged k f = false then 7 else 0) := Lib.hid rfl
  have HB := Lib.hid ((Below.refl w.heap.size w).alloc (Nat.le_refl _) (.cells #[.int .i64 k, .int .i64 f, .int .i64 n] 107))
  have HN := Lib.hid hn
  have HP : Hid (0 < (varL n).length) := Lib.hid (varL_pos n)
  clear hn
  show Calls _ _ #[.int .i64 v, .agg #[.int .i64 k, .int .i64 f, .int .i64 n]] _ _
  go_enter Tryz.func117, Tryz.ntmps117
  go_wp2_with fail
  refine (hdKnown_any v _).mono ?_
  rintro e w1 ⟨rfl, rfl⟩
  cases hk : hdKnown v
  · have HX : Hid (hdChk v k f = 2) := Lib.hid (by rw [HE.out, if_pos hk])
    clear hk
    go_wp2
    go_ret
    exact ⟨by rw [HX.out]; rfl, HB.out⟩
  have HE1 : Hid (hdChk v k f = if hdKinds v k = false then 8 else if hdFlagged k f = false then 7 else 0) := Lib.hid (by rw [HE.out, if_neg (fun x => by rw [hk] at x; cases x)])
  clear hk HE
  have k1 : (w.alloc (.cells #[.int .i64 k, .int .i64 f, .int .i64 n] 107)).cell? ⟨w.heap.size, 0, none⟩ = some (.int .i64 k) := (Bk.fresh w 107 _).cell 0
  have k2 : (w.alloc (.cells #[.int .i64 k, .int .i64 f, .int .i64 n] 107)).cell? ⟨w.heap.size, 1, none⟩ = some (.int .i64 f) := (Bk.fresh w 107 _).cell 1
  have k3 : (w.alloc (.cells #[.int .i64 k, .int .i64 f, .int .i64 n] 107)).cell? ⟨w.heap.size, 2, none⟩ = some (.int .i64 n) := (Bk.fresh w 107 _).cell 2
  go_wp2_with fail
  refine (hdKinds_any v k _).mono ?_
  rintro e w1 ⟨rfl, rfl⟩
  cases hk : hdKinds v k
  · have HX : Hid (hdChk v k f = 8) := Lib.hid (by rw [HE1.out, if_pos hk])
    clear hk
    go_wp2
    go_ret
    exact ⟨by rw [HX.out]; rfl, HB.out⟩
  have HE2 : Hid (hdChk v k f = if hdFlagged k f = false then 7 else 0) := Lib.hid (by rw [HE1.out, if_neg (fun x => by rw [hk] at x; cases x)])
  clear hk HE1
  go_wp2_with fail
  refine (hdFlagged_any k f _).mono ?_
  rintro e w1 ⟨rfl, rfl⟩
  cases hk : hdFlagged k f
  · have HX : Hid (hdChk v k f = 7) := Lib.hid (by rw [HE2.out, if_pos hk])
    clear hk
    go_wp2
    go_ret
    exact ⟨by rw [HX.out]; rfl, HB.out⟩
  have HX : Hid (hdChk v k f = 0) := Lib.hid (by rw [HE2.out, if_neg (fun x => by rw [hk] at x; cases x)])
  clear hk HE2
  go_wp2_with fail
  refine (varSize_any n _ HN.out).mono ?_
  rintro e w1 ⟨rfl, hb⟩
  have HB2 := Lib.hid (HB.out.trans (hb.mono HB.out.size)); clear hb
  obtain ⟨m, hm⟩ : ∃ m, (varL n).length = m := ⟨_, rfl⟩
  have hp := HP.out
  rw [hm] at hp ⊢
  have e0 : ((m : Int) == 0) = false := beq_eq_false_iff_ne.2 (by omega)
  clear hm HP hp
  go_wp2
  go_ret
  exact ⟨by rw [HX.out]; rfl, HB2.out⟩
theorem results_cell2 {fn : Func} {p u u' : Tmp} {ty : TypeId} (h : fn.results = #[.cell p ty, .tmp u, .tmp u']) (tmps : Array Value) (P : Program) (w : World) :
    (results fn tmps).run P w = ((asAddr (tmps.getD p undef)).run P w).andThen fun a w₁ => ((loadVar ty a).run P w₁).andThen fun v w₂ => .ok (.tuple #[v, tmps.getD u undef, tmps.getD u' undef]) w₂ := by
  simp only [results, h]
  simp [Sem.run_bind, Result.andThen]
theorem lv_hd {w : World} {g : Nat} {k f n : Int} (hb : Bk w g 107 #[.int .i64 k, .int .i64 f, .int .i64 n]) : (loadVar 107 ⟨g, 0, none⟩).run Tryz.prog w = .ok (.agg #[.int .i64 k, .int .i64 f, .int .i64 n]) w :=
  run_loadVar_row w g 107 107 _ (0, 0) _ hb Tryz.underlying107 rfl (by kernel_rfl)
theorem results_hd {fn : Func} {p u u' : Tmp} (hr : fn.results = #[.cell p 107, .tmp u, .tmp u']) (tmps : Array Value) {w : World} {g : Nat} {k f n : Int} (hp : tmps.getD p undef = .pointer (some ⟨g, 0, none⟩)) (hb : Bk w g 107 #[.int .i64 k, .int .i64 f, .int .i64 n]) :
    (results fn tmps).run Tryz.prog w = .ok (.tuple #[.agg #[.int .i64 k, .int .i64 f, .int .i64 n], tmps.getD u undef, tmps.getD u' undef]) w := by
  rw [results_cell2 hr, hp]
  exact then_ok _ (⟨g, 0, none⟩ : Addr) w _ rfl |>.trans (then_ok _ _ w _ (lv_hd hb))
theorem low4 (b : UInt8) : bits BinOp.and IntKind.u8 (b.toNat : Int) 15 = ((b.toNat % 16 : Nat) : Int) := by
  have h := u8_and b 15
  rw [show ((15 : UInt8).toNat : Int) = 15 from rfl] at h
  rw [h, UInt8.toNat_and, show (15 : UInt8).toNat = 2 ^ 4 - 1 from rfl, Nat.and_two_pow_sub_one_eq_mod]
set_option maxHeartbeats 1000000 in
set_option maxRecDepth 10000 in
theorem hdRead_any (v : Int) (s : ByteArray) (w : World) (hs : s.size ≤ 4611686018427387904) : Calls Tryz.prog 79 #[.int .i64 v, .string s] w fun e w' => e = .returned (.tuple #[hdrV (hdR v s).1, .int .i64 ((hdR v s).2.1 : Nat), .int .i64 (hdR v s).2.2]) ∧ Below w.heap.size w w' := by
  have HE : Hid (hdR v s = if hdKnown v = false then (hdr0, 0, 2)
    else if s.size = 0 then (hdr0, 0, 3)
    else if hdChk v (hdByte s / 16 : Nat) (hdByte s % 16 : Nat) ≠ 0 then (hdr0, 0, hdChk v (hdByte s / 16 : Nat) (hdByte s % 16 : Nat))
    else if (readV (ls (s.extract 1 s.size))).2.2 ≠ 0 then (hdr0, 0, (readV (ls (s.extract 1 s.size))).2.2)
    else (⟨(hdByte s / 16 : Nat), (hdByte s % 16 : Nat), (readV (ls (s.extract 1 s.size))).1⟩, (readV (ls (s.extract 1 s.size))).2.1 + 1, 0)) := Lib.hid rfl
  have HB := Lib.hid ((Below.refl w.heap.size w).alloc (Nat.le_refl _) (.cells #[.int .i64 0, .int .i64 0, .int .i64 0] 107))
  have HK := Lib.hid (Bk.fresh w 107 #[.int .i64 0, .int .i64 0, .int .i64 0])
  have HS := Lib.hid hs
  clear hs
  go_enter Tryz.func79, Tryz.ntmps79
  go_wp2_with fail
  refine (hdKnown_any v _).mono ?_
  rintro e w1 ⟨rfl, rfl⟩
  cases hk : hdKnown v
  · have HX : Hid (hdR v s = (hdr0, 0, 2)) := Lib.hid (by rw [HE.out, if_pos hk])
    clear hk
    go_wp2
    refine bodyPost_ret (results_hd rfl _ rfl HK.out) rfl ?_
    exact ⟨by rw [HX.out]; rfl, HB.out⟩
  by_cases h0 : s.size = 0
  · have HX : Hid (hdR v s = (hdr0, 0, 3)) := Lib.hid (by rw [HE.out, if_neg (fun x => by rw [hk] at x; cases x), if_pos h0])
    have em := emptyB_iff s
    rw [decide_eq_true h0] at em
    clear hk h0
    go_wp2
    refine bodyPost_ret (results_hd rfl _ rfl HK.out) rfl ?_
    exact ⟨by rw [HX.out]; rfl, HB.out⟩
  have hpos0 : 0 < s.size := by omega
  obtain ⟨b, hb⟩ : ∃ b, s[0]'hpos0 = b := ⟨_, rfl⟩
  have HBY : Hid (hdByte s = b.toNat) := Lib.hid (by
    unfold hdByte
    rw [List.headD_eq_head?_getD, List.head?_eq_getElem?, List.getElem?_eq_getElem (by rw [ls_len]; omega), ls_at s 0 (by omega), hb]
    rfl)
  have HE1 : Hid (hdR v s = if hdChk v (hdByte s / 16 : Nat) (hdByte s % 16 : Nat) ≠ 0 then (hdr0, 0, hdChk v (hdByte s / 16 : Nat) (hdByte s % 16 : Nat))
    else if (readV (ls (s.extract 1 s.size))).2.2 ≠ 0 then (hdr0, 0, (readV (ls (s.extract 1 s.size))).2.2)
    else (⟨(hdByte s / 16 : Nat), (hdByte s % 16 : Nat), (readV (ls (s.extract 1 s.size))).1⟩, (readV (ls (s.extract 1 s.size))).2.1 + 1, 0)) := Lib.hid (by rw [HE.out, if_neg (fun x => by rw [hk] at x; cases x), if_neg h0])
  have hpos : (0 : Int) < (s.size : Int) := by omega
  have em := emptyB_iff s
  rw [decide_eq_false h0] at em
  have hlo := low4 b
  have hb8 := b.toNat_lt
  have HPOS : Hid (1 ≤ s.size) := Lib.hid (by omega)
  clear hk HE h0
  go_wp2_with fail
  go_region
  have HX0 : Hid (∃ kn fn : Nat, b.toNat / 16 = kn ∧ b.toNat % 16 = fn) := Lib.hid ⟨_, _, rfl, rfl⟩
  obtain ⟨kn, fn, hkn, hfn⟩ := HX0.out
  rw [show ((b.toNat : Int) / 16) = (kn : Int) by omega, show ((b.toNat : Int) % 16) = (fn : Int) by omega]
  have HE2 : Hid (hdR v s = if hdChk v kn fn ≠ 0 then (hdr0, 0, hdChk v kn fn)
    else if (readV (ls (s.extract 1 s.size))).2.2 ≠ 0 then (hdr0, 0, (readV (ls (s.extract 1 s.size))).2.2)
    else (⟨kn, fn, (readV (ls (s.extract 1 s.size))).1⟩, (readV (ls (s.extract 1 s.size))).2.1 + 1, 0)) := Lib.hid (by rw [HE1.out, HBY.out, hkn, hfn])
  have HB1 := Lib.hid (below_drawn ((Below.refl w.heap.size w).alloc (Nat.le_refl _) (.cells #[.int .i64 kn, .int .i64 fn, .int .i64 0] 107)) 1)
  have HK1 := Lib.hid ((Bk.fresh w 107 #[.int .i64 kn, .int .i64 fn, .int .i64 0]).drewN 1)
  have HCK := Lib.hid (fun W => hdCheck_any v kn fn 0 W (by omega))
  simp only [hdrV] at HCK
  clear HX0 HE1 HBY hkn hfn hlo hb hb8 HK HB em
  have c0 := HK1.out.cell 0; have c1 := HK1.out.cell 1; have c2 := HK1.out.cell 2
  simp only [List.getElem?_toArray, List.getElem?_cons_succ, List.getElem?_cons_zero] at c0 c1 c2
  go_wp2_with fail
  refine (HCK.out _).mono ?_
  rintro e w1 ⟨rfl, hb⟩
  have HB2 := Lib.hid (HB1.out.trans (hb.mono HB1.out.size))
  have HK2 := Lib.hid (HK1.out.below hb HK1.out.lt)
  clear hb c0 c1 c2 HCK HK1 HB1
  by_cases hc : hdChk v kn fn = 0
  rotate_left
  · have HX : Hid (hdR v s = (hdr0, 0, hdChk v kn fn)) := Lib.hid (by rw [HE2.out, if_pos hc])
    generalize hdChk v kn fn = x at *
    have e0 : (x != 0) = true := bne_iff_ne.2 hc
    clear hc HE2
    have c0 := HK2.out.cell 0; have c1 := HK2.out.cell 1; have c2 := HK2.out.cell 2
    have f0 := HK2.out.free 0; have f1 := HK2.out.free 1; have f2 := HK2.out.free 2
    simp only [List.getElem?_toArray, List.getElem?_cons_succ, List.getElem?_cons_zero] at c0 c1 c2
    go_wp2
    refine bodyPost_ret (results_hd rfl _ rfl (((HK2.out.put 0 (.int .i64 0)).put 1 (.int .i64 0)).put 2 (.int .i64 0))) rfl ?_
    exact ⟨by rw [HX.out]; rfl, ((HB2.out.setCell (Nat.le_refl _) _).setCell (Nat.le_refl _) _).setCell (Nat.le_refl _) _⟩
  rw [hc]
  have HE3 : Hid (hdR v s = if (readV (ls (s.extract 1 s.size))).2.2 ≠ 0 then (hdr0, 0, (readV (ls (s.extract 1 s.size))).2.2)
    else (⟨kn, fn, (readV (ls (s.extract 1 s.size))).1⟩, (readV (ls (s.extract 1 s.size))).2.1 + 1, 0)) := Lib.hid (by rw [HE2.out, if_neg (fun x => x hc)])
  clear hc HE2
  have v1 : (0 : Int) ≤ 1 := by decide
  have v2 : (1 : Int) ≤ (s.size : Int) := by have := HPOS.out; omega
  have HRV := Lib.hid (fun W => readV_any (s.extract 1 s.size) W (by rw [ByteArray.size_extract]; have := HS.out; omega))
  have HLT := Lib.hid (readV_size (ls (s.extract 1 s.size)))
  rw [ls_len, ByteArray.size_extract] at HLT
  go_wp2_with fail
  refine (HRV.out _).mono ?_
  rintro e w2 ⟨rfl, hb⟩
  have HB3 := Lib.hid (HB2.out.trans (hb.mono HB2.out.size))
  have HK3 := Lib.hid (HK2.out.below hb HK2.out.lt)
  clear hb HRV HK2 HB2
  obtain ⟨⟨rn, ra, re⟩, hr⟩ : ∃ r, readV (ls (s.extract 1 s.size)) = r := ⟨_, rfl⟩
  rw [hr] at HE3 HLT ⊢
  dsimp only at HLT ⊢
  clear hr
  have c0 := HK3.out.cell 0; have c1 := HK3.out.cell 1; have c2 := HK3.out.cell 2
  have f0 := HK3.out.free 0; have f1 := HK3.out.free 1; have f2 := HK3.out.free 2
  simp only [List.getElem?_toArray, List.getElem?_cons_succ, List.getElem?_cons_zero] at c0 c1 c2
  by_cases hz : re = 0
  · have HX : Hid (hdR v s = (⟨kn, fn, rn⟩, ra + 1, 0)) := Lib.hid (by rw [HE3.out, if_neg (fun x => x hz)])
    subst hz
    have hra : (ra : Int) < 9223372036854775806 := by have := HLT.out; have := HS.out; omega
    clear HE3
    go_wp2
    refine bodyPost_ret (results_hd rfl _ rfl ((((HK3.out.put 2 (.int .i64 rn)).put 0 (.int .i64 kn)).put 1 (.int .i64 fn)).put 2 (.int .i64 rn))) rfl ?_
    exact ⟨by rw [HX.out]; rfl, (((HB3.out.setCell (Nat.le_refl _) _).setCell (Nat.le_refl _) _).setCell (Nat.le_refl _) _).setCell (Nat.le_refl _) _⟩
  · have HX : Hid (hdR v s = (hdr0, 0, re)) := Lib.hid (by rw [HE3.out, if_pos hz])
    have e0 : (re != 0) = true := bne_iff_ne.2 hz
    clear HE3 hz
    go_wp2
    refine bodyPost_ret (results_hd rfl _ rfl ((((HK3.out.put 2 (.int .i64 rn)).put 0 (.int .i64 0)).put 1 (.int .i64 0)).put 2 (.int .i64 0))) rfl ?_
    exact ⟨by rw [HX.out]; rfl, (((HB3.out.setCell (Nat.le_refl _) _).setCell (Nat.le_refl _) _).setCell (Nat.le_refl _) _).setCell (Nat.le_refl _) _⟩
end Go.Proofs.YtpcleamaieaefaaGreatDoor

namespace Go.Proofs.YtpcleamaieaefaaGreatDoor
open Go.RowKit

def fnB (f : FuncId) : Value := .func (.func f) #[.agg #[]] #[]
def sayTab : List (Int × Value) := [(12, fnB 303), (13, fnB 303), (14, fnB 304), (15, fnB 304)]
set_option maxHeartbeats 400000 in
set_option maxRecDepth 10000 in
theorem nothing_any (v : Int) (w : World) : Calls Tryz.prog 303 #[.agg #[], .int .i64 v] w fun e w' => e = .returned (.bool false) ∧ Below w.heap.size w w' := by
  go_enter Tryz.func303, Tryz.ntmps303
  go_wp2
  go_ret
  exact ⟨rfl, (Below.refl _ _).alloc (Nat.le_refl _) _⟩
set_option maxHeartbeats 400000 in
set_option maxRecDepth 10000 in
theorem late_any (v : Int) (w : World) : Calls Tryz.prog 304 #[.agg #[], .int .i64 v] w fun e w' => e = .returned (.bool (v == 5)) ∧ Below w.heap.size w w' := by
  go_enter Tryz.func304, Tryz.ntmps304
  go_wp2
  go_ret
  exact ⟨rfl, (Below.refl _ _).alloc (Nat.le_refl _) _⟩
theorem enter_nothing (args : Array Value) (w : World) : (callFunc 303 args).run Tryz.prog w = .ok (.enter 303 args) w := run_enter Tryz.func303 (by kernel_rfl) rfl args w
theorem enter_late (args : Array Value) (w : World) : (callFunc 304 args).run Tryz.prog w = .ok (.enter 304 args) w := run_enter Tryz.func304 (by kernel_rfl) rfl args w
theorem look_say (k : Int) : (k = 12 ∧ lookI sayTab k = some (fnB 303)) ∨ (k = 13 ∧ lookI sayTab k = some (fnB 303)) ∨ (k = 14 ∧ lookI sayTab k = some (fnB 304)) ∨ (k = 15 ∧ lookI sayTab k = some (fnB 304)) ∨
    (¬ (12 ≤ k ∧ k ≤ 15) ∧ lookI sayTab k = none) := by
  by_cases h1 : k = 12
  · subst h1; exact .inl ⟨rfl, rfl⟩
  by_cases h2 : k = 13
  · subst h2; exact .inr (.inl ⟨rfl, rfl⟩)
  by_cases h3 : k = 14
  · subst h3; exact .inr (.inr (.inl ⟨rfl, rfl⟩))
  by_cases h4 : k = 15
  · subst h4; exact .inr (.inr (.inr (.inl ⟨rfl, rfl⟩)))
  refine .inr (.inr (.inr (.inr ⟨by omega, ?_⟩)))
  have e1 : ((12 : Int) == k) = false := beq_eq_false_iff_ne.2 (by omega)
  have e2 : ((13 : Int) == k) = false := beq_eq_false_iff_ne.2 (by omega)
  have e3 : ((14 : Int) == k) = false := beq_eq_false_iff_ne.2 (by omega)
  have e4 : ((15 : Int) == k) = false := beq_eq_false_iff_ne.2 (by omega)
  simp [lookI, sayTab, List.find?, e1, e2, e3, e4]

set_option maxHeartbeats 1000000 in
set_option maxRecDepth 10000 in
theorem says_any (v k : Int) (w : World) : Calls Tryz.prog 256 #[.int .i64 v, .int .i64 k] w fun e w' => e = .returned (.tuple #[.bool (conMay v k), .bool (conIs k)]) ∧ Below w.heap.size w w' := by
  have hmm := @run_makeMap Tryz.prog
  have B0 := (Below.refl w.heap.size w).alloc (Nat.le_refl _) (.cells #[] 245)
  have HT := Lib.hid (IMap.made (w.alloc (.cells #[] 245)) .i64)
  have HB := Lib.hid (B0.alloc B0.size (.map #[] 0))
  clear B0
  rw [show (w.alloc (.cells #[] 245)).heap.size = w.heap.size + 1 by simp] at HT
  go_enter Tryz.func256, Tryz.ntmps256
  go_wp2_with (refine wpList_mput _ rfl _ _ _ 246 rfl 3 73 (by kernel_rfl) (by kernel_rfl) (w.heap.size + 1) _ rfl HT.out _ _ rfl rfl rfl ?_; intro w1 hT hg; have hb := HB.out.grown hg (HB.out.size) (fun k hk => by cases hk; exact Nat.le_succ _); clear HT HB hg; have HT := Lib.hid hT; have HB := Lib.hid hb; clear hT hb)
  rename_i wm
  have HT2 : IMap .i64 _ (w.heap.size + 1) sayTab := HT.out
  have hlk := (mlook_run (P := Tryz.prog) (t := 246) (k := 3) (e := 73) (z := .nilFunc) (by kernel_rfl) (by kernel_rfl) (by kernel_rfl) HT2 k).2
  have en := enter_nothing
  have el := enter_late
  clear HT2
  rcases look_say k with ⟨hk, h⟩ | ⟨hk, h⟩ | ⟨hk, h⟩ | ⟨hk, h⟩ | ⟨hk, h⟩
  · subst hk
    rw [h, Option.getD_some, Option.isSome_some, fnB] at hlk
    clear h
    go_wp2_with fail
    rw [hlk]
    go_wp2_with fail
    refine (nothing_any v _).mono ?_
    rintro e w2 ⟨rfl, hb⟩
    have HB2 := Lib.hid (HB.out.trans (hb.mono HB.out.size)); clear hb hlk
    go_wp2
    go_ret2
    exact ⟨by rfl, HB2.out⟩
  · subst hk
    rw [h, Option.getD_some, Option.isSome_some, fnB] at hlk
    clear h
    go_wp2_with fail
    rw [hlk]
    go_wp2_with fail
    refine (nothing_any v _).mono ?_
    rintro e w2 ⟨rfl, hb⟩
    have HB2 := Lib.hid (HB.out.trans (hb.mono HB.out.size)); clear hb hlk
    go_wp2
    go_ret2
    exact ⟨by rfl, HB2.out⟩
  · subst hk
    rw [h, Option.getD_some, Option.isSome_some, fnB] at hlk
    clear h
    go_wp2_with fail
    rw [hlk]
    go_wp2_with fail
    refine (late_any v _).mono ?_
    rintro e w2 ⟨rfl, hb⟩
    have HB2 := Lib.hid (HB.out.trans (hb.mono HB.out.size)); clear hb hlk
    go_wp2
    go_ret2
    exact ⟨by unfold conMay conIs; by_cases h5 : v = 5 <;> simp [h5], HB2.out⟩
  · subst hk
    rw [h, Option.getD_some, Option.isSome_some, fnB] at hlk
    clear h
    go_wp2_with fail
    rw [hlk]
    go_wp2_with fail
    refine (late_any v _).mono ?_
    rintro e w2 ⟨rfl, hb⟩
    have HB2 := Lib.hid (HB.out.trans (hb.mono HB.out.size)); clear hb hlk
    go_wp2
    go_ret2
    exact ⟨by unfold conMay conIs; by_cases h5 : v = 5 <;> simp [h5], HB2.out⟩
  · have h1 : conIs k = false := decide_eq_false hk
    have h2 : conMay v k = false := decide_eq_false (fun x => hk (by omega))
    rw [h, Option.getD_none, Option.isSome_none] at hlk
    clear h hk
    go_wp2_with fail
    rw [hlk]
    go_wp2
    go_ret2
    exact ⟨by rw [h1, h2]; rfl, HB.out⟩
end Go.Proofs.YtpcleamaieaefaaGreatDoor

namespace Go.Proofs.YtpcleamaieaefaaGreatDoor
open Go.RowKit

set_option maxHeartbeats 1000000 in
set_option maxRecDepth 10000 in
theorem conKnown_any (v k : Int) (w : World) : Calls Tryz.prog 255 #[.int .i64 v, .int .i64 k] w fun e w' => e = .returned (.int .i64 (conK v k)) ∧ Below w.heap.size w w' := by
  go_enter Tryz.func255, Tryz.ntmps255
  go_wp2_with fail
  refine (says_any v k _).mono ?_
  rintro e w1 ⟨rfl, hb⟩
  have HB := Lib.hid hb; clear hb
  have HE : Hid (conK v k = if conIs k = false ∨ ¬ (v = 4 ∨ v = 5) then 2 else if k = 15 ∧ v = 4 then 8 else 0) := Lib.hid rfl
  cases hi : conIs k
  · have HX : Hid (conK v k = 2) := Lib.hid (by rw [HE.out, if_pos (.inl hi)])
    clear hi
    go_wp2
    go_ret
    exact ⟨by rw [HX.out]; rfl, HB.out⟩
  · by_cases h4 : v = 4
    · have e4 : (v != 4) = false := by simpa using h4
      have e4' : (v == 4) = true := beq_iff_eq.2 h4
      by_cases h15 : k = 15
      · have HX : Hid (conK v k = 8) := Lib.hid (by rw [HE.out, if_neg (fun x => x.elim (fun y => by rw [hi] at y; cases y) (fun y => y (.inl h4))), if_pos ⟨h15, h4⟩])
        have e15 : (k == 15) = true := beq_iff_eq.2 h15
        clear h4 h15 hi
        go_wp2
        go_ret
        exact ⟨by rw [HX.out]; rfl, HB.out⟩
      · have HX : Hid (conK v k = 0) := Lib.hid (by rw [HE.out, if_neg (fun x => x.elim (fun y => by rw [hi] at y; cases y) (fun y => y (.inl h4))), if_neg (fun x => h15 x.1)])
        have e15 : (k == 15) = false := beq_eq_false_iff_ne.2 h15
        clear h4 h15 hi
        go_wp2
        go_ret
        exact ⟨by rw [HX.out]; rfl, HB.out⟩
    · have e4 : (v != 4) = true := bne_iff_ne.2 h4
      have e4' : (v == 4) = false := beq_eq_false_iff_ne.2 h4
      by_cases h5 : v = 5
      · have e5 : (v != 5) = false := by simpa using h5
        have HX : Hid (conK v k = 0) := Lib.hid (by rw [HE.out, if_neg (fun x => x.elim (fun y => by rw [hi] at y; cases y) (fun y => y (.inr h5))), if_neg (fun x => h4 x.2)])
        clear h4 h5 hi
        by_cases h15 : k = 15
        · have e15 : (k == 15) = true := beq_iff_eq.2 h15
          clear h15
          go_wp2
          go_ret
          exact ⟨by rw [HX.out]; rfl, HB.out⟩
        · have e15 : (k == 15) = false := beq_eq_false_iff_ne.2 h15
          clear h15
          go_wp2
          go_ret
          exact ⟨by rw [HX.out]; rfl, HB.out⟩
      · have e5 : (v != 5) = true := bne_iff_ne.2 h5
        have HX : Hid (conK v k = 2) := Lib.hid (by rw [HE.out, if_pos (.inr (fun x => x.elim h4 h5))])
        clear h4 h5 hi
        go_wp2
        go_ret
        exact ⟨by rw [HX.out]; rfl, HB.out⟩

/-- What told leaves. -/
def ToldOut (r : Int × List Pr × Int) (w : World) (e : Ending) (w' : World) : Prop := ∃ A c, e = .returned (.tuple #[.int .i64 r.1, .slice A r.2.1.length c, .int .i64 r.2.2]) ∧ r.2.1.length ≤ c ∧ Rd w' w'.heap.size 4 A r.2.1.length (prs r.2.1) ∧ Below w.heap.size w w'
theorem toldOut_mk {r : Int × List Pr × Int} {x y : Int} {w w' : World} (h : r = (x, [], y)) (hb : Below w.heap.size w w') : ToldOut r w (.returned (.tuple #[.int .i64 x, .slice none 0 0, .int .i64 y])) w' := by
  subst h
  exact ⟨none, 0, rfl, Nat.le_refl _, Rd.nil _ _ _ _, hb⟩
theorem toldOut_ok {r : Int × List Pr × Int} {x : Int} {l : List Pr} {A : Option Addr} {c : Nat} {w w' : World} (h : r = (x, l, 0)) (hc : l.length ≤ c) (hr : Rd w' w'.heap.size 4 A l.length (prs l)) (hb : Below w.heap.size w w') : ToldOut r w (.returned (.tuple #[.int .i64 x, .slice A l.length c, .int .i64 0])) w' := by
  subst h
  exact ⟨A, c, rfl, hc, hr, hb⟩
theorem num_at (t : ByteArray) (a : Nat) (h : a < t.size) : numS t a 0 1 = t[a].toNat := by
  have h1 := num_front (t := t) (a := a) (k := 1) (x := [t[a]]) (rest := (ls t).drop (a + 1)) (by
    rw [List.drop_eq_getElem_cons (show a < (ls t).length by rw [ls_len]; exact h), ls_at t a h]
    rfl) rfl (by omega)
  rw [show ((1 : Int)) = ((1 : Nat) : Int) from rfl, h1]
  simp [getL]
theorem empty_iff (s : ByteArray) : s.toList.isEmpty = decide (s.size = 0) := by
  cases hz : s.toList.isEmpty
  · exact (decide_eq_false (fun x => by
      have : s = ⟨#[]⟩ := ls_ext (by rw [show ls (⟨#[]⟩ : ByteArray) = [] from rfl]; exact List.eq_nil_of_length_eq_zero (by rw [ls_len]; exact x))
      rw [this] at hz
      exact absurd hz (by decide +kernel))).symm
  · exact (decide_eq_true (empty_size hz)).symm

set_option maxHeartbeats 2000000 in
set_option maxRecDepth 10000 in
theorem told_any (k : Int) (s : ByteArray) (w : World) (hs : s.size ≤ 140737488351232) :
    Calls Tryz.prog 257 #[.int .i64 k, .string s] w (ToldOut (toldS k s) w) := by
  have HE : Hid (toldS k s = if toldE k s ≠ 0 then (0, [], toldE k s) else ((restS k s 0).1, (restS k s 0).2.1, 0)) := Lib.hid rfl
  have HT : Hid (toldE k s = if (restS k s 0).2.2.2 ≠ 0 then (restS k s 0).2.2.2 else if (restS k s 0).2.2.1 < s.size then 5 else 0) := Lib.hid rfl
  have hem := empty_iff s
  by_cases h0 : s.size = 0
  · have hr : restS k s 0 = (0, [], 0, 0) := by unfold restS; rw [if_pos (by omega)]
    have HX : Hid (toldS k s = (0, [], 0)) := Lib.hid (by rw [HE.out, HT.out, hr]; simp [h0])
    rw [decide_eq_true h0] at hem
    clear h0 hr hs
    go_enter Tryz.func257, Tryz.ntmps257
    go_wp2
    go_ret3
    exact toldOut_mk HX.out (Below.refl _ _)
  rw [decide_eq_false h0] at hem
  have i1 : (0 : Int) < (s.size : Int) := by omega
  have h00 : 0 < s.size := by omega
  have HN := Lib.hid (num_at s 0 h00)
  obtain ⟨d, hd⟩ : ∃ d : UInt8, s[0]'h00 = d := ⟨_, rfl⟩
  rw [hd] at HN
  have hb0 : IntKind.i64.wrap (d.toNat : Int) = (d.toNat : Int) := by rw [IntKind.wrap_i64]; have := d.toNat_lt; omega
  by_cases h1 : s.size = 1
  · have hr : restS k s 0 = (((d.toNat : Nat) : Int), [], 1, if d.toNat = 0 then 5 else 0) := by unfold restS; rw [if_neg (by omega), if_pos (by omega), HN.out]
    have z1 : ((s.size : Int) == 1) = true := beq_iff_eq.2 (by omega)
    by_cases hq : d.toNat = 0
    · have HX : Hid (toldS k s = (0, [], 5)) := Lib.hid (by rw [HE.out, HT.out, hr]; simp [hq])
      have z2 : ((d.toNat : Int) == 0) = true := beq_iff_eq.2 (by omega)
      clear h0 hr hs h1 hq HN
      go_enter Tryz.func257, Tryz.ntmps257
      go_wp2
      go_ret3
      exact toldOut_mk HX.out (Below.refl _ _)
    · have HX : Hid (toldS k s = ((d.toNat : Int), [], 0)) := Lib.hid (by rw [HE.out, HT.out, hr]; simp [hq, h1])
      have z2 : ((d.toNat : Int) == 0) = false := beq_eq_false_iff_ne.2 (by omega)
      clear h0 hr hs h1 hq HN
      go_enter Tryz.func257, Tryz.ntmps257
      go_wp2
      go_ret3
      exact toldOut_mk HX.out (Below.refl _ _)
  · have hr : restS k s 0 = (((d.toNat : Nat) : Int), (readP k (s.extract 1 s.size)).1, 1 + (readP k (s.extract 1 s.size)).2.1,
      if (readP k (s.extract 1 s.size)).2.2 ≠ 0 then (readP k (s.extract 1 s.size)).2.2 else if (readP k (s.extract 1 s.size)).1.length = 0 then 5 else 0) := by unfold restS; rw [if_neg (by omega), if_neg (by omega), HN.out, Nat.zero_add]
    have z1 : ((s.size : Int) == 1) = false := beq_eq_false_iff_ne.2 (by omega)
    have i2 : (1 : Int) ≤ (s.size : Int) := by omega
    have HZ : Hid ((s.extract 1 s.size).size ≤ 140737488351232) := Lib.hid (by rw [rest_len]; omega)
    have HRR := Lib.hid hr
    have HS := Lib.hid hs
    have HLB : Hid ((readP k (s.extract 1 s.size)).2.2 = 0 → (readP k (s.extract 1 s.size)).2.1 ≤ (s.extract 1 s.size).size) := Lib.hid fun h0 =>
      (readP_back (kind := k) (s := s.extract 1 s.size) (l := (readP k (s.extract 1 s.size)).1) (n := (readP k (s.extract 1 s.size)).2.1) (by rw [← h0])).2.2
    clear h0 hr hs h1 HN
    go_enter Tryz.func257, Tryz.ntmps257
    go_wp2_with fail
    refine (readP_any k (s.extract 1 s.size) _ HZ.out).mono ?_
    rintro e w1 ⟨A, c, rfl, hcap, hrd, hb⟩
    have HB := Lib.hid hb; have HCAP := Lib.hid hcap; have HRD := Lib.hid hrd
    clear hb hcap hrd
    generalize readP k (s.extract 1 s.size) = R at *
    obtain ⟨l, n, x⟩ := R
    simp only at HRR HCAP HRD HLB ⊢
    by_cases hx : x = 0
    · subst hx
      have hn1 := HLB.out rfl
      have hwn : IntKind.i64.wrap (1 + (n : Int)) = 1 + (n : Int) := by rw [IntKind.wrap_i64]; have := HZ.out; omega
      by_cases hl : l.length = 0
      · have z2 : ((l.length : Int) == 0) = true := beq_iff_eq.2 (by omega)
        have HX : Hid (toldS k s = (0, [], 5)) := Lib.hid (by rw [HE.out, HT.out, HRR.out]; simp [hl])
        clear hl
        go_wp2
        go_ret3
        exact toldOut_mk HX.out HB.out
      · have z2 : ((l.length : Int) == 0) = false := beq_eq_false_iff_ne.2 (by omega)
        by_cases hlt : 1 + n < s.size
        · have HX : Hid (toldS k s = (0, [], 5)) := Lib.hid (by rw [HE.out, HT.out, HRR.out]; simp [hl, hlt])
          have d3 : 1 + (n : Int) < (s.size : Int) := by omega
          clear hl hlt
          go_wp2
          go_ret3
          exact toldOut_mk HX.out HB.out
        · have HX : Hid (toldS k s = ((d.toNat : Int), l, 0)) := Lib.hid (by rw [HE.out, HT.out, HRR.out]; simp [hl, hlt])
          have d3 : (s.size : Int) ≤ 1 + (n : Int) := by omega
          clear hl hlt
          go_wp2
          go_ret3
          exact toldOut_ok HX.out HCAP.out HRD.out HB.out
    · have e0 : (x != 0) = true := bne_iff_ne.2 hx
      have HX : Hid (toldS k s = (0, [], x)) := Lib.hid (by rw [HE.out, HT.out, HRR.out]; simp [hx])
      clear hx
      go_wp2
      go_ret3
      exact toldOut_mk HX.out HB.out
end Go.Proofs.YtpcleamaieaefaaGreatDoor

