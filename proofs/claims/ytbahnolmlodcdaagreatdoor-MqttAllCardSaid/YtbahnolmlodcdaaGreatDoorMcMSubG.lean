/- A part of what the laws stand on: MSubG, SubJ, MqA. -/
import Derived.Test.YtbahnolmlodcdaaGreatDoorMcSubF
import Derived.Test.YtbahnolmlodcdaaGreatDoorMcMSubP
import Derived.Test.YtbahnolmlodcdaaGreatDoorMcSubE
import Derived.Test.YtbahnolmlodcdaaGreatDoorMcHdP
import Derived.Test.YtbahnolmlodcdaaGreatDoorMcMPubB
import Derived.Test.YtbahnolmlodcdaaGreatDoorMcPubK
import Derived.Test.YtbahnolmlodcdaaGreatDoorMcCntH
import Derived.Test.YtbahnolmlodcdaaGreatDoorMcConA
namespace Go.Proofs.YtbahnolmlodcdaaGreatDoor
open Go.RowKit
attribute [local go_sem ↓] to_ldPk to_bxPk to_bdPk to_alPk to_stPk
attribute [local go_sem] run_bxPk run_bxPk_agg ld_fresh run_alPk run_bd0 run_bdK run_bdKI run_bdKIC run_bdKC run_bdKICP run_stPk_fresh pkC_0 pkC_1 pkC_2 pkC_3 pkC_4 pkC_5 pkC_6 pkC_7 pkC_8 pkC_9 pkC_10 pkC_11 pkC_12 pkC_13 pkC_14 pkC_15 pkC_16 pkC_17 pkC_18 pkC_19 pkC_20 pkC_21 pkC_22 pkC_23 pkC_24
theorem lsR_len (v k : Int) (t : ByteArray) : ∀ (n a : Nat) (e : Int) (fi : List Fi) (cd : List Int), (lsR v k t n a e fi cd).1.length ≤ fi.length + n ∧ (lsR v k t n a e fi cd).2.1.length ≤ cd.length + n ∧ ∀ f ∈ (lsR v k t n a e fi cd).1, f ∈ fi ∨ f.topic.size ≤ 65535
  | 0, a, e, fi, cd => ⟨Nat.le_refl _, Nat.le_refl _, fun f hf => .inl hf⟩
  | n + 1, a, e, fi, cd => by
    rw [lsR_succ]
    split
    · exact ⟨by show fi.length ≤ _; omega, by show cd.length ≤ _; omega, fun f hf => .inl hf⟩
    · rename_i hc
      have hlt : a < t.size := Nat.lt_of_not_le fun x => hc (.inr x)
      split
      · obtain ⟨h1, h2, h3⟩ := lsR_len v k t n (fiR v k t a).2.1 (fiR v k t a).2.2 (fi ++ [(fiR v k t a).1]) cd
        rw [List.length_append] at h1
        simp only [List.length_cons, List.length_nil] at h1
        refine ⟨by omega, by omega, fun f hf => ?_⟩
        rcases h3 f hf with h | h
        · rcases List.mem_append.1 h with h | h
          · exact .inl h
          · right
            obtain rfl := List.mem_singleton.1 h
            have := (rtC_le (t := t) (a := a) (e := 0) (Nat.le_of_lt hlt)).2
            unfold fiR
            split
            · exact this
            · exact this
        · exact .inr h
      · obtain ⟨h1, h2, h3⟩ := lsR_len v k t n (a + 1) 0 fi (cd ++ [((numS t a 0 1 : Nat) : Int)])
        rw [List.length_append] at h2
        simp only [List.length_cons, List.length_nil] at h2
        exact ⟨by omega, by omega, h3⟩
theorem prpC_ok (v k : Int) (t : ByteArray) (a : Nat) (e : Int) (ht : t.size ≤ 140737488351232) : (∀ p ∈ (prpC v k t a e).1, prGood p) ∧ (prpC v k t a e).1.length ≤ 1000 := by
  unfold prpC
  split
  · exact ⟨by simp, Nat.zero_le _⟩
  · refine ⟨readP_good (by rw [ByteArray.size_extract]; omega), ?_⟩
    by_cases h : (readP k (t.extract a t.size)).2.2 = 0
    · exact readP_len h
    · have := readP_bad h
      rw [this]
      exact Nat.zero_le _
theorem sbFull_ok {v k : Int} {s : ByteArray} (hs : s.size ≤ 140737488351000) : PkOk (sbFull v k s) := by
  obtain ⟨h1, h2, h3⟩ := lsR_len v k s (s.size + 1) (sbPr v k s).2.1 (sbPr v k s).2.2 [] []
  obtain ⟨p1, p2⟩ := prpC_ok v k s (takeS s 0 0 2).2.1 (takeS s 0 0 2).2.2 (by omega)
  refine ⟨(by intro q hq; cases hq), p1, fun f hf => ?_, ?_, ?_⟩
  · rcases h3 f hf with h | h
    · cases h
    · omega
  · exact ⟨Nat.zero_le _, Nat.zero_le _, Nat.zero_le _, Nat.zero_le _, Nat.zero_le _, Nat.zero_le _, Nat.zero_le _⟩
  · simp only [List.length_nil] at h1 h2
    exact ⟨Nat.zero_le _, by show (sbLs v k s).2.1.length ≤ _; unfold sbLs; omega, by show (sbLs v k s).1.length ≤ _; unfold sbLs; omega, by show (sbPr v k s).1.length ≤ _; unfold sbPr; omega⟩
theorem rd_both {x y : World} {B : Nat} {A : Option Addr} {l : List Pr} {t1 t2 : TypeId} {c1 c2 : Array Value} {g1 g2 : Nat} (h : Rd x B 4 A l.length (prs l)) (b1 : Bk x g1 t1 c1) (b2 : Bk x g2 t2 c2)
    (n1 : ∀ (i : Nat) (n : Int), c1[i]? ≠ some (Value.int IntKind.u32 n)) (n2 : ∀ (i : Nat) (n : Int), c2[i]? ≠ some (Value.int IntKind.u32 n)) (hm : Mods (two g1 g2) x y) (hB : B ≤ x.heap.size) : Rd y B 4 A l.length (prs l) := by
  rcases h.2 with h0 | ⟨b, o, rfl, hb, hc⟩
  · exact ⟨h.1, .inl h0⟩
  · by_cases hl : 0 < l.length
    · obtain ⟨b', o', he, _, _, q1, _⟩ := h.atP hl
      simp only [Option.some.injEq, Addr.mk.injEq] at he
      obtain ⟨rfl, rfl, -⟩ := he
      refine ⟨h.1, .inr ⟨b, o, rfl, hb, fun j u hu => (World.cell?_of_block (a := ⟨b, o + j, none⟩) (hm.block b (by omega) (fun e => ?_))).trans (hc j u hu)⟩⟩
      rcases e with rfl | rfl
      · rw [b1.cell] at q1; exact n1 _ _ q1
      · rw [b2.cell] at q1; exact n2 _ _ q1
    · have hz : l = [] := List.eq_nil_of_length_eq_zero (by omega)
      subst hz
      exact Rd.nil _ _ _ _
/-- What stands behind list. -/
structure SG (w wL : World) (g gp gc : Nat) (k i : Int) (l : List Pr) (A : Option Addr) (n : Nat) (fi : List Fi) (cd : List Int) (F C : Hd) (t : ByteArray) (a : Nat) (e : Int) (x : World) : Prop where
  kept : Below w.heap.size w x
  res : Bk x g PkT (pkC pk0 hs0)
  pk : Bk x gp PkT (pkC { ackR1 k i 0 l with filters := fi, codes := cd } { hs0 with props := ⟨A, n⟩, filters := F, codes := C })
  cur : Cur x gc t a e
  rd : Rd x x.heap.size 4 A l.length (prs l)
  cap : l.length ≤ n
  ofi : OwnF wL x fi F
  ocd : OwnC wL x cd C
  ne : g ≠ gp ∧ g ≠ gc ∧ gp ≠ gc
  base : w.heap.size ≤ g ∧ w.heap.size ≤ gp ∧ w.heap.size ≤ gc
  lt : g < wL.heap.size ∧ gp < wL.heap.size ∧ gc < wL.heap.size
section
variable {w wL x y : World} {g gp gc : Nat} {k i : Int} {l : List Pr} {A : Option Addr} {n : Nat} {fi : List Fi} {cd : List Int} {F C : Hd} {t : ByteArray} {a a' : Nat} {e e' : Int}
theorem OwnF.into (h : OwnF wL x fi F) : Rd x x.heap.size 5 F.a fi.length (fis fi) ∧ fi.length ≤ F.c := by
  obtain ⟨A, c, hv, h1, h2⟩ := own_rd h
  simp only [Value.slice.injEq] at hv
  obtain ⟨rfl, -, rfl⟩ := hv
  exact ⟨h2, h1⟩
theorem OwnC.into (h : OwnC wL x cd C) : Rd x x.heap.size 1 C.a cd.length (iv cd) ∧ cd.length ≤ C.c := by
  obtain ⟨A, c, hv, h1, h2⟩ := own_rd h
  simp only [Value.slice.injEq] at hv
  obtain ⟨rfl, -, rfl⟩ := hv
  exact ⟨h2, h1⟩
theorem SG.into (s : SG w wL g gp gc k i l A n fi cd F C t a e x) : PkIn x x.heap.size { ackR1 k i 0 l with filters := fi, codes := cd } { hs0 with props := ⟨A, n⟩, filters := F, codes := C } :=
  ⟨Rd.nil _ _ _ _, s.ocd.into.1, s.ofi.into.1, s.rd, Nat.zero_le _, s.ocd.into.2, s.ofi.into.2, s.cap⟩
theorem SG.below (s : SG w wL g gp gc k i l A n fi cd F C t a e x) (hb : Below x.heap.size x y) : SG w wL g gp gc k i l A n fi cd F C t a e y :=
  ⟨s.kept.trans (hb.mono s.kept.size), s.res.below hb s.res.lt, s.pk.below hb s.pk.lt, s.cur.below hb, (s.rd.below hb).wider hb.size, s.cap, own_below s.ofi hb, own_below s.ocd hb, s.ne, s.base, s.lt⟩
theorem SG.turn (s : SG w wL g gp gc k i l A n fi cd F C t a e x) (hc : Cur y gc t a' e') (hm : x.grownBy y (some gc)) : SG w wL g gp gc k i l A n fi cd F C t a' e' y :=
  ⟨below_mod s.kept hm s.kept.size s.base.2.2, s.res.mods (S := fun z => z = gc) (Mods.of_grown hm rfl) s.ne.2.1, s.pk.mods (S := fun z => z = gc) (Mods.of_grown hm rfl) s.ne.2.2, hc,
    (s.rd.other s.cur.1 (cur_no32 _ _ _) hm (Nat.le_refl _)).wider hm.size, s.cap, s.ofi.stay hm s.lt.2.2, s.ocd.stay hm s.lt.2.2, s.ne, s.base, s.lt⟩
theorem SG.none (s : SG w wL g gp gc k i l A n fi cd F C t a e x) : Below w.heap.size w (putPk x g pk0 hs0) ∧ Bk (putPk x g pk0 hs0) g PkT (pkC pk0 hs0) := ⟨below_put s.kept s.kept.size s.base.1 _ _, put_bk s.res _ _⟩
theorem SG.some (s : SG w wL g gp gc k i l A n fi cd F C t a e x) (P : Pk := { ackR1 k i 0 l with filters := fi, codes := cd }) (H : Hs := { hs0 with props := ⟨A, n⟩, filters := F, codes := C }) (hP : P = { ackR1 k i 0 l with filters := fi, codes := cd } := by rfl) (hH : H = { hs0 with props := ⟨A, n⟩, filters := F, codes := C } := by rfl) :
    Below w.heap.size w (putPk x g P H) ∧ Bk (putPk x g P H) g PkT (pkC P H) ∧ PkIn (putPk x g P H) (putPk x g P H).heap.size P H := by
  subst hP hH
  have hm := putPk_mods x g { ackR1 k i 0 l with filters := fi, codes := cd } { hs0 with props := ⟨A, n⟩, filters := F, codes := C }
  refine ⟨below_put s.kept s.kept.size s.base.1 _ _, put_bk s.res _ _, ?_⟩
  exact ⟨Rd.nil _ _ _ _, (s.ocd.stay hm s.lt.1).into.1, (s.ofi.stay hm s.lt.1).into.1, (s.rd.other s.res (pk_no32 _ _) hm (Nat.le_refl _)).wider hm.size, Nat.zero_le _, s.ocd.into.2, s.ofi.into.2, s.cap⟩
theorem SG.of_list {ai : Nat} {ei : Int} (s : RI w g gp gc k i 0 l A n t ai ei wL) (hL : LS wL gc gp t { ackR1 k i 0 l with filters := fi, codes := cd } { { hs0 with props := ⟨A, n⟩ } with filters := F, codes := C } a e x) (hF : OwnF wL x fi F) (hC : OwnC wL x cd C) : SG w wL g gp gc k i l A n fi cd F C t a e x :=
  ⟨hL.mods.below s.kept s.kept.size (fun q hq => by rcases hq with rfl | rfl; exact s.base.2.2; exact s.base.2.1), s.res.mods hL.mods (fun h => by rcases h with h | h; exact s.ne.2.1 h; exact s.ne.1 h), hL.pk, hL.cur,
    (rd_both s.rd s.cur.1 s.pk (cur_no32 _ _ _) (pk_no32 _ _) hL.mods (Nat.le_refl _)).wider hL.mods.size, s.cap, hF, hC, s.ne, s.base, s.res.lt, s.pk.lt, s.cur.lt⟩
end
theorem ri_props {w x : World} {g gp gc : Nat} {k i : Int} {l : List Pr} {A A' : Option Addr} {n n' : Nat} {t : ByteArray} {a : Nat} {e : Int} {l' : List Pr} (s : RI w g gp gc k i 0 l A n t a e x) (hr : Rd x x.heap.size 4 A' l'.length (prs l')) (hc : l'.length ≤ n') :
    RI w g gp gc k i 0 l' A' n' t a e (x.setCell ⟨gp, 24, none⟩ (.slice A' l'.length n')) := by
  have hm := mod_set x gp 24 (.slice A' l'.length n')
  exact ⟨below_mod s.kept hm s.kept.size s.base.2.1, s.res.other (by have := s.ne.1; simpa using this) _, s.pk.upd 24 _ rfl, ⟨s.cur.1.other (by have := s.ne.2.2; simpa using this.symm) _, s.cur.2⟩,
    (hr.other s.pk (pk_no32 _ _) hm (Nat.le_refl _)).wider hm.size, hc, s.ne, s.base⟩
/-- As PkOut; and a code's slice is one that the call has made. -/
def PkOutC (r : Pk × Int) (w : World) (e : Ending) (w' : World) : Prop := ∃ h, e = .returned (.tuple #[pkV r.1 h, .int .i64 r.2]) ∧ PkIn w' w'.heap.size r.1 h ∧ Below w.heap.size w w' ∧ (∀ b o, h.codes.a = some ⟨b, o, none⟩ → w.heap.size ≤ b)
theorem pkOutC_bad {r : Pk × Int} {x : Int} {w w' : World} (h : r = (pk0, x)) (hb : Below w.heap.size w w') : PkOutC r w (.returned (.tuple #[pkV pk0 hs0, .int .i64 x])) w' := by
  subst h
  exact ⟨hs0, rfl, pk0_in _ _, hb, fun b o e => by cases e⟩
theorem pkOutC_ok {r : Pk × Int} {p : Pk} {h : Hs} {w w' : World} (hr : r = (p, 0)) (hi : PkIn w' w'.heap.size p h) (hb : Below w.heap.size w w') (hf : ∀ b o, h.codes.a = some ⟨b, o, none⟩ → w.heap.size ≤ b) : PkOutC r w (.returned (.tuple #[pkV p h, .int .i64 0])) w' := by
  subst hr
  exact ⟨h, rfl, hi, hb, hf⟩
theorem SG.fresh {w wL x : World} {g gp gc : Nat} {k i : Int} {l : List Pr} {A : Option Addr} {n : Nat} {fi : List Fi} {cd : List Int} {F C : Hd} {t : ByteArray} {a : Nat} {e : Int} (s : SG w wL g gp gc k i l A n fi cd F C t a e x) : ∀ b o, C.a = Option.some ⟨b, o, Option.none⟩ → w.heap.size ≤ b := fun b o h => by
  have h1 := (own_block s.ocd b (by rw [h]; rfl)).1
  have h2 := s.base.1
  have h3 := s.lt.1
  omega
set_option maxHeartbeats 8000000 in
set_option maxRecDepth 10000 in
theorem sbReadC_any (v k : Int) (s : ByteArray) (w : World) (hs : s.size ≤ 1000000000000) :
    Calls Tryz.prog 16 #[.int .i64 v, .int .i64 k, .string s] w (PkOutC (sbR v k s) w) := by
  have HS := Lib.hid hs
  have HB0 := Lib.hid ((Below.refl w.heap.size w).alloc (Nat.le_refl _) (.cells (pkC pk0 hs0) PkT))
  have H60 := Lib.hid (Bk.fresh w PkT (pkC pk0 hs0))
  have hst := run_stPk H60.out
  go_enter Tryz.func16, Tryz.ntmps16
  go_wp2_with fail
  refine (sbKnown_any v k _).mono ?_
  rintro e w1 ⟨rfl, hw1⟩
  subst hw1
  cases hk : sbKnown v k
  · have HX : Hid (sbR v k s = (pk0, 2)) := Lib.hid (by unfold sbR; rw [if_pos hk])
    clear hk
    go_wp2
    refine bodyPost_ret (results_pk rfl _ rfl (put_bk H60.out _ _)) rfl ?_
    exact pkOutC_bad HX.out (below_put HB0.out HB0.out.size (Nat.le_refl _) _ _)
  have HK := Lib.hid hk
  have h45 : v = 4 ∨ v = 5 := (of_decide_eq_true (show decide ((v = 4 ∨ v = 5) ∧ 8 ≤ k ∧ k ≤ 11) = true from hk)).1
  have HV := Lib.hid h45
  clear hk hst
  go_wp2_with fail
  refine (newCur_any s _ (by have := HS.out; omega)).mono ?_
  rintro e w1 ⟨rfl, hc, hb⟩
  have hgc : (w.alloc (.cells (pkC pk0 hs0) PkT)).heap.size = w.heap.size + 1 := by simp
  have HB1 := Lib.hid (HB0.out.trans (hb.mono HB0.out.size)); have H61 := Lib.hid (H60.out.below hb H60.out.lt)
  rw [hgc] at hc ⊢
  have HC1 := Lib.hid hc
  clear hc hb hgc
  go_wp2_with fail
  refine (number_any (w.heap.size + 1) 0 s 0 2 _ HC1.out (by decide)).mono ?_
  rintro e w2 ⟨rfl, hc, hm⟩
  have HB2 := Lib.hid (below_mod HB1.out hm HB1.out.size (by omega)); have H62 := Lib.hid (H61.out.mods (S := fun z => z = w.heap.size + 1) (Mods.of_grown hm rfl) (by omega)); have HC2 := Lib.hid hc
  have HZ := Lib.hid HC2.out.lt
  have hid := num_two_lt s 0 0 (by omega)
  obtain ⟨m, hm2⟩ : ∃ m, numS s 0 0 2 = m := ⟨_, rfl⟩
  rw [hm2] at hid ⊢
  have HM2 := Lib.hid hm2
  obtain ⟨TK, hTK⟩ : ∃ T, takeS s 0 0 2 = T := ⟨_, rfl⟩
  have HPR0 : Hid (sbPr v k s = prpC v k s TK.2.1 TK.2.2) := Lib.hid (by unfold sbPr; rw [hTK])
  rw [hTK] at HC2
  clear hc hm hm2 hTK
  obtain ⟨T0, a0, e0⟩ := TK
  simp only at HPR0 HC2
  obtain ⟨id, hm1⟩ : ∃ id : Int, id = (m : Int) := ⟨_, rfl⟩
  have hw : IntKind.i64.wrap (m : Int) = id := by rw [hm1, IntKind.wrap_i64]; omega
  have HM : Hid (id = (m : Int)) := Lib.hid hm1
  clear hid hm1
  have I3 : Hid (RI w w.heap.size w2.heap.size (w.heap.size + 1) k id 0 [] none 0 s a0 e0 (w2.alloc (.cells (pkC (ackR1 k id 0 []) hs0) PkT))) := Lib.hid
    ⟨HB2.out.alloc HB2.out.size _, H62.out.alloc _, Bk.fresh _ _ _, ⟨HC2.out.1.alloc _, HC2.out.2⟩, Rd.nil _ _ _ _, Nat.le_refl _, ⟨by have := HZ.out; omega, by omega, by have := HZ.out; omega⟩, Nat.le_refl _, by have := HZ.out; omega, by omega⟩
  have HLE : Hid (a0 ≤ s.size) := Lib.hid HC2.out.2.1
  clear HB2 H62 HC2 HB1 H61 HC1
  rcases h45 with h4 | h5
  · have e5 : (v == 5) = false := beq_eq_false_iff_ne.2 (by omega)
    have HPR : Hid (sbPr v k s = ([], a0, e0)) := Lib.hid (by rw [HPR0.out]; unfold prpC; rw [if_pos (.inl h4)])
    have HLG : Hid (∀ q ∈ ([] : List Pr), prGood q) := Lib.hid (by simp)
    obtain ⟨l, hl⟩ : ∃ l : List Pr, l = [] := ⟨_, rfl⟩
    obtain ⟨a1, ha1⟩ : ∃ a1, a1 = a0 := ⟨_, rfl⟩
    obtain ⟨e1, he1⟩ : ∃ e1, e1 = e0 := ⟨_, rfl⟩
    obtain ⟨A, hA⟩ : ∃ A : Option Addr, A = none := ⟨_, rfl⟩
    obtain ⟨n, hn⟩ : ∃ n : Nat, n = 0 := ⟨_, rfl⟩
    rw [← hl, ← ha1, ← he1] at HPR
    rw [← hl] at HLG
    replace I3 : Hid (RI w w.heap.size w2.heap.size (w.heap.size + 1) k id 0 l A n s a1 e1 (w2.alloc (.cells (pkC (ackR1 k id 0 []) hs0) PkT))) := by subst hl ha1 he1 hA hn; exact I3
    clear h4 hl ha1 he1 hA hn
    have HPG := Lib.hid (show ∀ q ∈ l, prGood q from HLG.out)
    go_wp2_with fail
    refine (sbList_any v (by first | exact HV.out | exact .inr rfl) k HK.out (w.heap.size + 1) w2.heap.size a1 s e1 (ackR1 k id 0 l) { hs0 with props := ⟨A, n⟩ } _ rfl I3.out.cur I3.out.pk (by have := HZ.out; omega) HS.out).mono ?_
    rintro ee wX ⟨rfl, F, C, fi, cd, a2, e2, hls, hL, hF, hC⟩
    have G0 := Lib.hid (SG.of_list I3.out hL hF hC)
    have HLS : Hid (sbLs v k s = (fi, cd, a2, e2)) := Lib.hid (by unfold sbLs; rw [HPR.out]; exact hls)
    have HFU : Hid (sbFull v k s = sbPk k m l fi cd) := Lib.hid (by unfold sbFull; rw [HLS.out, HPR.out, HM2.out])
    have HOK : Hid (PkOk (sbPk k m l fi cd)) := Lib.hid (by rw [← HFU.out]; exact sbFull_ok (by have := HS.out; omega))
    have HE2 : Hid (sbR v k s = if e2 ≠ 0 then (pk0, e2) else if sbE v (sbPk k m l fi cd) ≠ 0 then (pk0, sbE v (sbPk k m l fi cd)) else (sbPk k m l fi cd, 0)) := Lib.hid (by
      unfold sbR; rw [if_neg (by rw [HK.out]; decide), HLS.out, HFU.out])
    clear hls hL hF hC
    rw [HM.out] at G0
    have hl : (ldPk (.pointer (some ⟨w2.heap.size, 0, none⟩))).run Tryz.prog wX = .ok (pkV (sbPk k m l fi cd) { hs0 with props := ⟨A, n⟩, filters := F, codes := C }) wX := ld_bk G0.out.pk
    have HGI : Hid (PkIn wX wX.heap.size (sbPk k m l fi cd) { hs0 with props := ⟨A, n⟩, filters := F, codes := C }) := Lib.hid G0.out.into
    obtain ⟨P, hP⟩ : ∃ P, sbPk k m l fi cd = P := ⟨_, rfl⟩
    rw [hP] at hl HGI HOK HE2
    have HPE := Lib.hid hP
    clear hP
    go_wp2_with fail
    refine (sbValid_any v P _ _ HGI.out HOK.out).mono ?_
    rintro ee wV ⟨rfl, hb⟩
    have G1 := Lib.hid (G0.out.below hb); clear hb hl HGI
    go_wp2_with fail
    refine (fail_any _ a2 s e2 (sbE v P) _ G1.out.cur).mono ?_
    rintro ee wF ⟨rfl, hc, hm⟩
    have G2 := Lib.hid (G1.out.turn hc hm); clear hc hm
    have HW : Hid (((if e2 = 0 then sbE v P else e2) = 0 ∧ sbR v k s = (P, 0)) ∨ ((if e2 = 0 then sbE v P else e2) ≠ 0 ∧ sbR v k s = (pk0, (if e2 = 0 then sbE v P else e2)))) := Lib.hid (by
      rw [HE2.out]
      by_cases h2 : e2 = 0
      · rw [if_pos h2, if_neg (fun x => x h2)]
        by_cases h3 : sbE v P = 0
        · rw [if_neg (fun x => x h3)]; exact .inl ⟨h3, rfl⟩
        · rw [if_pos h3]; exact .inr ⟨h3, rfl⟩
      · rw [if_neg h2, if_pos h2]; exact .inr ⟨h2, rfl⟩)
    generalize (if e2 = 0 then sbE v P else e2) = E at *
    go_wp2_with fail
    refine (err_any _ a2 s E _ G2.out.cur).mono ?_
    rintro ee wH ⟨rfl, hwh⟩
    subst hwh
    have hl := ld_bk G2.out.pk
    have hst := run_stPk G2.out.res
    rcases HW.out with ⟨h2, hr⟩ | ⟨h2, hr⟩
    · subst h2
      have HR := Lib.hid hr; clear hr
      go_wp2
      refine bodyPost_ret (results_pk rfl _ rfl G2.out.some.2.1) rfl ?_
      exact pkOutC_ok (HR.out.trans (by rw [← HPE.out]; rfl)) G2.out.some.2.2 G2.out.some.1 G2.out.fresh
    · have e0 : (E != 0) = true := bne_iff_ne.2 h2
      have HR := Lib.hid hr; clear hr h2
      go_wp2
      refine bodyPost_ret (results_pk rfl _ rfl G2.out.none.2) rfl ?_
      exact pkOutC_bad HR.out G2.out.none.1

  · subst h5
    go_wp2_with fail
    refine (err_any _ a0 s e0 _ I3.out.cur).mono ?_
    rintro ee wE ⟨rfl, hwe⟩
    subst hwe
    by_cases he : e0 = 0
    rotate_left
    · have e9 : (e0 == 0) = false := beq_eq_false_iff_ne.2 he
      have HPR : Hid (sbPr 5 k s = ([], a0, e0)) := Lib.hid (by rw [HPR0.out]; unfold prpC; rw [if_pos (.inr he)])
      have HLG : Hid (∀ q ∈ ([] : List Pr), prGood q) := Lib.hid (by simp)
      clear he
      obtain ⟨l, hl⟩ : ∃ l : List Pr, l = [] := ⟨_, rfl⟩
      obtain ⟨a1, ha1⟩ : ∃ a1, a1 = a0 := ⟨_, rfl⟩
      obtain ⟨e1, he1⟩ : ∃ e1, e1 = e0 := ⟨_, rfl⟩
      obtain ⟨A, hA⟩ : ∃ A : Option Addr, A = none := ⟨_, rfl⟩
      obtain ⟨n, hn⟩ : ∃ n : Nat, n = 0 := ⟨_, rfl⟩
      rw [← hl, ← ha1, ← he1] at HPR
      rw [← hl] at HLG
      replace I3 : Hid (RI w w.heap.size w2.heap.size (w.heap.size + 1) k id 0 l A n s a1 e1 (w2.alloc (.cells (pkC (ackR1 k id 0 []) hs0) PkT))) := by subst hl ha1 he1 hA hn; exact I3
      clear hl ha1 hA hn he1
      have HPG := Lib.hid (show ∀ q ∈ l, prGood q from HLG.out)
      go_wp2_with fail
      refine (sbList_any 5 (by first | exact HV.out | exact .inr rfl) k HK.out (w.heap.size + 1) w2.heap.size a1 s e1 (ackR1 k id 0 l) { hs0 with props := ⟨A, n⟩ } _ rfl I3.out.cur I3.out.pk (by have := HZ.out; omega) HS.out).mono ?_
      rintro ee wX ⟨rfl, F, C, fi, cd, a2, e2, hls, hL, hF, hC⟩
      have G0 := Lib.hid (SG.of_list I3.out hL hF hC)
      have HLS : Hid (sbLs 5 k s = (fi, cd, a2, e2)) := Lib.hid (by unfold sbLs; rw [HPR.out]; exact hls)
      have HFU : Hid (sbFull 5 k s = sbPk k m l fi cd) := Lib.hid (by unfold sbFull; rw [HLS.out, HPR.out, HM2.out])
      have HOK : Hid (PkOk (sbPk k m l fi cd)) := Lib.hid (by rw [← HFU.out]; exact sbFull_ok (by have := HS.out; omega))
      have HE2 : Hid (sbR 5 k s = if e2 ≠ 0 then (pk0, e2) else if sbE 5 (sbPk k m l fi cd) ≠ 0 then (pk0, sbE 5 (sbPk k m l fi cd)) else (sbPk k m l fi cd, 0)) := Lib.hid (by
        unfold sbR; rw [if_neg (by rw [HK.out]; decide), HLS.out, HFU.out])
      clear hls hL hF hC
      rw [HM.out] at G0
      have hl : (ldPk (.pointer (some ⟨w2.heap.size, 0, none⟩))).run Tryz.prog wX = .ok (pkV (sbPk k m l fi cd) { hs0 with props := ⟨A, n⟩, filters := F, codes := C }) wX := ld_bk G0.out.pk
      have HGI : Hid (PkIn wX wX.heap.size (sbPk k m l fi cd) { hs0 with props := ⟨A, n⟩, filters := F, codes := C }) := Lib.hid G0.out.into
      obtain ⟨P, hP⟩ : ∃ P, sbPk k m l fi cd = P := ⟨_, rfl⟩
      rw [hP] at hl HGI HOK HE2
      have HPE := Lib.hid hP
      clear hP
      go_wp2_with fail
      refine (sbValid_any 5 P _ _ HGI.out HOK.out).mono ?_
      rintro ee wV ⟨rfl, hb⟩
      have G1 := Lib.hid (G0.out.below hb); clear hb hl HGI
      go_wp2_with fail
      refine (fail_any _ a2 s e2 (sbE 5 P) _ G1.out.cur).mono ?_
      rintro ee wF ⟨rfl, hc, hm⟩
      have G2 := Lib.hid (G1.out.turn hc hm); clear hc hm
      have HW : Hid (((if e2 = 0 then sbE 5 P else e2) = 0 ∧ sbR 5 k s = (P, 0)) ∨ ((if e2 = 0 then sbE 5 P else e2) ≠ 0 ∧ sbR 5 k s = (pk0, (if e2 = 0 then sbE 5 P else e2)))) := Lib.hid (by
        rw [HE2.out]
        by_cases h2 : e2 = 0
        · rw [if_pos h2, if_neg (fun x => x h2)]
          by_cases h3 : sbE 5 P = 0
          · rw [if_neg (fun x => x h3)]; exact .inl ⟨h3, rfl⟩
          · rw [if_pos h3]; exact .inr ⟨h3, rfl⟩
        · rw [if_neg h2, if_pos h2]; exact .inr ⟨h2, rfl⟩)
      generalize (if e2 = 0 then sbE 5 P else e2) = E at *
      go_wp2_with fail
      refine (err_any _ a2 s E _ G2.out.cur).mono ?_
      rintro ee wH ⟨rfl, hwh⟩
      subst hwh
      have hl := ld_bk G2.out.pk
      have hst := run_stPk G2.out.res
      rcases HW.out with ⟨h2, hr⟩ | ⟨h2, hr⟩
      · subst h2
        have HR := Lib.hid hr; clear hr
        go_wp2
        refine bodyPost_ret (results_pk rfl _ rfl G2.out.some.2.1) rfl ?_
        exact pkOutC_ok (HR.out.trans (by rw [← HPE.out]; rfl)) G2.out.some.2.2 G2.out.some.1 G2.out.fresh
      · have e0 : (E != 0) = true := bne_iff_ne.2 h2
        have HR := Lib.hid hr; clear hr h2
        go_wp2
        refine bodyPost_ret (results_pk rfl _ rfl G2.out.none.2) rfl ?_
        exact pkOutC_bad HR.out G2.out.none.1

    · subst he
      have HPR1 : Hid (sbPr 5 k s = ((readP k (s.extract a0 s.size)).1, a0 + (readP k (s.extract a0 s.size)).2.1, (readP k (s.extract a0 s.size)).2.2)) := Lib.hid (by rw [HPR0.out]; unfold prpC; rw [if_neg (by omega)])
      have HRG := Lib.hid (readP_good (kind := k) (s := s.extract a0 s.size) (by rw [ByteArray.size_extract]; have := HS.out; omega))
      have HTK : Hid ((takeS s a0 (readP k (s.extract a0 s.size)).2.2 ((readP k (s.extract a0 s.size)).2.1 : Nat)).2 = (a0 + (readP k (s.extract a0 s.size)).2.1, (readP k (s.extract a0 s.size)).2.2)) := Lib.hid (by
        by_cases hx : (readP k (s.extract a0 s.size)).2.2 = 0
        · have := (readP_back (kind := k) (s := s.extract a0 s.size) (l := (readP k (s.extract a0 s.size)).1) (n := (readP k (s.extract a0 s.size)).2.1) (by rw [← hx])).2.2
          rw [ByteArray.size_extract] at this
          have hle := HLE.out
          rw [hx, take_yes (by omega)]
        · rw [takeS_bad hx, readP_bad hx]; rfl)
      go_wp2_with fail
      refine (rest_any _ a0 s 0 _ I3.out.cur).mono ?_
      rintro ee w3 ⟨rfl, hb⟩
      have I4 := Lib.hid (I3.out.below hb); clear hb
      go_wp2_with fail
      refine (readP_any k (s.extract a0 s.size) _ (by rw [ByteArray.size_extract]; have := HS.out; omega)).mono ?_
      rintro ee w4 ⟨A, n, rfl, hcap, hrd, hb⟩
      have I5 := Lib.hid (I4.out.below hb)
      have RD5 := Lib.hid hrd; have HCAP := Lib.hid hcap
      clear hb hrd hcap
      obtain ⟨R, hR⟩ : ∃ R, readP k (s.extract a0 s.size) = R := ⟨_, rfl⟩
      rw [hR] at HPR1 HRG HTK RD5 HCAP ⊢
      clear hR
      obtain ⟨l, z, x⟩ := R
      simp only at HPR1 HRG HTK RD5 HCAP ⊢
      go_wp2_with fail
      refine (fail_any _ a0 s 0 x _ I5.out.cur).mono ?_
      rintro ee w5 ⟨rfl, hc, hm⟩
      rw [if_pos rfl] at hc
      have RD6 := Lib.hid ((RD5.out.other I5.out.cur.1 (cur_no32 _ _ _) hm (Nat.le_refl _)).wider hm.size)
      have I6 := Lib.hid (I5.out.turn hc hm)
      clear hc hm
      go_wp2_with fail
      refine (take_any _ a0 s x (z : Int) _ I6.out.cur).mono ?_
      rintro ee w6 ⟨rfl, hc, hm⟩
      rw [HTK.out] at hc
      have RD7 := Lib.hid ((RD6.out.other I6.out.cur.1 (cur_no32 _ _ _) hm (Nat.le_refl _)).wider hm.size)
      have I7 := Lib.hid (I6.out.turn hc hm)
      clear hc hm
      have I8 := Lib.hid (ri_props I7.out RD7.out HCAP.out)
      have q24 := (I7.out.pk.cell 24).trans (pkC_24 _ _)
      have f24 := I7.out.pk.free 24
      have HPR : Hid (sbPr 5 k s = (l, a0 + z, x)) := HPR1
      have HLG : Hid (∀ q ∈ l, prGood q) := HRG
      obtain ⟨a1, ha1⟩ : ∃ a1, a0 + z = a1 := ⟨_, rfl⟩
      obtain ⟨e1, he1⟩ : ∃ e1, x = e1 := ⟨_, rfl⟩
      rw [ha1, he1] at HPR I8
      clear ha1 he1
      have HPG := Lib.hid (show ∀ q ∈ l, prGood q from HLG.out)
      go_wp2_with fail
      refine (sbList_any 5 (by first | exact HV.out | exact .inr rfl) k HK.out (w.heap.size + 1) w2.heap.size a1 s e1 (ackR1 k id 0 l) { hs0 with props := ⟨A, n⟩ } _ rfl I8.out.cur I8.out.pk (by have := HZ.out; omega) HS.out).mono ?_
      rintro ee wX ⟨rfl, F, C, fi, cd, a2, e2, hls, hL, hF, hC⟩
      have G0 := Lib.hid (SG.of_list I8.out hL hF hC)
      have HLS : Hid (sbLs 5 k s = (fi, cd, a2, e2)) := Lib.hid (by unfold sbLs; rw [HPR.out]; exact hls)
      have HFU : Hid (sbFull 5 k s = sbPk k m l fi cd) := Lib.hid (by unfold sbFull; rw [HLS.out, HPR.out, HM2.out])
      have HOK : Hid (PkOk (sbPk k m l fi cd)) := Lib.hid (by rw [← HFU.out]; exact sbFull_ok (by have := HS.out; omega))
      have HE2 : Hid (sbR 5 k s = if e2 ≠ 0 then (pk0, e2) else if sbE 5 (sbPk k m l fi cd) ≠ 0 then (pk0, sbE 5 (sbPk k m l fi cd)) else (sbPk k m l fi cd, 0)) := Lib.hid (by
        unfold sbR; rw [if_neg (by rw [HK.out]; decide), HLS.out, HFU.out])
      clear hls hL hF hC
      rw [HM.out] at G0
      have hl : (ldPk (.pointer (some ⟨w2.heap.size, 0, none⟩))).run Tryz.prog wX = .ok (pkV (sbPk k m l fi cd) { hs0 with props := ⟨A, n⟩, filters := F, codes := C }) wX := ld_bk G0.out.pk
      have HGI : Hid (PkIn wX wX.heap.size (sbPk k m l fi cd) { hs0 with props := ⟨A, n⟩, filters := F, codes := C }) := Lib.hid G0.out.into
      obtain ⟨P, hP⟩ : ∃ P, sbPk k m l fi cd = P := ⟨_, rfl⟩
      rw [hP] at hl HGI HOK HE2
      have HPE := Lib.hid hP
      clear hP
      go_wp2_with fail
      refine (sbValid_any 5 P _ _ HGI.out HOK.out).mono ?_
      rintro ee wV ⟨rfl, hb⟩
      have G1 := Lib.hid (G0.out.below hb); clear hb hl HGI
      go_wp2_with fail
      refine (fail_any _ a2 s e2 (sbE 5 P) _ G1.out.cur).mono ?_
      rintro ee wF ⟨rfl, hc, hm⟩
      have G2 := Lib.hid (G1.out.turn hc hm); clear hc hm
      have HW : Hid (((if e2 = 0 then sbE 5 P else e2) = 0 ∧ sbR 5 k s = (P, 0)) ∨ ((if e2 = 0 then sbE 5 P else e2) ≠ 0 ∧ sbR 5 k s = (pk0, (if e2 = 0 then sbE 5 P else e2)))) := Lib.hid (by
        rw [HE2.out]
        by_cases h2 : e2 = 0
        · rw [if_pos h2, if_neg (fun x => x h2)]
          by_cases h3 : sbE 5 P = 0
          · rw [if_neg (fun x => x h3)]; exact .inl ⟨h3, rfl⟩
          · rw [if_pos h3]; exact .inr ⟨h3, rfl⟩
        · rw [if_neg h2, if_pos h2]; exact .inr ⟨h2, rfl⟩)
      generalize (if e2 = 0 then sbE 5 P else e2) = E at *
      go_wp2_with fail
      refine (err_any _ a2 s E _ G2.out.cur).mono ?_
      rintro ee wH ⟨rfl, hwh⟩
      subst hwh
      have hl := ld_bk G2.out.pk
      have hst := run_stPk G2.out.res
      rcases HW.out with ⟨h2, hr⟩ | ⟨h2, hr⟩
      · subst h2
        have HR := Lib.hid hr; clear hr
        go_wp2
        refine bodyPost_ret (results_pk rfl _ rfl G2.out.some.2.1) rfl ?_
        exact pkOutC_ok (HR.out.trans (by rw [← HPE.out]; rfl)) G2.out.some.2.2 G2.out.some.1 G2.out.fresh
      · have e0 : (E != 0) = true := bne_iff_ne.2 h2
        have HR := Lib.hid hr; clear hr h2
        go_wp2
        refine bodyPost_ret (results_pk rfl _ rfl G2.out.none.2) rfl ?_
        exact pkOutC_bad HR.out G2.out.none.1

end Go.Proofs.YtbahnolmlodcdaaGreatDoor

namespace Go.Proofs.YtbahnolmlodcdaaGreatDoor
open Go.RowKit
attribute [local go_sem ↓] to_ldPk to_bxPk to_bdPk to_alPk to_stPk
attribute [local go_sem] run_bxPk run_bxPk_agg ld_fresh run_alPk run_bd0 run_bdK run_bdKI run_bdKIC run_bdKC run_bdKICP run_stPk_fresh pkC_0 pkC_1 pkC_2 pkC_3 pkC_4 pkC_5 pkC_6 pkC_7 pkC_8 pkC_9 pkC_10 pkC_11 pkC_12 pkC_13 pkC_14 pkC_15 pkC_16 pkC_17 pkC_18 pkC_19 pkC_20 pkC_21 pkC_22 pkC_23 pkC_24
theorem fi_size (k : Int) : ∀ l : List Fi, (l.flatMap (fiL k)).length ≤ ft l + 3 * l.length
  | [] => Nat.le_refl _
  | f :: l => by
    have h := fi_size k l
    have h1 : (fiL k f).length ≤ f.topic.size + 3 := by
      unfold fiL
      rw [List.length_append, ls_len, framedS_size]
      split
      · simp
      · simp
    have h2 : ft (f :: l) = f.topic.size + ft l := by unfold ft; simp
    rw [List.flatMap_cons, List.length_append, List.length_cons, h2]
    omega
theorem tail8L_size (v k : Int) (l : List Pr) : (tailL8 v k l).length ≤ 131075004 := by
  unfold tailL8
  split
  · simp
  · by_cases h : (bytesS k l).2 = 0
    · exact (bytesS_size k l h).2
    · rw [bytesS_bad k l h]; simp
theorem light_size (v : Int) {p : Pk} (h : lightK p = true) : (sbS v p).length ≤ 132000000 := by
  have hl := light_lens h
  unfold lightK at h
  simp only [Bool.and_eq_true, decide_eq_true_eq] at h
  have h1 := fi_size p.kind p.filters
  have h2 := tail8L_size v p.kind p.props
  unfold sbS sbHead cdL
  simp only [List.length_append, List.length_map, putL_len]
  omega
end Go.Proofs.YtbahnolmlodcdaaGreatDoor

namespace Go.Proofs.YtbahnolmlodcdaaGreatDoor
open Go.RowKit

/-- A body, by its kind's chapter. -/
def chB (v : Int) (p : Pk) : ByteArray × Int :=
  if p.kind ≤ 2 then cntB v p
  else if p.kind = 3 then pubB v p
  else if p.kind ≤ 7 then (⟨(ackB v p).1.toArray⟩, (ackB v p).2)
  else if p.kind ≤ 11 then sbB v p
  else (⟨(conB v p).1.toArray⟩, (conB v p).2)
def chE (v : Int) (p : Pk) : Int :=
  if p.kind ≤ 2 then cntE v p
  else if p.kind = 3 then pubE v p
  else if p.kind ≤ 7 then ackE v p
  else if p.kind ≤ 11 then sbE v p
  else conE v p
/-- A body read, by its kind's chapter. -/
def chR (v : Int) (h : Hdr) (s : ByteArray) : Pk × Int :=
  if h.k ≤ 2 then cntR v h.k s
  else if h.k = 3 then pubR v h.f s
  else if h.k ≤ 7 then ackR v h.k s
  else if h.k ≤ 11 then sbR v h.k s
  else conR v h.k s
def mqE (v : Int) (p : Pk) : Int :=
  if hdKnown v = false then 2
  else if hdKinds v p.kind = false then 8
  else if chE v p ≠ 0 then chE v p
  else if 268435455 < (chB v p).1.size then 4 else 0
def mqF (p : Pk) : Int := if p.kind = 3 then flagsP p else hdFixed p.kind
def mqS (v : Int) (p : Pk) : ByteArray := ⟨(hdS p.kind (mqF p) (chB v p).1.size).toArray⟩ ++ (chB v p).1
def mqB (v : Int) (p : Pk) : ByteArray × Int := if mqE v p = 0 then (mqS v p, 0) else (⟨#[]⟩, mqE v p)
def mqR (v : Int) (s : ByteArray) : Pk × Nat × Int :=
  if (hdR v s).2.2 ≠ 0 then (pk0, 0, (hdR v s).2.2)
  else if s.size < (hdR v s).2.1 + (hdR v s).1.n then (pk0, 0, 3)
  else if (chR v (hdR v s).1 (s.extract (hdR v s).2.1 ((hdR v s).2.1 + (hdR v s).1.n))).2 = 0 then ((chR v (hdR v s).1 (s.extract (hdR v s).2.1 ((hdR v s).2.1 + (hdR v s).1.n))).1, (hdR v s).2.1 + (hdR v s).1.n, 0)
  else (pk0, 0, if (chR v (hdR v s).1 (s.extract (hdR v s).2.1 ((hdR v s).2.1 + (hdR v s).1.n))).2 = 3 then 5 else (chR v (hdR v s).1 (s.extract (hdR v s).2.1 ((hdR v s).2.1 + (hdR v s).1.n))).2)
def mqAllF (v : Int) (s : ByteArray) : Nat → Nat → List Pk → List Pk × Nat × Int
  | 0, a, l => (l, a, 0)
  | f + 1, a, l =>
    if (mqR v (s.extract a s.size)).2.2 = 3 then (l, a, 0)
    else if (mqR v (s.extract a s.size)).2.2 ≠ 0 then (l, a, (mqR v (s.extract a s.size)).2.2)
    else mqAllF v s f (a + (mqR v (s.extract a s.size)).2.1) (l ++ [(mqR v (s.extract a s.size)).1])
def mqAll (v : Int) (s : ByteArray) : List Pk × Nat × Int := mqAllF v s (s.size + 1) 0 []

theorem chB_ok {v : Int} {p : Pk} (h : chE v p = 0) : (chB v p).2 = 0 := by
  unfold chE at h
  unfold chB
  split
  · rename_i h1; rw [if_pos h1] at h; rw [cntB_zero h]
  rename_i h1; rw [if_neg h1] at h
  split
  · rename_i h2; rw [if_pos h2] at h; unfold pubB; rw [if_pos h]
  rename_i h2; rw [if_neg h2] at h
  split
  · rename_i h3; rw [if_pos h3] at h; unfold ackB; rw [if_pos h]
  rename_i h3; rw [if_neg h3] at h
  split
  · rename_i h4; rw [if_pos h4] at h; unfold sbB; rw [if_pos h]
  rename_i h4; rw [if_neg h4] at h
  unfold conB; rw [if_pos h]
theorem chB_bad {v : Int} {p : Pk} (h : chE v p ≠ 0) : chB v p = (⟨#[]⟩, chE v p) := by
  unfold chE at h ⊢
  unfold chB
  split
  · rename_i h1; rw [if_pos h1] at h; exact cntB_bad h
  rename_i h1; rw [if_neg h1] at h
  split
  · rename_i h2; rw [if_pos h2] at h; unfold pubB; rw [if_neg h]
  rename_i h2; rw [if_neg h2] at h
  split
  · rename_i h3; rw [if_pos h3] at h; unfold ackB; rw [if_neg h]
  rename_i h3; rw [if_neg h3] at h
  split
  · rename_i h4; rw [if_pos h4] at h; unfold sbB; rw [if_neg h]
  rename_i h4; rw [if_neg h4] at h
  unfold conB; rw [if_neg h]
theorem mqE_ok {v : Int} {p : Pk} (h : mqE v p = 0) : hdKnown v = true ∧ hdKinds v p.kind = true ∧ chE v p = 0 ∧ (chB v p).1.size ≤ 268435455 := by
  unfold mqE at h
  split at h
  · cases h
  rename_i h1
  split at h
  · cases h
  rename_i h2
  split at h
  · rename_i h3; exact absurd h h3
  rename_i h3
  split at h
  · cases h
  rename_i h4
  exact ⟨by simpa using h1, by simpa using h2, Classical.not_not.1 h3, by omega⟩
theorem mqE_of {v : Int} {p : Pk} (h1 : hdKnown v = true) (h2 : hdKinds v p.kind = true) (h3 : chE v p = 0) (h4 : (chB v p).1.size ≤ 268435455) : mqE v p = 0 := by
  unfold mqE
  rw [if_neg (by rw [h1]; decide), if_neg (by rw [h2]; decide), if_neg (by rw [h3]; decide), if_neg (by omega)]
theorem ch_flags {v : Int} {p : Pk} (h1 : hdKnown v = true) (h2 : hdKinds v p.kind = true) (h3 : chE v p = 0) : hdFlags v p = (mqF p, 0) ∧ hdChk v p.kind (mqF p) = 0 := by
  by_cases hk : p.kind = 3
  · have hp : pubE v p = 0 := by
      unfold chE at h3
      rwa [if_neg (by omega), if_pos hk] at h3
    have hb := (pubE_good hp).flags
    have hf : mqF p = flagsP p := if_pos hk
    refine ⟨?_, hdChk_ok.2 ⟨h1, h2, ?_⟩⟩
    · unfold hdFlags
      rw [if_neg (by rw [h1]; decide), if_neg (by rw [h2]; decide), if_neg (by omega), if_neg (by rw [hb]; decide), hf]
    · rw [hf, hk, flagged_three]
      exact (flags_good hb).1
  · have hf : mqF p = hdFixed p.kind := if_neg hk
    refine ⟨?_, hdChk_ok.2 ⟨h1, h2, ?_⟩⟩
    · unfold hdFlags
      rw [if_neg (by rw [h1]; decide), if_neg (by rw [h2]; decide), if_pos hk, hf]
    · unfold hdFlagged
      rw [if_neg hk, hf]
      simp
theorem ch_front {v : Int} {p : Pk} (h : chE v p = 0) (hn : ∀ q ∈ p.props, q.n < 4294967296) (hw : ∀ q ∈ p.will.props, q.n < 4294967296) (n : Nat) : chR v ⟨p.kind, mqF p, n⟩ (chB v p).1 = (p, 0) := by
  unfold chE at h
  unfold chR chB
  dsimp only
  split
  · rename_i h1; rw [if_pos h1] at h; exact cntR_front h hn hw
  rename_i h1; rw [if_neg h1] at h
  split
  · rename_i h2; rw [if_pos h2] at h
    unfold pubB mqF
    rw [if_pos h, if_pos h2]
    exact pubR_body h hn p.payload
  rename_i h2; rw [if_neg h2] at h
  split
  · rename_i h3; rw [if_pos h3] at h
    unfold ackB
    rw [if_pos h]
    exact ackR_front (ackE_good h) hn (ls_mk _)
  rename_i h3; rw [if_neg h3] at h
  split
  · rename_i h4; rw [if_pos h4] at h
    unfold sbB
    rw [if_pos h]
    exact sbR_front h hn (ls_mk _)
  rename_i h4; rw [if_neg h4] at h
  unfold conB
  rw [if_pos h]
  exact conR_front (conE_good h) hn (ls_mk _)
theorem ch_back {v : Int} {x : Hdr} {s : ByteArray} {q : Pk} (hc : hdChk v x.k x.f = 0) (h : chR v x s = (q, 0)) : chE v q = 0 ∧ (chB v q).1 = s ∧ q.kind = x.k ∧ mqF q = x.f := by
  obtain ⟨-, -, hf⟩ := hdChk_ok.1 hc
  have hfix : x.k ≠ 3 → x.f = hdFixed x.k := fun hk => by
    unfold hdFlagged at hf
    rw [if_neg hk] at hf
    exact of_decide_eq_true hf
  unfold chR at h
  split at h
  · rename_i h1
    obtain ⟨a, b, c⟩ := cntR_back h
    have k1 : q.kind ≤ 2 := by rw [c]; exact h1
    have k2 : ¬ q.kind = 3 := by omega
    simp only [chE, chB, mqF, if_pos k1, if_neg k2]
    exact ⟨a, by rw [b], c, by rw [c]; exact (hfix (by omega)).symm⟩
  rename_i h1
  split at h
  · rename_i h2
    obtain ⟨a, b, c⟩ := pubR_back h
    have k2 := (pubE_good a).kind
    have k1 : ¬ q.kind ≤ 2 := by omega
    simp only [chE, chB, mqF, pubB, if_pos k2, if_neg k1, if_pos a]
    exact ⟨a, b, by rw [k2, h2], c⟩
  rename_i h2
  split at h
  · rename_i h3
    rcases ackR_ways v x.k s with ⟨a, b⟩ | ⟨a, b, c, d⟩
    · rw [h] at b; exact absurd rfl b
    · rw [h] at b c d
      dsimp only at b c d
      have k1 : ¬ q.kind ≤ 2 := by omega
      have k2 : ¬ q.kind = 3 := by omega
      have k3 : q.kind ≤ 7 := by omega
      simp only [chE, chB, mqF, ackB, if_neg k2, if_neg k1, if_pos k3, if_pos b.ok]
      exact ⟨b.ok, by rw [d, mk_ls], c, by rw [c]; exact (hfix h2).symm⟩
  rename_i h3
  split at h
  · rename_i h4
    obtain ⟨a, b, c⟩ := sbR_back h
    have k1 : ¬ q.kind ≤ 2 := by omega
    have k2 : ¬ q.kind = 3 := by omega
    have k3 : ¬ q.kind ≤ 7 := by omega
    have k4 : q.kind ≤ 11 := by omega
    simp only [chE, chB, mqF, sbB, if_neg k2, if_neg k1, if_neg k3, if_pos k4, if_pos a]
    exact ⟨a, by rw [b, mk_ls], c, by rw [c]; exact (hfix h2).symm⟩
  rename_i h4
  rcases conR_ways v x.k s with ⟨a, b⟩ | ⟨a, b, c, d⟩
  · rw [h] at b; exact absurd rfl b
  · rw [h] at b c d
    dsimp only at b c d
    have k1 : ¬ q.kind ≤ 2 := by omega
    have k2 : ¬ q.kind = 3 := by omega
    have k3 : ¬ q.kind ≤ 7 := by omega
    have k4 : ¬ q.kind ≤ 11 := by omega
    simp only [chE, chB, mqF, conB, if_neg k2, if_neg k1, if_neg k3, if_neg k4, if_pos b.ok]
    exact ⟨b.ok, by rw [d, mk_ls], c, by rw [c]; exact (hfix h2).symm⟩
theorem mqS_ls (v : Int) (p : Pk) : ls (mqS v p) = hdS p.kind (mqF p) (chB v p).1.size ++ ls (chB v p).1 := by
  unfold mqS
  rw [ls_app, ls_mk]
theorem mqS_size (v : Int) (p : Pk) : (mqS v p).size = (hdS p.kind (mqF p) (chB v p).1.size).length + (chB v p).1.size := by
  rw [← ls_len, mqS_ls, List.length_append, ls_len]
theorem mqS_two (v : Int) (p : Pk) : 2 ≤ (mqS v p).size := by
  rw [mqS_size]
  have := hdS_two p.kind (mqF p) (chB v p).1.size
  omega
theorem extract_mid {s : ByteArray} {A B R : List UInt8} (h : ls s = A ++ (B ++ R)) : s.extract A.length (A.length + B.length) = ⟨B.toArray⟩ := by
  apply ls_ext
  rw [extract_ls, h, List.drop_left, List.take_left, ls_mk]
theorem mqR_front {v : Int} {p : Pk} (h : mqE v p = 0) (hn : ∀ q ∈ p.props, q.n < 4294967296) (hw : ∀ q ∈ p.will.props, q.n < 4294967296) {s : ByteArray} {R : List UInt8} (hs : ls s = ls (mqS v p) ++ R) :
    mqR v s = (p, (mqS v p).size, 0) := by
  obtain ⟨h1, h2, h3, h4⟩ := mqE_ok h
  have hc := (ch_flags h1 h2 h3).2
  rw [mqS_ls, List.append_assoc] at hs
  have hr := hdR_front hc h4 hs
  have hx : s.extract (hdS p.kind (mqF p) (chB v p).1.size).length ((hdS p.kind (mqF p) (chB v p).1.size).length + (chB v p).1.size) = (chB v p).1 := by
    have := extract_mid hs
    rw [ls_len, mk_ls] at this
    exact this
  have hle : ¬ s.size < (hdS p.kind (mqF p) (chB v p).1.size).length + (chB v p).1.size := by
    have := congrArg List.length hs
    rw [ls_len, List.length_append, List.length_append, ls_len] at this
    omega
  unfold mqR
  rw [hr, if_neg (fun x => x rfl), if_neg hle, hx, ch_front h3 hn hw, if_pos rfl, mqS_size]
theorem mqR_back {v : Int} {s : ByteArray} {q : Pk} {n : Nat} (h : mqR v s = (q, n, 0)) : mqE v q = 0 ∧ mqS v q = s.extract 0 n ∧ n ≤ s.size ∧ n = (mqS v q).size := by
  unfold mqR at h
  split at h
  · rename_i h1
    simp only [Prod.mk.injEq] at h
    exact absurd h.2.2 h1
  rename_i h1
  split at h
  · simp at h
  rename_i h2
  split at h
  · rename_i h3
    simp only [Prod.mk.injEq] at h
    obtain ⟨rfl, rfl, -⟩ := h
    obtain ⟨b1, b2, b3, b4, b5⟩ := hdR_back (v := v) (s := s) (h := (hdR v s).1) (a := (hdR v s).2.1) (by rw [← Classical.not_not.1 h1])
    generalize hdR v s = r at *
    obtain ⟨c1, c2, c3, c4⟩ := ch_back (q := (chR v r.1 (s.extract r.2.1 (r.2.1 + r.1.n))).1) b1 (by rw [← h3])
    generalize (chR v r.1 (s.extract r.2.1 (r.2.1 + r.1.n))).1 = q at *
    obtain ⟨k1, k2, -⟩ := hdChk_ok.1 b1
    have hsz : (chB v q).1.size = r.1.n := by
      rw [c2, ByteArray.size_extract]
      omega
    have hS : mqS v q = s.extract 0 (r.2.1 + r.1.n) := by
      apply ls_ext
      rw [mqS_ls, c3, c4, hsz, c2, extract_ls]
      have : ls (s.extract 0 (r.2.1 + r.1.n)) = (ls s).take (r.2.1 + r.1.n) := by
        have := extract_ls s 0 (r.2.1 + r.1.n)
        rwa [Nat.zero_add, List.drop_zero] at this
      rw [this]
      generalize ls s = X at *
      rw [b4] at b3 ⊢
      generalize hdS r.1.k r.1.f r.1.n = Y at *
      rw [b3, List.take_append, List.take_of_length_le (Nat.le_add_right _ _), Nat.add_sub_cancel_left, List.drop_left]
    refine ⟨mqE_of k1 (by rw [c3]; exact k2) c1 (by omega), hS, by omega, ?_⟩
    rw [hS, ByteArray.size_extract]
    omega
  · rename_i h3
    simp only [Prod.mk.injEq] at h
    obtain ⟨-, -, h4⟩ := h
    split at h4
    · cases h4
    · exact absurd h4 h3
/-- A packet's bytes, cut. -/
theorem mqR_cut {v : Int} {p : Pk} (h : mqE v p = 0) {s : ByteArray} {c : Nat} (hs : ls s = (ls (mqS v p)).take c) (hc : c < (mqS v p).size) : mqR v s = (pk0, 0, 3) := by
  obtain ⟨h1, h2, h3, h4⟩ := mqE_ok h
  have hch := (ch_flags h1 h2 h3).2
  rw [mqS_size] at hc
  rw [mqS_ls] at hs
  rcases Nat.lt_or_ge c (hdS p.kind (mqF p) (chB v p).1.size).length with hl | hl
  · rw [List.take_append_of_le_length (by omega)] at hs
    have hr := hdR_cut hch hs hl
    unfold mqR
    rw [hr, if_pos (by decide)]
  · rw [List.take_append, List.take_of_length_le hl] at hs
    have hr := hdR_front hch h4 hs
    have hz : s.size < (hdS p.kind (mqF p) (chB v p).1.size).length + (chB v p).1.size := by
      have := congrArg List.length hs
      rw [ls_len, List.length_append, List.length_take] at this
      omega
    unfold mqR
    rw [hr, if_neg (fun x => x rfl), if_pos hz]
theorem mqR_none {v : Int} {s : ByteArray} (hv : hdKnown v = true) (hs : s.size = 0) : mqR v s = (pk0, 0, 3) := by
  have h : hdR v s = (hdr0, 0, 3) := by
    unfold hdR
    rw [if_neg (by rw [hv]; decide), if_pos hs]
  unfold mqR
  rw [h, if_pos (by decide)]
theorem mqR_arg {v : Int} (hv : hdKnown v = false) (s : ByteArray) : mqR v s = (pk0, 0, 2) := by
  have h : hdR v s = (hdr0, 0, 2) := by
    unfold hdR
    rw [if_pos hv]
  unfold mqR
  rw [h, if_pos (by decide)]
theorem mqR_step {v : Int} {s : ByteArray} (h : (mqR v s).2.2 = 0) : 2 ≤ (mqR v s).2.1 ∧ (mqR v s).2.1 ≤ s.size := by
  obtain ⟨a, b, c, d⟩ := mqR_back (q := (mqR v s).1) (n := (mqR v s).2.1) (by rw [← h])
  have := mqS_two v (mqR v s).1
  omega

/-- A body of subscribe is no longer than can be. -/
def SbFit (v : Int) (p : Pk) : Prop := 8 ≤ p.kind ∧ p.kind ≤ 11 → (sbS v p).length ≤ 140737488351232
theorem fit_of_light (v : Int) {p : Pk} (h : lightK p = true) : SbFit v p := fun _ => Nat.le_trans (light_size v h) (by decide)
/-- How many packets' bytes lie whole within the first c, and how many bytes they are. -/
def frN (v : Int) : List Pk → Nat → Nat × Nat
  | [], _ => (0, 0)
  | p :: l, c => if (mqS v p).size ≤ c then ((frN v l (c - (mqS v p).size)).1 + 1, (frN v l (c - (mqS v p).size)).2 + (mqS v p).size) else (0, 0)
theorem drop_ls (s : ByteArray) (a : Nat) : ls (s.extract a s.size) = (ls s).drop a := by
  unfold ls
  rw [Lib.extract_data, List.take_of_length_le]
  rw [List.length_drop]
  exact Nat.le_refl _
end Go.Proofs.YtbahnolmlodcdaaGreatDoor

