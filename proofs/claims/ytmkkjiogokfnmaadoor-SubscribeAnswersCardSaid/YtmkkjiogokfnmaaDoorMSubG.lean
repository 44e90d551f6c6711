/-
  subscribe: the walk of Read.
  subscribe: the walk of Answers; the chapter's example.
  subscribe: the chapter's example.
-/
import Derived.Test.YtmkkjiogokfnmaaDoorSubF
import Derived.Test.YtmkkjiogokfnmaaDoorMSubP

namespace Go.Proofs.YtmkkjiogokfnmaaDoor
open Go.RowKit
attribute [local go_sem ↓] to_ldPk to_bxPk to_bdPk to_alPk to_stPk
attribute [local go_sem] run_bxPk run_bxPk_agg ld_fresh run_alPk run_bd0 run_bdK run_bdKI run_bdKIC run_bdKC run_bdKICP run_stPk_fresh pkC_0 pkC_1 pkC_2 pkC_3 pkC_4 pkC_5 pkC_6 pkC_7 pkC_8 pkC_9 pkC_10 pkC_11 pkC_12 pkC_13 pkC_14 pkC_15 pkC_16 pkC_17 pkC_18 pkC_19 pkC_20 pkC_21 pkC_22 pkC_23 pkC_24
theorem lsR_len (v k : Int) (t : ByteArray) : ∀ (n a : Nat) (e : Int) (fi : List Fi) (cd : List Int), (lsR v k t n a e fi cd).1.length ≤ fi.length + n ∧ (lsR v k t n a e fi cd).2.1.length ≤ cd.length + n ∧ ∀ f ∈ (lsR v k t n a e fi cd).1, f ∈ fi ∨ f.topic.size ≤ 65535
  | 0, a, e, fi, cd => ⟨Nat.le_refl _, Nat.le_refl _, fun f hf => .inl hf⟩
  | n + 1, a, e, fi, cd => by
    rw [lsR_succ]
    split
    · exact ⟨by show fi.length ≤ _; omega, by show cd.length ≤ _; omega, fun f hf => .inl hf⟩
    · rename_i hc
      have hlt : a < t.size := Nat.lt_of_not_le fun x => hc (.inr x)
      split
      · obtain ⟨h1, h2, h3⟩ := lsR_len v k t n (fiR v k t a).2.1 (fiR v k t a).2.2 (fi ++ [(fiR v k t a).1]) cd
        rw [List.length_append] at h1
        simp only [List.length_cons, List.length_nil] at h1
        refine ⟨by omega, by omega, fun f hf => ?_⟩
        rcases h3 f hf with h | h
        · rcases List.mem_append.1 h with h | h
          · exact .inl h
          · right
            obtain rfl := List.mem_singleton.1 h
            have := (rtC_le (t := t) (a := a) (e := 0) (Nat.le_of_lt hlt)).2
            unfold fiR
            split
            · exact this
            · exact this
        · exact .inr h
      · obtain ⟨h1, h2, h3⟩ := lsR_len v k t n (a + 1) 0 fi (cd ++ [((numS t a 0 1 : Nat) : Int)])
        rw [List.length_append] at h2
        simp only [List.length_cons, List.length_nil] at h2
        exact ⟨by omega, by omega, h3⟩
theorem prpC_ok (v k : Int) (t : ByteArray) (a : Nat) (e : Int) (ht : t.size ≤ 140737488351232) : (∀ p ∈ (prpC v k t a e).1, prGood p) ∧ (prpC v k t a e).1.length ≤ 1000 := by
  unfold prpC
  split
  · exact ⟨by simp, Nat.zero_le _⟩
  · refine ⟨readP_good (by rw [ByteArray.size_extract]; omega), ?_⟩
    by_cases h : (readP k (t.extract a t.size)).2.2 = 0
    · exact readP_len h
    · have := readP_bad h
      rw [this]
      exact Nat.zero_le _
theorem sbFull_ok {v k : Int} {s : ByteArray} (hs : s.size ≤ 140737488351000) : PkOk (sbFull v k s) := by
  obtain ⟨h1, h2, h3⟩ := lsR_len v k s (s.size + 1) (sbPr v k s).2.1 (sbPr v k s).2.2 [] []
  obtain ⟨p1, p2⟩ := prpC_ok v k s (takeS s 0 0 2).2.1 (takeS s 0 0 2).2.2 (by omega)
  refine ⟨(by intro q hq; cases hq), p1, fun f hf => ?_, ?_, ?_⟩
  · rcases h3 f hf with h | h
    · cases h
    · omega
  · exact ⟨Nat.zero_le _, Nat.zero_le _, Nat.zero_le _, Nat.zero_le _, Nat.zero_le _, Nat.zero_le _, Nat.zero_le _⟩
  · simp only [List.length_nil] at h1 h2
    exact ⟨Nat.zero_le _, by show (sbLs v k s).2.1.length ≤ _; unfold sbLs; omega, by show (sbLs v k s).1.length ≤ _; unfold sbLs; omega, by show (sbPr v k s).1.length ≤ _; unfold sbPr; omega⟩
theorem rd_both {x y : World} {B : Nat} {A : Option Addr} {l : List Pr} {t1 t2 : TypeId} {c1 c2 : Array Value} {g1 g2 : Nat} (h : Rd x B 4 A l.length (prs l)) (b1 : Bk x g1 t1 c1) (b2 : Bk x g2 t2 c2)
    (n1 : ∀ (i : Nat) (n : Int), c1[i]? ≠ some (Value.int IntKind.u32 n)) (n2 : ∀ (i : Nat) (n : Int), c2[i]? ≠ some (Value.int IntKind.u32 n)) (hm : Mods (two g1 g2) x y) (hB : B ≤ x.heap.size) : Rd y B 4 A l.length (prs l) := by
  rcases h.2 with h0 | ⟨b, o, rfl, hb, hc⟩
  · exact ⟨h.1, .inl h0⟩
  · by_cases hl : 0 < l.length
    · obtain ⟨b', o', he, _, _, q1, _⟩ := h.atP hl
      simp only [Option.some.injEq, Addr.mk.injEq] at he
      obtain ⟨rfl, rfl, -⟩ := he
      refine ⟨h.1, .inr ⟨b, o, rfl, hb, fun j u hu => (World.cell?_of_block (a := ⟨b, o + j, none⟩) (hm.block b (by omega) (fun e => ?_))).trans (hc j u hu)⟩⟩
      rcases e with rfl | rfl
      · rw [b1.cell] at q1; exact n1 _ _ q1
      · rw [b2.cell] at q1; exact n2 _ _ q1
    · have hz : l = [] := List.eq_nil_of_length_eq_zero (by omega)
      subst hz
      exact Rd.nil _ _ _ _
section
variable {w wL x y : World} {g gp gc : Nat} {k i : Int} {l : List Pr} {A : Option Addr} {n : Nat} {fi : List Fi} {cd : List Int} {F C : Hd} {t : ByteArray} {a a' : Nat} {e e' : Int}
theorem OwnF.into (h : OwnF wL x fi F) : Rd x x.heap.size 5 F.a fi.length (fis fi) ∧ fi.length ≤ F.c := by
  obtain ⟨A, c, hv, h1, h2⟩ := own_rd h
  simp only [Value.slice.injEq] at hv
  obtain ⟨rfl, -, rfl⟩ := hv
  exact ⟨h2, h1⟩
theorem OwnC.into (h : OwnC wL x cd C) : Rd x x.heap.size 1 C.a cd.length (iv cd) ∧ cd.length ≤ C.c := by
  obtain ⟨A, c, hv, h1, h2⟩ := own_rd h
  simp only [Value.slice.injEq] at hv
  obtain ⟨rfl, -, rfl⟩ := hv
  exact ⟨h2, h1⟩
end
/-- As PkOut; and a code's slice is one that the call has made. -/
def PkOutC (r : Pk × Int) (w : World) (e : Ending) (w' : World) : Prop := ∃ h, e = .returned (.tuple #[pkV r.1 h, .int .i64 r.2]) ∧ PkIn w' w'.heap.size r.1 h ∧ Below w.heap.size w w' ∧ (∀ b o, h.codes.a = some ⟨b, o, none⟩ → w.heap.size ≤ b)
theorem pkOutC_bad {r : Pk × Int} {x : Int} {w w' : World} (h : r = (pk0, x)) (hb : Below w.heap.size w w') : PkOutC r w (.returned (.tuple #[pkV pk0 hs0, .int .i64 x])) w' := by
  subst h
  exact ⟨hs0, rfl, pk0_in _ _, hb, fun b o e => by cases e⟩
theorem pkOutC_ok {r : Pk × Int} {p : Pk} {h : Hs} {w w' : World} (hr : r = (p, 0)) (hi : PkIn w' w'.heap.size p h) (hb : Below w.heap.size w w') (hf : ∀ b o, h.codes.a = some ⟨b, o, none⟩ → w.heap.size ≤ b) : PkOutC r w (.returned (.tuple #[pkV p h, .int .i64 0])) w' := by
  subst hr
  exact ⟨h, rfl, hi, hb, hf⟩
end Go.Proofs.YtmkkjiogokfnmaaDoor

namespace Go.Proofs.YtmkkjiogokfnmaaDoor
open Go.RowKit
attribute [local go_sem ↓] to_ldPk to_bxPk to_bdPk to_alPk to_stPk
attribute [local go_sem] run_bxPk run_bxPk_agg ld_fresh run_alPk run_bd0 run_bdK run_bdKI run_bdKIC run_bdKC run_bdKICP run_stPk_fresh pkC_0 pkC_1 pkC_2 pkC_3 pkC_4 pkC_5 pkC_6 pkC_7 pkC_8 pkC_9 pkC_10 pkC_11 pkC_12 pkC_13 pkC_14 pkC_15 pkC_16 pkC_17 pkC_18 pkC_19 pkC_20 pkC_21 pkC_22 pkC_23 pkC_24
theorem St.pushB {w x : World} {l : List (Nat × Pk × Hs)} {g : Nat} {p : Pk} {h : Hs} (s : St w l x) (hg : g = x.heap.size) (ip : PkIn x x.heap.size p h) : St w (l ++ [(g, p, h)]) (x.alloc (.cells (pkC p h) PkT)) := by
  subst hg
  exact s.push ip
set_option maxHeartbeats 4000000 in
set_option maxRecDepth 10000 in
theorem sbAns_any (v : Int) (p q : Pk) (h k : Hs) (w : World) (ip : PkIn w w.heap.size p h) (iq : PkIn w w.heap.size q k) (ok : PkOk p) (okq : PkOk q) :
    Calls Tryd.prog 9 #[.int .i64 v, pkV p h, pkV q k] w fun e w' => e = .returned (.bool (sbAns v p q)) ∧ Below w.heap.size w w' := by
  have OK := Lib.hid ok
  have OKQ := Lib.hid okq
  have S00 := Lib.hid ((St.start w).push ip)
  have IQ : PkIn (w.alloc (.cells (pkC p h) PkT)) (w.alloc (.cells (pkC p h) PkT)).heap.size q k := (iq.below ((Below.refl _ _).alloc (Nat.le_refl _) _)).wider (by simp)
  have S0 := Lib.hid (S00.out.pushB (g := w.heap.size + 1) (by simp) IQ)
  have HE : Hid (sbAns v p q = (sbAsk p.kind && (decide (q.kind = p.kind + 1) && (decide (q.id = p.id) && (decide (sbE v p = 0) && (decide (sbE v q = 0) && (sbSil v q.kind || decide (q.codes.length = p.filters.length)))))))) := Lib.hid rfl
  have k0 := (S0.out.cell 0 rfl 0).trans (pkC_0 _ _)
  clear ip ok iq okq IQ S00
  go_enter Tryd.func9, Tryd.ntmps9
  go_wp2_with fail
  refine (sbAsk_any p.kind _).mono ?_
  rintro e w1 ⟨rfl, hw1⟩
  subst hw1
  cases hk : sbAsk p.kind
  · have HX : Hid (sbAns v p q = false) := Lib.hid (by rw [HE.out, hk]; rfl)
    clear hk
    go_wp2
    go_ret
    exact ⟨by rw [HX.out]; rfl, S0.out.kept⟩
  have hk8 : p.kind = 8 ∨ p.kind = 10 := of_decide_eq_true hk
  have HE1 : Hid (sbAns v p q = (decide (q.kind = p.kind + 1) && (decide (q.id = p.id) && (decide (sbE v p = 0) && (decide (sbE v q = 0) && (sbSil v q.kind || decide (q.codes.length = p.filters.length))))))) := Lib.hid (by rw [HE.out, hk, Bool.true_and])
  clear hk HE
  have k4 := (S0.out.cell 0 rfl 4).trans (pkC_4 _ _)
  have j0 := (S0.out.cell 1 rfl 0).trans (pkC_0 _ _)
  have j4 := (S0.out.cell 1 rfl 4).trans (pkC_4 _ _)
  by_cases hq : q.kind = p.kind + 1
  rotate_left
  · have HX : Hid (sbAns v p q = false) := Lib.hid (by rw [HE1.out, decide_eq_false hq]; rfl)
    have e1 : (q.kind != p.kind + 1) = true := bne_iff_ne.2 hq
    clear hq
    have hP0 : 8 ≤ p.kind := by omega
    have hP1 : p.kind ≤ 10 := by omega
    clear hk8
    go_wp2
    go_ret
    exact ⟨by rw [HX.out]; rfl, S0.out.kept⟩
  have HE2 : Hid (sbAns v p q = (decide (q.id = p.id) && (decide (sbE v p = 0) && (decide (sbE v q = 0) && (sbSil v q.kind || decide (q.codes.length = p.filters.length)))))) := Lib.hid (by rw [HE1.out, decide_eq_true hq, Bool.true_and])
  have e1 : (q.kind != p.kind + 1) = false := by rw [hq]; exact bne_self_eq_false _
  have hP0 : 8 ≤ p.kind := by omega
  have hP1 : p.kind ≤ 10 := by omega
  clear hq hk8 HE1
  by_cases hi : q.id = p.id
  rotate_left
  · have HX : Hid (sbAns v p q = false) := Lib.hid (by rw [HE2.out, decide_eq_false hi]; rfl)
    have e2 : (q.id != p.id) = true := bne_iff_ne.2 hi
    clear hi
    go_wp2
    go_ret
    exact ⟨by rw [HX.out]; rfl, S0.out.kept⟩
  have HE3 : Hid (sbAns v p q = (decide (sbE v p = 0) && (decide (sbE v q = 0) && (sbSil v q.kind || decide (q.codes.length = p.filters.length))))) := Lib.hid (by rw [HE2.out, decide_eq_true hi, Bool.true_and])
  have e2 : (q.id != p.id) = false := by rw [hi]; exact bne_self_eq_false _
  clear hi HE2
  have l0 := S0.out.ld 0 rfl
  go_wp2_with fail
  refine (sbValid_any v p h _ (S0.out.into 0 rfl) OK.out).mono ?_
  rintro e w1 ⟨rfl, hb⟩
  have S1 := Lib.hid (S0.out.below hb); clear hb l0 k0 k4 j0 j4
  obtain ⟨x, hx⟩ : ∃ x, sbE v p = x := ⟨_, rfl⟩
  rw [hx] at HE3 ⊢
  clear hx
  by_cases hx : x = 0
  rotate_left
  · have HX : Hid (sbAns v p q = false) := Lib.hid (by rw [HE3.out, decide_eq_false hx]; rfl)
    have e0 : (x != 0) = true := bne_iff_ne.2 hx
    clear hx
    go_wp2
    go_ret
    exact ⟨by rw [HX.out]; rfl, S1.out.kept⟩
  have HE4 : Hid (sbAns v p q = (decide (sbE v q = 0) && (sbSil v q.kind || decide (q.codes.length = p.filters.length)))) := Lib.hid (by rw [HE3.out, decide_eq_true hx, Bool.true_and])
  have e0 : (x != 0) = false := by rw [hx]; rfl
  clear hx HE3
  have l1 := S1.out.ld 1 rfl
  go_wp2_with fail
  refine (sbValid_any v q k _ (S1.out.into 1 rfl) OKQ.out).mono ?_
  rintro e w2 ⟨rfl, hb⟩
  have S2 := Lib.hid (S1.out.below hb); clear hb l1
  have j0 := (S2.out.cell 1 rfl 0).trans (pkC_0 _ _)
  obtain ⟨y, hy⟩ : ∃ y, sbE v q = y := ⟨_, rfl⟩
  rw [hy] at HE4 ⊢
  clear hy
  by_cases hy : y = 0
  rotate_left
  · have HX : Hid (sbAns v p q = false) := Lib.hid (by rw [HE4.out, decide_eq_false hy]; rfl)
    have e3 : (y != 0) = true := bne_iff_ne.2 hy
    clear hy
    go_wp2
    go_ret
    exact ⟨by rw [HX.out]; rfl, S2.out.kept⟩
  have HE5 : Hid (sbAns v p q = (sbSil v q.kind || decide (q.codes.length = p.filters.length))) := Lib.hid (by rw [HE4.out, decide_eq_true hy, Bool.true_and])
  have e3 : (y != 0) = false := by rw [hy]; rfl
  clear hy HE4
  go_wp2_with fail
  refine (sbSil_any v q.kind _).mono ?_
  rintro e w3 ⟨rfl, hw3⟩
  subst hw3
  obtain ⟨n, hn⟩ : ∃ n, q.codes.length = n := ⟨_, rfl⟩
  obtain ⟨m, hm⟩ : ∃ m, p.filters.length = m := ⟨_, rfl⟩
  have k22 := S2.out.cell 1 rfl 22
  have k23 := S2.out.cell 0 rfl 23
  rw [pkC_22, hn] at k22
  rw [pkC_23, hm] at k23
  rw [hn, hm] at HE5
  clear hn hm
  cases hs : sbSil v q.kind
  · have HX : Hid (sbAns v p q = decide ((n : Int) = (m : Int))) := Lib.hid (by
      rw [HE5.out, hs, Bool.false_or]
      by_cases e : n = m
      · rw [decide_eq_true e, decide_eq_true (by rw [e])]
      · rw [decide_eq_false e, decide_eq_false (by omega)])
    clear hs
    by_cases hnm : (n : Int) = (m : Int)
    · have e4 : ((n : Int) == (m : Int)) = true := beq_iff_eq.2 hnm
      rw [decide_eq_true hnm] at HX
      clear hnm
      go_wp2
      go_ret
      exact ⟨by rw [HX.out]; rfl, S2.out.kept⟩
    · have e4 : ((n : Int) == (m : Int)) = false := beq_eq_false_iff_ne.2 hnm
      rw [decide_eq_false hnm] at HX
      clear hnm
      go_wp2
      go_ret
      exact ⟨by rw [HX.out]; rfl, S2.out.kept⟩
  · have HX : Hid (sbAns v p q = true) := Lib.hid (by rw [HE5.out, hs]; rfl)
    clear hs
    go_wp2
    go_ret
    exact ⟨by rw [HX.out]; rfl, S2.out.kept⟩
end Go.Proofs.YtmkkjiogokfnmaaDoor

namespace Go.Proofs.YtmkkjiogokfnmaaDoor
open Go.RowKit
attribute [local go_sem ↓] to_ldPk to_bxPk to_bdPk to_alPk to_stPk
attribute [local go_sem] run_bxPk run_bxPk_agg ld_fresh run_alPk run_bd0 run_bdK run_bdKI run_bdKIC run_bdKC run_bdKICP run_stPk_fresh pkC_0 pkC_1 pkC_2 pkC_3 pkC_4 pkC_5 pkC_6 pkC_7 pkC_8 pkC_9 pkC_10 pkC_11 pkC_12 pkC_13 pkC_14 pkC_15 pkC_16 pkC_17 pkC_18 pkC_19 pkC_20 pkC_21 pkC_22 pkC_23 pkC_24
/-- A packet with one filter. -/
def askF (i : Int) (f : Fi) : Pk := { pk0 with kind := 8, id := i, filters := [f] }
def askH (A : Option Addr) : Hs := { hs0 with filters := ⟨A, 1⟩ }
theorem run_bdKIF (i : Int) (f : Fi) (A : Option Addr) (w : World) : (bdPk #[(0, .int .i64 8), (4, .int .i64 i), (19, .slice A 1 1)]).run Tryd.prog w = .ok (pkV (askF i f) (askH A)) w := by kernel_rfl
theorem askF_in {w : World} {B : Nat} {A : Option Addr} {f : Fi} (i : Int) (h : Rd w B 5 A 1 (fiC f)) : PkIn w B (askF i f) (askH A) := by
  refine ⟨Rd.nil _ _ _ _, Rd.nil _ _ _ _, ?_, Rd.nil _ _ _ _, Nat.le_refl _, Nat.le_refl _, Nat.le_refl _, Nat.le_refl _⟩
  show Rd w B 5 A 1 (fis [f])
  rw [show fis [f] = fiC f from List.append_nil _]
  exact h
theorem askF_ok (i : Int) {f : Fi} (h : f.topic.size ≤ 140737488351232) : PkOk (askF i f) := by
  refine ⟨?_, ?_, ?_, ?_, ?_⟩
  · intro q hq; cases hq
  · intro q hq; cases hq
  · intro q hq
    obtain rfl : q = f := by simpa [askF] using hq
    exact h
  · exact ⟨Nat.zero_le _, Nat.zero_le _, Nat.zero_le _, Nat.zero_le _, Nat.zero_le _, Nat.zero_le _, Nat.zero_le _⟩
  · exact ⟨Nat.zero_le _, Nat.zero_le _, show 1 ≤ 140737488351232 by decide, Nat.zero_le _⟩
def fiA : Fi := ⟨⟨#[97, 47, 35]⟩, 2, false, false, 0⟩
theorem example_sub : sbB 4 (askF 1 fiA) = (⟨#[0, 1, 0, 3, 97, 47, 35, 2]⟩, 0) := by decide +kernel
theorem askF_put (w : World) (i : Int) (f : Fi) : ∃ W, W = (w.alloc (.cells (pkC pk0 hs0) PkT)).alloc (.cells (fiCells f) 35) ∧
    (stPk (.pointer (some ⟨w.heap.size, 0, none⟩)) (pkV (askF i f) (askH (some ⟨w.heap.size + 1, 0, none⟩)))).run Tryd.prog W = .ok () (putPk W w.heap.size (askF i f) (askH (some ⟨w.heap.size + 1, 0, none⟩))) ∧
    Bk (putPk W w.heap.size (askF i f) (askH (some ⟨w.heap.size + 1, 0, none⟩))) w.heap.size PkT (pkC (askF i f) (askH (some ⟨w.heap.size + 1, 0, none⟩))) ∧
    PkIn (putPk W w.heap.size (askF i f) (askH (some ⟨w.heap.size + 1, 0, none⟩))) (putPk W w.heap.size (askF i f) (askH (some ⟨w.heap.size + 1, 0, none⟩))).heap.size (askF i f) (askH (some ⟨w.heap.size + 1, 0, none⟩)) ∧
    Below w.heap.size w (putPk W w.heap.size (askF i f) (askH (some ⟨w.heap.size + 1, 0, none⟩))) := by
  refine ⟨_, rfl, ?_⟩
  have b0 := Bk.fresh w PkT (pkC pk0 hs0)
  have b1 := Below.refl w.heap.size w
  have b2 := b1.alloc (Nat.le_refl _) (.cells (pkC pk0 hs0) PkT)
  have bk := b0.below ((Below.refl (w.alloc (.cells (pkC pk0 hs0) PkT)).heap.size (w.alloc (.cells (pkC pk0 hs0) PkT))).alloc (Nat.le_refl _) (.cells (fiCells f) 35)) b0.lt
  have hr := rd_fi1 (w.alloc (.cells (pkC pk0 hs0) PkT)) f
  have b3 := b2.alloc b2.size (.cells (fiCells f) 35)
  have e : (w.alloc (.cells (pkC pk0 hs0) PkT)).heap.size = w.heap.size + 1 := by simp
  rw [e] at hr
  refine ⟨run_stPk bk _ _, put_bk bk _ _, askF_in i ?_, below_put b3 b3.size (Nat.le_refl _) _ _⟩
  have hr2 := hr.wider (B' := ((w.alloc (.cells (pkC pk0 hs0) PkT)).alloc (.cells (fiCells f) 35)).heap.size) (by simp)
  refine (hr2.grown (putPk_mods _ w.heap.size _ _) (Nat.le_refl _) fun b o hA hx hbg => ?_).wider (putPk_mods _ _ _ _).size
  cases hA
  omega
set_option maxHeartbeats 1000000 in
set_option maxRecDepth 10000 in
theorem one11_any (w : World) : Calls Tryd.prog 12 #[] w fun e w' => ∃ K, e = .returned (pkV (askF 1 fiA) K) ∧ PkIn w' w'.heap.size (askF 1 fiA) K ∧ Below w.heap.size w w' := by
  have hf := run_fi
  have hb := fun A w => run_bdKIF 1 fiA A w
  obtain ⟨W, hW, hst, hbk, hin, hbel⟩ := askF_put w 1 fiA
  have HW := Lib.hid hW
  have HBK := Lib.hid hbk
  have HIN := Lib.hid hin
  have HBL := Lib.hid hbel
  rw [HW.out, show fiCells fiA = #[.string ⟨#[97, 47, 35]⟩, .int .i64 2, .bool false, .bool false, .int .i64 0] from rfl] at hst
  clear hW hbk hin hbel
  go_enter Tryd.func12, Tryd.ntmps12
  go_wp2
  have e2 := HW.out
  rw [show fiCells fiA = #[.string ⟨#[97, 47, 35]⟩, .int .i64 2, .bool false, .bool false, .int .i64 0] from rfl] at e2
  rw [← e2]
  refine bodyPost_ret (results_pk1 rfl _ rfl HBK.out) rfl ?_
  exact ⟨_, rfl, HIN.out, HBL.out⟩
theorem sb_small : (sbS 4 (askF 1 fiA)).length ≤ 140737488351232 := by decide +kernel
set_option maxHeartbeats 1000000 in
set_option maxRecDepth 10000 in
theorem lives11_any (w : World) :
    Calls Tryd.prog 4 #[] w fun e w' => e = .returned (.bool true) ∧ Below w.heap.size w w' := by
  go_enter Tryd.func4, Tryd.ntmps4
  go_wp2_with fail
  refine (one11_any _).mono ?_
  rintro e w1 ⟨K, rfl, hin, hb⟩
  have HB := Lib.hid hb; clear hb
  go_wp2_with fail
  refine (sbBody_any 4 (askF 1 fiA) K _ hin (askF_ok 1 (show 3 ≤ 140737488351232 by decide)) sb_small).mono ?_
  rintro e w2 ⟨rfl, hb⟩
  have HB2 := Lib.hid (HB.out.trans (hb.mono HB.out.size)); clear hb
  rw [example_sub]
  go_wp2
  go_ret
  exact ⟨rfl, HB2.out⟩
end Go.Proofs.YtmkkjiogokfnmaaDoor
