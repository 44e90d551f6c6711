/- prop.list: the walk. -/
import Derived.Test.YtcokgfmlkanoiaaLisB
import Derived.Test.YtcokgfmlkanoiaaProM
namespace Go.Proofs.Ytcokgfmlkanoiaa
open Go.RowKit

/-- What a list's reading leaves: the list, owned by the call; the error. -/
def ListOut (r : List Pr × Int) (w : World) (e : Ending) (w' : World) : Prop :=
  ∃ A c, e = .returned (.tuple #[.slice A r.1.length c, .int .i64 r.2]) ∧ r.1.length ≤ c ∧ Rd w' w'.heap.size 4 A r.1.length (prs r.1) ∧ Below w.heap.size w w'
theorem listOut_bad {r : List Pr × Int} {x : Int} {w w' : World} (h : r = ([], x)) (hb : Below w.heap.size w w') : ListOut r w (.returned (.tuple #[.slice none 0 0, .int .i64 x])) w' := by
  subst h
  exact ⟨none, 0, rfl, Nat.le_refl _, Rd.nil _ _ _ _, hb⟩

theorem shape_of_has {id : Int} {r : Rule} {kind : Int} (h : ruleOf id = r) (hh : hasR r kind = true) : 1 ≤ r.shape ∧ r.shape ≤ 7 := by
  subst h
  unfold ruleOf at hh ⊢
  cases hf : ruleTab.find? fun q => (q.1 : Int) == id with
  | none => rw [hf] at hh; simp [hasR] at hh
  | some q =>
    have ht : ∀ q ∈ ruleTab, 1 ≤ q.2.shape ∧ q.2.shape ≤ 7 := by decide
    exact ht q (List.mem_of_find?_eq_some hf)
theorem heap_alloc_size (w : World) (o : Obj) : (w.alloc o).heap.size = w.heap.size + 1 := by simp
set_option maxHeartbeats 8000000 in
set_option maxRecDepth 10000 in
theorem list_any (kind : Int) (t : ByteArray) (w : World) (ht : t.size ≤ 140737488351232) :
    Calls Try.prog 63 #[.int .i64 kind, .string t] w (ListOut (listS kind t) w) := by
  have HT := Lib.hid ht; clear ht
  go_enter Try.func63, Try.ntmps63
  go_wp2_with fail
  refine (rules_any _).mono ?_
  rintro e w1 ⟨rfl, hT, hb1⟩
  have HT1 := Lib.hid hT; have HB1 := Lib.hid hb1; clear hT hb1
  go_wp2_with fail
  refine (readers_any _).mono ?_
  rintro e w2 ⟨rfl, hR, hb2⟩
  have hz1 : w.heap.size < w1.heap.size := HT1.out.lt
  have hz2 : w1.heap.size < w2.heap.size := hR.lt
  have HR2 := Lib.hid hR; have HB2 := Lib.hid hb2; clear hR hb2
  have HS3 := Lib.hid (Bk.fresh w2 ST (seenC fun _ => 0))
  have HB3 := Lib.hid ((Below.refl w2.heap.size w2).alloc (Nat.le_refl _) (.cells (seenC fun _ => 0) ST))
  rw [seenC_zero] at HS3 HB3
  go_wp2_with fail
  refine (newCur_any t _ (by have := HT.out; omega)).mono ?_
  rintro e w4 ⟨rfl, hc4, hb4⟩
  rw [heap_alloc_size] at hc4 hb4
  have hz4 : w2.heap.size + 1 < w4.heap.size := hc4.lt
  have HC4 := Lib.hid hc4; have HB4 := Lib.hid hb4; clear hc4 hb4
  have HI : Hid (LInv w w.heap.size w1.heap.size w2.heap.size w4.heap.size (w2.heap.size + 1) (w4.heap.size + 1) t (fun _ => 0) 0 0 ⟨0, 0, ⟨#[]⟩, ⟨#[]⟩⟩ (w4.alloc (.cells #[.pointer (some ⟨w2.heap.size + 1, 0, none⟩), .int .i64 0, .int .u32 0, .string ⟨#[]⟩, .string ⟨#[]⟩] SrT))) := Lib.hid (by
    have hb4 : Below (w2.heap.size + 1) (w2.alloc (.cells (seenC fun _ => 0) ST)) w4 := by rw [seenC_zero]; exact HB4.out
    have k1 : Kept w w1 := HB1.out
    have k2 : Kept w w2 := k1.below HB2.out
    have k4 : Kept w w4 := (k2.alloc (.cells (seenC fun _ => 0) ST)).below (by simpa using hb4)
    refine ⟨k4.alloc _, ?_, ?_, ?_, ⟨Bk.fresh _ _ _, HC4.out.1.alloc _, HC4.out.2⟩, by simp, by refine ⟨?_, ?_, ?_, ?_, ?_, ?_, ?_, ?_, ?_, ?_, ?_, ?_, ?_, ?_, ?_, ?_, ?_⟩ <;> omega⟩
    · exact (((HT1.out.below HB2.out HT1.out.lt).alloc (.cells (seenC fun _ => 0) ST)).below hb4 (by omega)).alloc _
    · exact (((HR2.out).alloc (.cells (seenC fun _ => 0) ST)).below hb4 (by omega)).alloc _
    · have := HS3.out
      rw [← seenC_zero] at this
      exact (this.below hb4 (by omega)).alloc _)
  go_wp2
  go_loopw [8] (fun v wr => ∃ (a m : Nat) (f : Nat → Nat) (out : List Pr) (p : Pr), a ≤ t.size ∧ t.size < a + m ∧ listS kind t = listGo kind t m a f out ∧ out.length ≤ 1000 ∧ (∀ i, f i ≤ out.length) ∧
      LInv w w.heap.size w1.heap.size w2.heap.size w4.heap.size (w2.heap.size + 1) (w4.heap.size + 1) t f a 0 p wr ∧ wr.ownsRow (w4.heap.size + 1) 35 4 v out.length (prs out)) (fun _ wr => t.size - posOf wr (w2.heap.size + 1))
  case atStart => exact ⟨0, t.size + 1, fun _ => 0, [], _, by omega, by omega, rfl, by simp, by simp, HI.out, World.ownsRow_nil _ _ _ _⟩
  case round =>
    obtain ⟨a, m, f, out, p, ha, hm, hgo, hol, hf, hinv, hown⟩ := hrel
    have HGO := Lib.hid hgo; have HF := Lib.hid hf; have HINV := Lib.hid hinv; have HOWN := Lib.hid hown
    have HPOS := Lib.hid (posOf_cur hinv.src.2)
    clear hgo hf hown
    obtain ⟨⟨c0, -⟩, -⟩ := hinv.src.cells
    clear hinv
    by_cases hlt : a < t.size
    · have hp : (0 : Int) < ((t.size - a : Nat) : Int) := by omega
      go_wp2_with fail
      refine (left_any (w2.heap.size + 1) a t 0 _ HINV.out.src.2).mono ?_
      rintro e w5 ⟨rfl, hb⟩
      have I5 := Lib.hid (HINV.out.below hb); have O5 := Lib.hid (own_below HOWN.out hb); clear hb
      obtain ⟨⟨c0', -⟩, -⟩ := I5.out.src.cells
      go_wp2_with fail
      refine (number_any (w2.heap.size + 1) a t 0 1 _ I5.out.src.2 (by omega)).mono ?_
      rintro e w6 ⟨rfl, hc, hm6⟩
      obtain ⟨hn1, hn2⟩ := num_one t a hlt
      rw [hn2] at hc
      rw [hn1]
      have I6 := Lib.hid (I5.out.mods (Mods.of_grown hm6 (.inr rfl)) (I5.out.src.cur hc hm6))
      have O6 := Lib.hid (own_mods O5.out (Mods.of_grown (S := fun i => i = w2.heap.size + 1) hm6 rfl) (fun g hg => by have := (own_block O5.out g hg).1; omega))
      have HB6 : Hid (w4.heap.size + 1 ≤ w6.heap.size) := Lib.hid I6.out.base
      clear hc hm6 hn1 hn2 c0 c0'
      have hid : idAt t a < 256 := UInt8.toNat_lt _
      obtain ⟨sh, ki, le, mo, HRL, hlk⟩ := rule_look (idAt t a)
      have hl1 := hlk _ _ I6.out.tab
      have hw : IntKind.i64.wrap (idAt t a : Int) = (idAt t a : Int) := by rw [IntKind.wrap_i64]; omega
      have HGO2 : Hid (∃ m', m = m' + 1) := Lib.hid ⟨m - 1, by omega⟩
      obtain ⟨m', rfl⟩ := HGO2.out
      have HG : Hid (listS kind t = listGo kind t (m' + 1) a f out) := HGO
      unfold listGo at HG
      rw [HRL.out] at HG
      simp only at HG
      have HIA : Hid (idAt t a < 256) := Lib.hid hid
      generalize idAt t a = id at *
      have HZ6 := Lib.hid (Bk.fresh w6 66 #[.int .i64 sh, .int .i64 ki, .int .u32 le, .int .u32 mo])
      have I7 := Lib.hid (I6.out.alloc (.cells #[.int .i64 sh, .int .i64 ki, .int .u32 le, .int .u32 mo] 66))
      have O7 := Lib.hid (O6.out.alloc (.cells #[.int .i64 sh, .int .i64 ki, .int .u32 le, .int .u32 mo] 66))
      clear hlk
      go_wp2_with fail
      refine (has_rule ⟨sh, ki, le, mo⟩ (HRL.out ▸ ruleOf_ok id) kind _).mono ?_
      rintro e w8 ⟨rfl, hb⟩
      have I8 := Lib.hid (I7.out.below hb); have O8 := Lib.hid (own_below O7.out hb); have HZ8 := Lib.hid (HZ6.out.below hb HZ6.out.lt)
      clear hb hl1 I6 O6 I7 O7 HZ6
      cases hhas : hasR ⟨sh, ki, le, mo⟩ kind
      · have HX : Hid (listS kind t = ([], 9)) := Lib.hid (by rw [HG.out, if_neg (by omega), if_pos hhas])
        have KF := Lib.hid I8.out.kept
        clear hhas
        go_wp2
        go_ret2
        exact listOut_bad HX.out KF.out
      · have HHAS := Lib.hid hhas
        have HG2 : Hid (listS kind t = if (valS sh t (a + 1)).err ≠ 0 then ([], (valS sh t (a + 1)).err) else if checkE ⟨sh, ki, le, mo⟩ kind ⟨id, (valS sh t (a + 1)).n, (valS sh t (a + 1)).text, (valS sh t (a + 1)).value⟩ ≠ 0 then ([], checkE ⟨sh, ki, le, mo⟩ kind ⟨id, (valS sh t (a + 1)).n, (valS sh t (a + 1)).text, (valS sh t (a + 1)).value⟩)
            else if againB f kind id = true then ([], 9) else if out.length = 1000 then ([], 4) else listGo kind t m' (valS sh t (a + 1)).at_ (upd f id (f id + 1)) (out ++ [⟨id, (valS sh t (a + 1)).n, (valS sh t (a + 1)).text, (valS sh t (a + 1)).value⟩])) := Lib.hid (by
          rw [HG.out, if_neg (by omega), if_neg (by rw [hhas]; decide)])
        have hsh := shape_of_has HRL.out hhas
        have hsh1 := hsh.1
        have hsh7 := hsh.2
        clear hhas HG hsh
        have I9 := Lib.hid (I8.out.mods (put_mods w8 w4.heap.size (w2.heap.size + 1) (.int .i64 id) (.int .u32 0) (.string ⟨#[]⟩) (.string ⟨#[]⟩)) (I8.out.src.put ⟨id, 0, ⟨#[]⟩, ⟨#[]⟩⟩))
        have hl2 := (mlook_run (P := Try.prog) (t := 92) (k := 3) (e := 100) (z := .nilFunc) (by kernel_rfl) (by kernel_rfl) (by kernel_rfl) I9.out.rd (sh : Int)).1
        rw [lookI_rd sh hsh1 hsh7, Option.getD_some, fnV] at hl2
        obtain ⟨⟨d0, d1, d2, d3, d4⟩, f1, f2, f3, f4⟩ := I8.out.src.cells
        obtain ⟨⟨e0, e1, e2, e3⟩, -⟩ := HZ8.out.four
        have hcf := enter_rd sh hsh1 hsh7
        have hvt := valS_ok HT.out (a := a + 1) sh
        have hva := valS_at (show a + 1 ≤ t.size by omega) sh
        have HVT := Lib.hid hvt; have HVA := Lib.hid hva
        clear hvt hva
        go_wp2_with fail
        refine (val_src sh hsh1 hsh7 w4.heap.size (w2.heap.size + 1) (a + 1) t id _ I9.out.src).mono ?_
        rintro e w10 ⟨rfl, hs10, hm10⟩
        have HZ10 := Lib.hid ((HZ8.out.mods (put_mods w8 w4.heap.size (w2.heap.size + 1) (.int .i64 id) (.int .u32 0) (.string ⟨#[]⟩) (.string ⟨#[]⟩)) (by have := HB6.out; rintro (x | x) <;> omega)).mods hm10 (by have := HB6.out; rintro (x | x) <;> omega))
        have O10 := Lib.hid (own_mods (own_mods O8.out (put_mods w8 w4.heap.size (w2.heap.size + 1) (.int .i64 id) (.int .u32 0) (.string ⟨#[]⟩) (.string ⟨#[]⟩)) (fun g hg => by have := (own_block O8.out g hg).1; rintro (x | x) <;> omega)) hm10 (fun g hg => by have := (own_block O8.out g hg).1; rintro (x | x) <;> omega))
        have I10 := Lib.hid (I9.out.mods hm10 hs10)
        clear hs10 hm10 hcf hl2 d0 d1 d2 d3 d4 f1 f2 f3 f4 e0 e1 e2 e3 HZ8 O8 I8 I9
        generalize valS sh t (a + 1) = V at *
        obtain ⟨vn, vt, vv, a', e'⟩ := V
        simp only at HG2 HVT HVA I10
        obtain ⟨⟨d0, d1, d2, d3, d4⟩, -⟩ := I10.out.src.cells
        go_wp2_with fail
        refine (err_any (w2.heap.size + 1) a' t e' _ I10.out.src.2).mono ?_
        rintro e w11 ⟨rfl, rfl⟩
        by_cases he0 : e' = 0
        · subst he0
          obtain ⟨⟨e0, e1, e2, e3⟩, -⟩ := HZ10.out.four
          go_wp2_with fail
          refine (check_any ⟨sh, ki, le, mo⟩ (HRL.out ▸ ruleOf_ok id) kind ⟨id, vn, vt, vv⟩ (prGood_ok (p := ⟨id, vn, vt, vv⟩) HVT.out) _).mono ?_
          rintro e w12 ⟨rfl, hb⟩
          have I12 := Lib.hid (I10.out.below hb); have O12 := Lib.hid (own_below O10.out hb)
          clear hb d0 d1 d2 d3 d4 e0 e1 e2 e3 HZ10 I10 O10
          obtain ⟨E, hE⟩ : ∃ E, checkE ⟨sh, ki, le, mo⟩ kind ⟨id, vn, vt, vv⟩ = E := ⟨_, rfl⟩
          rw [hE] at HG2 ⊢
          have HE := Lib.hid hE; clear hE
          by_cases hE0 : E = 0
          · subst hE0
            have hid64 := (check_ok (kind := kind) (p := ⟨id, vn, vt, vv⟩) (by rw [show ruleOf (⟨(id : Int), vn, vt, vv⟩ : Pr).id = ⟨sh, ki, le, mo⟩ from HRL.out]; exact HE.out)).1.2
            simp only at hid64
            go_wp2_with fail
            refine (again_any w2.heap.size f kind id (by omega) (by have := HF.out id; omega) _ I12.out.seen).mono ?_
            rintro e w13 ⟨rfl, hs3, hm3⟩
            have I13 := Lib.hid (I12.out.again hm3 hs3)
            have O13 := Lib.hid (O12.out.kept hm3 (.inr fun x => by have := (own_block O12.out _ x).1; omega))
            clear hs3 hm3 I12 O12
            obtain ⟨G, hG⟩ : ∃ G, againB f kind id = G := ⟨_, rfl⟩
            rw [hG] at HG2 ⊢
            clear hG
            cases G
            · obtain ⟨A, c, rfl, hc, hrd⟩ := own_rd O13.out
              have HRD := Lib.hid hrd; have HC := Lib.hid hc; clear hrd hc
              by_cases hfull : out.length = 1000
              · have eF : ((out.length : Int) == 1000) = true := beq_iff_eq.2 (by omega)
                have HX : Hid (listS kind t = ([], 4)) := Lib.hid (by rw [HG2.out, if_neg (by simp), if_neg (by simp), if_neg (by simp), if_pos hfull])
                have KF := Lib.hid I13.out.kept
                clear hfull
                go_wp2
                go_ret2
                exact listOut_bad HX.out KF.out
              · have eF : ((out.length : Int) == 1000) = false := beq_eq_false_iff_ne.2 (by omega)
                have HX : Hid (listS kind t = listGo kind t m' a' (upd f id (f id + 1)) (out ++ [⟨id, vn, vt, vv⟩])) := Lib.hid (by rw [HG2.out, if_neg (by simp), if_neg (by simp), if_neg (by simp), if_neg hfull])
                have HFULL : Hid (out.length < 1000) := Lib.hid (by omega)
                clear hfull
                obtain ⟨⟨d0, d1, d2, d3, d4⟩, -⟩ := I13.out.src.cells
                have hq2 : ∀ g, (Value.slice A out.length c).ownBlock = some g → w4.heap.size + 1 ≤ g := fun g hg => (own_block O13.out g hg).1
                have HQ := Lib.hid hq2; clear hq2
                go_wp2_with (at_builtin; refine wpList_app _ rfl (.tmp 63) (.tmp 66) 40 rfl (w4.heap.size + 1) 35 _ 4 48 Try.underlying40 info_prop rfl (by decide) (.slice A out.length c) _ _ rfl (O13.out.alloc _) _ _ 1 1 (prs [⟨id, vn, vt, vv⟩]) rfl (Rd.one4 _ ⟨id, vn, vt, vv⟩) (prs_one _) (by have := HFULL.out; unfold maxLen; omega) (by have := HFULL.out; omega) (by have := I13.out.base; simp; omega) ?_; intro v' w14 hown14 hg14 hat14)
                have R : LInv w w.heap.size w1.heap.size w2.heap.size w4.heap.size (w2.heap.size + 1) (w4.heap.size + 1) t (upd f id (f id + 1)) a' 0 ⟨id, vn, vt, vv⟩ w14 ∧ w14.ownsRow (w4.heap.size + 1) 35 4 v' (out ++ [(⟨id, vn, vt, vv⟩ : Pr)]).length (prs (out ++ [⟨id, vn, vt, vv⟩])) ∧ (∀ i, upd f id (f id + 1) i ≤ (out ++ [(⟨id, vn, vt, vv⟩ : Pr)]).length) := by
                  refine ⟨(I13.out.alloc _).app hg14 HQ.out, ?_, fun i => ?_⟩
                  · rw [prs_append, List.length_append]; exact hown14
                  · rw [List.length_append]
                    have q1 := HF.out id; have q2 := HF.out i
                    unfold upd
                    split <;> (simp only [List.length_singleton]; omega)
                have HR := Lib.hid R
                have HP2 := Lib.hid (posOf_cur R.1.src.2)
                clear R hown14 hg14 hat14 d0 d1 d2 d3 d4
                go_wp2
                go_roundw
                case rel =>
                  refine ⟨a', m', upd f id (f id + 1), out ++ [⟨id, vn, vt, vv⟩], ⟨id, vn, vt, vv⟩, HVA.out.2, by have := HVA.out.1; omega, HX.out, ?_, HR.out.2.2, HR.out.1, HR.out.2.1⟩
                  rw [List.length_append]; have := HFULL.out; simp only [List.length_singleton]; omega
                case measure =>
                  simp only [HP2.out, HPOS.out]
                  have := HVA.out.1; omega
            · have HX : Hid (listS kind t = ([], 9)) := Lib.hid (by rw [HG2.out, if_neg (by simp), if_neg (by simp), if_pos rfl])
              have KF := Lib.hid I13.out.kept
              go_wp2
              go_ret2
              exact listOut_bad HX.out KF.out
          · have e0 : (E != 0) = true := bne_iff_ne.2 hE0
            have HX : Hid (listS kind t = ([], E)) := Lib.hid (by rw [HG2.out, if_neg (by simp), if_pos hE0])
            have KF := Lib.hid I12.out.kept
            clear hE0
            go_wp2
            go_ret2
            exact listOut_bad HX.out KF.out
        · have e0 : (e' != 0) = true := bne_iff_ne.2 he0
          have HX : Hid (listS kind t = ([], e')) := Lib.hid (by rw [HG2.out, if_pos he0])
          have KF := Lib.hid I10.out.kept
          clear he0
          go_wp2
          go_ret2
          exact listOut_bad HX.out KF.out
    · have hp : ¬ ((0 : Int) < ((t.size - a : Nat) : Int)) := by omega
      have hp0 : ((t.size - a : Nat) : Int) ≤ 0 := by omega
      obtain ⟨m', rfl⟩ : ∃ m', m = m' + 1 := ⟨m - 1, by omega⟩
      have HG2 : Hid (listS kind t = if loneB f = true then ([], 9) else (out, 0)) := Lib.hid (by rw [HGO.out, listGo, if_pos (by omega)])
      go_wp2_with fail
      refine (left_any (w2.heap.size + 1) a t 0 _ HINV.out.src.2).mono ?_
      rintro e w5 ⟨rfl, hb⟩
      have I5 := Lib.hid (HINV.out.below hb); have O5 := Lib.hid (own_below HOWN.out hb); clear hb
      clear c0
      go_wp2_with fail
      refine (lone_any w2.heap.size f _ I5.out.seen).mono ?_
      rintro e w6 ⟨rfl, hw2⟩
      subst hw2
      rw [show (decide (0 < f 22) && f 21 == 0) = loneB f from rfl]
      have KF := Lib.hid I5.out.kept
      cases hL : loneB f
      · have HX : Hid (listS kind t = (out, 0)) := Lib.hid (by rw [HG2.out, hL]; rfl)
        obtain ⟨A, c, rfl, hc, hrd⟩ := own_rd O5.out
        have HC := Lib.hid hc; have HRD := Lib.hid hrd
        clear hL hc hrd
        go_wp2
        go_ret2
        rw [HX.out]
        exact ⟨A, c, rfl, HC.out, HRD.out, KF.out⟩
      · have HX : Hid (listS kind t = ([], 9)) := Lib.hid (by rw [HG2.out, hL]; rfl)
        clear hL
        go_wp2
        go_ret2
        exact listOut_bad HX.out KF.out
end Go.Proofs.Ytcokgfmlkanoiaa
