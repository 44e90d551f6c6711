/- The law PublishTopics: its walk. -/
import Derived.Test.YtdpeljnoaiaplaaAckL
import Derived.Test.YtdpeljnoaiaplaaPubE
namespace Go.Proofs.Ytdpeljnoaiaplaa
open Go.RowKit
attribute [local go_sem ↓] to_ldPk to_bxPk to_bdPk to_alPk to_stPk
attribute [local go_sem] run_bxPk run_bxPk_agg ld_fresh run_alPk run_bd0 run_bdK run_bdKI run_bdKIC run_bdKC run_bdKICP run_stPk_fresh pkC_0 pkC_1 pkC_2 pkC_3 pkC_4 pkC_5 pkC_6 pkC_7 pkC_8 pkC_9 pkC_10 pkC_11 pkC_12 pkC_13 pkC_14 pkC_15 pkC_16 pkC_17 pkC_18 pkC_19 pkC_20 pkC_21 pkC_22 pkC_23 pkC_24
def alP (i : Nat) : Pr := ⟨35, i, ⟨#[]⟩, ⟨#[]⟩⟩
def topP (t y : ByteArray) (i : Nat) : Pk := { pubP t y 0 0 with props := [alP i] }
theorem run_bdTop (t y : ByteArray) (w : World) : (bdPk #[(0, .int .i64 3), (5, .string t), (6, .string y)]).run Try.prog w = .ok (pkV (pubP t y 0 0) hs0) w := by kernel_rfl
theorem alP_good (i : Nat) (h : i < 65536) : ∀ p ∈ [alP i], prGood p := fun p hp => by
  rw [List.mem_singleton.1 hp]
  exact ⟨by show i < 4294967296; omega, Nat.zero_le _, Nat.zero_le _⟩
theorem topP_ok (t y : ByteArray) (i : Nat) (h : i < 65536) (ht : t.size ≤ 140737488351232) (hy : y.size ≤ 140737488351232) : PkOk (topP t y i) := by
  refine ⟨?_, alP_good i h, ?_, ?_, ?_⟩
  · intro r hr; cases hr
  · intro r hr; cases hr
  · exact ⟨ht, hy, Nat.zero_le _, Nat.zero_le _, Nat.zero_le _, Nat.zero_le _, Nat.zero_le _⟩
  · exact ⟨Nat.zero_le _, Nat.zero_le _, Nat.zero_le _, by show 1 ≤ 140737488351232; decide⟩
theorem al_bytes (i : Nat) (h : i < 65536) : (bytesS 3 [alP i]).2 = if i = 0 then 9 else 0 := by
  have hc : checkE (ruleOf 35) 3 (alP i) = if i = 0 then 9 else 0 := by
    have hr : ruleOf 35 = ⟨2, (ruleOf 35).kinds, 1, 65535⟩ := by kernel_rfl
    have hh : hasR (ruleOf 35) 3 = true := by decide +kernel
    have hem : (⟨#[]⟩ : ByteArray).toList.isEmpty = true := by decide +kernel
    unfold checkE
    rw [if_neg (by rw [hh]; decide), hr, if_pos (by decide)]
    unfold numE alP
    rw [if_neg (fun y => y.elim (fun z => by rw [hem] at z; cases z) (fun z => by rw [hem] at z; cases z))]
    by_cases h0 : i = 0
    · rw [if_pos h0, if_pos (.inl (by show i < 1; omega))]
    · rw [if_neg h0, if_neg (fun y => y.elim (fun z => by have : i < 1 := z; omega) (fun z => by have : 65535 < i := z; omega))]
  unfold bytesS
  rw [if_neg (by simp), bytesGo]
  by_cases h0 : i = 0
  · rw [if_pos (by rw [show (alP i).id = 35 from rfl, hc, if_pos h0]; decide), if_pos h0]
    have e9 : checkE (ruleOf (alP i).id) 3 (alP i) = 9 := by rw [show (alP i).id = 35 from rfl, hc, if_pos h0]
    exact e9
  · rw [if_neg (by rw [show (alP i).id = 35 from rfl, hc, if_neg h0]; exact fun y => y rfl), if_neg (by rw [show (alP i).id.toNat = 35 from rfl]; unfold againB; decide), bytesGo, if_neg (by rw [show (alP i).id.toNat = 35 from rfl]; unfold loneB upd; decide), if_neg h0]
theorem top_E0 (v : Int) (t y : ByteArray) (hv : v = 4 ∨ v = 5) : (pubE v (pubP t y 0 0) == 0) = nameB t := by
  cases hn : nameB t
  · refine beq_eq_false_iff_ne.2 fun he => ?_
    have g := (pubE_good he).named
    unfold pubN at g
    rw [show (pubP t y 0 0).topic = t from rfl, hn, show aliasB (pubP t y 0 0) = false from rfl] at g
    simp at g
  · have g : PubGood v (pubP t y 0 0) := pubP_good hv hn ⟨by decide, by decide⟩ (fun _ => rfl) (fun x => absurd rfl x)
    exact beq_iff_eq.2 g.ok
theorem top_E1 (t y : ByteArray) (i : Nat) (h : i < 65536) : pubE 5 (topP t y i) = if nameB t = false ∧ t.size ≠ 0 then 10 else if i = 0 then 9 else 0 := by
  have l0 : pubL 5 (topP t y i) 0 = 0 := rfl
  have l1 : pubL 5 (topP t y i) 1 = 0 := rfl
  have l2 : pubL 5 (topP t y i) 2 = 0 := by
    show (if pubF 5 (topP t y i) = true then (0 : Int) else 2) = 0
    refine if_pos (decide_eq_true ⟨rfl, (fun z => by cases z.1), (fun _ => rfl), (fun z => absurd rfl z)⟩)
  have l4 : pubL 5 (topP t y i) 4 = if i = 0 then 9 else 0 := al_bytes i h
  have hN : pubN 5 (topP t y i) = (nameB t || decide (t.size = 0)) := by
    unfold pubN
    rw [show aliasB (topP t y i) = true from rfl, decide_eq_true rfl, Bool.true_and, Bool.true_and]
    rfl
  unfold pubE
  rw [if_neg (fun z => z l0), if_neg (fun z => z l1), if_neg (fun z => z l2)]
  have l3 : pubL 5 (topP t y i) 3 = if pubN 5 (topP t y i) = true then 0 else 10 := rfl
  by_cases hb : nameB t = false ∧ t.size ≠ 0
  · have : pubN 5 (topP t y i) = false := by rw [hN, hb.1, decide_eq_false hb.2]; rfl
    rw [l3, this, if_pos hb]
    rfl
  · have : pubN 5 (topP t y i) = true := by
      rw [hN]
      cases e : nameB t
      · rw [decide_eq_true (Decidable.not_not.1 fun z => hb ⟨e, z⟩)]; rfl
      · rfl
    rw [l3, this, if_neg hb, if_neg (fun z => z rfl), l4]
theorem al_cell (w : World) (i : Nat) : Rd (w.alloc (.cells #[.int .i64 35, .int .u32 i, .string ⟨#[]⟩, .string ⟨#[]⟩] 46)) (w.heap.size + 1) 4 (some ⟨w.heap.size, 0, none⟩) 1 (prs [alP i]) := Rd.one4 w (alP i)
set_option maxHeartbeats 4000000 in
set_option maxRecDepth 10000 in
theorem publishTopics_any (t y : ByteArray) (z : Int) (w : World) (h0 : 0 ≤ z) (h6 : z < 65536) (ht : t.size ≤ 140737488351232) (hy : y.size ≤ 140737488351232) :
    Calls Try.prog 6 #[.string t, .string y, .int .u16 z] w fun e w' => e = .returned (.bool true) ∧ Below w.heap.size w w' := by
  obtain ⟨i, rfl⟩ := Int.eq_ofNat_of_zero_le h0
  have hi6 : i < 65536 := by omega
  have HI := Lib.hid hi6
  have HT := Lib.hid (And.intro ht hy)
  have hw1 : IntKind.u32.wrap (i : Int) = i := by rw [IntKind.wrap_u32]; omega
  have hw2 : IntKind.i64.wrap (i : Int) = i := by rw [IntKind.wrap_i64]; omega
  have hbd := run_bdTop
  have S0 := Lib.hid (St.start w)
  have hem := emptyB_iff t
  have T0 := Lib.hid (top_E1 t y i hi6)
  clear h0 h6 ht hy hi6
  go_enter Try.func6, Try.ntmps6
  go_wp2_with fail
  refine (lives9_any _).mono ?_
  rintro e w1 ⟨rfl, hb⟩
  have S1 := Lib.hid (S0.out.below hb); clear hb
  by_cases h1 : 300 < t.size
  · have d1 : (300 : Int) < (t.size : Int) := by omega
    clear h1
    go_wp2
    go_ret
    exact ⟨rfl, S1.out.kept⟩
  have d1 : (t.size : Int) ≤ 300 := by omega
  by_cases h2 : 300 < y.size
  · have d2 : (300 : Int) < (y.size : Int) := by omega
    clear h1 h2
    go_wp2
    go_ret
    exact ⟨rfl, S1.out.kept⟩
  have d2 : (y.size : Int) ≤ 300 := by omega
  clear h1 h2
  have S2 : Hid (St w [(w1.heap.size, pubP t y 0 0, hs0)] (w1.alloc (.cells (pkC (pubP t y 0 0) hs0) PkT))) := Lib.hid (S1.out.push (pubP_in _ _ _ _ _ _))
  go_wp2_with fail
  refine (refName_any t _ (by omega)).mono ?_
  rintro e w2 ⟨rfl, rfl⟩
  have hl := S2.out.ld 0 rfl
  go_wp2_with fail
  refine (pubValid_any 4 (pubP t y 0 0) hs0 _ (pubP_in _ _ _ _ _ _) (pubP_ok _ _ _ _ HT.out.1 HT.out.2)).mono ?_
  rintro e w3 ⟨rfl, hb⟩
  have S3 := Lib.hid (S2.out.below hb); clear hb hl
  have hl := S3.out.ld 0 rfl
  have e4 := top_E0 4 t y (.inl rfl)
  have e5 := top_E0 5 t y (.inr rfl)
  obtain ⟨nm, hnm⟩ : ∃ b, nameB t = b := ⟨_, rfl⟩
  have HNM := Lib.hid hnm
  rw [hnm] at e4 e5 ⊢
  clear hnm
  obtain ⟨E4, hE4⟩ : ∃ E, pubE 4 (pubP t y 0 0) = E := ⟨_, rfl⟩
  obtain ⟨E5, hE5⟩ : ∃ E, pubE 5 (pubP t y 0 0) = E := ⟨_, rfl⟩
  rw [hE4] at e4 ⊢
  rw [hE5] at e5
  have HE5 := Lib.hid hE5
  have HE4 := Lib.hid e4
  have HE55 := Lib.hid e5
  have hbb : (nm != nm) = false := by cases nm <;> rfl
  clear hE4 hE5
  go_wp2_with fail
  refine (pubValid_any 5 (pubP t y 0 0) hs0 _ (pubP_in _ _ _ _ _ _) (pubP_ok _ _ _ _ HT.out.1 HT.out.2)).mono ?_
  rintro e w4 ⟨rfl, hb⟩
  have S4 := Lib.hid (S3.out.below hb); clear hb hl
  rw [HE5.out]
  have S5 := Lib.hid (S4.out.alloc (.cells #[.int .i64 35, .int .u32 i, .string ⟨#[]⟩, .string ⟨#[]⟩] 46))
  have j1 : (w4.alloc (.cells #[.int .i64 35, .int .u32 i, .string ⟨#[]⟩, .string ⟨#[]⟩] 46)).cell? ⟨w1.heap.size, 24, none⟩ = some (.slice none 0 0) := S5.out.cell 0 rfl 24
  have j2 := (S5.out.bk 0 rfl).free 24
  have S6 : Hid (St w [(w1.heap.size, topP t y i, { hs0 with props := ⟨some ⟨w4.heap.size, 0, none⟩, 1⟩ })] ((w4.alloc (.cells #[.int .i64 35, .int .u32 i, .string ⟨#[]⟩, .string ⟨#[]⟩] 46)).setCell ⟨w1.heap.size, 24, none⟩ (.slice (some ⟨w4.heap.size, 0, none⟩) 1 1))) := Lib.hid (by
    have hm := mod_set (w4.alloc (.cells #[.int .i64 35, .int .u32 i, .string ⟨#[]⟩, .string ⟨#[]⟩] 46)) w1.heap.size 24 (.slice (some ⟨w4.heap.size, 0, none⟩) 1 1)
    have hg := (S5.out.pks 0 _ _ _ rfl).1
    refine ⟨below_mod S5.out.kept hm S5.out.kept.size hg, fun k g q k' e => ?_⟩
    rcases k with _ | k
    · simp only [List.getElem?_cons_zero, Option.some.injEq, Prod.mk.injEq] at e
      obtain ⟨rfl, rfl, rfl⟩ := e
      refine ⟨hg, (S5.out.bk 0 rfl).upd 24 _ rfl, ?_⟩
      have hr : Rd _ _ 4 _ ([alP i] : List Pr).length (prs [alP i]) := al_cell w4 i
      have hr2 := (Rd.other hr (S5.out.bk 0 rfl) (pk_no32 _ _) hm (by rw [heap_alloc_size]; exact Nat.le_refl _))
      exact ⟨Rd.nil _ _ _ _, Rd.nil _ _ _ _, Rd.nil _ _ _ _, hr2.wider (by have := hm.size; rw [heap_alloc_size] at this; exact this), Nat.zero_le _, Nat.zero_le _, Nat.zero_le _, Nat.le_refl 1⟩
    · simp at e)
  have hl := S6.out.ld 0 rfl
  go_wp2_with fail
  refine (pubValid_any 5 (topP t y i) _ _ (S6.out.into 0 rfl) (topP_ok _ _ _ HI.out HT.out.1 HT.out.2)).mono ?_
  rintro e w7 ⟨rfl, hb⟩
  have S7 := Lib.hid (S6.out.below hb); clear hb hl j1 j2
  rw [T0.out]
  have hl := S7.out.ld 0 rfl
  obtain ⟨E, hE⟩ : ∃ E : Int, (if nameB t = false ∧ t.size ≠ 0 then 10 else if i = 0 then 9 else 0) = E := ⟨_, rfl⟩
  rw [hE]
  have HEE := Lib.hid hE
  clear hE
  go_wp2_with fail
  refine (alias_any (topP t y i) _ _ (S7.out.into 0 rfl) (topP_ok _ _ _ HI.out HT.out.1 HT.out.2)).mono ?_
  rintro e w8 ⟨rfl, hb⟩
  have S8 := Lib.hid (S7.out.below hb); clear hb hl
  rw [show (getR (topP t y i).props 35).n = i from rfl, show aliasB (topP t y i) = true from rfl]
  have eii : ((i : Int) != (i : Int)) = false := by simp
  cases nm
  · by_cases hz : t.size = 0
    · rw [decide_eq_true hz] at hem
      have HX := HEE.out
      rw [if_neg (fun x => x.2 hz)] at HX
      by_cases h0 : i = 0
      · rw [if_pos h0] at HX
        subst HX
        subst h0
        clear hz
        go_wp2
        go_ret
        exact ⟨rfl, S8.out.kept⟩
      · rw [if_neg h0] at HX
        subst HX
        have d0 : (0 : Int) < (i : Int) := by omega
        clear hz h0
        go_wp2
        go_ret
        exact ⟨rfl, S8.out.kept⟩
    · rw [decide_eq_false hz] at hem
      have HX := HEE.out
      rw [if_pos ⟨HNM.out, hz⟩] at HX
      subst HX
      clear hz
      go_wp2
      go_ret
      exact ⟨rfl, S8.out.kept⟩
  · have HX := HEE.out
    rw [if_neg (fun x => by have := HNM.out.symm.trans x.1; cases this)] at HX
    by_cases h0 : i = 0
    · rw [if_pos h0] at HX
      subst HX
      subst h0
      go_wp2
      go_ret
      exact ⟨rfl, S8.out.kept⟩
    · rw [if_neg h0] at HX
      subst HX
      have d0 : (0 : Int) < (i : Int) := by omega
      clear h0
      go_wp2
      go_ret
      exact ⟨rfl, S8.out.kept⟩
end Go.Proofs.Ytdpeljnoaiaplaa
