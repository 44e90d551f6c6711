/- The law PublishIDs: its walk. -/
import Derived.Test.YtdpeljnoaiaplaaPubD
namespace Go.Proofs.Ytdpeljnoaiaplaa
open Go.RowKit
attribute [local go_sem ↓] to_ldPk to_bxPk to_bdPk to_alPk to_stPk
attribute [local go_sem] run_bxPk run_bxPk_agg ld_fresh run_alPk run_bd0 run_bdK run_bdKI run_bdKIC run_bdKC run_bdKICP run_stPk_fresh pkC_0 pkC_1 pkC_2 pkC_3 pkC_4 pkC_5 pkC_6 pkC_7 pkC_8 pkC_9 pkC_10 pkC_11 pkC_12 pkC_13 pkC_14 pkC_15 pkC_16 pkC_17 pkC_18 pkC_19 pkC_20 pkC_21 pkC_22 pkC_23 pkC_24
def pubP (t y : ByteArray) (q i : Int) : Pk := { pk0 with kind := 3, topic := t, payload := y, qos := q, id := i }
theorem run_bdPub (t y : ByteArray) (q i : Int) (w : World) : (bdPk #[(0, .int .i64 3), (5, .string t), (6, .string y), (3, .int .i64 q), (4, .int .i64 i)]).run Try.prog w = .ok (pkV (pubP t y q i) hs0) w := by kernel_rfl
theorem pubP_in (t y : ByteArray) (q i : Int) (w : World) (B : Nat) : PkIn w B (pubP t y q i) hs0 := flat_in rfl rfl rfl rfl w B
theorem pubP_ok (t y : ByteArray) (q i : Int) (ht : t.size ≤ 140737488351232) (hy : y.size ≤ 140737488351232) : PkOk (pubP t y q i) := by
  refine ⟨?_, ?_, ?_, ?_, ?_⟩
  · intro r hr; cases hr
  · intro r hr; cases hr
  · intro r hr; cases hr
  · exact ⟨ht, hy, Nat.zero_le _, Nat.zero_le _, Nat.zero_le _, Nat.zero_le _, Nat.zero_le _⟩
  · exact ⟨Nat.zero_le _, Nat.zero_le _, Nat.zero_le _, Nat.zero_le _⟩
theorem name_valid {t : ByteArray} (h : nameB t = true) : validB t = true := by
  unfold nameB textB at h
  simp at h
  exact h.1.2
theorem pubP_good {v : Int} {t y : ByteArray} {q i : Int} (hv : v = 4 ∨ v = 5) (hn : nameB t = true) (hq : 0 ≤ q ∧ q ≤ 2) (h0 : q = 0 → i = 0) (h1 : q ≠ 0 → 0 < i ∧ i < 65536) : PubGood v (pubP t y q i) := by
  refine ⟨hv, rfl, ?_, rfl, fun _ => rfl, h0, h1, ?_, name_valid hn, by rw [show (pubP t y q i).props = [] from rfl, bytesS_none]⟩
  · refine decide_eq_false ?_
    show ¬ (q < 0 ∨ 2 < q ∨ (q = 0 ∧ false = true))
    rintro (x | x | ⟨_, x⟩)
    · omega
    · omega
    · cases x
  · unfold pubN
    rw [show (pubP t y q i).topic = t from rfl, hn]
    rfl
/-- What the body is: four ways. -/
theorem ids_ways (t y : ByteArray) (k : Nat) (i : Int) (hk : k < 3) (h0 : 0 ≤ i) (h6 : i < 65536) (hn : nameB t = true) :
    (k = 0 ∧ i = 0 ∧ ∃ A, pubB 4 (pubP t y k i) = (A, 0) ∧ 2 ≤ A.size ∧ A.extract 2 A.size = t ++ y) ∨
    (k = 0 ∧ 0 < i ∧ ∃ E, pubB 4 (pubP t y k i) = (⟨#[]⟩, E) ∧ E ≠ 0) ∨
    (0 < k ∧ i = 0 ∧ ∃ E, pubB 4 (pubP t y k i) = (⟨#[]⟩, E) ∧ E ≠ 0) ∨
    (0 < k ∧ 0 < i ∧ ∃ A, pubB 4 (pubP t y k i) = (A, 0) ∧ 2 ≤ A.size ∧ A.extract 2 A.size = t ++ ⟨(putL i.toNat 2).toArray⟩ ++ y) := by
  have hbad : (¬ ((k : Int) = 0 → i = 0) ∨ ¬ ((k : Int) ≠ 0 → 0 < i ∧ i < 65536)) → ∃ E, pubB 4 (pubP t y k i) = (⟨#[]⟩, E) ∧ E ≠ 0 := fun hx => by
    refine ⟨pubE 4 (pubP t y k i), ?_, ?_⟩
    · unfold pubB
      rw [if_neg]
      intro he
      have g := pubE_good he
      exact hx.elim (fun x => x g.id0) (fun x => x g.id1)
    · intro he
      have g := pubE_good he
      exact hx.elim (fun x => x g.id0) (fun x => x g.id1)
  have hcut : ∀ z : ByteArray, (framedS t ++ z).extract 2 (framedS t ++ z).size = t ++ z := fun z => by
    apply ls_ext
    rw [rest_ls, ls_app, framed_ls, ls_app, List.append_assoc, List.drop_left' (putL_len _ _)]
  have hsz : 2 ≤ (framedS t).size := by rw [framedS_size]; omega
  by_cases hk0 : k = 0
  · by_cases hi : i = 0
    · refine .inl ⟨hk0, hi, framedS t ++ y, ?_, by rw [ByteArray.size_append]; omega, hcut y⟩
      have g : PubGood 4 (pubP t y k i) := pubP_good (.inl rfl) hn ⟨by omega, by omega⟩ (fun _ => hi) (fun x => absurd (by omega) x)
      unfold pubB pubS2 pubS1
      rw [if_pos g.ok, if_neg (by decide), if_neg (fun x => x (by show (k : Int) = 0; omega))]
      rfl
    · exact .inr (.inl ⟨hk0, by omega, hbad (.inl (fun x => hi (x (by omega))))⟩)
  · by_cases hi : i = 0
    · exact .inr (.inr (.inl ⟨by omega, hi, hbad (.inr (fun x => by have := x (by omega); omega))⟩))
    · refine .inr (.inr (.inr ⟨by omega, by omega, framedS t ++ ⟨(putL i.toNat 2).toArray⟩ ++ y, ?_, by rw [ByteArray.size_append, ByteArray.size_append]; omega, ?_⟩))
      · have g : PubGood 4 (pubP t y k i) := pubP_good (.inl rfl) hn ⟨by omega, by omega⟩ (fun x => absurd x (by omega)) (fun _ => ⟨by omega, h6⟩)
        unfold pubB pubS2 pubS1
        rw [if_pos g.ok, if_neg (by decide), if_pos (by show (k : Int) ≠ 0; omega)]
        rfl
      · rw [ByteArray.append_assoc, hcut, ByteArray.append_assoc]
theorem conv_two0 {P : Program} (src dst e : TypeId) (hs : P.underlying src = some (.slice e)) (he : P.underlying e = some (.int .u8)) (hd : P.underlying dst = some .string) (W : World) (a b : UInt8) :
    (convert src dst (.slice (some ⟨W.heap.size, 0, none⟩) 2 2)).run P (W.alloc (.cells #[.int .u8 (a.toNat : Int), .int .u8 (b.toNat : Int)] e)) = .ok (.string ⟨#[a, b]⟩) (W.alloc (.cells #[.int .u8 (a.toNat : Int), .int .u8 (b.toNat : Int)] e)) := by
  have h := Rd.lit W #[.int .u8 (a.toNat : Int), .int .u8 (b.toNat : Int)] e (xs := bys [a, b]) rfl (Nat.lt_succ_self _) rfl
  exact conv_rd src dst e hs he hd 2 h
set_option maxHeartbeats 4000000 in
set_option maxRecDepth 10000 in
theorem publishIDs_any (t y : ByteArray) (i q : Int) (w : World) (h0 : 0 ≤ i) (h6 : i < 65536) (ht : t.size ≤ 140737488351232) (hy : y.size ≤ 140737488351232) :
    Calls Try.prog 7 #[.string t, .string y, .int .u16 i, .int .i64 q] w fun e w' => e = .returned (.bool true) ∧ Below w.heap.size w w' := by
  have HI := Lib.hid (And.intro h0 h6)
  have HT := Lib.hid (And.intro ht hy)
  have hw1 : IntKind.i64.wrap i = i := by rw [IntKind.wrap_i64]; omega
  have hbd := run_bdPub
  obtain ⟨k, hk, hk4⟩ := pick_nat q 3 (by decide)
  have HK4 := Lib.hid hk4
  have hk : pickN q 3 = (k : Int) := hk
  have S0 := Lib.hid (St.start w)
  clear h0 h6 ht hy hk4
  go_enter Try.func7, Try.ntmps7
  go_wp2_with fail
  refine (lives9_any _).mono ?_
  rintro e w1 ⟨rfl, hb⟩
  have S1 := Lib.hid (S0.out.below hb); clear hb
  by_cases h1 : 300 < t.size
  · have d1 : (300 : Int) < (t.size : Int) := by omega
    clear h1
    go_wp2
    go_ret
    exact ⟨rfl, S1.out.kept⟩
  have d1 : (t.size : Int) ≤ 300 := by omega
  by_cases h2 : 300 < y.size
  · have d2 : (300 : Int) < (y.size : Int) := by omega
    clear h1 h2
    go_wp2
    go_ret
    exact ⟨rfl, S1.out.kept⟩
  have d2 : (y.size : Int) ≤ 300 := by omega
  clear h1 h2
  go_wp2_with fail
  refine (refName_any t _ (by omega)).mono ?_
  rintro e w2 ⟨rfl, rfl⟩
  cases hn : nameB t
  · clear hn
    go_wp2
    go_ret
    exact ⟨rfl, S1.out.kept⟩
  have HN := Lib.hid hn
  clear hn
  go_wp2_with fail
  refine (pick_any q 3 _ (by decide)).mono ?_
  rintro e w2 ⟨rfl, rfl⟩
  rw [hk]
  clear hk
  have S2 : Hid (St w [(w1.heap.size, pubP t y k i, hs0)] (w1.alloc (.cells (pkC (pubP t y k i) hs0) PkT))) := Lib.hid (S1.out.push (pubP_in _ _ _ _ _ _))
  have hl := S2.out.ld 0 rfl
  go_wp2_with fail
  refine (pubBody_any 4 (pubP t y k i) hs0 _ (pubP_in _ _ _ _ _ _) (pubP_ok _ _ _ _ HT.out.1 HT.out.2)).mono ?_
  rintro e w3 ⟨rfl, hb⟩
  have S3 := Lib.hid (S2.out.below hb); clear hb hl
  rcases ids_ways t y k i HK4.out HI.out.1 HI.out.2 HN.out with ⟨h1, h2, A, hA, hz, hx⟩ | ⟨h1, h2, E, hA, hE⟩ | ⟨h1, h2, E, hA, hE⟩ | ⟨h1, h2, A, hA, hz, hx⟩
  all_goals
    rw [hA]
    clear hA
    simp only
  · have z1 : (2 : Int) ≤ (A.size : Int) := by omega
    subst h1 h2
    have hsum : ¬ (9223372036854775807 < t.size + y.size) := by have := d1; have := d2; omega
    go_wp2
    go_ret
    exact ⟨rfl, S3.out.kept⟩
  · have e1 : (E == 0) = false := beq_eq_false_iff_ne.2 hE
    subst h1
    clear hE
    go_wp2
    go_ret
    exact ⟨rfl, S3.out.kept⟩
  · have e1 : (E == 0) = false := beq_eq_false_iff_ne.2 hE
    subst h2
    clear hE
    go_wp2
    go_ret
    exact ⟨rfl, S3.out.kept⟩
  · have z1 : (2 : Int) ≤ (A.size : Int) := by omega
    obtain ⟨a, b, hab, hs⟩ := put_two i h2 HI.out.2
    rw [hab] at hx
    have hx' : A.extract 2 A.size = t ++ ⟨#[a, b]⟩ ++ y := hx
    have ha := a.toNat_lt
    have hb := b.toNat_lt
    have s1 : IntKind.u16.wrap (i / 256) = i / 256 := by rw [IntKind.wrap_u16]; omega
    have s2 : IntKind.u8.wrap (i / 256) = (a.toNat : Int) := by rw [IntKind.wrap_u8]; omega
    have s3 : IntKind.u8.wrap i = (b.toNat : Int) := by rw [IntKind.wrap_u8]; omega
    have hcv := conv_two0 (P := Try.prog) 42 9 5 Try.underlying42 Try.underlying5 Try.underlying9
    have hz2 : (⟨#[a, b]⟩ : ByteArray).size = 2 := rfl
    have hsum1 : ¬ (9223372036854775807 < t.size + 2) := by omega
    have hsum2 : ¬ (9223372036854775807 < t.size + 2 + y.size) := by omega
    clear hz hx hab hs ha hb
    go_wp2
    go_ret
    exact ⟨rfl, (S3.out.alloc _).kept⟩
end Go.Proofs.Ytdpeljnoaiaplaa
