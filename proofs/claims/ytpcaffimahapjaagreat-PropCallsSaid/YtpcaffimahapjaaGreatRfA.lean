/- Reference 01: Put, Get and the cursor answer what the program's own answer. -/
import Derived.Test.YtpcaffimahapjaaGreatMOct
namespace Go.Proofs.YtpcaffimahapjaaGreat
open Go.RowKit

theorem putL_step {n k m : Nat} (hm : m + 1 ≤ k) (hk : k ≤ 8) : bys ((putL n k).take (k - m)) = bys ((putL n k).take (k - (m + 1))) ++ [.int .u8 ((n : Int) / 2 ^ (8 * m) % 256)] := by
  have e : k - m = (k - (m + 1)) + 1 := by omega
  have hl : k - (m + 1) < (putL n k).length := by rw [putL_len]; omega
  rw [e, List.take_succ_eq_append_getElem hl, bys, List.map_append]
  have hb : (putL n k)[k - (m + 1)] = UInt8.ofNat (n / 2 ^ (8 * m)) := by
    simp only [putL, List.getElem_map, List.getElem_range]
    rw [if_pos (by omega), show k - 1 - (k - (m + 1)) = m by omega]
  rw [hb]
  simp [bys, UInt8.toNat_ofNat']
set_option maxHeartbeats 1000000 in
set_option maxRecDepth 10000 in
theorem refPut_any (n k : Nat) (w : World) (hn : n < 18446744073709551616) (hk : 0 < k) (hk8 : k ≤ 8) :
    Calls Tryz.prog 103 #[.int .u64 n, .int .i64 k] w fun e w' => e = .returned (.string ⟨(putL n k).toArray⟩) ∧ Below w.heap.size w w' := by
  have HN := Lib.hid hn; clear hn
  have HK := Lib.hid hk8
  have b1 : (0 : Int) < (k : Int) := by omega
  have b2 : (k : Int) ≤ 8 := by omega
  go_enter Tryz.func103, Tryz.ntmps103
  go_wp2
  go_loopw [5, 6] (fun out i wr => ∃ j : Nat, j ≤ k ∧ i = .int .i64 ((j : Int) - 1) ∧ wr.ownsRow w.heap.size 5 1 out (k - j) (bys ((putL n k).take (k - j))) ∧ Below w.heap.size w wr) (fun _ i _ => (intOf i + 1).toNat)
  case atStart => exact ⟨k, Nat.le_refl _, by go_num, by rw [Nat.sub_self]; exact World.ownsRow_nil _ _ _ _, Below.refl _ _⟩
  case round =>
    obtain ⟨j, hj, rfl, hown, hbel⟩ := hrel
    have HO := Lib.hid hown; clear hown
    by_cases hlt : 0 < j
    · obtain ⟨m, rfl⟩ : ∃ m, j = m + 1 := ⟨j - 1, by omega⟩
      have e1 : (((m + 1 : Nat) : Int) - 1) = (m : Int) := by omega
      rw [e1]
      clear e1
      have c1 : (m : Int) < 8 := by omega
      have c0 : (0 : Int) ≤ (m : Int) := by omega
      have HM : Hid (m + 1 ≤ k) := Lib.hid hj
      have HB := Lib.hid hbel
      clear hj hlt hbel
      go_wp2_with (at_builtin; refine wpList_app _ rfl (.tmp 24) (.tmp 26) 65 rfl w.heap.size 5 (.int .u8 0) 1 1 Tryz.underlying65 info_byte rfl (by decide) u5 _ _ rfl (HO.out.alloc _) _ _ 1 1 [_] rfl (Rd.lit _ _ _ rfl (Nat.lt_succ_self _) rfl) (by intro u hu; simp at hu; subst hu; rfl) (by have := HM.out; unfold maxLen; omega) (by have := HM.out; omega) (by have := HB.out.size; simp; omega) ?_; intro v' w3 hown3 hg3 hat3)
      go_roundw
      case rel =>
        have e2 : k - (m + 1) + 1 = k - m := by have := HM.out; omega
        refine ⟨m, by have := HM.out; omega, by go_num, ?_, below_app (HB.out.alloc HB.out.size _) hg3 (by have := HB.out.size; simp; omega) (fun g hg => (own_block HO.out g hg).1)⟩
        rw [e2] at hown3
        have e3 : bys ((putL n k).take (k - m)) = bys ((putL n k).take (k - (m + 1))) ++ [.int .u8 ((n : Int) / 2 ^ (8 * m) % 256)] := putL_step HM.out HK.out
        rw [e3]
        exact hown3
      case measure => simp [intOf]
    · obtain rfl : j = 0 := by omega
      obtain ⟨A, c, rfl, _, hrd⟩ := own_rd HO.out
      have hconv := conv_rd (P := Tryz.prog) 65 9 5 Tryz.underlying65 Tryz.underlying5 Tryz.underlying9 c hrd
      have HTK : Hid ((putL n k).take (k - 0) = putL n k) := Lib.hid (by rw [List.take_of_length_le (by rw [putL_len]; omega)])
      rw [HTK.out] at hconv
      simp only [Nat.sub_zero] at hconv
      clear hrd
      go_wp2
      go_ret
      exact ⟨rfl, hbel⟩

set_option maxHeartbeats 400000 in
set_option maxRecDepth 10000 in
theorem refGet_any (s : ByteArray) (w : World) (hs : s.size ≤ 8) :
    Calls Tryz.prog 178 #[.string s] w fun e w' => e = .returned (.int .u64 (getL (ls s))) ∧ w = w' := by
  have hmx : max (0 : Int) ((s.size : Int) - 8) = 0 := by omega
  go_enter Tryz.func178, Tryz.ntmps178
  go_wp2
  go_loop [3, 4] (fun n i => ∃ k : Nat, k ≤ s.size ∧ i = .int .i64 k ∧ n = .int .u64 (getL ((ls s).take k))) (fun _ i => s.size - (intOf i).toNat)
  case atStart => exact ⟨0, by omega, rfl, rfl⟩
  case round =>
    obtain ⟨k, hk, rfl, rfl⟩ := hrel
    by_cases hlt : k < s.size
    · have hlen : getL ((ls s).take k) < 72057594037927936 := by
        have h1 := getL_lt ((ls s).take k)
        have h2 : ((ls s).take k).length = k := by rw [List.length_take, ls_len]; omega
        rw [h2] at h1
        exact Nat.lt_of_lt_of_le h1 (Nat.le_trans (Nat.pow_le_pow_right (by omega) (by omega : k ≤ 7)) (by decide))
      have HS : Hid (((getL ((ls s).take (k + 1)) : Nat) : Int) = bits BinOp.or IntKind.u64 (IntKind.u64.wrap ((getL ((ls s).take k) : Int) * 256)) (IntKind.u64.wrap (s[k].toNat : Int))) := by
        show _ = _
        rw [wrap_byte, or_low _ _ hlen, ls_take_succ s k hlt, getL_snoc]
      generalize getL ((ls s).take k) = n at *
      have HL := Lib.hid hlen; clear hlen
      go_wp2
      go_round
      case rel => exact ⟨k + 1, by omega, by go_num, by rw [HS.out]⟩
      case measure => simp [intOf]; omega
    · obtain rfl : k = s.size := by omega
      go_wp2
      go_ret
      refine ⟨?_, rfl⟩
      show Ending.returned (.int .u64 (getL ((ls s).take s.size))) = _
      rw [List.take_of_length_le (by rw [ls_len]; exact Nat.le_refl _)]

abbrev RCT : TypeId := 136
/-- The reference's cursor. -/
def RCur (w : World) (g : Nat) (t : ByteArray) (a : Nat) (e : Int) : Prop := Bk w g RCT (curC t a e) ∧ a ≤ t.size ∧ t.size ≤ 4611686018427387904
theorem RCur.cells {w : World} {g a : Nat} {t : ByteArray} {e : Int} (h : RCur w g t a e) : (w.cell? ⟨g, 0, none⟩ = some (.string t) ∧ w.cell? ⟨g, 1, none⟩ = some (.int .i64 a) ∧ w.cell? ⟨g, 2, none⟩ = some (.int .i64 e)) ∧ w.frozen? ⟨g, 0, none⟩ = false ∧ w.frozen? ⟨g, 1, none⟩ = false ∧ w.frozen? ⟨g, 2, none⟩ = false := h.1.three
theorem RCur.lt {w : World} {g a : Nat} {t : ByteArray} {e : Int} (h : RCur w g t a e) : g < w.heap.size := h.1.lt
theorem RCur.below {w w' : World} {g a : Nat} {t : ByteArray} {e : Int} (h : RCur w g t a e) (hb : Below w.heap.size w w') : RCur w' g t a e := ⟨h.1.below hb h.lt, h.2⟩
theorem RCur.drewN {w : World} {g a : Nat} {t : ByteArray} {e : Int} (h : RCur w g t a e) (n : Nat) : RCur (w.drewN n) g t a e := ⟨h.1.drewN n, h.2⟩
set_option maxHeartbeats 400000 in
theorem refNew_any (s : ByteArray) (w : World) (hs : s.size ≤ 4611686018427387904) :
    Calls Tryz.prog 113 #[.string s] w fun e w' => e = .returned (.pointer (some ⟨w.heap.size, 0, none⟩)) ∧ RCur w' w.heap.size s 0 0 ∧ Below w.heap.size w w' := by
  go_enter Tryz.func113, Tryz.ntmps113
  go_wp2
  go_ret
  exact ⟨rfl, ⟨Bk.fresh _ _ _, by omega, hs⟩, (Below.refl _ _).alloc (Nat.le_refl _) _⟩

/-- What is seen of the next bytes. -/
def peekS (t : ByteArray) (a : Nat) (e n : Int) : ByteArray := if e = 0 ∧ hasC t a n = true then t.extract a (a + n.toNat) else ⟨#[]⟩
set_option maxHeartbeats 1000000 in
set_option maxRecDepth 10000 in
theorem refPeek_any (g a : Nat) (t : ByteArray) (e : Int) (n : Int) (w : World) (h : RCur w g t a e) :
    Calls Tryz.prog 212 #[.pointer (some ⟨g, 0, none⟩), .int .i64 n] w fun e' w' => e' = .returned (.string (peekS t a e n)) ∧ Below w.heap.size w w' := by
  obtain ⟨⟨c0, c1, c2⟩, _⟩ := h.cells
  obtain ⟨_, ha, ht⟩ := h
  have w0 : IntKind.i64.wrap ((t.size : Int) - (a : Int)) = (t.size : Int) - (a : Int) := by rw [IntKind.wrap_i64]; omega
  by_cases he : e = 0
  rotate_left
  · have HX : Hid (peekS t a e n = ⟨#[]⟩) := Lib.hid (by unfold peekS; rw [if_neg (fun x => he x.1)])
    have e1 : (e != 0) = true := bne_iff_ne.2 he
    clear he
    go_enter Tryz.func212, Tryz.ntmps212
    go_wp2
    go_quiet (fail)
    go_wp2
    go_ret
    exact ⟨by rw [HX.out]; rfl, below_drawn (Below.refl _ _) _⟩
  subst he
  by_cases h0 : n < 0
  · have HX : Hid (peekS t a 0 n = ⟨#[]⟩) := Lib.hid (by unfold peekS; rw [if_neg]; rintro ⟨-, x⟩; simp [hasC] at x; omega)
    have d0 : decide (n < 0) = true := decide_eq_true h0
    clear h0
    go_enter Tryz.func212, Tryz.ntmps212
    go_wp2
    go_quiet (fail)
    go_wp2
    go_ret
    exact ⟨by rw [HX.out]; rfl, below_drawn (Below.refl _ _) _⟩
  obtain ⟨m, rfl⟩ := Int.eq_ofNat_of_zero_le (show 0 ≤ n by omega)
  have d0 : decide ((m : Int) < 0) = false := decide_eq_false h0
  clear h0
  by_cases h1 : (t.size : Int) - a < m
  · have HX : Hid (peekS t a 0 m = ⟨#[]⟩) := Lib.hid (by unfold peekS; rw [if_neg]; rintro ⟨-, x⟩; simp [hasC] at x; omega)
    have d1 : decide ((t.size : Int) - a < m) = true := decide_eq_true h1
    clear h1
    go_enter Tryz.func212, Tryz.ntmps212
    go_wp2
    go_quiet (fail)
    go_wp2
    go_ret
    exact ⟨by rw [HX.out]; rfl, below_drawn (Below.refl _ _) _⟩
  · have HX : Hid (peekS t a 0 m = t.extract a (a + m)) := Lib.hid (by unfold peekS; rw [if_pos ⟨rfl, by simp [hasC]; omega⟩]; rfl)
    have d1 : decide ((t.size : Int) - a < m) = false := decide_eq_false h1
    have i1 : (0 : Int) ≤ (a : Int) := by omega
    have i2 : (a : Int) ≤ (a : Int) + (m : Int) := by omega
    have i3 : (a : Int) + (m : Int) ≤ (t.size : Int) := by omega
    have w1 : IntKind.i64.wrap ((a : Int) + (m : Int)) = (a : Int) + (m : Int) := by rw [IntKind.wrap_i64]; omega
    clear h1
    go_enter Tryz.func212, Tryz.ntmps212
    go_wp2
    go_quiet (fail)
    go_wp2
    go_quiet (fail)
    go_wp2
    go_ret
    exact ⟨by rw [HX.out]; rfl, below_drawn (below_drawn (Below.refl _ _) _) _⟩

theorem peek_take {t : ByteArray} {a : Nat} {e n : Int} : peekS t a (takeS t a e n).2.2 n = (takeS t a e n).1 ∧ (takeS t a e n).2.1 = a + (takeS t a e n).1.size := by
  unfold peekS takeS
  by_cases he : e = 0
  · subst he
    cases hh : hasC t a n
    · simp
      rfl
    · have : 0 ≤ n ∧ n ≤ (t.size : Int) - a := by simpa [hasC] using hh
      simp only [if_true, and_self, true_and]
      rw [ByteArray.size_extract]
      omega
  · simp [he]
    rfl
set_option maxHeartbeats 2000000 in
set_option maxRecDepth 10000 in
theorem refTake_any (g a : Nat) (t : ByteArray) (e : Int) (n : Int) (w : World) (h : RCur w g t a e) :
    Calls Tryz.prog 150 #[.pointer (some ⟨g, 0, none⟩), .int .i64 n] w fun e' w' =>
      e' = .returned (.string (takeS t a e n).1) ∧ RCur w' g t (takeS t a e n).2.1 (takeS t a e n).2.2 ∧ w.grownBy w' (some g) := by
  have HC := Lib.hid h
  obtain ⟨hp1, hp2⟩ := peek_take (t := t) (a := a) (e := e) (n := n)
  have HP := Lib.hid hp1; have HQ := Lib.hid hp2
  have HLE := Lib.hid (takeS_le h.2.1 e n)
  obtain ⟨⟨c0, c1, c2⟩, f0, f1, f2⟩ := h.cells
  obtain ⟨_, ha, ht⟩ := h
  have HT := Lib.hid ht
  have w0 : IntKind.i64.wrap ((t.size : Int) - (a : Int)) = (t.size : Int) - (a : Int) := by rw [IntKind.wrap_i64]; omega
  clear hp1 hp2
  have tail : ∀ (E : Int) (x : World), (takeS t a e n).2.2 = E → RCur x g t a E → w.grownBy x (some g) →
      Calls Tryz.prog 212 #[.pointer (some ⟨g, 0, none⟩), .int .i64 n] x fun e' x' => e' = .returned (.string (takeS t a e n).1) ∧ RCur x' g t a E ∧ w.grownBy x' (some g) := by
    intro E x hE hc hm
    refine (refPeek_any g a t E n x hc).mono ?_
    rintro e' x' ⟨rfl, hb⟩
    refine ⟨?_, hc.below hb, hm.trans (mod_below hb (some g))⟩
    rw [← HP.out, hE]
  have HTail := Lib.hid tail; clear tail
  by_cases he : e = 0
  rotate_left
  · have HE : Hid ((takeS t a e n).2.2 = e) := Lib.hid (by unfold takeS; rw [if_neg he])
    have e1 : (e == 0) = false := beq_eq_false_iff_ne.2 he
    clear he
    obtain ⟨N, hN⟩ : ∃ N, (takeS t a e n).1 = N := ⟨_, rfl⟩
    rw [hN] at HQ HTail ⊢
    have HN := Lib.hid hN; clear hN
    go_enter Tryz.func150, Tryz.ntmps150
    go_wp2
    go_quiet (fail)
    go_wp2_with fail
    refine (HTail.out e _ HE.out (HC.out.drewN _) (mod_drawn (mod_refl _ _) _)).mono ?_
    rintro e' x' ⟨rfl, hc, hm⟩
    obtain ⟨⟨d0, d1, d2⟩, g0, g1, g2⟩ := hc.cells
    have HC9 := Lib.hid hc; have HM9 := Lib.hid hm
    have w9 : IntKind.i64.wrap ((a : Int) + (N.size : Int)) = (a : Int) + (N.size : Int) := by rw [IntKind.wrap_i64]; have := HQ.out; have := HLE.out; have := HT.out; omega
    clear hc hm
    go_wp2
    go_ret
    refine ⟨rfl, ⟨?_, HLE.out, HT.out⟩, HM9.out.trans (mod_set _ _ _ _)⟩
    refine HC9.out.1.upd 1 _ ?_
    rw [HE.out, HQ.out]
    simp [curC]
  subst he
  by_cases h0 : n < 0
  · have HE : Hid ((takeS t a 0 n).2.2 = 3) := Lib.hid (by unfold takeS; rw [if_pos rfl, if_neg]; simp [hasC]; omega)
    have d0 : decide (n < 0) = true := decide_eq_true h0
    clear h0
    obtain ⟨N, hN⟩ : ∃ N, (takeS t a 0 n).1 = N := ⟨_, rfl⟩
    rw [hN] at HQ HTail ⊢
    have HN := Lib.hid hN; clear hN
    go_enter Tryz.func150, Tryz.ntmps150
    go_wp2
    go_quiet (fail)
    go_wp2_with fail
    refine (HTail.out 3 _ HE.out ⟨(HC.out.drewN _).1.upd 2 _ (by simp [curC]), HC.out.2⟩ ((mod_drawn (mod_refl _ _) _).trans (mod_set _ _ _ _))).mono ?_
    rintro e' x' ⟨rfl, hc, hm⟩
    obtain ⟨⟨d0, d1, d2⟩, g0, g1, g2⟩ := hc.cells
    have HC9 := Lib.hid hc; have HM9 := Lib.hid hm
    have w9 : IntKind.i64.wrap ((a : Int) + (N.size : Int)) = (a : Int) + (N.size : Int) := by rw [IntKind.wrap_i64]; have := HQ.out; have := HLE.out; have := HT.out; omega
    clear hc hm
    go_wp2
    go_ret
    refine ⟨rfl, ⟨?_, HLE.out, HT.out⟩, HM9.out.trans (mod_set _ _ _ _)⟩
    refine HC9.out.1.upd 1 _ ?_
    rw [HE.out, HQ.out]
    simp [curC]
  have d0 : decide (n < 0) = false := decide_eq_false h0
  by_cases h1 : (t.size : Int) - a < n
  · have HE : Hid ((takeS t a 0 n).2.2 = 3) := Lib.hid (by unfold takeS; rw [if_pos rfl, if_neg]; simp [hasC]; omega)
    have d1 : decide ((t.size : Int) - a < n) = true := decide_eq_true h1
    clear h0 h1
    obtain ⟨N, hN⟩ : ∃ N, (takeS t a 0 n).1 = N := ⟨_, rfl⟩
    rw [hN] at HQ HTail ⊢
    have HN := Lib.hid hN; clear hN
    go_enter Tryz.func150, Tryz.ntmps150
    go_wp2
    go_quiet (fail)
    go_wp2_with fail
    refine (HTail.out 3 _ HE.out ⟨(HC.out.drewN _).1.upd 2 _ (by simp [curC]), HC.out.2⟩ ((mod_drawn (mod_refl _ _) _).trans (mod_set _ _ _ _))).mono ?_
    rintro e' x' ⟨rfl, hc, hm⟩
    obtain ⟨⟨d0, d1, d2⟩, g0, g1, g2⟩ := hc.cells
    have HC9 := Lib.hid hc; have HM9 := Lib.hid hm
    have w9 : IntKind.i64.wrap ((a : Int) + (N.size : Int)) = (a : Int) + (N.size : Int) := by rw [IntKind.wrap_i64]; have := HQ.out; have := HLE.out; have := HT.out; omega
    clear hc hm
    go_wp2
    go_ret
    refine ⟨rfl, ⟨?_, HLE.out, HT.out⟩, HM9.out.trans (mod_set _ _ _ _)⟩
    refine HC9.out.1.upd 1 _ ?_
    rw [HE.out, HQ.out]
    simp [curC]
  · have HE : Hid ((takeS t a 0 n).2.2 = 0) := Lib.hid (by unfold takeS; rw [if_pos rfl, if_pos]; simp [hasC]; omega)
    have d1 : decide ((t.size : Int) - a < n) = false := decide_eq_false h1
    clear h0 h1
    obtain ⟨N, hN⟩ : ∃ N, (takeS t a 0 n).1 = N := ⟨_, rfl⟩
    rw [hN] at HQ HTail ⊢
    have HN := Lib.hid hN; clear hN
    go_enter Tryz.func150, Tryz.ntmps150
    go_wp2
    go_quiet (fail)
    go_wp2_with fail
    refine (HTail.out 0 _ HE.out (HC.out.drewN _) (mod_drawn (mod_refl _ _) _)).mono ?_
    rintro e' x' ⟨rfl, hc, hm⟩
    obtain ⟨⟨d0, d1, d2⟩, g0, g1, g2⟩ := hc.cells
    have HC9 := Lib.hid hc; have HM9 := Lib.hid hm
    have w9 : IntKind.i64.wrap ((a : Int) + (N.size : Int)) = (a : Int) + (N.size : Int) := by rw [IntKind.wrap_i64]; have := HQ.out; have := HLE.out; have := HT.out; omega
    clear hc hm
    go_wp2
    go_ret
    refine ⟨rfl, ⟨?_, HLE.out, HT.out⟩, HM9.out.trans (mod_set _ _ _ _)⟩
    refine HC9.out.1.upd 1 _ ?_
    rw [HE.out, HQ.out]
    simp [curC]

set_option maxHeartbeats 400000 in
set_option maxRecDepth 10000 in
theorem refNumber_any (g a : Nat) (t : ByteArray) (e : Int) (n : Int) (w : World) (h : RCur w g t a e) (hn : n ≤ 8) :
    Calls Tryz.prog 114 #[.pointer (some ⟨g, 0, none⟩), .int .i64 n] w fun e' w' =>
      e' = .returned (.int .u64 (numS t a e n)) ∧ RCur w' g t (takeS t a e n).2.1 (takeS t a e n).2.2 ∧ w.grownBy w' (some g) := by
  have HZ := Lib.hid (takeS_size h.2.1 e n 8 hn)
  have HC := Lib.hid h; clear h
  go_enter Tryz.func114, Tryz.ntmps114
  go_wp2_with fail
  refine (refTake_any g a t e n _ HC.out).mono ?_
  rintro e' w1 ⟨rfl, hc, hm⟩
  have HH := Lib.hid (And.intro hc hm); clear hc hm
  go_wp2_with fail
  refine (refGet_any _ _ HZ.out).mono ?_
  rintro e' w' ⟨rfl, rfl⟩
  go_wp2
  go_ret
  exact ⟨rfl, HH.out⟩

set_option maxHeartbeats 400000 in
set_option maxRecDepth 10000 in
theorem refFail_any (g a : Nat) (t : ByteArray) (e : Int) (n : Int) (w : World) (h : RCur w g t a e) :
    Calls Tryz.prog 152 #[.pointer (some ⟨g, 0, none⟩), .int .i64 n] w fun e' w' =>
      e' = .returned (.tuple #[]) ∧ RCur w' g t a (if e = 0 then n else e) ∧ w.grownBy w' (some g) := by
  have HC := Lib.hid h
  obtain ⟨⟨c0, c1, c2⟩, f0, f1, f2⟩ := h.cells
  clear h
  by_cases he : e = 0
  · subst he
    rw [if_pos rfl]
    go_enter Tryz.func152, Tryz.ntmps152
    go_wp2
    go_end0
    refine ⟨rfl, ⟨HC.out.1.upd 2 _ ?_, HC.out.2⟩, mod_set _ _ _ _⟩
    simp [curC]
  · rw [if_neg he]
    have hb : (e == 0) = false := by simpa using he
    clear he
    go_enter Tryz.func152, Tryz.ntmps152
    go_wp2
    go_end0
    exact ⟨rfl, HC.out, mod_refl _ _⟩

set_option maxHeartbeats 400000 in
set_option maxRecDepth 10000 in
theorem refRest_any (g a : Nat) (t : ByteArray) (e : Int) (w : World) (h : RCur w g t a e) :
    Calls Tryz.prog 189 #[.pointer (some ⟨g, 0, none⟩)] w fun e' w' => e' = .returned (.string (t.extract a t.size)) ∧ Below w.heap.size w w' := by
  obtain ⟨⟨c0, c1, c2⟩, f0, f1, f2⟩ := h.cells
  obtain ⟨_, ha, ht⟩ := h
  have i1 : (0 : Int) ≤ (a : Int) := by omega
  have i3 : (a : Int) ≤ (t.size : Int) := by omega
  go_enter Tryz.func189, Tryz.ntmps189
  go_wp2
  go_quiet (fail)
  go_wp2
  go_ret
  exact ⟨rfl, below_drawn (Below.refl _ _) _⟩

set_option maxHeartbeats 400000 in
set_option maxRecDepth 10000 in
theorem refLeft_any (g a : Nat) (t : ByteArray) (e : Int) (w : World) (h : RCur w g t a e) :
    Calls Tryz.prog 151 #[.pointer (some ⟨g, 0, none⟩)] w fun e' w' => e' = .returned (.int .i64 ((t.size - a : Nat) : Int)) ∧ Below w.heap.size w w' := by
  obtain ⟨⟨c0, c1, c2⟩, f0, f1, f2⟩ := h.cells
  obtain ⟨_, ha, ht⟩ := h
  have w0 : IntKind.i64.wrap ((t.size : Int) - (a : Int)) = (t.size : Int) - (a : Int) := by rw [IntKind.wrap_i64]; omega
  have HS : Hid (((t.size - a : Nat) : Int) = (t.size : Int) - (a : Int)) := Lib.hid (by omega)
  go_enter Tryz.func151, Tryz.ntmps151
  go_wp2
  go_quiet (fail)
  go_wp2
  go_ret
  exact ⟨by rw [HS.out]; rfl, below_drawn (Below.refl _ _) _⟩
end Go.Proofs.YtpcaffimahapjaaGreat
