/- The law PropShort. -/
import Derived.Test.YtcokgfmlkanoiaaProO
import Derived.Test.YtcokgfmlkanoiaaRefW
namespace Go.Proofs.Ytcokgfmlkanoiaa
open Go.RowKit

theorem varL_one {n : Nat} (h : n < 128) : varL n = [UInt8.ofNat n] := by unfold varL; rw [varF, if_pos h]
theorem short_head {kind : Int} {l : List Pr} (hok : (bytesS kind l).2 = 0) (hl : (bytesS kind l).1.length ≤ 127) :
    (l.flatMap propL).length + 1 = (bytesS kind l).1.length ∧ (bytesS kind l).1 = varL (l.flatMap propL).length ++ l.flatMap propL ∧ (varL (l.flatMap propL).length).length = 1 := by
  have hb := bytesS_bytes kind l hok
  have h1 : (varL (l.flatMap propL).length).length = 1 := by
    have hp := varF_pos 3 (l.flatMap propL).length
    rw [hb] at hl
    rw [List.length_append] at hl
    rw [varL_len, if_pos]
    have : 1 ≤ (varL (l.flatMap propL).length).length := hp
    omega
  refine ⟨?_, by rw [hb], h1⟩
  rw [hb, List.length_append, h1]
  omega
theorem readP_cut {kind : Int} {l : List Pr} (hok : (bytesS kind l).2 = 0) (hl : (bytesS kind l).1.length ≤ 127) {t : ByteArray} {k : Nat} (ht : ls t = (bytesS kind l).1.take k) (hk : k < (bytesS kind l).1.length) : readP kind t = ([], 0, 3) := by
  obtain ⟨h1, h2, h3⟩ := short_head hok hl
  have hts : t.size = k := by rw [← ls_len, ht, List.length_take]; omega
  rw [h2] at ht
  rcases Nat.eq_zero_or_pos k with rfl | hpos
  · have h0 : readV (ls t) = (0, 0, 3) := by rw [ht]; rfl
    unfold readP
    rw [h0, if_pos (by decide)]
  · have h0 : readV (ls t) = ((l.flatMap propL).length, 1, 0) := by
      rw [ht, List.take_append, List.take_of_length_le (by omega)]
      have := readV_varL (l.flatMap propL).length (by omega) (List.take (k - (varL (l.flatMap propL).length).length) (l.flatMap propL))
      rw [this, h3]
    unfold readP
    rw [h0]
    simp only
    rw [if_neg (by decide), if_pos (by omega)]
theorem readP_more {kind : Int} {l : List Pr} (hok : (bytesS kind l).2 = 0) (hn : ∀ p ∈ l, p.n < 4294967296) (hl : (bytesS kind l).1.length ≤ 127) {t : ByteArray} (ht : ls t = varL (bytesS kind l).1.length ++ (bytesS kind l).1.drop 1 ++ [0]) : readP kind t = ([], 0, 9) := by
  obtain ⟨h1, h2, h3⟩ := short_head hok hl
  obtain ⟨k1, k2⟩ := (bytesS_ok kind l).1 hok
  have hd : (bytesS kind l).1.drop 1 = l.flatMap propL := by
    rw [h2, ← h3]; simp
  rw [hd, List.append_assoc] at ht
  have hv := readV_varL (bytesS kind l).1.length (by omega) (l.flatMap propL ++ [0])
  have hvl : (varL (bytesS kind l).1.length).length = 1 := by rw [varL_len, if_pos (by omega)]
  rw [← ht, hvl] at hv
  have hts : t.size = (bytesS kind l).1.length + 1 := by
    rw [← ls_len, ht, List.length_append, hvl, List.length_append, List.length_singleton]; omega
  unfold readP
  rw [hv]
  simp only
  have hx : ls (t.extract 1 (1 + (bytesS kind l).1.length)) = l.flatMap propL ++ [0] := by
    rw [extract_ls, ht]
    have : (varL (bytesS kind l).1.length ++ (l.flatMap propL ++ [0])).drop 1 = l.flatMap propL ++ [0] := by rw [← hvl]; simp
    rw [this, List.take_of_length_le (by rw [List.length_append, List.length_singleton]; omega)]
  rw [if_neg (by decide), if_neg (by omega), listS_zero hx k2 k1 hn, if_pos (by decide)]

theorem sum_size {a b c : ByteArray} (h1 : a.size ≤ 4) (h2 : b.size ≤ 127) (h3 : c.size = 1) : (a ++ b ++ c).size ≤ 140737488351232 := by
  rw [ByteArray.size_append, ByteArray.size_append]; omega
set_option maxHeartbeats 1000000 in
set_option maxRecDepth 10000 in
theorem propShort_any (kind : Int) (l : List Pr) (A : Option Addr) (c : Nat) (cut : Int) (w : World) (h : Rd w w.heap.size 4 A l.length (prs l)) (hg : ∀ p ∈ l, prGood p) (hl : l.length ≤ 2932031007317) :
    Calls Try.prog 10 #[.int .i64 kind, .slice A l.length c, .int .i64 cut] w fun e w' => e = .returned (.bool true) ∧ Below w.heap.size w w' := by
  have H := Lib.hid h; have HG := Lib.hid hg; have HL := Lib.hid hl
  have hls : l.length ≤ 4611686018427387904 := by omega
  clear h hg
  go_enter Try.func10, Try.ntmps10
  go_wp2_with fail
  refine (lives5_any _).mono ?_
  rintro e w1 ⟨rfl, hb⟩
  have K1 := Lib.hid (show Kept w w1 from hb); clear hb
  go_wp2_with fail
  refine (lightP_any l A c _ (K1.out.rd H.out) hls (small_of_good HG.out)).mono ?_
  rintro e w2 ⟨rfl, hb⟩
  have K2 := Lib.hid (K1.out.below hb); clear hb
  cases hL : lightB l
  · go_wp2
    go_ret
    exact ⟨rfl, K2.out⟩
  · have HLB := Lib.hid hL; clear hL
    go_wp2_with fail
    refine (bytesP_n kind l _ rfl HG.out A c _ (K2.out.rd H.out) hls).mono ?_
    rintro e w3 ⟨rfl, hb⟩
    have K3 := Lib.hid (K2.out.below hb); clear hb
    by_cases hE : (bytesS kind l).2 = 0
    · have HOK := Lib.hid hE
      rw [hE]
      clear hE
      have hsz := (bytesS_size kind l HOK.out).2
      by_cases h127 : 127 < (bytesS kind l).1.length
      · obtain ⟨X, hX⟩ : ∃ X : ByteArray, (⟨(bytesS kind l).1.toArray⟩ : ByteArray) = X := ⟨_, rfl⟩
        have hXs : X.size = (bytesS kind l).1.length := by rw [← hX, mk_size]
        have d1 : (127 : Int) < (X.size : Int) := by omega
        rw [hX]
        clear hX hXs h127 hsz
        go_wp2
        go_ret
        exact ⟨rfl, K3.out⟩
      · have h1 := short_head HOK.out (by omega)
        obtain ⟨X, hX⟩ : ∃ X : ByteArray, (⟨(bytesS kind l).1.toArray⟩ : ByteArray) = X := ⟨_, rfl⟩
        have hXs : X.size = (bytesS kind l).1.length := by rw [← hX, mk_size]
        have hXl : ls X = (bytesS kind l).1 := by rw [← hX, ls_mk]
        have HX := Lib.hid (And.intro hXs hXl)
        have HC : Hid (∀ (t : ByteArray) (k : Nat), ls t = (ls X).take k → k < X.size → readP kind t = ([], 0, 3)) := Lib.hid (fun t k ht hk => readP_cut HOK.out (by omega) (by rw [← hXl]; exact ht) (by omega))
        have HM : Hid (∀ t : ByteArray, ls t = varL X.size ++ (ls X).drop 1 ++ [0] → readP kind t = ([], 0, 9)) := Lib.hid (fun t ht => readP_more HOK.out (fun p hp => (HG.out p hp).1) (by omega) (by rw [← hXs, ← hXl]; exact ht))
        have hx1 : X.size ≤ 127 := by omega
        have hx0 : 0 < X.size := by omega
        have hx1i : (X.size : Int) ≤ 127 := by omega
        have hx0i : (1 : Int) ≤ (X.size : Int) := by omega
        have HX1 := Lib.hid (And.intro hx0 hx1)
        rw [hX]
        clear hX hXs hXl h127 hsz h1 hx1 hx0
        go_wp2_with fail
        refine (pick_any cut (X.size : Int) _ (by omega)).mono ?_
        rintro e w4 ⟨rfl, rfl⟩
        obtain ⟨k, hk, hkl⟩ := pick_nat cut X.size HX1.out.1
        rw [hk]
        clear hk
        have b1 : (0 : Int) ≤ (k : Int) := by omega
        have b2 : (k : Int) ≤ (X.size : Int) := by omega
        have HK := Lib.hid hkl
        go_wp2_with fail
        refine (readP_any kind (X.extract 0 k) _ (by rw [ByteArray.size_extract]; have := HX1.out; omega)).mono ?_
        rintro e w5 ⟨A5, c5, rfl, _, _, hb⟩
        have K5 := Lib.hid (K3.out.below hb); clear hb
        rw [HC.out (X.extract 0 k) k (by have := extract_ls X 0 k; rwa [Nat.zero_add, List.drop_zero] at this) HK.out]
        simp only
        go_wp2_with fail
        refine (ref2Bytes_any X.size _ (by have := HX1.out; omega)).mono ?_
        rintro e w6 ⟨rfl, hb⟩
        have K6 := Lib.hid (K5.out.below hb); clear hb
        have hms : (⟨(varL X.size).toArray⟩ : ByteArray).size ≤ 4 := by rw [mk_size]; exact varF_len 3 X.size
        have HMM : Hid (∀ Z : ByteArray, ls Z = [0] → readP kind (⟨(varL X.size).toArray⟩ ++ X.extract 1 X.size ++ Z) = ([], 0, 9)) := Lib.hid (fun Z hZ => HM.out _ (by rw [ls_app, ls_app, ls_mk, rest_at, hZ]))
        generalize (⟨(varL X.size).toArray⟩ : ByteArray) = M at *
        have hes : (X.extract 1 X.size).size ≤ 127 := by rw [ByteArray.size_extract]; have := HX1.out; omega
        have HES := Lib.hid hes
        have hs1 : ¬ (9223372036854775807 < M.size + (X.extract 1 X.size).size) := by omega
        have hs2 : ¬ (9223372036854775807 < (M ++ X.extract 1 X.size).size + (⟨#[0]⟩ : ByteArray).size) := by
          rw [ByteArray.size_append]
          have : (⟨#[0]⟩ : ByteArray).size = 1 := rfl
          omega
        go_wp2_with fail
        refine (readP_any kind _ _ (sum_size hms HES.out rfl)).mono ?_
        rintro e w7 ⟨A7, c7, rfl, _, _, hb⟩
        have K7 := Lib.hid (K6.out.below hb); clear hb
        rw [HMM.out _ rfl]
        simp only
        go_wp2
        go_ret
        exact ⟨rfl, K7.out⟩
    · obtain ⟨E, hEE⟩ : ∃ E, (bytesS kind l).2 = E := ⟨_, rfl⟩
      rw [hEE] at hE ⊢
      have e0 : (E != 0) = true := bne_iff_ne.2 hE
      have HE := Lib.hid hE
      clear hE hEE
      go_wp2
      go_ret
      exact ⟨rfl, K3.out⟩
end Go.Proofs.Ytcokgfmlkanoiaa
