/- The law PropHalves. -/
import Derived.Test.YtcokgfmlkanoiaaProL
namespace Go.Proofs.Ytcokgfmlkanoiaa
open Go.RowKit

theorem pick_nat (n : Int) (m : Nat) (hm : 0 < m) : ∃ k : Nat, pickN n m = k ∧ k < m := by
  unfold pickN
  rw [if_neg (by omega)]
  have h1 := Int.emod_nonneg n (show (m : Int) ≠ 0 by omega)
  have h2 := Int.emod_lt_of_pos n (show (0 : Int) < (m : Int) by omega)
  exact ⟨(n % (m : Int)).toNat, by omega, by omega⟩
theorem flat_total {kind : Int} : ∀ {l : List Pr}, ckL kind l → (l.flatMap propL).length ≤ l.length * 131075
  | [], _ => by simp
  | p :: l, h => by
    have h1 := propL_len (h p (by simp))
    have h2 := flat_total (fun q hq => h q (List.mem_cons_of_mem _ hq))
    rw [List.flatMap_cons, List.length_append, List.length_cons]
    omega
theorem bytesS_size (kind : Int) (l : List Pr) (h : (bytesS kind l).2 = 0) : (l.flatMap propL).length ≤ 131075000 ∧ (bytesS kind l).1.length ≤ 131075004 := by
  have hb := bytesS_bytes kind l h
  obtain ⟨h1, h2, _⟩ := (bytesS_ok kind l).1 h
  have h3 := flat_total h2
  refine ⟨by omega, ?_⟩
  rw [hb]
  have := varF_len 3 (l.flatMap propL).length
  simp only [varL, List.length_append]
  omega
theorem mk_size (l : List UInt8) : (⟨l.toArray⟩ : ByteArray).size = l.length := by show l.toArray.size = _; simp
theorem behind_bytes (kind : Int) (l : List Pr) (h : (bytesS kind l).2 = 0) :
    (⟨(bytesS kind l).1.toArray⟩ : ByteArray).extract (readV (ls ⟨(bytesS kind l).1.toArray⟩)).2.1 (⟨(bytesS kind l).1.toArray⟩ : ByteArray).size = ⟨(l.flatMap propL).toArray⟩ := by
  have hs := (bytesS_size kind l h).1
  have hb := bytesS_bytes kind l h
  rw [ls_mk, hb]
  simp only
  rw [readV_varL _ (by omega)]
  apply ls_ext
  rw [rest_at, ls_mk, ls_mk]
  simp
theorem mk_cat (a b : List UInt8) : (⟨(a ++ b).toArray⟩ : ByteArray) = ⟨a.toArray⟩ ++ ⟨b.toArray⟩ := (mk_app a b).symm

set_option maxHeartbeats 4000000 in
set_option maxRecDepth 10000 in
theorem propHalves_any (kind : Int) (l : List Pr) (A : Option Addr) (c : Nat) (cut : Int) (w : World) (h : Rd w w.heap.size 4 A l.length (prs l)) (hg : ∀ p ∈ l, prGood p) (hl : l.length ≤ 2932031007317) (hlc : l.length ≤ c) :
    Calls Try.prog 9 #[.int .i64 kind, .slice A l.length c, .int .i64 cut] w fun e w' => e = .returned (.bool true) ∧ Below w.heap.size w w' := by
  have H := Lib.hid h; have HG := Lib.hid hg; have HL := Lib.hid hl; have HC := Lib.hid hlc
  have hls : l.length ≤ 4611686018427387904 := by omega
  clear h hg hlc
  go_enter Try.func9, Try.ntmps9
  go_wp2_with fail
  refine (lives5_any _).mono ?_
  rintro e w1 ⟨rfl, hb⟩
  have K1 := Lib.hid (show Kept w w1 from hb); clear hb
  go_wp2_with fail
  refine (lightP_any l A c _ (K1.out.rd H.out) hls (small_of_good HG.out)).mono ?_
  rintro e w2 ⟨rfl, hb⟩
  have K2 := Lib.hid (K1.out.below hb); clear hb
  cases hL : lightB l
  · go_wp2
    go_ret
    exact ⟨rfl, K2.out⟩
  · have HLB := Lib.hid hL; clear hL
    go_wp2_with fail
    refine (validP_n kind l _ rfl HG.out A c _ (K2.out.rd H.out) hls).mono ?_
    rintro e w3 ⟨rfl, hb⟩
    have K3 := Lib.hid (K2.out.below hb); clear hb
    obtain ⟨E, hE⟩ : ∃ E, (bytesS kind l).2 = E := ⟨_, rfl⟩
    rw [hE]
    have HE := Lib.hid hE; clear hE
    by_cases hE0 : E = 0
    · have hOK : (bytesS kind l).2 = 0 := HE.out.trans hE0
      have HOK := Lib.hid hOK; clear hOK
      subst hE0
      have hlen := ((bytesS_ok kind l).1 HOK.out).1
      go_wp2_with fail
      refine (pick_any cut ((l.length : Int) + 1) _ (by omega)).mono ?_
      rintro e w4 ⟨rfl, rfl⟩
      obtain ⟨k, hk, hkl⟩ := pick_nat cut (l.length + 1) (by omega)
      rw [show ((l.length : Int) + 1) = ((l.length + 1 : Nat) : Int) by omega, hk]
      clear hk
      have b1 : (0 : Int) ≤ (k : Int) := by omega
      have b2 : (k : Int) ≤ (l.length : Int) := by omega
      have b3 : (k : Int) ≤ (c : Int) := by have := HC.out; omega
      have s1 := fun W => run_to (P := Try.prog) Try.underlying40 size_prop A l.length c k (by have := HC.out; omega) W
      have s2 := fun W => run_from (P := Try.prog) Try.underlying40 size_prop A l.length c k (by omega) W
      have S1 := Lib.hid s1; have S2 := Lib.hid s2
      clear s1 s2
      go_wp2_with fail
      refine (bytesP_n kind l _ rfl HG.out A c _ (K3.out.rd H.out) hls).mono ?_
      rintro e w5 ⟨rfl, hb⟩
      have K5 := Lib.hid (K3.out.below hb); clear hb
      have s1 := S1.out
      go_wp2_with fail
      refine (ownP_n (l.take k) k (by rw [List.length_take]; omega) A c _ (by rw [← prs_take]; exact (K5.out.rd H.out).cut_to (by omega)) (by omega)).mono ?_
      rintro e w6 ⟨v1, rfl, hown1, hb⟩
      clear s1
      have K6 := Lib.hid (K5.out.below hb); clear hb
      obtain ⟨A1, c1, rfl, _, hrd1⟩ := own_rd hown1
      have R1 := Lib.hid hrd1; clear hown1 hrd1
      go_wp2_with fail
      refine (bytesP_n kind (l.take k) k (by rw [List.length_take]; omega) (fun p hp => HG.out p (List.mem_of_mem_take hp)) A1 c1 _ R1.out (by omega)).mono ?_
      rintro e w7 ⟨rfl, hb⟩
      have K7 := Lib.hid (K6.out.below hb); clear hb
      have s2 := S2.out
      go_wp2_with fail
      refine (ownP_n (l.drop k) (l.length - k) (by rw [List.length_drop]) (cutA A c k 4) (c - k) _ (by rw [← prs_drop]; exact (K7.out.rd H.out).cut_from (by omega) HC.out) (by omega)).mono ?_
      rintro e w8 ⟨v2, rfl, hown2, hb⟩
      clear s2
      have K8 := Lib.hid (K7.out.below hb); clear hb
      obtain ⟨A2, c2, rfl, _, hrd2⟩ := own_rd hown2
      have R2 := Lib.hid hrd2; clear hown2 hrd2
      go_wp2_with fail
      refine (bytesP_n kind (l.drop k) (l.length - k) (by rw [List.length_drop]) (fun p hp => HG.out p (List.mem_of_mem_drop hp)) A2 c2 _ R2.out (by omega)).mono ?_
      rintro e w9 ⟨rfl, hb⟩
      have K9 := Lib.hid (K8.out.below hb); clear hb
      rw [HOK.out]
      -- what is known of the halves
      have hok := ((bytesS_ok kind l).1 HOK.out).2
      have hcut : l.take k ++ l.drop k = l := List.take_append_drop k l
      rw [← hcut] at hok
      obtain ⟨p1, p2⟩ := okL_part hok
      obtain ⟨q1, q2⟩ := ckL_append.1 hok.1
      have n1 := bytesS_nine kind (l.take k) (by rw [List.length_take]; omega) q1
      have n2 := bytesS_nine kind (l.drop k) (by rw [List.length_drop]; omega) q2
      have hdata : ((bytesS kind (l.take k)).2 ≠ 0 ∨ (bytesS kind (l.drop k)).2 ≠ 0) → (getP l 22).isSome = true := by
        intro hne
        apply getP_some
        rcases hne with hne | hne
        · rcases p1 with p1 | ⟨p, hp, he⟩
          · exact absurd ((bytesS_ok kind _).2 ⟨by rw [List.length_take]; omega, p1⟩) hne
          · exact ⟨p, List.mem_of_mem_take hp, he⟩
        · rcases p2 with p2 | ⟨p, hp, he⟩
          · exact absurd ((bytesS_ok kind _).2 ⟨by rw [List.length_drop]; omega, p2⟩) hne
          · exact ⟨p, List.mem_of_mem_drop hp, he⟩
      have HD := Lib.hid hdata
      clear hdata hok p1 p2 q1 q2 S1 S2
      have HCUT := Lib.hid hcut; clear hcut
      obtain ⟨F, hF⟩ : ∃ F, (bytesS kind (l.take k)).2 = F := ⟨_, rfl⟩
      obtain ⟨G, hG⟩ : ∃ G, (bytesS kind (l.drop k)).2 = G := ⟨_, rfl⟩
      rw [hF] at n1 HD ⊢
      rw [hG] at n2 HD ⊢
      have HF := Lib.hid hF; have HGG := Lib.hid hG; clear hF hG
      rcases n1 with rfl | rfl
      · rcases n2 with rfl | rfl
        · have z0 := (bytesS_size kind l HOK.out).2
          have z1 := (bytesS_size kind (l.take k) HF.out).2
          have z2 := (bytesS_size kind (l.drop k) HGG.out).2
          go_wp2_with fail
          refine (behind_any _ _ (by rw [mk_size]; omega)).mono ?_
          rintro e w10 ⟨rfl, rfl⟩
          rw [behind_bytes kind l HOK.out]
          go_wp2_with fail
          refine (behind_any _ _ (by rw [mk_size]; omega)).mono ?_
          rintro e w10 ⟨rfl, rfl⟩
          rw [behind_bytes kind (l.take k) HF.out]
          go_wp2_with fail
          refine (behind_any _ _ (by rw [mk_size]; omega)).mono ?_
          rintro e w10 ⟨rfl, rfl⟩
          rw [behind_bytes kind (l.drop k) HGG.out]
          have hX : (⟨(l.flatMap propL).toArray⟩ : ByteArray) = ⟨((l.take k).flatMap propL).toArray⟩ ++ ⟨((l.drop k).flatMap propL).toArray⟩ := by
            rw [← mk_cat, ← List.flatMap_append, HCUT.out]
          have y1 := (bytesS_size kind (l.take k) HF.out).1
          have y2 := (bytesS_size kind (l.drop k) HGG.out).1
          rw [hX]
          have Y1 : (⟨((l.take k).flatMap propL).toArray⟩ : ByteArray).size ≤ 131075000 := by rw [mk_size]; exact y1
          have Y2 : (⟨((l.drop k).flatMap propL).toArray⟩ : ByteArray).size ≤ 131075000 := by rw [mk_size]; exact y2
          clear hX y1 y2 z0 z1 z2
          generalize (⟨((l.take k).flatMap propL).toArray⟩ : ByteArray) = X at *
          generalize (⟨((l.drop k).flatMap propL).toArray⟩ : ByteArray) = Y at *
          have hsum : ¬ (9223372036854775807 < X.size + Y.size) := by omega
          go_wp2
          go_ret
          exact ⟨by simp, K9.out⟩
        · go_wp2_with fail
          refine (getP_any 22 l A c _ (K9.out.rd H.out) hls).mono ?_
          rintro e w10 ⟨rfl, hb⟩
          have K10 := Lib.hid (K9.out.below hb); clear hb
          simp only [Pr.val]
          rw [HD.out (.inr (by decide))]
          go_wp2
          go_ret
          exact ⟨rfl, (K10.out.alloc _).to⟩
      · rcases n2 with rfl | rfl
        · go_wp2_with fail
          refine (getP_any 22 l A c _ (K9.out.rd H.out) hls).mono ?_
          rintro e w10 ⟨rfl, hb⟩
          have K10 := Lib.hid (K9.out.below hb); clear hb
          simp only [Pr.val]
          rw [HD.out (.inl (by decide))]
          go_wp2
          go_ret
          exact ⟨rfl, (K10.out.alloc _).to⟩
        · go_wp2_with fail
          refine (getP_any 22 l A c _ (K9.out.rd H.out) hls).mono ?_
          rintro e w10 ⟨rfl, hb⟩
          have K10 := Lib.hid (K9.out.below hb); clear hb
          simp only [Pr.val]
          rw [HD.out (.inl (by decide))]
          go_wp2
          go_ret
          exact ⟨rfl, (K10.out.alloc _).to⟩
    · have e1 : (E != 0) = true := bne_iff_ne.2 hE0
      have HX := Lib.hid hE0; clear hE0
      go_wp2
      go_ret
      exact ⟨rfl, K3.out⟩
end Go.Proofs.Ytcokgfmlkanoiaa
