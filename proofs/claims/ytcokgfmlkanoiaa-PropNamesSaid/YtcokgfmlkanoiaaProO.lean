/- The law PropBack. -/
import Derived.Test.YtcokgfmlkanoiaaLisG
import Derived.Test.YtcokgfmlkanoiaaSamP
namespace Go.Proofs.Ytcokgfmlkanoiaa
open Go.RowKit

theorem listGo_good (kind : Int) (t : ByteArray) (ht : t.size ≤ 140737488351232) : ∀ (m a : Nat) (f : Nat → Nat) (out : List Pr), (∀ p ∈ out, prGood p) → ∀ p ∈ (listGo kind t m a f out).1, prGood p
  | 0, a, f, out, _ => by simp [listGo]
  | m + 1, a, f, out, ho => by
    rw [listGo]
    split
    · split
      · simp
      · exact ho
    · split
      · simp
      · split
        · simp
        · split
          · simp
          · split
            · simp
            · split
              · simp
              · apply listGo_good kind t ht
                intro p hp
                rcases List.mem_append.1 hp with hp | hp
                · exact ho p hp
                · rw [List.mem_singleton.1 hp]
                  exact valS_ok ht _
theorem readP_good {kind : Int} {s : ByteArray} (hs : s.size ≤ 140737488351232) : ∀ p ∈ (readP kind s).1, prGood p := by
  have h : ∀ x : ByteArray, x.size ≤ 140737488351232 → ∀ p ∈ (listS kind x).1, prGood p := fun x hx => listGo_good kind x hx _ _ _ _ (by simp)
  unfold readP
  split
  · simp
  · split
    · simp
    · split
      · simp
      · exact h _ (by rw [ByteArray.size_extract]; omega)
theorem readP_bad {kind : Int} {s : ByteArray} (h : (readP kind s).2.2 ≠ 0) : readP kind s = ([], 0, (readP kind s).2.2) := by
  unfold readP at h ⊢
  split
  · rfl
  · split
    · rfl
    · split
      · rfl
      · rename_i h1 h2 h3
        rw [if_neg h1, if_neg h2, if_neg h3] at h
        exact absurd rfl h
theorem readP_len {kind : Int} {s : ByteArray} (h : (readP kind s).2.2 = 0) : (readP kind s).1.length ≤ 1000 := by
  have hb := (readP_back (kind := kind) (s := s) (l := (readP kind s).1) (n := (readP kind s).2.1) (by rw [← h])).1
  exact ((bytesS_ok kind _).1 hb).1
theorem ls_app (a b : ByteArray) : ls (a ++ b) = ls a ++ ls b := by unfold ls; rw [ByteArray.data_append]; simp

set_option maxHeartbeats 4000000 in
set_option maxRecDepth 10000 in
theorem propBack_any (kind : Int) (l : List Pr) (A : Option Addr) (c : Nat) (z s : ByteArray) (w : World) (h : Rd w w.heap.size 4 A l.length (prs l)) (hg : ∀ p ∈ l, prGood p) (hl : l.length ≤ 2932031007317) (hz : z.size ≤ 140737488351232) (hs : s.size ≤ 140737488351232) :
    Calls Try.prog 11 #[.int .i64 kind, .slice A l.length c, .string z, .string s] w fun e w' => e = .returned (.bool true) ∧ Below w.heap.size w w' := by
  have H := Lib.hid h; have HG := Lib.hid hg; have HL := Lib.hid hl
  have hls : l.length ≤ 4611686018427387904 := by omega
  clear h hg
  go_enter Try.func11, Try.ntmps11
  go_wp2_with fail
  refine (lives5_any _).mono ?_
  rintro e w1 ⟨rfl, hb⟩
  have K1 := Lib.hid (show Kept w w1 from hb); clear hb
  go_wp2_with fail
  refine (lightP_any l A c _ (K1.out.rd H.out) hls (small_of_good HG.out)).mono ?_
  rintro e w2 ⟨rfl, hb⟩
  have K2 := Lib.hid (K1.out.below hb); clear hb
  cases hL : lightB l
  · go_wp2
    go_ret
    exact ⟨rfl, K2.out⟩
  · have HLB := Lib.hid hL; clear hL
    by_cases hz1 : 100 < z.size
    · have d1 : (100 : Int) < (z.size : Int) := by omega
      clear hz1
      go_wp2
      go_ret
      exact ⟨rfl, K2.out⟩
    · have d1 : (z.size : Int) ≤ 100 := by omega
      clear hz1
      by_cases hs1 : 2000 < s.size
      · have d2 : (2000 : Int) < (s.size : Int) := by omega
        clear hs1
        go_wp2
        go_ret
        exact ⟨rfl, K2.out⟩
      · have d2 : (s.size : Int) ≤ 2000 := by omega
        clear hs1
        go_wp2_with fail
        refine (bytesP_n kind l _ rfl HG.out A c _ (K2.out.rd H.out) hls).mono ?_
        rintro e w3 ⟨rfl, hb⟩
        have K3 := Lib.hid (K2.out.below hb); clear hb
        go_wp2_with fail
        refine (validP_n kind l _ rfl HG.out A c _ (K3.out.rd H.out) hls).mono ?_
        rintro e w4 ⟨rfl, hb⟩
        have K4 := Lib.hid (K3.out.below hb); clear hb
        -- what the second half comes to
        have REST : ∀ x y : Prop, True := fun _ _ => trivial
        clear REST
        by_cases hE : (bytesS kind l).2 = 0
        · have HOK := Lib.hid hE
          rw [hE]
          clear hE
          have hfr := fun (x : ByteArray) (r : List UInt8) (hx : ls x = (bytesS kind l).1 ++ r) => readP_front HOK.out (fun p hp => (HG.out p hp).1) hx
          have hsz := (bytesS_size kind l HOK.out).2
          obtain ⟨X, hX⟩ : ∃ X : ByteArray, (⟨(bytesS kind l).1.toArray⟩ : ByteArray) = X := ⟨_, rfl⟩
          have hXs : X.size = (bytesS kind l).1.length := by rw [← hX, mk_size]
          have hrd : readP kind (X ++ z) = (l, X.size, 0) := by
            rw [hXs]
            exact hfr _ (ls z) (by rw [ls_app, ← hX, ls_mk])
          have HR := Lib.hid hrd
          have hX1 : X.size ≤ 131075004 := by omega
          rw [hX]
          clear hX hXs hfr hsz hrd
          have hsum : ¬ (9223372036854775807 < X.size + z.size) := by omega
          go_wp2_with fail
          refine (readP_any kind (X ++ z) _ (by rw [ByteArray.size_append]; omega)).mono ?_
          rintro e w5 ⟨A5, c5, rfl, _, hrd5, hb⟩
          rw [HR.out] at hrd5 ⊢
          have K5 := Lib.hid (K4.out.below hb); have R5 := Lib.hid hrd5; clear hb hrd5
          simp only
          go_wp2_with fail
          refine (sameKit_any A5 A l.length l.length c5 c l l _ rfl rfl R5.out (K5.out.rd H.out) hls hls).mono ?_
          rintro e w6 ⟨rfl, hb⟩
          have K6 := Lib.hid (K5.out.below hb); have R6 := Lib.hid ((R5.out.below hb).wider hb.size); clear hb
          rw [decide_eq_true rfl]
          go_wp2_with fail
          refine (sameProp_any A5 A l.length l.length c5 c l l _ rfl rfl R6.out (K6.out.rd H.out) hls hls).mono ?_
          rintro e w7 ⟨rfl, hb⟩
          have K7 := Lib.hid (K6.out.below hb); clear hb
          rw [decide_eq_true rfl]
          go_wp2_with fail
          refine (readP_any kind s _ hs).mono ?_
          rintro e w8 ⟨A8, c8, rfl, _, hrd8, hb⟩
          have K8 := Lib.hid (K7.out.below hb); have R8 := Lib.hid hrd8; clear hb hrd8
          by_cases hf : (readP kind s).2.2 = 0
          · obtain ⟨b1, b2, b3⟩ := readP_back (kind := kind) (s := s) (l := (readP kind s).1) (n := (readP kind s).2.1) (by rw [← hf])
            have hgd := readP_good (kind := kind) hs
            have hln := readP_len hf
            generalize readP kind s = R at *
            obtain ⟨m, n, x⟩ := R
            simp only at hf b1 b2 b3 hgd hln R8
            subst hf
            have HB1 := Lib.hid b1; have HGD := Lib.hid hgd
            have hXe : (⟨(bytesS kind m).1.toArray⟩ : ByteArray) = s.extract 0 n := by
              apply ls_ext
              have := extract_ls s 0 n
              rw [Nat.zero_add, List.drop_zero] at this
              rw [ls_mk, b2, this]
            have HXE := Lib.hid hXe
            clear b1 b2 hgd hXe
            have i1 : (0 : Int) ≤ (n : Int) := by omega
            have i2 : (n : Int) ≤ (s.size : Int) := by omega
            simp only
            go_wp2_with fail
            refine (bytesP_n kind m _ rfl HGD.out A8 c8 _ R8.out (by omega)).mono ?_
            rintro e w9 ⟨rfl, hb⟩
            have K9 := Lib.hid (K8.out.below hb); have R9 := Lib.hid ((R8.out.below hb).wider hb.size); clear hb
            rw [HXE.out, HB1.out]
            go_wp2_with fail
            refine (validP_n kind m _ rfl HGD.out A8 c8 _ R9.out (by omega)).mono ?_
            rintro e w10 ⟨rfl, hb⟩
            have K10 := Lib.hid (K9.out.below hb); clear hb
            rw [HB1.out]
            go_wp2
            go_ret
            exact ⟨rfl, K10.out⟩
          · have hbad := readP_bad hf
            rw [hbad]
            obtain ⟨F, hF⟩ : ∃ F, (readP kind s).2.2 = F := ⟨_, rfl⟩
            rw [hF] at hf ⊢
            have ef : (F != 0) = true := bne_iff_ne.2 hf
            have HF := Lib.hid hf
            clear hf hF hbad R8
            simp only
            go_wp2
            go_ret
            exact ⟨rfl, K8.out⟩
        · have HX := Lib.hid (bytesS_bad kind l hE)
          obtain ⟨E, hEE⟩ : ∃ E, (bytesS kind l).2 = E := ⟨_, rfl⟩
          rw [hEE] at hE ⊢
          have e0 : (E == 0) = false := beq_eq_false_iff_ne.2 hE
          rw [HX.out]
          have HE := Lib.hid hE
          clear hE hEE
          have K7 := K4
          go_wp2_with fail
          refine (readP_any kind s _ hs).mono ?_
          rintro e w8 ⟨A8, c8, rfl, _, hrd8, hb⟩
          have K8 := Lib.hid (K7.out.below hb); have R8 := Lib.hid hrd8; clear hb hrd8
          by_cases hf : (readP kind s).2.2 = 0
          · obtain ⟨b1, b2, b3⟩ := readP_back (kind := kind) (s := s) (l := (readP kind s).1) (n := (readP kind s).2.1) (by rw [← hf])
            have hgd := readP_good (kind := kind) hs
            have hln := readP_len hf
            generalize readP kind s = R at *
            obtain ⟨m, n, x⟩ := R
            simp only at hf b1 b2 b3 hgd hln R8
            subst hf
            have HB1 := Lib.hid b1; have HGD := Lib.hid hgd
            have hXe : (⟨(bytesS kind m).1.toArray⟩ : ByteArray) = s.extract 0 n := by
              apply ls_ext
              have := extract_ls s 0 n
              rw [Nat.zero_add, List.drop_zero] at this
              rw [ls_mk, b2, this]
            have HXE := Lib.hid hXe
            clear b1 b2 hgd hXe
            have i1 : (0 : Int) ≤ (n : Int) := by omega
            have i2 : (n : Int) ≤ (s.size : Int) := by omega
            simp only
            go_wp2_with fail
            refine (bytesP_n kind m _ rfl HGD.out A8 c8 _ R8.out (by omega)).mono ?_
            rintro e w9 ⟨rfl, hb⟩
            have K9 := Lib.hid (K8.out.below hb); have R9 := Lib.hid ((R8.out.below hb).wider hb.size); clear hb
            rw [HXE.out, HB1.out]
            go_wp2_with fail
            refine (validP_n kind m _ rfl HGD.out A8 c8 _ R9.out (by omega)).mono ?_
            rintro e w10 ⟨rfl, hb⟩
            have K10 := Lib.hid (K9.out.below hb); clear hb
            rw [HB1.out]
            go_wp2
            go_ret
            exact ⟨rfl, K10.out⟩
          · have hbad := readP_bad hf
            rw [hbad]
            obtain ⟨F, hF⟩ : ∃ F, (readP kind s).2.2 = F := ⟨_, rfl⟩
            rw [hF] at hf ⊢
            have ef : (F != 0) = true := bne_iff_ne.2 hf
            have HF := Lib.hid hf
            clear hf hF hbad R8
            simp only
            go_wp2
            go_ret
            exact ⟨rfl, K8.out⟩
end Go.Proofs.Ytcokgfmlkanoiaa
