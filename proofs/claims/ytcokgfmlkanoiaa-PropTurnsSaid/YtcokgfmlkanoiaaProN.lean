/- The law PropTurns. -/
import Derived.Test.YtcokgfmlkanoiaaProM
import Derived.Lib.QuietBelow
namespace Go.Proofs.Ytcokgfmlkanoiaa
open Go.RowKit
attribute [local go_sem ↓] Go.wp_at_zero Go.wp_at_succ

theorem manyP_ok (kind : Int) (p : Pr) (w : World) (h : checkE (ruleOf p.id) kind p = 0) (b : Bool) (hb : oftenP kind p.id.toNat = b) :
    Calls Try.prog 39 #[.int .i64 kind, .int .i64 p.id] w fun e w' => e = .returned (.bool b) ∧ Below w.heap.size w w' := by
  have := manyP_any kind p.id w
  rw [many_of_often h, hb] at this
  exact this

abbrev KS (w : World) (b o : Nat) (p q r t : Value) (x : World) : Prop := Kept w x ∧ x.cell? ⟨b, o, none⟩ = some p ∧ x.cell? ⟨b, o + 1, none⟩ = some q ∧ x.cell? ⟨b, o + 2, none⟩ = some r ∧ x.cell? ⟨b, o + 3, none⟩ = some t
abbrev KR (w : World) (b o : Nat) (p : Value) (A : Option Addr) (n : Nat) (xs : List Value) (x : World) : Prop := Kept w x ∧ x.cell? ⟨b, o, none⟩ = some p ∧ Rd x x.heap.size 4 A n xs
theorem mem_dt {l : List Pr} {i j : Nat} {q : Pr} (h : q ∈ l.drop i ++ l.take j) : q ∈ l := by
  rcases List.mem_append.1 h with h | h
  · exact List.mem_of_mem_drop h
  · exact List.mem_of_mem_take h
theorem mem_td {l : List Pr} {i j : Nat} {q : Pr} (h : q ∈ l.take i ++ l.drop j) : q ∈ l := by
  rcases List.mem_append.1 h with h | h
  · exact List.mem_of_mem_take h
  · exact List.mem_of_mem_drop h
theorem mem_good {l : List Pr} {p : Pr} (h : ∀ q ∈ l, prGood q) (hp : prGood p) : ∀ q ∈ l ++ [p], prGood q := by
  intro q hq
  rcases List.mem_append.1 hq with hq | hq
  · exact h q hq
  · rw [List.mem_singleton.1 hq]; exact hp
theorem rd_next {x y : World} {k n : Nat} {A : Option Addr} {xs : List Value} (h : Rd x x.heap.size k A n xs) (hb : Below x.heap.size x y) : Rd y y.heap.size k A n xs := (h.below hb).wider hb.size
theorem kept_at {w x : World} {b o k : Nat} {p : Pr} (h : ∀ x, Kept w x → x.cell? ⟨b, o + k * 4, none⟩ = some (.int .i64 p.id) ∧ x.cell? ⟨b, o + k * 4 + 1, none⟩ = some (.int .u32 p.n) ∧ x.cell? ⟨b, o + k * 4 + 2, none⟩ = some (.string p.text) ∧ x.cell? ⟨b, o + k * 4 + 3, none⟩ = some (.string p.value)) (hk : Kept w x) :
    Kept w x ∧ x.cell? ⟨b, o + k * 4, none⟩ = some (.int .i64 p.id) ∧ x.cell? ⟨b, o + k * 4 + 1, none⟩ = some (.int .u32 p.n) ∧ x.cell? ⟨b, o + k * 4 + 2, none⟩ = some (.string p.text) ∧ x.cell? ⟨b, o + k * 4 + 3, none⟩ = some (.string p.value) := ⟨hk, h x hk⟩
set_option maxHeartbeats 8000000 in
set_option maxRecDepth 10000 in
theorem propTurns_any (kind : Int) (l : List Pr) (A : Option Addr) (c : Nat) (turn : Int) (w : World) (h : Rd w w.heap.size 4 A l.length (prs l)) (hg : ∀ p ∈ l, prGood p) (hl : l.length ≤ 2932031007317) (hlc : l.length ≤ c) (hcm : c ≤ maxLen) :
    Calls Try.prog 8 #[.int .i64 kind, .slice A l.length c, .int .i64 turn] w fun e w' => e = .returned (.bool true) ∧ Below w.heap.size w w' := by
  have H := Lib.hid h; have HG := Lib.hid hg; have HL := Lib.hid hl; have HC := Lib.hid hlc; have HM := Lib.hid hcm
  have hls : l.length ≤ 4611686018427387904 := by omega
  clear h hg hlc hcm
  go_enter Try.func8, Try.ntmps8
  go_wp2_with fail
  refine (lives5_any _).mono ?_
  rintro e w1 ⟨rfl, hb⟩
  have K1 := Lib.hid (show Kept w w1 from hb); clear hb
  go_wp2_with fail
  refine (lightP_any l A c _ (K1.out.rd H.out) hls (small_of_good HG.out)).mono ?_
  rintro e w2 ⟨rfl, hb⟩
  have K2 := Lib.hid (K1.out.below hb); clear hb
  cases hL : lightB l
  · go_wp2
    go_ret
    exact ⟨rfl, K2.out⟩
  · have HLB := Lib.hid hL; clear hL
    go_wp2_with fail
    refine (validP_n kind l _ rfl HG.out A c _ (K2.out.rd H.out) hls).mono ?_
    rintro e w3 ⟨rfl, hb⟩
    have K3 := Lib.hid (K2.out.below hb); clear hb
    obtain ⟨E, hE⟩ : ∃ E, (bytesS kind l).2 = E := ⟨_, rfl⟩
    rw [hE]
    have HE := Lib.hid hE; clear hE
    by_cases hE0 : E = 0
    · have HOK := Lib.hid (HE.out.trans hE0)
      subst hE0
      by_cases h0 : l.length = 0
      · have e0 : ((l.length : Int) == 0) = true := beq_iff_eq.2 (by omega)
        clear h0
        go_wp2
        go_ret
        exact ⟨rfl, K3.out⟩
      · have e0 : ((l.length : Int) == 0) = false := beq_eq_false_iff_ne.2 (by omega)
        have hpos : 0 < l.length := by omega
        have HP := Lib.hid hpos
        clear h0
        by_cases h9 : 900 < l.length
        · have e9 : (900 : Int) < (l.length : Int) := by omega
          clear h9 hpos
          go_wp2
          go_ret
          exact ⟨rfl, K3.out⟩
        · have e9 : (l.length : Int) ≤ 900 := by omega
          have H9 := Lib.hid h9
          clear h9 hpos
          go_wp2_with fail
          refine (pick_any turn (l.length : Int) _ (by omega)).mono ?_
          rintro e w4 ⟨rfl, rfl⟩
          obtain ⟨k, hk, hkl⟩ := pick_nat turn l.length HP.out
          rw [hk]
          clear hk
          have b1 : (0 : Int) ≤ (k : Int) := by omega
          have b2 : (k : Int) ≤ (l.length : Int) := by omega
          have b3 : (k : Int) ≤ (c : Int) := by have := HC.out; omega
          have b4 : (k : Int) < (l.length : Int) := by omega
          have b5 : IntKind.i64.wrap ((k : Int) + 1) = (k : Int) + 1 := by rw [IntKind.wrap_i64]; omega
          have S1 := Lib.hid (fun W => run_to (P := Try.prog) Try.underlying40 size_prop A l.length c k (by have := HC.out; omega) W)
          have S2 := Lib.hid (fun W => run_from (P := Try.prog) Try.underlying40 size_prop A l.length c k (by omega) W)
          have S3 : Hid (∀ W, (Instr.slice 40 (.slice A l.length c) (some (.int .i64 ((k : Int) + 1))) none none).run Try.prog W = .ok (.slice (cutA A c (k + 1) 4) (l.length - (k + 1)) (c - (k + 1))) W) := Lib.hid (fun W => by
            have := run_from (P := Try.prog) Try.underlying40 size_prop A l.length c (k + 1) (by omega) W
            rwa [Int.natCast_add] at this)
          have HLEN : Hid (l.length ≤ 900) := Lib.hid (by have := H9.out; omega)
          have HK := Lib.hid hkl
          -- what is known of the lists
          have hokl := ((bytesS_ok kind l).1 HOK.out).2
          obtain ⟨p, hp⟩ : ∃ p, l[k]'hkl = p := ⟨_, rfl⟩
          have hpm : p ∈ l := hp ▸ List.getElem_mem hkl
          have HCK : Hid (checkE (ruleOf p.id) kind p = 0) := Lib.hid (hokl.1 p hpm)
          have HTU : Hid ((bytesS kind (l.drop k ++ l.take k)).2 = 0 ∧ (bytesS kind (l.drop k ++ l.take k)).1.length = (bytesS kind l).1.length) := Lib.hid (by
            have hperm : l.Perm (l.drop k ++ l.take k) := by
              have := @List.perm_append_comm _ (l.take k) (l.drop k)
              rwa [List.take_append_drop] at this
            have h1 : (bytesS kind (l.drop k ++ l.take k)).2 = 0 := (bytesS_ok kind _).2 ⟨by rw [← hperm.length_eq]; have := HLEN.out; omega, okL_perm hperm hokl⟩
            refine ⟨h1, ?_⟩
            rw [bytesS_bytes kind _ h1, bytesS_bytes kind _ HOK.out]
            simp only [List.length_append]
            rw [propL_perm hperm])
          have HLE : Hid (p.id ≠ 21 → (bytesS kind (l.take k ++ l.drop (k + 1))).2 = 0) := Lib.hid (by
            intro hne
            have hperm : l.Perm (p :: (l.take k ++ l.drop (k + 1))) := hp ▸ perm_at l k hkl
            refine (bytesS_ok kind _).2 ⟨?_, okL_less (okL_perm hperm hokl) hne⟩
            rw [List.length_append, List.length_take, List.length_drop]; have := HLEN.out; omega)
          have HMO : Hid ((oftenP kind p.id.toNat = true → (bytesS kind (l ++ [p])).2 = 0) ∧ (oftenP kind p.id.toNat = false → (bytesS kind (l ++ [p])).2 = 9)) := Lib.hid (by
            have hlen : (l ++ [p]).length ≤ 1000 := by rw [List.length_append, List.length_singleton]; have := HLEN.out; omega
            refine ⟨fun ho => (bytesS_ok kind _).2 ⟨hlen, (okL_more hokl hpm).2 ho⟩, fun ho => ?_⟩
            rcases bytesS_nine kind (l ++ [p]) hlen (ckL_append.2 ⟨hokl.1, fun q hq => by rw [List.mem_singleton.1 hq]; exact hokl.1 p hpm⟩) with h1 | h1
            · have := (okL_more hokl hpm).1 ((bytesS_ok kind _).1 h1).2
              rw [ho] at this; cases this
            · exact h1)
          have HGP := Lib.hid (HG.out p hpm)
          have HAT : Hid (∃ b o, A = some ⟨b, o, none⟩ ∧ ∀ x, Kept w x → x.cell? ⟨b, o + k * 4, none⟩ = some (.int .i64 p.id) ∧ x.cell? ⟨b, o + k * 4 + 1, none⟩ = some (.int .u32 p.n) ∧ x.cell? ⟨b, o + k * 4 + 2, none⟩ = some (.string p.text) ∧ x.cell? ⟨b, o + k * 4 + 3, none⟩ = some (.string p.value)) := Lib.hid (by
            obtain ⟨b, o, rfl, hbb, -⟩ := H.out.atP hkl
            refine ⟨b, o, rfl, fun x hx => ?_⟩
            obtain ⟨b', o', he, _, c0, c1, c2, c3⟩ := (hx.rd H.out).atP hkl
            cases he
            subst hp
            exact ⟨c0, c1, c2, c3⟩)
          obtain ⟨ab, ao, rfl, hat⟩ := HAT.out
          have HAT2 := Lib.hid hat
          obtain ⟨pid, pn, pt, pv⟩ := p
          simp only at hat
          clear hat hokl hpm hp hkl HAT HE
          -- turned
          have s1 := S1.out
          have s2 := S2.out
          go_wp2_with fail
          go_region_held3 (fun x => Kept w x) (first | exact K3.out.drew | exact Kept.below (by assumption) hbo | exact Kept.app (by assumption) hg5 hv1)
            (first | (go_at_call 37; refine (ownP_n (l.drop k) (l.length - k) (by rw [List.length_drop]) (cutA (some ⟨ab, ao, none⟩) c k 4) (c - k) _ (by rw [← prs_drop]; exact (Kept.rd (by assumption) H.out).cut_from (by omega) HC.out) (by omega)).mono ?_; rintro e w4 ⟨v1, rfl, hown1, hbo⟩; have hown1' := own_wider hown1 (show w.heap.size ≤ _ from K3.out.size); have hv1 : ∀ g, v1.ownBlock = some g → w.heap.size ≤ g := fun g hg => (own_block hown1' g hg).1)
                   | (refine step_app (by rfl) _ _ _ (by rfl) w.heap.size 35 _ 4 48 Try.underlying40 info_prop rfl (by decide) v1 _ _ (by rfl) hown1' _ (some ⟨ab, ao, none⟩) k c (prs (l.take k)) (by rfl) (by rw [← prs_take]; exact (Kept.rd (by assumption) H.out).cut_to (by omega)) (prs_one _) (by unfold maxLen; omega) (by omega) (Kept.size (by assumption)) ?_; intro v5 w5 hown5 hg5 hat5))
          have K5 : Kept w w5 := by assumption
          obtain ⟨A5, c5, rfl, _, hrd5⟩ := own_rd hown5
          have K5 := Lib.hid K5; have R5 := Lib.hid hrd5
          clear hown5 hg5 hat5 hrd5 hown1 hown1' hv1 hbo s1 s2
          -- their bytes
          go_wp2_with fail
          refine (bytesP_n kind l _ rfl HG.out (some ⟨ab, ao, none⟩) c _ (K5.out.rd H.out) hls).mono ?_
          rintro e w6 ⟨rfl, hb⟩
          have K6 := Lib.hid (K5.out.below hb); have R6 := Lib.hid ((R5.out.below hb).wider hb.size); clear hb
          go_wp2_with fail
          refine (bytesP_n kind (l.drop k ++ l.take k) _ (by rw [List.length_append, List.length_drop, List.length_take]; omega) (fun q hq => HG.out q (mem_dt hq)) A5 c5 _ (by rw [prs_append]; exact R6.out) (by omega)).mono ?_
          rintro e w7 ⟨rfl, hb⟩
          have K7 := Lib.hid (K6.out.below hb); clear hb
          rw [HOK.out, HTU.out.1]
          obtain ⟨X, hX⟩ : ∃ X : ByteArray, (⟨(bytesS kind l).1.toArray⟩ : ByteArray) = X := ⟨_, rfl⟩
          obtain ⟨Y, hY⟩ : ∃ Y : ByteArray, (⟨(bytesS kind (l.drop k ++ l.take k)).1.toArray⟩ : ByteArray) = Y := ⟨_, rfl⟩
          have hXY : ((X.size : Int) != (Y.size : Int)) = false := by
            rw [← hX, ← hY, mk_size, mk_size, HTU.out.2]
            simp
          rw [hX, hY]
          clear hX hY
          obtain ⟨c0, c1, c2, c3⟩ := HAT2.out _ K7.out
          go_wp2_with fail
          refine (checkP_any kind ⟨pid, pn, pt, pv⟩ (prGood_ok HGP.out) _).mono ?_
          rintro e w8 ⟨rfl, hb⟩
          have K8 := Lib.hid (K7.out.below hb); clear hb c0 c1 c2 c3
          rw [show checkE (ruleOf pid) kind ⟨pid, pn, pt, pv⟩ = 0 from HCK.out]
          have s1 := S1.out
          have s3 := S3.out
          go_wp2_with fail
          go_region_held3 (fun x => Kept w x) (first | exact K8.out.drew | exact Kept.below (by assumption) hbo | exact Kept.app (by assumption) hg5 hv1)
            (first | (go_at_call 37; refine (ownP_n (l.take k) k (by rw [List.length_take]; omega) (some ⟨ab, ao, none⟩) c _ (by rw [← prs_take]; exact (Kept.rd (by assumption) H.out).cut_to (by omega)) (by omega)).mono ?_; rintro e w4 ⟨v1, rfl, hown1, hbo⟩; have hown1' := own_wider hown1 (show w.heap.size ≤ _ from K8.out.size); have hv1 : ∀ g, v1.ownBlock = some g → w.heap.size ≤ g := fun g hg => (own_block hown1' g hg).1)
                   | (refine step_app (by rfl) _ _ _ (by rfl) w.heap.size 35 _ 4 48 Try.underlying40 info_prop rfl (by decide) v1 _ _ (by rfl) hown1' _ (cutA (some ⟨ab, ao, none⟩) c (k + 1) 4) (l.length - (k + 1)) (c - (k + 1)) (prs (l.drop (k + 1))) (by rfl) (by rw [← prs_drop]; exact (Kept.rd (by assumption) H.out).cut_from (by omega) HC.out) (prs_one _) (by unfold maxLen; omega) (by omega) (Kept.size (by assumption)) ?_; intro v5 w9 hown5 hg5 hat5))
          have K9 : Kept w w9 := by assumption
          obtain ⟨A9, c9, rfl, _, hrd9⟩ := own_rd hown5
          have K9 := Lib.hid K9; have R9 := Lib.hid hrd9
          clear hown5 hg5 hat5 hrd9 hown1 hown1' hv1 hbo s1 s3
          obtain ⟨c0, -⟩ := HAT2.out _ K9.out
          have hcut : ∃ w10 : World, True := ⟨w, trivial⟩
          by_cases h21 : pid = 21
          · have e21 : (pid != 21) = false := by simpa using h21
            have H21 := Lib.hid h21; clear h21 hcut
            go_wp2_with fail
            obtain ⟨c0, c1, c2, c3⟩ := HAT2.out _ K9.out
            go_region_held3 (fun x => Kept w x ∧ x.cell? ⟨ab, ao + k * 4, none⟩ = some (.int .i64 pid) ∧ x.cell? ⟨ab, ao + k * 4 + 1, none⟩ = some (.int .u32 pn) ∧ x.cell? ⟨ab, ao + k * 4 + 2, none⟩ = some (.string pt) ∧ x.cell? ⟨ab, ao + k * 4 + 3, none⟩ = some (.string pv))
              (first | exact ⟨K9.out.drew, c0, c1, c2, c3⟩ | exact kept_at (p := ⟨pid, pn, pt, pv⟩) HAT2.out (Kept.below (And.left (by assumption)) hbo) | exact kept_at (p := ⟨pid, pn, pt, pv⟩) HAT2.out (Kept.alloc (And.left (by assumption)) _) | exact kept_at (p := ⟨pid, pn, pt, pv⟩) HAT2.out (Kept.app (And.left (by assumption)) hg5 hv1))
              (first | (go_at_call 37; refine (ownP_n l _ rfl (some ⟨ab, ao, none⟩) c _ (Kept.rd (And.left (by assumption)) H.out) (by omega)).mono ?_; rintro e w4 ⟨v1, rfl, hown1, hbo⟩; have hown1' := own_wider hown1 (show w.heap.size ≤ _ from Kept.size (And.left (by assumption))); have hv1 : ∀ g, v1.ownBlock = some g → w.heap.size ≤ g := fun g hg => (own_block hown1' g hg).1)
                     | (refine step_app (by rfl) _ _ _ (by rfl) w.heap.size 35 _ 4 48 Try.underlying40 info_prop rfl (by decide) v1 _ _ (by rfl) (by first | exact hown1' | exact hown1'.alloc _) _ _ 1 1 (prs [⟨pid, pn, pt, pv⟩]) (by rfl) (by first | exact Rd.one4 _ ⟨pid, pn, pt, pv⟩ | exact ((Rd.one4 _ ⟨pid, pn, pt, pv⟩).drewN 1).below (hbo.mono (by simp))) (prs_one _) (by unfold maxLen; omega) (by omega) (Kept.size (And.left (by assumption))) ?_; intro v5 w11 hown5 hg5 hat5))
            all_goals
              have KK : KS w ab (ao + k * 4) (.int .i64 pid) (.int .u32 pn) (.string pt) (.string pv) w11 := by assumption
              have K11 := Lib.hid KK.1
              obtain ⟨A11, c11, rfl, _, hrd11⟩ := own_rd hown5
              rw [← prs_append] at hrd11
              have R11 := Lib.hid hrd11
              clear hown5 hg5 hat5 hrd11 hown1 hown1' hv1 hbo KK c0 c1 c2 c3
              obtain ⟨c0, -⟩ := HAT2.out _ K11.out
              cases ho : oftenP kind pid.toNat
              · have HO := Lib.hid ho; have HV := Lib.hid (HMO.out.2 ho); clear ho
                have cV : ∀ d os, Calls Try.prog 36 #[.int .i64 kind, .slice A11 (l.length + 1) c11] (Sort.grow (redrawn w11 d) os) fun e w'' => e = .returned (.int .i64 9) ∧ ∃ p : Regrown, w'' = Sort.grow (redrawn w11 p.d) p.os := fun d os => Calls.regrown_of (by
                  have := validP_n kind (l ++ [⟨pid, pn, pt, pv⟩]) (l.length + 1) (by rw [List.length_append]; rfl) (mem_good HG.out HGP.out) A11 c11 _ (rd_next R11.out (below_regrown w11 d os)) (by omega)
                  rwa [HV.out] at this)
                have cM : ∀ d os, Calls Try.prog 39 #[.int .i64 kind, .int .i64 pid] (Sort.grow (redrawn w11 d) os) fun e w'' => e = .returned (.bool false) ∧ ∃ p : Regrown, w'' = Sort.grow (redrawn w11 p.d) p.os := fun d os => Calls.regrown_of (manyP_ok kind ⟨pid, pn, pt, pv⟩ _ HCK.out false HO.out)
                have hk0 := cell_regrown c0
                clear c0
                go_wp2_with fail
                refine wp_region_quiet_below (by kernel_rfl) (by kernel_rfl) ?_
                repeat (go_big_quiet_step (first | exact cV _ _ | exact cM _ _))
                refine wpQuiet_nil ?_
                intro _ hw'
                obtain ⟨⟨dq, osq⟩, hw''⟩ := hw'
                subst hw''
                have KF := Lib.hid (K11.out.below (below_regrown w11 dq osq))
                clear cM cV hk0
                generalize Sort.grow (redrawn w11 dq) osq = wq at *
                go_wp2
                go_ret
                exact ⟨rfl, KF.out⟩
              · have HO := Lib.hid ho; have HV := Lib.hid (HMO.out.1 ho); clear ho
                have cV : ∀ d os, Calls Try.prog 36 #[.int .i64 kind, .slice A11 (l.length + 1) c11] (Sort.grow (redrawn w11 d) os) fun e w'' => e = .returned (.int .i64 0) ∧ ∃ p : Regrown, w'' = Sort.grow (redrawn w11 p.d) p.os := fun d os => Calls.regrown_of (by
                  have := validP_n kind (l ++ [⟨pid, pn, pt, pv⟩]) (l.length + 1) (by rw [List.length_append]; rfl) (mem_good HG.out HGP.out) A11 c11 _ (rd_next R11.out (below_regrown w11 d os)) (by omega)
                  rwa [HV.out] at this)
                have cM : ∀ d os, Calls Try.prog 39 #[.int .i64 kind, .int .i64 pid] (Sort.grow (redrawn w11 d) os) fun e w'' => e = .returned (.bool true) ∧ ∃ p : Regrown, w'' = Sort.grow (redrawn w11 p.d) p.os := fun d os => Calls.regrown_of (manyP_ok kind ⟨pid, pn, pt, pv⟩ _ HCK.out true HO.out)
                have hk0 := cell_regrown c0
                clear c0
                go_wp2_with fail
                refine wp_region_quiet_below (by kernel_rfl) (by kernel_rfl) ?_
                repeat (go_big_quiet_step (first | exact cV _ _ | exact cM _ _))
                refine wpQuiet_nil ?_
                intro _ hw'
                obtain ⟨⟨dq, osq⟩, hw''⟩ := hw'
                subst hw''
                have KF := Lib.hid (K11.out.below (below_regrown w11 dq osq))
                clear cM cV hk0
                generalize Sort.grow (redrawn w11 dq) osq = wq at *
                go_wp2
                go_ret
                exact ⟨rfl, KF.out⟩
          · have e21 : (pid != 21) = true := bne_iff_ne.2 h21
            have HLS := Lib.hid (HLE.out h21)
            have H21 := Lib.hid h21; clear h21 hcut
            go_wp2_with fail
            refine (validP_n kind (l.take k ++ l.drop (k + 1)) _ (by rw [List.length_append, List.length_drop, List.length_take]; omega) (fun q hq => HG.out q (mem_td hq)) A9 c9 _ (by rw [prs_append]; exact R9.out) (by omega)).mono ?_
            rintro e w10 ⟨rfl, hb⟩
            have K9 := Lib.hid (K9.out.below hb); clear hb
            rw [HLS.out]
            clear c0
            go_wp2_with fail
            obtain ⟨c0, c1, c2, c3⟩ := HAT2.out _ K9.out
            go_region_held3 (fun x => Kept w x ∧ x.cell? ⟨ab, ao + k * 4, none⟩ = some (.int .i64 pid) ∧ x.cell? ⟨ab, ao + k * 4 + 1, none⟩ = some (.int .u32 pn) ∧ x.cell? ⟨ab, ao + k * 4 + 2, none⟩ = some (.string pt) ∧ x.cell? ⟨ab, ao + k * 4 + 3, none⟩ = some (.string pv))
              (first | exact ⟨K9.out.drew, c0, c1, c2, c3⟩ | exact kept_at (p := ⟨pid, pn, pt, pv⟩) HAT2.out (Kept.below (And.left (by assumption)) hbo) | exact kept_at (p := ⟨pid, pn, pt, pv⟩) HAT2.out (Kept.alloc (And.left (by assumption)) _) | exact kept_at (p := ⟨pid, pn, pt, pv⟩) HAT2.out (Kept.app (And.left (by assumption)) hg5 hv1))
              (first | (go_at_call 37; refine (ownP_n l _ rfl (some ⟨ab, ao, none⟩) c _ (Kept.rd (And.left (by assumption)) H.out) (by omega)).mono ?_; rintro e w4 ⟨v1, rfl, hown1, hbo⟩; have hown1' := own_wider hown1 (show w.heap.size ≤ _ from Kept.size (And.left (by assumption))); have hv1 : ∀ g, v1.ownBlock = some g → w.heap.size ≤ g := fun g hg => (own_block hown1' g hg).1)
                     | (refine step_app (by rfl) _ _ _ (by rfl) w.heap.size 35 _ 4 48 Try.underlying40 info_prop rfl (by decide) v1 _ _ (by rfl) (by first | exact hown1' | exact hown1'.alloc _) _ _ 1 1 (prs [⟨pid, pn, pt, pv⟩]) (by rfl) (by first | exact Rd.one4 _ ⟨pid, pn, pt, pv⟩ | exact ((Rd.one4 _ ⟨pid, pn, pt, pv⟩).drewN 1).below (hbo.mono (by simp))) (prs_one _) (by unfold maxLen; omega) (by omega) (Kept.size (And.left (by assumption))) ?_; intro v5 w11 hown5 hg5 hat5))
            all_goals
              have KK : KS w ab (ao + k * 4) (.int .i64 pid) (.int .u32 pn) (.string pt) (.string pv) w11 := by assumption
              have K11 := Lib.hid KK.1
              obtain ⟨A11, c11, rfl, _, hrd11⟩ := own_rd hown5
              rw [← prs_append] at hrd11
              have R11 := Lib.hid hrd11
              clear hown5 hg5 hat5 hrd11 hown1 hown1' hv1 hbo KK c0 c1 c2 c3
              obtain ⟨c0, -⟩ := HAT2.out _ K11.out
              cases ho : oftenP kind pid.toNat
              · have HO := Lib.hid ho; have HV := Lib.hid (HMO.out.2 ho); clear ho
                have cV : ∀ d os, Calls Try.prog 36 #[.int .i64 kind, .slice A11 (l.length + 1) c11] (Sort.grow (redrawn w11 d) os) fun e w'' => e = .returned (.int .i64 9) ∧ ∃ p : Regrown, w'' = Sort.grow (redrawn w11 p.d) p.os := fun d os => Calls.regrown_of (by
                  have := validP_n kind (l ++ [⟨pid, pn, pt, pv⟩]) (l.length + 1) (by rw [List.length_append]; rfl) (mem_good HG.out HGP.out) A11 c11 _ (rd_next R11.out (below_regrown w11 d os)) (by omega)
                  rwa [HV.out] at this)
                have cM : ∀ d os, Calls Try.prog 39 #[.int .i64 kind, .int .i64 pid] (Sort.grow (redrawn w11 d) os) fun e w'' => e = .returned (.bool false) ∧ ∃ p : Regrown, w'' = Sort.grow (redrawn w11 p.d) p.os := fun d os => Calls.regrown_of (manyP_ok kind ⟨pid, pn, pt, pv⟩ _ HCK.out false HO.out)
                have hk0 := cell_regrown c0
                clear c0
                go_wp2_with fail
                refine wp_region_quiet_below (by kernel_rfl) (by kernel_rfl) ?_
                repeat (go_big_quiet_step (first | exact cV _ _ | exact cM _ _))
                refine wpQuiet_nil ?_
                intro _ hw'
                obtain ⟨⟨dq, osq⟩, hw''⟩ := hw'
                subst hw''
                have KF := Lib.hid (K11.out.below (below_regrown w11 dq osq))
                clear cM cV hk0
                generalize Sort.grow (redrawn w11 dq) osq = wq at *
                go_wp2
                go_ret
                exact ⟨rfl, KF.out⟩
              · have HO := Lib.hid ho; have HV := Lib.hid (HMO.out.1 ho); clear ho
                have cV : ∀ d os, Calls Try.prog 36 #[.int .i64 kind, .slice A11 (l.length + 1) c11] (Sort.grow (redrawn w11 d) os) fun e w'' => e = .returned (.int .i64 0) ∧ ∃ p : Regrown, w'' = Sort.grow (redrawn w11 p.d) p.os := fun d os => Calls.regrown_of (by
                  have := validP_n kind (l ++ [⟨pid, pn, pt, pv⟩]) (l.length + 1) (by rw [List.length_append]; rfl) (mem_good HG.out HGP.out) A11 c11 _ (rd_next R11.out (below_regrown w11 d os)) (by omega)
                  rwa [HV.out] at this)
                have cM : ∀ d os, Calls Try.prog 39 #[.int .i64 kind, .int .i64 pid] (Sort.grow (redrawn w11 d) os) fun e w'' => e = .returned (.bool true) ∧ ∃ p : Regrown, w'' = Sort.grow (redrawn w11 p.d) p.os := fun d os => Calls.regrown_of (manyP_ok kind ⟨pid, pn, pt, pv⟩ _ HCK.out true HO.out)
                have hk0 := cell_regrown c0
                clear c0
                go_wp2_with fail
                refine wp_region_quiet_below (by kernel_rfl) (by kernel_rfl) ?_
                repeat (go_big_quiet_step (first | exact cV _ _ | exact cM _ _))
                refine wpQuiet_nil ?_
                intro _ hw'
                obtain ⟨⟨dq, osq⟩, hw''⟩ := hw'
                subst hw''
                have KF := Lib.hid (K11.out.below (below_regrown w11 dq osq))
                clear cM cV hk0
                generalize Sort.grow (redrawn w11 dq) osq = wq at *
                go_wp2
                go_ret
                exact ⟨rfl, KF.out⟩
    · have e1 : (E != 0) = true := bne_iff_ne.2 hE0
      have HX := Lib.hid hE0; clear hE0
      go_wp2
      go_ret
      exact ⟨rfl, K3.out⟩
end Go.Proofs.Ytcokgfmlkanoiaa
