/- The law PropCalls: the walk. -/
import Derived.Test.YtpcaffimahapjaaGreatRfL
import Derived.Test.YtpcaffimahapjaaGreatLex
import Derived.Test.YtpcaffimahapjaaGreatMPk
namespace Go.Proofs.YtpcaffimahapjaaGreat
open Go.RowKit
set_option maxHeartbeats 1000000 in
set_option maxRecDepth 10000 in
theorem refSameP_any (A A' : Option Addr) (n m c c' : Nat) (l l' : List Pr) (w : World) (e1 : l.length = n) (e2 : l'.length = m) (hl : Rd w w.heap.size 4 A n (prs l)) (hm : Rd w w.heap.size 4 A' m (prs l')) (hn : n ≤ 4611686018427387904) (hn' : m ≤ 4611686018427387904) :
    Calls Tryz.prog 34 #[.slice A n c, .slice A' m c'] w fun e w' => e = .returned (.bool (decide (l = l'))) ∧ Below w.heap.size w w' := by
  have hgt := guard_prop
  by_cases hlen : n = m
  · subst hlen
    have E1 := Lib.hid e1; have E2 := Lib.hid e2; clear e1 e2
    have HL := Lib.hid hl; have HM := Lib.hid hm; clear hl hm
    go_enter Tryz.func34, Tryz.ntmps34
    go_wp2
    go_loopw [5] (fun i wr => ∃ k : Nat, k ≤ n ∧ i = .int .i64 k ∧ (∀ j, j < k → l[j]? = l'[j]?) ∧ Below w.heap.size w wr) (fun i _ => n - (intOf i).toNat)
    case atStart => exact ⟨0, by omega, rfl, fun j hj => by omega, Below.refl _ _⟩
    case round =>
      obtain ⟨k, hk, rfl, hall, hbel⟩ := hrel
      have HA := Lib.hid hall; clear hall
      by_cases hlt : k < n
      · obtain ⟨bA, oA, rfl, hb, c0, c1, c2, c3⟩ := (show Rd w w.heap.size 4 A l.length (prs l) by rw [E1.out]; exact HL.out).below hbel |>.atP (show k < l.length by rw [E1.out]; exact hlt)
        obtain ⟨bA', oA', rfl, hb', d0, d1, d2, d3⟩ := (show Rd w w.heap.size 4 A' l'.length (prs l') by rw [E2.out]; exact HM.out).below hbel |>.atP (show k < l'.length by rw [E2.out]; exact hlt)
        have HZ : Hid (l[k]? = some (l[k]'(by rw [E1.out]; exact hlt))) := Lib.hid (List.getElem?_eq_getElem _)
        have HZ' : Hid (l'[k]? = some (l'[k]'(by rw [E2.out]; exact hlt))) := Lib.hid (List.getElem?_eq_getElem _)
        generalize l[k]'(by rw [E1.out]; exact hlt) = p at *
        generalize l'[k]'(by rw [E2.out]; exact hlt) = q at *
        have b1 : (0 : Int) ≤ (k : Int) := by omega
        have b2 : (k : Int) < (n : Int) := by omega
        have hne := fun W => neq_prop p q W
        by_cases he : p = q
        · subst he
          have hd : decide (p = p) = true := by simp
          rw [hd] at hne
          clear hd
          go_wp2
          go_quiet (fail)
          go_wp2
          go_roundw
          case rel =>
            refine ⟨k + 1, by omega, by go_num, fun j hj => ?_, below_drawn hbel _⟩
            rcases Nat.lt_succ_iff_lt_or_eq.1 hj with h | rfl
            · exact HA.out j h
            · rw [HZ.out, HZ'.out]
          case measure => simp [intOf]; omega
        · have hd : decide (p = q) = false := decide_eq_false he
          rw [hd] at hne
          have HE := Lib.hid he; clear he hd
          go_wp2
          go_quiet (fail)
          go_wp2
          go_ret
          refine ⟨?_, below_drawn hbel _⟩
          have : l ≠ l' := by
            rintro rfl
            have := HZ.out.symm.trans HZ'.out
            exact HE.out (by simpa using this)
          simp [this]
      · go_wp2
        go_ret
        refine ⟨?_, hbel⟩
        have : l = l' := by
          apply List.ext_getElem?
          intro j
          by_cases hj : j < k
          · exact HA.out j hj
          · rw [List.getElem?_eq_none (by have := E1.out; omega), List.getElem?_eq_none (by have := E2.out; omega)]
        simp [this]
  · have h1 : ((n : Int) != (m : Int)) = true := by simpa using (by omega : ¬ (n : Int) = (m : Int))
    have HN := Lib.hid hlen; have E1 := Lib.hid e1; have E2 := Lib.hid e2; clear hlen e1 e2 hl hm
    go_enter Tryz.func34, Tryz.ntmps34
    go_wp2
    go_ret
    refine ⟨?_, Below.refl _ _⟩
    have : l ≠ l' := by
      rintro rfl
      exact HN.out (E1.out.symm.trans E2.out)
    simp [this]


theorem Rd.grow {w : World} {k n : Nat} {A : Option Addr} {xs : List Value} (h : Rd w w.heap.size k A n xs) (o : Obj) : Rd (w.alloc o) (w.alloc o).heap.size k A n xs := (h.alloc (Nat.le_refl _) o).wider (by simp)
set_option maxHeartbeats 8000000 in
set_option maxRecDepth 100000 in
theorem propCalls_any (kind id : Int) (p : Pr) (l : List Pr) (A : Option Addr) (c : Nat) (s : ByteArray) (w : World) (hp : prGood p) (h : Rd w w.heap.size 4 A l.length (prs l)) (hg : ∀ q ∈ l, prGood q) (hl : l.length ≤ 2932031007317) (hc : l.length ≤ c) (hs : s.size ≤ 140737488351232) :
    Calls Tryz.prog 3 #[.int .i64 kind, .int .i64 id, p.val, .slice A l.length c, .string s] w fun e w' => e = .returned (.bool true) ∧ Below w.heap.size w w' := by
  have H := Lib.hid h; have HG := Lib.hid hg; have HL := Lib.hid hl; have HS := Lib.hid hs; have HP := Lib.hid hp; have HC := Lib.hid hc
  clear h hg hl hs hp hc
  unfold Pr.val
  have X0 := Lib.hid (Bk.fresh w 24 #[.int .i64 p.id, .int .u32 p.n, .string p.text, .string p.value])
  have B0 := Lib.hid ((Below.refl w.heap.size w).alloc (Nat.le_refl _) (.cells #[.int .i64 p.id, .int .u32 p.n, .string p.text, .string p.value] 24))
  go_enter Tryz.func3, Tryz.ntmps3
  go_wp2_with fail
  refine (lives5_any _).mono ?_
  rintro e w1 ⟨rfl, hb⟩
  have X1 := Lib.hid (X0.out.below hb X0.out.lt); have B1 := Lib.hid (B0.out.trans (hb.mono B0.out.size)); clear hb
  go_wp2_with fail
  refine (lightP_any l A c _ ((H.out.below B1.out).wider B1.out.size) (by have := HL.out; omega) (small_of_good HG.out)).mono ?_
  rintro e w2 ⟨rfl, hb⟩
  have X2 := Lib.hid (X1.out.below hb X1.out.lt); have B2 := Lib.hid (B1.out.trans (hb.mono B1.out.size)); clear hb
  obtain ⟨⟨c0, c1, c2, c3⟩, f0, f1, f2, f3⟩ := X2.out.four
  cases hL : lightB l
  · clear hL
    go_wp2
    go_ret
    exact ⟨rfl, B2.out⟩
  have HLN : Hid (l.length ≤ 1010) := Lib.hid (by
    unfold lightB at hL
    simp only [Bool.and_eq_true, decide_eq_true_eq] at hL
    exact hL.1)
  clear hL
  have B3 := Lib.hid (B2.out.alloc B2.out.size (.cells #[.int .i64 p.id, .int .u32 p.n, .string p.text, .string p.value] 24))
  have X3 := Lib.hid (X2.out.alloc (.cells #[.int .i64 p.id, .int .u32 p.n, .string p.text, .string p.value] 24))
  have R3 := Lib.hid (Rd.one4 w2 p)
  rw [← heap_alloc_sz w2 (.cells #[.int .i64 p.id, .int .u32 p.n, .string p.text, .string p.value] 24)] at R3
  go_wp2_with fail
  refine (lightP_any [p] (some ⟨w2.heap.size, 0, none⟩) 1 _ R3.out (by simp) (small_of_good (fun q hq => by rw [List.mem_singleton.1 hq]; exact HP.out))).mono ?_
  rintro e w4 ⟨rfl, hb⟩
  have X4 := Lib.hid (X3.out.below hb X3.out.lt); have B4 := Lib.hid (B3.out.trans (hb.mono B3.out.size)); clear hb c0 c1 c2 c3 f0 f1 f2 f3
  cases hL : lightB [p]
  · clear hL
    go_wp2
    go_ret
    exact ⟨rfl, B4.out⟩
  clear hL
  by_cases hs1 : 2000 < s.size
  · have d2 : decide ((2000 : Int) < (s.size : Int)) = true := decide_eq_true (by omega)
    clear hs1
    go_wp2
    go_ret
    exact ⟨rfl, B4.out⟩
  have d2 : decide ((2000 : Int) < (s.size : Int)) = false := decide_eq_false (by omega)
  clear hs1
  go_wp2_with fail
  refine (ownP_n l _ rfl A c _ ((H.out.below B4.out).wider B4.out.size) (by have := HLN.out; omega)).mono ?_
  rintro e w5 ⟨v5, rfl, hown, hb⟩
  obtain ⟨A5, k5, rfl, hk5, hr5⟩ := own_rd hown
  have R5 := Lib.hid hr5
  have X5 := Lib.hid (X4.out.below hb X4.out.lt); have B5 := Lib.hid (B4.out.trans (hb.mono B4.out.size)); clear hb hown hr5 hk5
  go_wp2_with fail
  refine (bytesP_n kind l _ rfl HG.out A5 k5 _ R5.out (by have := HLN.out; omega)).mono ?_
  rintro e w6 ⟨rfl, hb⟩
  have X6 := Lib.hid (X5.out.below hb X5.out.lt); have B6 := Lib.hid (B5.out.trans (hb.mono B5.out.size)); clear hb R5
  go_wp2_with fail
  refine (refBytesP_any kind l _ rfl HG.out A c _ ((H.out.below B6.out).wider B6.out.size) (by have := HLN.out; omega) HC.out).mono ?_
  rintro e w7 ⟨rfl, hb⟩
  have X7 := Lib.hid (X6.out.below hb X6.out.lt); have B7 := Lib.hid (B6.out.trans (hb.mono B6.out.size)); clear hb
  obtain ⟨Z, hZ⟩ : ∃ Z : ByteArray, ⟨(bytesS kind l).1.toArray⟩ = Z := ⟨_, rfl⟩
  obtain ⟨E, hE⟩ : ∃ E, (bytesS kind l).2 = E := ⟨_, rfl⟩
  rw [hZ, hE]
  have HE := Lib.hid hE
  clear hZ hE
  go_wp2_with fail
  refine (readP_any kind s _ HS.out).mono ?_
  rintro e w8 ⟨A8, k8, rfl, hk8, hr8, hb⟩
  have K8 := Lib.hid hk8; have R8 := Lib.hid hr8
  have X8 := Lib.hid (X7.out.below hb X7.out.lt); have B8 := Lib.hid (B7.out.trans (hb.mono B7.out.size)); clear hb hk8 hr8
  go_wp2_with fail
  refine (refReadP_any kind s _ HS.out).mono ?_
  rintro e w9 ⟨A9, k9, rfl, hk9, hr9, hb⟩
  have R9 := Lib.hid hr9
  have R8b := Lib.hid ((R8.out.below hb).wider hb.size)
  have X9 := Lib.hid (X8.out.below hb X8.out.lt); have B9 := Lib.hid (B8.out.trans (hb.mono B8.out.size)); clear hb hk9 hr9
  have HLR : Hid ((readP kind s).1.length ≤ 1000) := Lib.hid (by
    by_cases h0 : (readP kind s).2.2 = 0
    · exact readP_len h0
    · rw [readP_bad h0]; exact Nat.zero_le _)
  clear R8 K8
  generalize hRR : readP kind s = RR at *
  obtain ⟨q, n9, E9⟩ := RR
  clear hRR
  simp only at R9 R8b HLR ⊢
  go_wp2_with fail
  refine (getP_any id l A c _ ((H.out.below B9.out).wider B9.out.size) (by have := HLN.out; omega)).mono ?_
  rintro e w10 ⟨rfl, hb⟩
  obtain ⟨g, hg1⟩ : ∃ g, getR l id = g := ⟨_, rfl⟩
  obtain ⟨gb, hg2⟩ : ∃ gb, (getP l id).isSome = gb := ⟨_, rfl⟩
  rw [hg1, hg2]
  have HG1 := Lib.hid hg1; have HG2 := Lib.hid hg2; clear hg1 hg2
  unfold Pr.val
  have M10 := Lib.hid (Bk.fresh w10 24 #[.int .i64 g.id, .int .u32 g.n, .string g.text, .string g.value])
  have X10 := Lib.hid ((X9.out.below hb X9.out.lt).alloc (.cells #[.int .i64 g.id, .int .u32 g.n, .string g.text, .string g.value] 24))
  have B10 := Lib.hid ((B9.out.trans (hb.mono B9.out.size)).alloc (B9.out.trans (hb.mono B9.out.size)).size (.cells #[.int .i64 g.id, .int .u32 g.n, .string g.text, .string g.value] 24))
  have R8c := Lib.hid (Rd.grow ((R8b.out.below hb).wider hb.size) (.cells #[.int .i64 g.id, .int .u32 g.n, .string g.text, .string g.value] 24))
  have R9c := Lib.hid (Rd.grow ((R9.out.below hb).wider hb.size) (.cells #[.int .i64 g.id, .int .u32 g.n, .string g.text, .string g.value] 24))
  clear hb R8b R9
  go_wp2_with fail
  refine (refGetP_any id l A c _ ((H.out.below B10.out).wider B10.out.size) (by have := HLN.out; omega)).mono ?_
  rintro e w11 ⟨rfl, hb⟩
  rw [HG1.out, HG2.out]
  unfold Pr.val
  have N11 := Lib.hid (Bk.fresh w11 24 #[.int .i64 g.id, .int .u32 g.n, .string g.text, .string g.value])
  have M11 := Lib.hid ((M10.out.below hb M10.out.lt).alloc (.cells #[.int .i64 g.id, .int .u32 g.n, .string g.text, .string g.value] 24))
  have X11 := Lib.hid ((X10.out.below hb X10.out.lt).alloc (.cells #[.int .i64 g.id, .int .u32 g.n, .string g.text, .string g.value] 24))
  have B11 := Lib.hid ((B10.out.trans (hb.mono B10.out.size)).alloc (B10.out.trans (hb.mono B10.out.size)).size (.cells #[.int .i64 g.id, .int .u32 g.n, .string g.text, .string g.value] 24))
  have R8d := Lib.hid (Rd.grow ((R8c.out.below hb).wider hb.size) (.cells #[.int .i64 g.id, .int .u32 g.n, .string g.text, .string g.value] 24))
  have R9d := Lib.hid (Rd.grow ((R9c.out.below hb).wider hb.size) (.cells #[.int .i64 g.id, .int .u32 g.n, .string g.text, .string g.value] 24))
  clear hb R8c R9c M10 X10 B10
  go_wp2_with fail
  obtain ⟨W, hW⟩ : ∃ W, w11.alloc (.cells #[.int .i64 g.id, .int .u32 g.n, .string g.text, .string g.value] 24) = W := ⟨_, rfl⟩
  rw [hW] at N11 M11 X11 B11 R8d R9d ⊢
  clear hW
  have q0 := regrown (W := W) (fun x _ => shape_any id x)
  have q1 := regrown (W := W) (fun x _ => refShape_any id x)
  have q2 := regrown (W := W) (fun x _ => mayP_any kind id x)
  have q3 := regrown (W := W) (fun x _ => refMayP_any kind id x)
  have q4 := regrown (W := W) (fun x _ => manyP_any kind id x)
  have q5 := regrown (W := W) (fun x _ => refManyP_any kind id x)
  have q6 := regrown (W := W) (fun x _ => checkP_any kind p (prGood_ok HP.out) x)
  have q7 := regrown (W := W) (fun x _ => refCheckP_any kind p (prGood_ok HP.out) x)
  have q8 := regrown (W := W) (fun x hx => validP_n kind l _ rfl HG.out A c x (((H.out.below B11.out).wider B11.out.size).below hx |>.wider hx.size) (by have := HLN.out; omega))
  have q9 := regrown (W := W) (fun x hx => refValidP_any kind l _ rfl HG.out A c x (((H.out.below B11.out).wider B11.out.size).below hx |>.wider hx.size) (by have := HLN.out; omega) HC.out)
  have q10 := regrown (W := W) (fun x hx => sameKit_any A8 A9 q.length q.length k8 k9 q q x rfl rfl ((R8d.out.below hx).wider hx.size) ((R9d.out.below hx).wider hx.size) (by have := HLR.out; omega) (by have := HLR.out; omega))
  have q11 := regrown (W := W) (fun x hx => sameProp_any A A8 l.length q.length c k8 l q x rfl rfl (((H.out.below B11.out).wider B11.out.size).below hx |>.wider hx.size) ((R8d.out.below hx).wider hx.size) (by have := HLN.out; omega) (by have := HLR.out; omega))
  have q12 := regrown (W := W) (fun x hx => refSameP_any A A8 l.length q.length c k8 l q x rfl rfl (((H.out.below B11.out).wider B11.out.size).below hx |>.wider hx.size) ((R8d.out.below hx).wider hx.size) (by have := HLN.out; omega) (by have := HLR.out; omega))
  have q13 := regrown (W := W) (fun x hx => sameProp_any A8 A9 q.length q.length k8 k9 q q x rfl rfl ((R8d.out.below hx).wider hx.size) ((R9d.out.below hx).wider hx.size) (by have := HLR.out; omega) (by have := HLR.out; omega))
  rw [decide_eq_true rfl] at q10 q13
  rw [HE.out] at q8 q9
  generalize decide (l = q) = lq at q11 q12
  generalize checkE (ruleOf p.id) kind p = ce at q6 q7
  generalize shapeOf id = sh at q0 q1
  generalize mayP kind id = ma at q2 q3
  generalize manyP kind id = mn at q4 q5
  unfold Pr.val at q6 q7
  have eqp := fun V => eql_prop g g V
  rw [decide_eq_true rfl] at eqp
  obtain ⟨⟨x0, x1, x2, x3⟩, -⟩ := X11.out.four
  obtain ⟨⟨m0, m1, m2, m3⟩, -⟩ := M11.out.four
  obtain ⟨⟨n0, n1, n2, n3⟩, -⟩ := N11.out.four
  have x0' := cell_regrown x0; have x1' := cell_regrown x1; have x2' := cell_regrown x2; have x3' := cell_regrown x3
  have m0' := cell_regrown m0; have m1' := cell_regrown m1; have m2' := cell_regrown m2; have m3' := cell_regrown m3
  have n0' := cell_regrown n0; have n1' := cell_regrown n1; have n2' := cell_regrown n2; have n3' := cell_regrown n3
  have HBQ := Lib.hid (fun d os => B11.out.trans ((below_regrown W d os).mono B11.out.size))
  clear x0 x1 x2 x3 m0 m1 m2 m3 n0 n1 n2 n3
  as_aux_lemma =>
    simp only [List.append]
    refine wp_region_quiet_below (by as_aux_lemma => kernel_rfl) (lexB_fast (by as_aux_lemma => kernel_rfl)) ?_
    repeat (go_big_quiet_step (first | with_reducible exact q0 _ _ | with_reducible exact q1 _ _ | with_reducible exact q2 _ _ | with_reducible exact q3 _ _ | with_reducible exact q4 _ _ | with_reducible exact q5 _ _ | with_reducible exact q6 _ _ | with_reducible exact q7 _ _ | with_reducible exact q8 _ _ | with_reducible exact q9 _ _ | with_reducible exact q10 _ _ | with_reducible exact q11 _ _ | with_reducible exact q12 _ _ | with_reducible exact q13 _ _))
    refine wpQuiet_nil ?_
    intro _ hw'
    obtain ⟨⟨dq, osq⟩, hw''⟩ := hw'
    subst hw''
    have KF := Lib.hid (HBQ.out dq osq)
    clear q0 q1 q2 q3 q4 q5 q6 q7 q8 q9 q10 q11 q12 q13 x0' x1' x2' x3' m0' m1' m2' m3' n0' n1' n2' n3' HBQ
    generalize Sort.grow (redrawn _ dq) osq = wq at *
    go_wp2
    go_ret
    exact ⟨rfl, KF.out⟩
end Go.Proofs.YtpcaffimahapjaaGreat
