/- LimitsChunks: the law's walk. -/
import Derived.Test.YtmkkjiogokfnmaaLimB
namespace Go.Proofs.Ytmkkjiogokfnmaa
open Go.RowKit
theorem lim_step_app {P : Program} {w : World} {ops : Array Oper} {o : Oper} {a : Act} {K : Act → World → Prop} {Q : Exit → Act → World → Prop} {E : Prop} (hgd : o.guard = none) (s x : Operand) (t : TypeId)
    (ho : o.op = .call { callee := .builtin .append, args := #[s, x], argTypes := #[t, t] })
    (base : Nat) (e : TypeId) (z : Value) (size bytes : Nat) (ht : P.underlying t = some (.slice e)) (hinfo : (P.info? e).map (fun i => (i.zero, i.size, i.bytes)) = some (some z, size, bytes))
    (hzs : z.cells.size = size) (hsz : 0 < size) (v : Value) (n : Nat) (xs : List Value) (hs : a.eval s = v) (hown : w.ownsRow base e size v n xs)
    (B : Nat) (A : Option Addr) (m c : Nat) (news : List Value) (hx : a.eval x = .slice A m c) (hr : Rd w B size A m news) (h1 : ∀ u ∈ news, u.oneCell' = true)
    (h63 : n + m ≤ maxLen) (hbytes : (n + m) * bytes ≤ 140737488355328) (hbase : base ≤ w.heap.size)
    (h : ∀ v' w', w'.ownsRow base e size v' (n + m) (xs ++ news) → w.grownBy w' v.ownBlock → (v'.ownBlock = v.ownBlock ∨ v'.ownBlock = some w.heap.size) → K (a.put o.dst v') w') :
    if Region.wanted o (yielded ops a.tmps) = true then Oper.wp P o a w K Q else E := by
  have hw : Region.wanted o (yielded ops a.tmps) = true := by simp [Region.wanted, hgd]
  rw [if_pos hw]
  exact wp_app w s x t ho base e z size bytes ht hinfo hzs hsz v n xs hs hown B A m c news hx hr h1 h63 hbytes hbase h

def cntI (n : Nat) (l : List Int) (k : Nat) : Nat := ((l.take k).filter (plIn n)).length
theorem cntI_le (n : Nat) (l : List Int) (k : Nat) : cntI n l k ≤ l.length := by
  unfold cntI
  have h1 := List.length_filter_le (plIn n) (l.take k)
  rw [List.length_take] at h1
  omega
theorem cntI_all (n : Nat) (l : List Int) : cntI n l l.length = (plL n l).length := by
  unfold cntI
  rw [List.take_of_length_le (Nat.le_refl _), plL_len]
/-- Is one of the first j places this? -/
def isAt (l : List Int) (j : Nat) (z : Int) : Bool := (l.take j).any fun x => x == z
theorem isAt_step (l : List Int) {j : Nat} (h : j < l.length) (z : Int) : isAt l (j + 1) z = (isAt l j z || l[j] == z) := by
  unfold isAt
  rw [List.take_succ_eq_append_getElem h, List.any_append]
  simp
theorem isAt_all {l : List Int} {z : Int} (h : z ∈ l) : isAt l l.length z = true := by
  unfold isAt
  rw [List.take_of_length_le (Nat.le_refl _), List.any_eq_true]
  exact ⟨z, h, by simp⟩
set_option maxHeartbeats 4000000 in
set_option maxRecDepth 10000 in
theorem limitsChunks_any (s : ByteArray) (A : Option Addr) (l : List Int) (c : Nat) (t : Int) (w : World) (hr : Rd w w.heap.size 1 A l.length (iv l)) (hc : l.length ≤ c) (hl : l.length ≤ 140737488351232) (hs : s.size ≤ 140737488351232) :
    Calls Try.prog 3 #[.string s, .slice A l.length c, .int .i64 t] w fun e w' => e = .returned (.bool true) ∧ Below w.heap.size w w' := by
  have HR := Lib.hid hr; have HS := Lib.hid hs; have HC := Lib.hid hc; have HLL := Lib.hid hl
  clear hr hs hc hl
  go_enter Try.func3, Try.ntmps3
  go_wp2_with fail
  refine (lives15_any _).mono ?_
  rintro e w1 ⟨rfl, hb⟩
  have HB1 := Lib.hid hb
  have HR1 := Lib.hid ((HR.out.below hb).wider hb.size)
  clear hb HR
  by_cases h1 : 300 < s.size
  · have d1 : (300 : Int) < (s.size : Int) := by omega
    clear h1
    go_wp2
    go_ret
    exact ⟨rfl, HB1.out⟩
  have d1 : (s.size : Int) ≤ 300 := by omega
  have HS3 := Lib.hid h1
  clear h1
  by_cases h2 : 40 < l.length
  · have d2 : (40 : Int) < (l.length : Int) := by omega
    clear h2
    go_wp2
    go_ret
    exact ⟨rfl, HB1.out⟩
  have d2 : (l.length : Int) ≤ 40 := by omega
  have HL4 := Lib.hid h2
  clear h2
  go_wp2_with fail
  refine (chunks_any s A l c _ HR1.out (by have := HL4.out; omega) HS.out).mono ?_
  rintro e w2 ⟨v, rfl, hown, hb⟩
  have HR2 := Lib.hid ((HR1.out.below hb).wider hb.size)
  have HB2 := Lib.hid (HB1.out.trans (hb.mono HB1.out.size))
  obtain ⟨A7, c7, rfl, -, hr7⟩ := own_rd hown
  rw [ckL_len] at hr7 ⊢
  obtain ⟨L, hL⟩ : ∃ L, plL s.size l = L := ⟨_, rfl⟩
  obtain ⟨N, hN⟩ : ∃ N, L.length + 1 = N := ⟨_, rfl⟩
  have HOK : Hid (PlOk s.size L) := Lib.hid (by rw [← hL]; exact plL_ok _ _)
  have HMEM : Hid (∀ z ∈ L, z ∈ l) := Lib.hid (fun z hz => by rw [← hL] at hz; exact (plL_mem hz).1)
  have HCNT : Hid (cntI s.size l l.length + 1 = N) := Lib.hid (by rw [cntI_all, hL, hN])
  rw [hL, hN] at hr7
  rw [hL, hN]
  have HR7 := Lib.hid hr7
  have HN := Lib.hid hN
  have HL := Lib.hid hL
  clear hown hb hr7 hL hN HR1 HB1
  go_wp2
  go_loopw [8, 9] (fun n i wr => ∃ k : Nat, k ≤ l.length ∧ i = .int .i64 k ∧ n = .int .i64 ((cntI s.size l k + 1 : Nat) : Int) ∧ w2 = wr) (fun _ i _ => l.length - (intOf i).toNat)
  case atStart => exact ⟨0, by omega, rfl, rfl, rfl⟩
  case round =>
    obtain ⟨k, hk, rfl, rfl, rfl⟩ := hrel
    have HCL := Lib.hid (cntI_le s.size l k)
    by_cases hlt : k < l.length
    · obtain ⟨bA, oA, z, rfl, hb, hz, hc⟩ := HR2.out.atI hlt
      have hzL : l[k] = z := by rw [List.getElem?_eq_getElem hlt] at hz; exact Option.some.inj hz
      have hst := count_step s.size l hlt
      rw [hzL] at hst
      have HST : Hid (cntI s.size l (k + 1) = cntI s.size l k + (if plIn s.size z = true then 1 else 0)) := Lib.hid hst
      have HX : Hid (plIn s.size z = (decide (0 ≤ z) && decide (z ≤ (s.size : Int)))) := Lib.hid rfl
      have b1 : (0 : Int) ≤ (k : Int) := by omega
      have b2 : (k : Int) < (l.length : Int) := by omega
      obtain ⟨q, hq⟩ : ∃ q, cntI s.size l k = q := ⟨_, rfl⟩
      rw [hq] at HST HCL ⊢
      clear hz hzL hst hq
      by_cases z0 : 0 ≤ z
      rotate_left
      · have HY : Hid (cntI s.size l (k + 1) = q) := Lib.hid (by rw [HST.out, HX.out, decide_eq_false z0]; rfl)
        have e0 : decide (0 ≤ z) = false := decide_eq_false z0
        clear z0
        go_wp2
        go_roundw
        case rel => exact ⟨k + 1, by omega, by go_num, by rw [HY.out], trivial⟩
        case measure => simp [intOf]; omega
      by_cases z1 : z ≤ (s.size : Int)
      · have HY : Hid (cntI s.size l (k + 1) = q + 1) := Lib.hid (by rw [HST.out, HX.out, decide_eq_true z0, decide_eq_true z1]; rfl)
        have hq4 : q ≤ 40 := by have := HCL.out; have := HL4.out; omega
        go_wp2
        go_roundw
        case rel => exact ⟨k + 1, by omega, by go_num, by rw [HY.out]; go_num, trivial⟩
        case measure => simp [intOf]; omega
      · have HY : Hid (cntI s.size l (k + 1) = q) := Lib.hid (by rw [HST.out, HX.out, decide_eq_false z1, Bool.and_false]; rfl)
        have e0 : decide (z ≤ (s.size : Int)) = false := decide_eq_false z1
        clear z1
        go_wp2
        go_roundw
        case rel => exact ⟨k + 1, by omega, by go_num, by rw [HY.out], trivial⟩
        case measure => simp [intOf]; omega
    · obtain rfl : k = l.length := by omega
      have hcn := HCNT.out
      rw [hcn]
      clear hcn HCL hlt hk
      go_wp2
      go_loopw [10, 11] (fun a i wr => ∃ k : Nat, k ≤ N ∧ i = .int .i64 k ∧ a = .string (ckAll s L k) ∧ w2 = wr) (fun _ i _ => N - (intOf i).toNat)
      case atStart => exact ⟨0, by omega, rfl, by rw [ckAll_zero], rfl⟩
      case round =>
        obtain ⟨k, hk, rfl, rfl, rfl⟩ := hrel
        by_cases hlt : k < N
        · obtain ⟨b7, o7, z, rfl, hb, hz, hc⟩ := HR7.out.atT hlt
          have hzL : ckS s L k = z := by
            have hk2 : k < (ckL s L).length := by rw [ckL_len, HN.out]; exact hlt
            rw [List.getElem?_eq_getElem hk2, ckL_at] at hz
            exact Option.some.inj hz
          have hkL : k ≤ L.length := by have := HN.out; omega
          have HSTEP : Hid (ckAll s L k ++ z = ckAll s L (k + 1)) := Lib.hid (by rw [← hzL]; exact ckAll_step HOK.out hkL)
          have hz1 : z.size ≤ s.size := by rw [← hzL]; exact ckS_le s L k
          have hz2 := ckAll_le s L k
          have HNB : Hid (N ≤ 41) := Lib.hid (by
            have h1 := HCNT.out
            have h2 := cntI_le s.size l l.length
            have h3 := HL4.out
            omega)
          have HX : Hid (k + 1 < N → isAt l l.length ((ckAll s L (k + 1)).size : Int) = true) := Lib.hid (fun hlt2 => by
            have hk3 : k < L.length := by have := HN.out; omega
            rw [ckAll_size HOK.out hk3]
            exact isAt_all (HMEM.out _ (List.getElem_mem hk3)))
          have hsm : ¬ (9223372036854775807 < (ckAll s L k).size + z.size) := by have := HS.out; omega
          have b1 : (0 : Int) ≤ (k : Int) := by omega
          have b2 : (k : Int) < (N : Int) := by omega
          have hNB := HNB.out
          obtain ⟨e0, he0⟩ : ∃ e0, (((k : Int) + 1) == (N : Int)) = e0 := ⟨_, rfl⟩
          have HE0 := Lib.hid he0
          clear hz hzL hz1 hz2
          go_wp2_with fail
          have hst := HSTEP.out
          rw [hst]
          clear hst hsm
          obtain ⟨X, hX⟩ : ∃ X, ckAll s L (k + 1) = X := ⟨_, rfl⟩
          rw [hX] at HX ⊢
          have HXE := Lib.hid hX
          clear hX
          go_loopw [12, 13] (fun e i wr => ∃ j : Nat, j ≤ l.length ∧ i = .int .i64 j ∧ e = .bool (e0 || isAt l j (X.size : Int)) ∧ w2 = wr) (fun _ i _ => l.length - (intOf i).toNat)
          case atStart => exact ⟨0, by omega, rfl, by simp [isAt], rfl⟩
          case round =>
            obtain ⟨j, hj, rfl, rfl, rfl⟩ := hrel
            by_cases hlt2 : j < l.length
            · obtain ⟨bA, oA, y, rfl, hb, hy, hc⟩ := HR2.out.atI hlt2
              have hyL : l[j] = y := by rw [List.getElem?_eq_getElem hlt2] at hy; exact Option.some.inj hy
              have HIS : Hid (isAt l (j + 1) (X.size : Int) = (isAt l j (X.size : Int) || y == (X.size : Int))) := Lib.hid (by rw [isAt_step l hlt2, hyL])
              have c1 : (0 : Int) ≤ (j : Int) := by omega
              have c2 : (j : Int) < (l.length : Int) := by omega
              obtain ⟨ij, hij⟩ : ∃ ij, isAt l j (X.size : Int) = ij := ⟨_, rfl⟩
              rw [hij] at HIS ⊢
              clear hy hyL hij
              obtain ⟨ej, hej⟩ : ∃ ej, (e0 || ij) = ej := ⟨_, rfl⟩
              have HEJ : Hid ((e0 || isAt l (j + 1) (X.size : Int)) = (ej || y == (X.size : Int))) := Lib.hid (by rw [HIS.out, ← Bool.or_assoc, hej])
              rw [hej]
              clear hej
              cases ej
              · go_wp2
                go_roundw
                case rel => exact ⟨j + 1, by omega, by go_num, by rw [HEJ.out]; rfl, trivial⟩
                case measure => simp [intOf]; omega
              · go_wp2
                go_roundw
                case rel => exact ⟨j + 1, by omega, by go_num, by rw [HEJ.out]; rfl, trivial⟩
                case measure => simp [intOf]; omega
            · obtain rfl : j = l.length := by omega
              have HT : (e0 || isAt l l.length (X.size : Int)) = true := by
                cases e0
                · have h0 : ¬ ((k : Int) + 1 = (N : Int)) := beq_eq_false_iff_ne.1 HE0.out
                  rw [HX.out (by omega)]
                  rfl
                · rfl
              rw [HT]
              clear HT hj hlt2
              go_wp2
              go_roundw
              case rel => exact ⟨k + 1, by omega, by go_num, by rw [HXE.out], trivial⟩
              case measure => simp [intOf]; omega
        · have hkN : k = N := by omega
          have hE : ckAll s L k = s := by rw [hkN, ← HN.out]; exact ckAll_end s L
          rw [hE]
          clear hE hlt hk
          subst hkN
          obtain ⟨q, hq, hql⟩ := lpk_nat t l.length
          have HPK := Lib.hid (lpick_any t l.length w2 (by omega))
          rw [hq] at HPK
          have HRF : Hid (Rd w2 w2.heap.size 1 (cutA A c q 1) (l.length - q) (iv (l.drop q))) := Lib.hid (by
            have := HR2.out.cut_from hql HC.out
            rwa [Nat.mul_one, show (iv l).drop q = iv (l.drop q) by simp [iv]] at this)
          have HRT : Hid (Rd w2 w2.heap.size 1 A q (iv (l.take q))) := Lib.hid (by
            have := HR2.out.cut_to hql
            rwa [Nat.mul_one, show (iv l).take q = iv (l.take q) by simp [iv]] at this)
          have hf := fun W => run_from (P := Try.prog) (t := 22) (e := 3) (s := 1) Try.underlying22 Try.sizeOf3 A l.length c q hql W
          have ht := fun W => run_to (P := Try.prog) (t := 22) (e := 3) (s := 1) Try.underlying22 Try.sizeOf3 A l.length c q (Nat.le_trans hql HC.out) W
          obtain ⟨A1, hA1⟩ : ∃ A1, cutA A c q 1 = A1 := ⟨_, rfl⟩
          rw [hA1] at HRF hf
          obtain ⟨n1, hn1⟩ : ∃ n1, l.length - q = n1 := ⟨_, rfl⟩
          rw [hn1] at HRF hf
          obtain ⟨q1, hq1⟩ : ∃ q1, c - q = q1 := ⟨_, rfl⟩
          rw [hq1] at hf
          have HN1 : Hid ((l.drop q).length = n1 ∧ (l.take q).length = q ∧ n1 + q = l.length ∧ n1 ≤ 40 ∧ q ≤ 40) := Lib.hid (by
            have := HL4.out
            refine ⟨by rw [List.length_drop, hn1], by rw [List.length_take]; omega, by omega, by omega, by omega⟩)
          clear hA1 hn1 hq1 hq hql
          go_wp2_with fail
          refine HPK.out.mono ?_
          rintro e w3 ⟨rfl, rfl⟩
          clear HPK
          go_wp2_with fail
          go_region_law (first | (refine lim_step_app (by rfl) _ _ _ (by rfl) w2.heap.size 3 _ 1 8 Try.underlying22 lim_info_int rfl (by decide) v4 n1 (iv (l.drop q)) (by rfl) (by first | exact HO4.out | exact own_drewN HO4.out 1) _ A q _ (iv (l.take q)) (by rfl) (by first | exact HRT4.out | exact HRT4.out.drewN 1) (lim_one _) (by have := HN1.out; unfold maxLen; omega) (by have := HN1.out; omega) (by first | exact HB4.out.size | simpa using HB4.out.size) ?_; intro v5 w5 hown5 hg5 hat5) | (go_simp; go_at_call 7; refine (lown_any (l.drop q) n1 HN1.out.1 A1 q1 _ (by first | exact HRF.out | exact HRF.out.drewN 1) (by have := HN1.out; omega)).mono ?_; rintro e w4 ⟨v4, rfl, hown4, hb4⟩; have HO4 : Hid (w4.ownsRow w2.heap.size 3 1 v4 n1 (iv (l.drop q))) := Lib.hid hown4; have HB4 : Hid (Below w2.heap.size w2 w4) := Lib.hid (by first | exact hb4 | exact (below_drawn (Below.refl _ _) 1).trans hb4); have HRT4 := Lib.hid (HRT.out.below HB4.out); clear hown4 hb4))
          obtain ⟨A5, c5, rfl, -, hr5⟩ := own_rd hown5
          have HB5 := Lib.hid (HB2.out.trans ((below_app HB4.out hg5 (by first | exact HB4.out.size | simpa using HB4.out.size) (fun g hg => (own_block HO4.out g hg).1)).mono HB2.out.size))
          have hck := chunks_any s A5 (l.drop q ++ l.take q) c5 w5 (by
            rw [List.length_append, HN1.out.1, HN1.out.2.1, show iv (l.drop q ++ l.take q) = iv (l.drop q) ++ iv (l.take q) by simp [iv]]
            exact hr5) (by rw [List.length_append, HN1.out.1, HN1.out.2.1]; have := HN1.out; omega) HS.out
          rw [turn_places, HL.out, List.length_append, HN1.out.1, HN1.out.2.1, ckL_len, HN.out] at hck
          have HCK := Lib.hid hck
          have HR75 := Lib.hid ((HR7.out.below HB4.out).app hg5 (by first | exact HB4.out.size | simpa using HB4.out.size) (fun g hg => (own_block HO4.out g hg).1))
          have HZ5 : Hid (w2.heap.size ≤ w5.heap.size) := Lib.hid (Nat.le_trans (by first | exact HB4.out.size | simpa using HB4.out.size) hg5.size)
          clear hck hown5 hr5 hg5 hat5 hf ht
          go_wp2_with fail
          refine HCK.out.mono ?_
          rintro e w6 ⟨v6, rfl, hown6, hb6⟩
          obtain ⟨A6, c6, rfl, -, hr6⟩ := own_rd hown6
          have HR6 := Lib.hid hr6
          have HR76 := Lib.hid (((HR75.out.wider HZ5.out).below hb6).wider hb6.size)
          have HB6 := Lib.hid (HB5.out.trans (hb6.mono HB5.out.size))
          clear hr6 hown6 hb6 HCK
          have HNB : Hid (k ≤ 41) := Lib.hid (by
            have h1 := HCNT.out
            have h2 := cntI_le s.size l l.length
            have h3 := HL4.out
            omega)
          go_wp2_with fail
          refine (sameT_any A6 A7 k k c6 c7 (ckL s L) (ckL s L) w6 HR6.out HR76.out (by have := HNB.out; omega) (by have := HNB.out; omega) rfl).mono ?_
          rintro e w7 ⟨rfl, hb7⟩
          have HB7 := Lib.hid (HB6.out.trans (hb7.mono HB6.out.size))
          clear hb7
          go_wp2
          go_ret
          exact ⟨rfl, HB7.out⟩
end Go.Proofs.Ytmkkjiogokfnmaa
