/-
  Reference 04: Levels, Join, Filter, Shared.
  Reference 04: Shared.
-/
import Derived.Test.YtmkkjiogokfnmaaDoorFilC
import Derived.LoopN

namespace Go.Proofs.YtmkkjiogokfnmaaDoor
open Go.RowKit Go.Shelf

theorem sv_one (l : List ByteArray) : ∀ u ∈ sv l, u.oneCell' = true := by
  intro u hu
  obtain ⟨x, -, rfl⟩ := List.mem_map.1 hu
  rfl
theorem sv_snoc (l : List ByteArray) (x : ByteArray) : sv (l ++ [x]) = sv l ++ [.string x] := by simp [sv]
theorem ls_mid (s : ByteArray) (m j : Nat) : (ls (s.extract m s.size))[j]? = (ls s)[m + j]? := by rw [ls_back, List.getElem?_drop]
theorem lvs_at {s : ByteArray} {m k : Nat} (hm : m ≤ k) (hk : (ls s)[k]? = some 47) (hn : ∀ j, m ≤ j → j < k → (ls s)[j]? ≠ some 47) : lvs (s.extract m s.size) = s.extract m k :: lvs (s.extract (k + 1) s.size) := by
  have hlt : k < s.size := by have := (List.getElem?_eq_some_iff.1 hk).1; rwa [ls_len] at this
  rw [lvs_hit (i := k - m) (by rw [ls_mid, show m + (k - m) = k by omega]; exact hk) (fun j hj => by rw [ls_mid]; exact hn _ (by omega) (by omega))]
  have e1 : (s.extract m s.size).extract 0 (k - m) = s.extract m k := by
    apply ls_ext
    rw [ls_front, ls_back]
    show _ = (s.extract m k).data.toList
    rw [Lib.extract_data]
    rfl
  have e2 : (s.extract m s.size).extract (k - m + 1) (s.extract m s.size).size = s.extract (k + 1) s.size := by
    apply ls_ext
    rw [ls_back, ls_back, ls_back, List.drop_drop, show m + (k - m + 1) = k + 1 by omega]
  rw [e1, e2]
theorem lvs_last {s : ByteArray} {m : Nat} (hn : ∀ j, m ≤ j → j < s.size → (ls s)[j]? ≠ some 47) : lvs (s.extract m s.size) = [s.extract m s.size] := by
  refine lvs_none fun j => ?_
  rw [ls_mid]
  by_cases h : m + j < s.size
  · exact hn _ (by omega) h
  · rw [List.getElem?_eq_none (by rw [ls_len]; omega)]; simp
set_option maxHeartbeats 2000000 in
set_option maxRecDepth 10000 in
theorem refLevels_any (s : ByteArray) (w : World) (hs : s.size ≤ 65535) :
    Calls Tryd.prog 14 #[.string s] w fun e w' => ∃ v, e = .returned v ∧ w'.ownsRow w.heap.size 9 1 v (lvs s).length (sv (lvs s)) ∧ Below w.heap.size w w' := by
  have HS := Lib.hid hs
  have HLL := Lib.hid (lvs_len s)
  go_enter Tryd.func14, Tryd.ntmps14
  go_wp2
  go_loopw [3, 4, 5] (fun o fr i wr => ∃ (k m : Nat) (done : List ByteArray), k ≤ s.size ∧ m ≤ k ∧ i = .int .i64 k ∧ fr = .int .i64 m ∧ wr.ownsRow w.heap.size 9 1 o done.length (sv done) ∧ lvs s = done ++ lvs (s.extract m s.size) ∧ (∀ j, m ≤ j → j < k → (ls s)[j]? ≠ some 47) ∧ Below w.heap.size w wr) (fun _ _ i _ => s.size - (intOf i).toNat)
  case atStart => exact ⟨0, 0, [], by omega, by omega, rfl, rfl, World.ownsRow_nil _ _ _ _, by rw [ByteArray.extract_zero_size, List.nil_append], fun j _ hj => by omega, Below.refl _ _⟩
  case round =>
    obtain ⟨k, m, done, hk, hm, rfl, rfl, hown, hl, hno, hbel⟩ := hrel
    have HO := Lib.hid hown; have HL := Lib.hid hl; have HN := Lib.hid hno; have HB := Lib.hid hbel
    have HDL : Hid (done.length ≤ 65536) := Lib.hid (by
      have := congrArg List.length hl
      rw [List.length_append] at this
      have := HLL.out; omega)
    clear hown hl hno
    by_cases hlt : k < s.size
    · obtain ⟨b, hb⟩ : ∃ b, s[k]'hlt = b := ⟨_, rfl⟩
      have hat : (ls s)[k]? = some b := by rw [List.getElem?_eq_getElem (by rw [ls_len]; exact hlt), ls_at s k hlt, hb]
      have HAT := Lib.hid hat
      have b1 : (0 : Int) ≤ (k : Int) := by omega
      have b2 : (k : Int) < (s.size : Int) := by omega
      have hsz := hbel.size
      clear hat
      by_cases h : b = 47
      · have e1 : ((b.toNat : Int) == 47) = true := by subst h; rfl
        have c1 : (0 : Int) ≤ (m : Int) := by omega
        have c2 : (m : Int) ≤ (k : Int) := by omega
        have c3 : (k : Int) ≤ (s.size : Int) := by omega
        have HX : Hid (lvs s = (done ++ [s.extract m k]) ++ lvs (s.extract (k + 1) s.size)) := Lib.hid (by
          rw [HL.out, lvs_at hm (by rw [HAT.out, h]) HN.out]; simp)
        have HB47 := Lib.hid h
        clear h
        go_wp2_with (at_builtin; refine wpList_app _ rfl (.tmp 16) (.tmp 21) 23 rfl w.heap.size 9 (.string ByteArray.empty) 1 16 Tryd.underlying23 info_string rfl (by decide) u3 _ _ rfl (HO.out.alloc _) _ _ 1 1 [.string (s.extract m k)] rfl (Rd.lit _ _ _ rfl (Nat.lt_succ_self _) rfl) (sv_one [s.extract m k]) (by have := HDL.out; unfold maxLen; omega) (by have := HDL.out; omega) (by simp; omega) ?_; intro v' w3 hown3 hg3 hat3)
        have R : w3.ownsRow w.heap.size 9 1 v' (done ++ [s.extract m k]).length (sv (done ++ [s.extract m k])) ∧ Below w.heap.size w w3 := by
          refine ⟨by rw [sv_snoc, List.length_append]; exact hown3, ?_⟩
          exact below_app (HB.out.alloc (by omega) _) hg3 (by simp; omega) (fun g hg => (own_block HO.out g hg).1)
        clear hown3 hg3 hat3
        go_wp2
        go_roundw
        case rel => exact ⟨k + 1, k + 1, done ++ [s.extract m k], by omega, by omega, by go_num, by go_num, R.1, HX.out, fun j h1 h2 => by omega, R.2⟩
        case measure => simp [intOf]; omega
      · have e1 : ((b.toNat : Int) == 47) = false := beq_eq_false_iff_ne.2 (fun x => h (UInt8.toNat_inj.1 (by rw [show (47 : UInt8).toNat = 47 from rfl]; omega)))
        have HX : Hid (∀ j, m ≤ j → j < k + 1 → (ls s)[j]? ≠ some 47) := Lib.hid (by
          intro j h1 h2
          rcases Nat.lt_succ_iff_lt_or_eq.1 h2 with h3 | rfl
          · exact HN.out j h1 h3
          · rw [HAT.out]; simpa using h)
        clear h
        go_wp2
        go_roundw
        case rel => exact ⟨k + 1, m, done, by omega, by omega, by go_num, rfl, HO.out, HL.out, HX.out, HB.out⟩
        case measure => simp [intOf]; omega
    · obtain rfl : k = s.size := by omega
      have c1 : (0 : Int) ≤ (m : Int) := by omega
      have c2 : (m : Int) ≤ (s.size : Int) := by omega
      have hsz := hbel.size
      have HX : Hid (lvs s = done ++ [s.extract m s.size]) := Lib.hid (by rw [HL.out, lvs_last HN.out])
      go_wp2_with (at_builtin; refine wpList_app _ rfl (.tmp 25) (.tmp 29) 23 rfl w.heap.size 9 (.string ByteArray.empty) 1 16 Tryd.underlying23 info_string rfl (by decide) u3 _ _ rfl (HO.out.alloc _) _ _ 1 1 [.string (s.extract m s.size)] rfl (Rd.lit _ _ _ rfl (Nat.lt_succ_self _) rfl) (sv_one [s.extract m s.size]) (by have := HDL.out; unfold maxLen; omega) (by have := HDL.out; omega) (by simp; omega) ?_; intro v' w3 hown3 hg3 hat3)
      have R : w3.ownsRow w.heap.size 9 1 v' (lvs s).length (sv (lvs s)) ∧ Below w.heap.size w w3 := by
        rw [HX.out]
        refine ⟨by rw [sv_snoc, List.length_append]; exact hown3, ?_⟩
        exact below_app (HB.out.alloc (by omega) _) hg3 (by simp; omega) (fun g hg => (own_block HO.out g hg).1)
      clear hown3 hg3 hat3
      go_wp2
      go_ret
      exact ⟨v', rfl, R.1, R.2⟩
/-! ### Join -/
theorem jn_take : ∀ (l : List ByteArray) (k : Nat), (jn (l.take k)).length ≤ (jn l).length
  | [], k => by simp
  | x :: l, 0 => by simp [jn]
  | x :: l, k + 1 => by
    have : ∀ (m : List ByteArray) (k : Nat), (jt (m.take k)).length ≤ (jt m).length := by
      intro m
      induction m with
      | nil => intro k; simp
      | cons y m ih =>
        intro k
        cases k with
        | zero => simp [jt]
        | succ k =>
          have := ih k
          rw [List.take_succ_cons, jt, jt, List.length_cons, List.length_cons, List.length_append, List.length_append]
          omega
    have := this l k
    rw [List.take_succ_cons, jn, jn, List.length_append, List.length_append]
    omega
theorem jn_next (l : List ByteArray) (k : Nat) (x : ByteArray) (hx : l[k]? = some x) : jn (l.take (k + 1)) = if k = 0 then ls x else jn (l.take k) ++ 47 :: ls x := by
  have hlt := (List.getElem?_eq_some_iff.1 hx).1
  rw [List.take_add_one, hx]
  simp only [Option.toList_some]
  rw [jn_snoc]
  by_cases h : k = 0
  · subst h; rfl
  · rw [if_neg h, if_neg (fun e => by have := congrArg List.length e; rw [List.length_take, List.length_nil] at this; omega)]
/-! ### Filter -/
theorem levs_no_ref {l : List ByteArray} {i : Nat} {x : ByteArray} (hx : l[i]? = some x) (h : refLev x (decide (i + 1 = l.length)) = false) : levsOk l = false := levs_no hx (by rw [← refLev_eq]; exact h)
set_option maxHeartbeats 4000000 in
set_option maxRecDepth 10000 in
theorem refFilter_any (s : ByteArray) (w : World) (hs : s.size ≤ 4611686018427387904) :
    Calls Tryd.prog 6 #[.string s] w fun e w' => e = .returned (.bool (filterB s)) ∧ Below w.heap.size w w' := by
  have HE : Hid (filterB s = ((decide (s.size ≠ 0) && validB s) && levsOk (lvs s))) := Lib.hid rfl
  have hem := emptyB_iff s
  have HS := Lib.hid hs; clear hs
  go_enter Tryd.func6, Tryd.ntmps6
  by_cases h0 : s.size = 0
  · rw [decide_eq_true h0] at hem
    have HX : Hid (filterB s = false) := Lib.hid (by rw [HE.out, decide_eq_false (fun x => x h0)]; rfl)
    clear h0
    go_wp2
    go_ret
    exact ⟨by rw [HX.out]; rfl, Below.refl _ _⟩
  rw [decide_eq_false h0] at hem
  have HE1 : Hid (filterB s = (validB s && levsOk (lvs s))) := Lib.hid (by rw [HE.out, decide_eq_true h0, Bool.true_and])
  clear h0 HE
  go_wp2_with fail
  refine (refValid_any s _ HS.out).mono ?_
  rintro e w1 ⟨rfl, hw1⟩
  subst hw1
  cases hv : validB s
  · have HX : Hid (filterB s = false) := Lib.hid (by rw [HE1.out, hv]; rfl)
    clear hv
    go_wp2
    go_ret
    exact ⟨by rw [HX.out]; rfl, Below.refl _ _⟩
  have HE2 : Hid (filterB s = levsOk (lvs s)) := Lib.hid (by rw [HE1.out, hv, Bool.true_and])
  have HV : Hid (s.size ≤ 65535) := Lib.hid (valid_size hv)
  clear hv HE1
  have HLS : Hid (∀ x ∈ lvs s, x.size ≤ 65535) := Lib.hid fun x hx => Nat.le_trans (lvs_size s x hx) HV.out
  have HLL : Hid ((lvs s).length ≤ 65536) := Lib.hid (by have := lvs_len s; have := HV.out; omega)
  go_wp2_with fail
  refine (refLevels_any s _ HV.out).mono ?_
  rintro e w2 ⟨v, rfl, hown, hb⟩
  have HB := Lib.hid hb
  obtain ⟨A, c, rfl, hcap, hrd⟩ := own_rd hown
  have HL := Lib.hid hrd
  clear hb hown hrd
  generalize lvs s = l at *
  obtain ⟨n, hn⟩ : ∃ n, l.length = n := ⟨_, rfl⟩
  rw [hn] at HL HLL hcap ⊢
  have E1 := Lib.hid hn
  have hn2 : n ≤ 65536 := HLL.out
  clear hn hem
  go_wp2
  go_loopw [4] (fun i wr => ∃ k : Nat, k ≤ n ∧ i = .int .i64 k ∧ (∀ (j : Nat) (y : ByteArray), j < k → l[j]? = some y → levOk y (decide (j + 1 = l.length)) = true) ∧ Below w2.heap.size w2 wr) (fun i _ => n - (intOf i).toNat)
  case atStart => exact ⟨0, by omega, rfl, fun j x hj => by omega, Below.refl _ _⟩
  case round =>
    obtain ⟨k, hk, rfl, hall, hbel⟩ := hrel
    have HA := Lib.hid hall; have HB3 := Lib.hid (HB.out.trans (hbel.mono HB.out.size)); have HBL := Lib.hid hbel; clear hall
    by_cases hlt : k < n
    · obtain ⟨b, o, x, rfl, hb, hx, hc⟩ := rd_sv (HL.out.below hbel) hlt
      have HX := Lib.hid hx
      have HXS := Lib.hid (HLS.out x (List.mem_of_getElem? hx))
      obtain ⟨d, hd⟩ : ∃ d, decide (k + 1 = l.length) = d := ⟨_, rfl⟩
      have hlast : decide ((k : Int) + 1 < (n : Int)) = !d := by
        rw [← hd, E1.out, Bool.eq_iff_iff, decide_eq_true_iff, Bool.not_eq_true', decide_eq_false_iff_not]; omega
      have HD := Lib.hid hd
      have b1 : (0 : Int) ≤ (k : Int) := by omega
      have b2 : (k : Int) < (n : Int) := by omega
      have HV3 : Hid (refLev x d = !((hasL (ls x) 43 && !(x.toList == [43])) || (hasL (ls x) 35 && (!(x.toList == [35]) || !d)))) := Lib.hid rfl
      have HYes : Hid (refLev x d = true → ∀ (j : Nat) (y : ByteArray), j < k + 1 → l[j]? = some y → levOk y (decide (j + 1 = l.length)) = true) := Lib.hid fun h => levs_step HX.out (by rw [HD.out, ← refLev_eq]; exact h) HA.out
      have HNo : Hid (refLev x d = false → levsOk l = false) := Lib.hid fun h => levs_no_ref HX.out (by rw [HD.out]; exact h)
      clear hx hd hbel
      generalize hP : refLev x d = RL at *
      clear hP
      go_wp2_with fail
      refine (hasS_any x 43 _ (by have := HXS.out; omega)).mono ?_
      rintro e w3 ⟨rfl, hw3⟩
      subst hw3
      cases h43 : hasL (ls x) 43
      · have HW : Hid (RL = !(hasL (ls x) 35 && (!(x.toList == [35]) || !d))) := Lib.hid (by rw [HV3.out, h43]; rfl)
        clear h43
        go_wp2_with fail
        refine (hasS_any x 35 _ (by have := HXS.out; omega)).mono ?_
        rintro e w3 ⟨rfl, hw3⟩
        subst hw3
        cases h35 : hasL (ls x) 35
        · have HF := Lib.hid (HYes.out (by rw [HW.out, h35]; rfl))
          clear h35
          go_wp2
          go_roundw
          case rel => exact ⟨k + 1, by omega, by go_num, HF.out, HBL.out⟩
          case measure => simp [intOf]; omega
        · cases hq : (x.toList == [35])
          · have HF := Lib.hid (HNo.out (by rw [HW.out, h35, hq]; rfl))
            clear h35
            go_wp2
            go_ret
            exact ⟨by rw [HE2.out, HF.out]; rfl, HB3.out⟩
          · cases d
            · have HF := Lib.hid (HNo.out (by rw [HW.out, h35, hq]; rfl))
              have hl2 : (k : Int) + 1 < (n : Int) := of_decide_eq_true hlast
              clear h35 hlast
              go_wp2
              go_ret
              exact ⟨by rw [HE2.out, HF.out]; rfl, HB3.out⟩
            · have HF := Lib.hid (HYes.out (by rw [HW.out, h35, hq]; rfl))
              have hl2 : ¬ (k : Int) + 1 < (n : Int) := of_decide_eq_false hlast
              clear h35 hlast
              go_wp2
              go_roundw
              case rel => exact ⟨k + 1, by omega, by go_num, HF.out, HBL.out⟩
              case measure => simp [intOf]; omega
      · cases hp : (x.toList == [43])
        · have HF := Lib.hid (HNo.out (by rw [HV3.out, h43, hp]; rfl))
          clear h43
          go_wp2
          go_ret
          exact ⟨by rw [HE2.out, HF.out]; rfl, HB3.out⟩
        · have HX43 : Hid (hasL (ls x) 35 = false) := Lib.hid (by
            have : ls x = [43] := by rw [← tl_ls]; exact beq_iff_eq.1 hp
            rw [this]; rfl)
          have HF := Lib.hid (HYes.out (by rw [HV3.out, h43, hp, HX43.out]; rfl))
          clear h43
          go_wp2_with fail
          refine (hasS_any x 35 _ (by have := HXS.out; omega)).mono ?_
          rintro e w3 ⟨rfl, hw3⟩
          subst hw3
          rw [HX43.out]
          go_wp2
          go_roundw
          case rel => exact ⟨k + 1, by omega, by go_num, HF.out, HBL.out⟩
          case measure => simp [intOf]; omega
    · obtain rfl : k = n := by omega
      have HF : Hid (levsOk l = true) := Lib.hid (levs_end (fun j y hj => HA.out j y (by have := E1.out; omega)))
      go_wp2
      go_ret
      exact ⟨by rw [HE2.out, HF.out]; rfl, HB3.out⟩
end Go.Proofs.YtmkkjiogokfnmaaDoor

namespace Go.Proofs.YtmkkjiogokfnmaaDoor
open Go.RowKit Go.Shelf
theorem sv_drop (l : List ByteArray) (k : Nat) : (sv l).drop (k * 1) = sv (l.drop k) := by rw [Nat.mul_one]; simp [sv]
theorem jn_drop2 (s : ByteArray) : (jn ((lvs s).drop 2)).length ≤ s.size := by
  have h : ∀ l : List ByteArray, (jn (l.drop 1)).length ≤ (jn l).length := by
    intro l
    cases l with
    | nil => simp
    | cons x l =>
      cases l with
      | nil => simp [jn, jt]
      | cons y l => simp [jn, jt]; omega
  have h1 := h (lvs s)
  have h2 := h ((lvs s).drop 1)
  rw [List.drop_drop, show 1 + 1 = 2 from rfl] at h2
  have h3 := congrArg List.length (jn_lvs s)
  rw [ls_len] at h3
  omega
end Go.Proofs.YtmkkjiogokfnmaaDoor
