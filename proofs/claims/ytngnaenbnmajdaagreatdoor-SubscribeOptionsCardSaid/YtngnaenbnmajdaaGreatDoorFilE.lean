/- Reference 04: Shared. -/
import Derived.Test.YtngnaenbnmajdaaGreatDoorFilD
namespace Go.Proofs.YtngnaenbnmajdaaGreatDoor
open Go.RowKit Go.Shelf
theorem sv_drop (l : List ByteArray) (k : Nat) : (sv l).drop (k * 1) = sv (l.drop k) := by rw [Nat.mul_one]; simp [sv]
theorem jn_drop2 (s : ByteArray) : (jn ((lvs s).drop 2)).length ≤ s.size := by
  have h : ∀ l : List ByteArray, (jn (l.drop 1)).length ≤ (jn l).length := by
    intro l
    cases l with
    | nil => simp
    | cons x l =>
      cases l with
      | nil => simp [jn, jt]
      | cons y l => simp [jn, jt]; omega
  have h1 := h (lvs s)
  have h2 := h ((lvs s).drop 1)
  rw [List.drop_drop, show 1 + 1 = 2 from rfl] at h2
  have h3 := congrArg List.length (jn_lvs s)
  rw [ls_len] at h3
  omega
set_option maxHeartbeats 4000000 in
set_option maxRecDepth 10000 in
theorem refShared_any (s : ByteArray) (w : World) (hs : s.size ≤ 4611686018427387904) :
    Calls Tryz.prog 16 #[.string s] w (SharedOut s w) := by
  have HE : Hid (sharedB s = (validB s && (frontB s && (decide (3 ≤ (lvs s).length) && ((decide (((lvs s).getD 1 ⟨#[]⟩).size ≠ 0) && !(hasL (ls ((lvs s).getD 1 ⟨#[]⟩)) 43 || hasL (ls ((lvs s).getD 1 ⟨#[]⟩)) 35)) && filterB ⟨(jn ((lvs s).drop 2)).toArray⟩))))) := Lib.hid (shared_eq s).symm
  have HS := Lib.hid hs; clear hs
  go_enter Tryz.func16, Tryz.ntmps16
  go_wp2_with fail
  refine (refValid_any s _ HS.out).mono ?_
  rintro e w1 ⟨rfl, hw1⟩
  subst hw1
  cases hv : validB s
  · have HX : Hid (sharedB s = false) := Lib.hid (by rw [HE.out, hv]; rfl)
    clear hv
    go_wp2
    go_ret3
    exact ⟨⟨_, _, by rw [HX.out]; rfl⟩, Below.refl _ _⟩
  have HE1 := HE.out
  rw [hv, Bool.true_and] at HE1
  replace HE1 := Lib.hid HE1
  have HV : Hid (s.size ≤ 65535) := Lib.hid (valid_size hv)
  clear hv HE
  by_cases h7 : 7 ≤ s.size
  rotate_left
  · have HX : Hid (sharedB s = false) := Lib.hid (by rw [HE1.out, front_ext, decide_eq_false h7]; rfl)
    have d7 : (s.size : Int) < 7 := by omega
    clear h7
    go_wp2
    go_ret3
    exact ⟨⟨_, _, by rw [HX.out]; rfl⟩, Below.refl _ _⟩
  have HF : Hid (frontB s = ((s.extract 0 7).toList == [36, 115, 104, 97, 114, 101, 47])) := Lib.hid (by rw [front_ext, decide_eq_true h7, Bool.true_and])
  have d7 : ¬ (s.size : Int) < 7 := by omega
  have d7' : (7 : Int) ≤ (s.size : Int) := by omega
  clear h7
  cases hf : ((s.extract 0 7).toList == [36, 115, 104, 97, 114, 101, 47])
  · have HX : Hid (sharedB s = false) := Lib.hid (by rw [HE1.out, HF.out, hf]; rfl)
    go_wp2
    go_ret3
    exact ⟨⟨_, _, by rw [HX.out]; rfl⟩, Below.refl _ _⟩
  have HE2 := HE1.out
  rw [HF.out, hf, Bool.true_and] at HE2
  replace HE2 := Lib.hid HE2
  clear HE1 HF
  have HLS : Hid (∀ x ∈ lvs s, x.size ≤ 65535) := Lib.hid fun x hx => Nat.le_trans (lvs_size s x hx) HV.out
  have HLL : Hid ((lvs s).length ≤ 65536) := Lib.hid (by have := lvs_len s; have := HV.out; omega)
  have HJ : Hid ((jn ((lvs s).drop 2)).length ≤ 65535) := Lib.hid (by have := jn_drop2 s; have := HV.out; omega)
  go_wp2_with fail
  refine (refLevels_any s _ HV.out).mono ?_
  rintro e w2 ⟨v, rfl, hown, hb⟩
  have HB := Lib.hid hb
  obtain ⟨A, c, rfl, hcap, hrd⟩ := own_rd hown
  have HL := Lib.hid hrd
  clear hb hown hrd
  generalize lvs s = l at *
  obtain ⟨n, hn⟩ : ∃ n, l.length = n := ⟨_, rfl⟩
  rw [hn] at HL HLL hcap HE2 ⊢
  have E1 := Lib.hid hn
  have hn2 : n ≤ 65536 := HLL.out
  clear hn hf
  by_cases h3 : 3 ≤ n
  rotate_left
  · have HX : Hid (sharedB s = false) := Lib.hid (by rw [HE2.out, decide_eq_false h3]; rfl)
    have d3 : (n : Int) < 3 := by omega
    clear h3
    go_wp2
    go_ret3
    exact ⟨⟨_, _, by rw [HX.out]; rfl⟩, HB.out⟩
  have HE3 := HE2.out
  rw [decide_eq_true h3, Bool.true_and] at HE3
  have d3 : ¬ (n : Int) < 3 := by omega
  have d1 : (1 : Int) < (n : Int) := by omega
  have H3 := Lib.hid h3
  obtain ⟨b, o, x, rfl, hb, hx, hc⟩ := rd_sv HL.out (show 1 < n by omega)
  have HXS := Lib.hid (HLS.out x (List.mem_of_getElem? hx))
  have hgd : l.getD 1 ⟨#[]⟩ = x := by rw [List.getD_eq_getElem?_getD, hx]; rfl
  rw [hgd] at HE3
  replace HE3 := Lib.hid HE3
  have hem := emptyB_iff x
  clear h3 hx hgd HE2
  by_cases h0 : x.size = 0
  · rw [decide_eq_true h0] at hem
    have HX : Hid (sharedB s = false) := Lib.hid (by rw [HE3.out, decide_eq_false (fun y => y h0)]; rfl)
    clear h0
    go_wp2
    go_ret3
    exact ⟨⟨_, _, by rw [HX.out]; rfl⟩, HB.out⟩
  rw [decide_eq_false h0] at hem
  have HE4 := HE3.out
  rw [decide_eq_true h0, Bool.true_and] at HE4
  replace HE4 := Lib.hid HE4
  clear h0 HE3
  go_wp2_with fail
  refine (hasS_any x 43 _ (by have := HXS.out; omega)).mono ?_
  rintro e w3 ⟨rfl, hw3⟩
  subst hw3
  cases h43 : hasL (ls x) 43
  rotate_left
  · have HX : Hid (sharedB s = false) := Lib.hid (by rw [HE4.out, h43]; rfl)
    clear h43
    go_wp2
    go_ret3
    exact ⟨⟨_, _, by rw [HX.out]; rfl⟩, HB.out⟩
  have HE5 := HE4.out
  rw [h43, Bool.false_or] at HE5
  replace HE5 := Lib.hid HE5
  clear h43 HE4
  go_wp2_with fail
  refine (hasS_any x 35 _ (by have := HXS.out; omega)).mono ?_
  rintro e w3 ⟨rfl, hw3⟩
  subst hw3
  cases h35 : hasL (ls x) 35
  rotate_left
  · have HX : Hid (sharedB s = false) := Lib.hid (by rw [HE5.out, h35]; rfl)
    clear h35
    go_wp2
    go_ret3
    exact ⟨⟨_, _, by rw [HX.out]; rfl⟩, HB.out⟩
  have HE6 : Hid (sharedB s = filterB ⟨(jn (l.drop 2)).toArray⟩) := Lib.hid (by rw [HE5.out, h35]; rfl)
  clear h35 HE5
  have hsl : ∀ W, (Instr.slice 80 (.slice (some ⟨b, o, none⟩) n c) (some (.int .i64 2)) none none).run Tryz.prog W = .ok (.slice (cutA (some ⟨b, o, none⟩) c 2 1) (n - 2) (c - 2)) W := fun W => run_from (P := Tryz.prog) Tryz.underlying80 Tryz.sizeOf9 (some ⟨b, o, none⟩) n c 2 (by have := H3.out; omega) W
  have HR : Hid (Rd w2 w2.heap.size 1 (cutA (some ⟨b, o, none⟩) c 2 1) (n - 2) (sv (l.drop 2))) := Lib.hid (by
    rw [← sv_drop]
    exact HL.out.cut_from (by have := H3.out; omega) hcap)
  generalize cutA (some ⟨b, o, none⟩) c 2 1 = A2 at *
  go_wp2_with fail
  refine (refJoin_any A2 (n - 2) (c - 2) (l.drop 2) _ (by rw [List.length_drop, E1.out]) HR.out HJ.out (by omega)).mono ?_
  rintro e w4 ⟨rfl, hb4⟩
  have HB4 := Lib.hid (HB.out.trans (hb4.mono HB.out.size))
  have hc4 := (hb4.cell (p := ⟨b, o + 1, none⟩) hb).trans hc
  obtain ⟨Y, hY⟩ : ∃ Y : ByteArray, (⟨(jn (l.drop 2)).toArray⟩ : ByteArray) = Y := ⟨_, rfl⟩
  have HYS : Hid (Y.size ≤ 65535) := Lib.hid (by rw [← hY, ← ls_len, ls_mk]; exact HJ.out)
  rw [hY] at HE6 ⊢
  clear hb4 hsl hc hY
  go_wp2_with fail
  refine (refFilter_any Y _ (by have := HYS.out; omega)).mono ?_
  rintro e w5 ⟨rfl, hb5⟩
  have HB5 := Lib.hid (HB4.out.trans (hb5.mono HB4.out.size))
  have hlt4 : b < w4.heap.size := by have := HB4.out.size; have := HB.out.size; exact (World.block_lt_of_cell? _ _ hc4)
  have hc5 := (hb5.cell (p := ⟨b, o + 1, none⟩) hlt4).trans hc4
  clear hb5 hc4 hlt4
  cases hF : filterB Y
  · have HX : Hid (sharedB s = false) := Lib.hid (by rw [HE6.out, hF])
    clear hF
    go_wp2
    go_ret3
    exact ⟨⟨_, _, by rw [HX.out]; rfl⟩, HB5.out⟩
  · have HX : Hid (sharedB s = true) := Lib.hid (by rw [HE6.out, hF])
    clear hF
    go_wp2
    go_ret3
    exact ⟨⟨_, _, by rw [HX.out]; rfl⟩, HB5.out⟩
end Go.Proofs.YtngnaenbnmajdaaGreatDoor
