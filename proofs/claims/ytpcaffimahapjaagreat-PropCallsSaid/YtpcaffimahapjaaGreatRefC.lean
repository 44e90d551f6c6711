/- The reference's strings: the walks of polyglotref03.Bad, Valid; polyglotkit.Pick. -/
import Derived.Test.YtpcaffimahapjaaGreatRefB
namespace Go.Proofs.YtpcaffimahapjaaGreat
open Go.RowKit

theorem point_zero {s : ByteArray} {p : Nat} (h : (Utf8.decode s p).1 = 0 ∨ ((Utf8.decode s p).1 = 65533 ∧ (Utf8.decode s p).2 = 1)) : (pointS s p).1 = 0 := by
  unfold pointS
  split
  · rfl
  · rename_i hn
    rcases h with h | ⟨h1, h2⟩
    · exact h
    · exact absurd (Prod.ext h1 h2) hn
theorem point_more {s : ByteArray} {p : Nat} (h : ¬ ((Utf8.decode s p).1 = 0 ∨ ((Utf8.decode s p).1 = 65533 ∧ (Utf8.decode s p).2 = 1))) : pointS s p = Utf8.decode s p := by
  unfold pointS
  rw [if_neg]
  intro e
  rw [e] at h
  exact h (.inr ⟨rfl, rfl⟩)

set_option maxHeartbeats 400000 in
set_option maxRecDepth 10000 in
theorem refBadS_any (s : ByteArray) (w : World) (hs : s.size ≤ 4611686018427387904) :
    Calls Tryz.prog 184 #[.string s] w fun e w' => e = .returned (.int .i64 (badS s)) ∧ w = w' := by
  have HS := Lib.hid hs
  go_enter Tryz.func184, Tryz.ntmps184
  go_wp2
  go_loopw [3, 4, 5] (fun a _ _ wr => ∃ (pos f : Nat), a = .int .i64 pos ∧ pos ≤ s.size ∧ s.size ≤ pos + f ∧ badS s = badF f s pos ∧ w = wr) (fun a _ _ _ => s.size - (intOf a).toNat)
  case atStart => exact ⟨0, s.size, rfl, by omega, by omega, rfl, rfl⟩
  case round =>
    obtain ⟨pos, f, rfl, hle, hfu, hv, rfl⟩ := hrel
    have HV := Lib.hid hv; clear hv
    by_cases hp : pos < s.size
    · obtain ⟨f, rfl⟩ : ∃ f', f = f' + 1 := ⟨f - 1, by omega⟩
      have hi : (pos : Int) < (s.size : Int) := by omega
      have hwd := Lib.decode_width_pos s pos hp
      have hwl : pos + (Utf8.decode s pos).2 ≤ s.size := by rw [Lib.decode_at]; have := decodeN_wd (s.size - pos) (s.get! pos).toNat (s.get! (pos + 1)).toNat (s.get! (pos + 2)).toNat (s.get! (pos + 3)).toNat (by omega); omega
      have HP := Lib.hid (And.intro hp (And.intro hwd (And.intro hwl hfu)))
      have hb : Hid (badS s = if (Utf8.decode s pos).1 = 0 ∨ ((Utf8.decode s pos).1 = 65533 ∧ (Utf8.decode s pos).2 = 1) then (pos : Int) else badF f s (pos + (Utf8.decode s pos).2)) := Lib.hid (by rw [HV.out, badF, if_pos hp])
      clear hle hfu HV hp hwd hwl
      by_cases hz : (Utf8.decode s pos).1 = 0 ∨ ((Utf8.decode s pos).1 = 65533 ∧ (Utf8.decode s pos).2 = 1)
      · have HG : Hid (badS s = pos) := Lib.hid (by rw [hb.out, if_pos hz])
        have HZ := Lib.hid (point_zero hz); clear hz hb
        go_wp2_with fail
        refine (point_any s pos _ HP.out.1 HS.out).mono ?_
        rintro e w1 ⟨rfl, rfl⟩
        rw [HZ.out]
        cases hk : ((pointS s pos).2 : Int) == 0
        · go_wp2
          go_ret
          exact ⟨by rw [HG.out]; rfl, rfl⟩
        · go_wp2
          go_ret
          exact ⟨by rw [HG.out]; rfl, rfl⟩
      · have HG : Hid (badS s = badF f s (pos + (Utf8.decode s pos).2)) := Lib.hid (by rw [hb.out, if_neg hz])
        have HE := Lib.hid (point_more hz)
        have HC : Hid ((Utf8.decode s pos).1 ≠ 0) := Lib.hid fun e => hz (.inl e)
        clear hz hb
        go_wp2_with fail
        refine (point_any s pos _ HP.out.1 HS.out).mono ?_
        rintro e w1 ⟨rfl, rfl⟩
        rw [HE.out]
        obtain ⟨c, hc⟩ : ∃ c, (Utf8.decode s pos).1 = c := ⟨_, rfl⟩
        obtain ⟨wd, hw⟩ : ∃ wd, (Utf8.decode s pos).2 = wd := ⟨_, rfl⟩
        rw [hc, hw]
        rw [hc] at HC
        rw [hw] at HG HP
        have k1 : ((wd : Int) == 0) = false := beq_eq_false_iff_ne.2 (by have := HP.out; omega)
        have k2 : ((c : Int) == 0) = false := beq_eq_false_iff_ne.2 (by have := HC.out; omega)
        have k3 : (pos : Int) + (wd : Int) ≤ 4611686018427387904 := by have := HP.out; have := HS.out; omega
        have k4 : (0 : Int) ≤ (pos : Int) + (wd : Int) := by omega
        clear hc hw hs
        go_wp2
        go_roundw
        case rel => exact ⟨pos + wd, f, by simp, by have := HP.out; omega, by have := HP.out; omega, HG.out, by first | trivial | rfl⟩
        case measure => have := HP.out; simp [intOf]; omega
    · have hfin : badS s = -1 := by
        rw [HV.out]
        cases f with
        | zero => rfl
        | succ f => rw [badF, if_neg hp]
      have HF := Lib.hid hfin; clear hfin HV
      have hi : ¬ ((pos : Int) < (s.size : Int)) := by omega
      go_wp2
      go_ret
      exact ⟨by rw [HF.out]; rfl, rfl⟩

theorem badS_ge (s : ByteArray) : ∀ (f pos : Nat), -1 ≤ badF f s pos
  | 0, _ => by simp [badF]
  | f + 1, pos => by
    rw [badF]
    split
    · split
      · omega
      · exact badS_ge s f _
    · omega

set_option maxHeartbeats 400000 in
set_option maxRecDepth 10000 in
theorem refValid_any (s : ByteArray) (w : World) (hs : s.size ≤ 4611686018427387904) :
    Calls Tryz.prog 98 #[.string s] w fun e w' => e = .returned (.bool (validB s)) ∧ w = w' := by
  by_cases h : s.size ≤ 65535
  · have h1 : decide ((s.size : Int) ≤ 65535) = true := decide_eq_true (by omega)
    have hge : -1 ≤ badS s := badS_ge s _ _
    have HF : Hid (validB s = decide (badS s < 0)) := Lib.hid (by
      unfold validB
      rw [decide_eq_true h, Bool.true_and, Bool.eq_iff_iff]
      simp
      omega)
    have HS := Lib.hid hs
    clear h hge hs
    go_enter Tryz.func98, Tryz.ntmps98
    go_wp2_with fail
    refine (refBadS_any s _ HS.out).mono ?_
    rintro e w1 ⟨rfl, rfl⟩
    cases hk : decide (badS s < 0)
    · rw [hk] at HF
      go_wp2
      go_ret
      exact ⟨by rw [HF.out]; rfl, rfl⟩
    · rw [hk] at HF
      go_wp2
      go_ret
      exact ⟨by rw [HF.out]; rfl, rfl⟩
  · have h1 : decide ((s.size : Int) ≤ 65535) = false := decide_eq_false (by omega)
    have HF : Hid (validB s = false) := Lib.hid (by simp [validB, h])
    clear h
    go_enter Tryz.func98, Tryz.ntmps98
    go_wp2
    go_ret
    exact ⟨by rw [HF.out]; rfl, rfl⟩

end Go.Proofs.YtpcaffimahapjaaGreat
