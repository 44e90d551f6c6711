/- Walks of reason: All. -/
import Derived.Test.YtcokgfmlkanoiaaReaE
namespace Go.Proofs.Ytcokgfmlkanoiaa
open Go.RowKit

theorem info_int : (Try.prog.info? 3).map (fun i => (i.zero, i.size, i.bytes)) = some (some (.int .i64 0), 1, 8) := by kernel_rfl
def allTo (kind : Int) (k : Nat) : List Nat := (List.range k).filter fun c => may kind (c : Int)
def allL (kind : Int) : List Nat := allTo kind 256
theorem allTo_succ (kind : Int) (k : Nat) : allTo kind (k + 1) = if may kind (k : Int) = true then allTo kind k ++ [k] else allTo kind k := by
  unfold allTo
  rw [List.range_succ, List.filter_append]
  by_cases h : may kind (k : Int) = true <;> simp [h]
theorem allTo_len (kind : Int) (k : Nat) : (allTo kind k).length ≤ k := by
  have := List.length_filter_le (fun c : Nat => may kind (c : Int)) (List.range k)
  simpa [allTo] using this

set_option maxHeartbeats 400000 in
set_option maxRecDepth 10000 in
theorem all_any (kind : Int) (w : World) :
    Calls Try.prog 19 #[.int .i64 kind] w fun e w' => ∃ v, e = .returned v ∧ w'.ownsRow w.heap.size 3 1 v (allL kind).length (ints (allL kind)) ∧ Below w.heap.size w w' := by
  go_enter Try.func19, Try.ntmps19
  go_wp2_with fail
  refine (codes_any _ _).mono ?_
  rintro e w1 ⟨rfl, hb1⟩
  have hs1 := hb1.size
  rw [wcells_def]
  go_wp2
  go_loopw [4, 8] (fun v i wr => ∃ k : Nat, k ≤ 256 ∧ i = .int .i64 k ∧ wr.ownsRow w.heap.size 3 1 v (allTo kind k).length (ints (allTo kind k)) ∧ Bk wr w1.heap.size 58 (wcells (codes kind)) ∧ Below w.heap.size w wr) (fun _ i _ => 256 - (intOf i).toNat)
  case atStart => exact ⟨0, by omega, rfl, World.ownsRow_nil _ _ _ _, by simpa [wcells_def] using Bk.fresh w1 58 _, (hb1.alloc hs1 _)⟩
  case round =>
    obtain ⟨k, hk, rfl, hown, hbk, hbel⟩ := hrel
    have hsz := hbel.size
    have HO := Lib.hid hown; have HK := Lib.hid hbk; clear hown
    by_cases hlt : k < 256
    · obtain ⟨⟨c0, c1, c2, c3⟩, _⟩ := hbk.four
      clear hbk
      go_wp2_with fail
      refine (has_any (codes kind) _ _ (codes_ok kind)).mono ?_
      rintro e w2 ⟨rfl, hb2⟩
      have hs2 := hb2.size
      have HO2 := Lib.hid (own_below HO.out hb2)
      have HK2 := Lib.hid (HK.out.below hb2 HK.out.lt)
      have hbel2 := hbel.trans (hb2.mono hsz)
      have HS := Lib.hid (allTo_succ kind k)
      have hlen := allTo_len kind k
      clear hb2 HO HK c0 c1 c2 c3
      have hmay : hasB (codes kind) (k : Int) = may kind (k : Int) := rfl
      rw [hmay]
      clear hmay
      by_cases hm : may kind (k : Int) = true
      · have HM := Lib.hid hm; clear hm
        rw [HM.out]
        go_wp2_with (at_builtin; refine wpList_app _ rfl (.tmp 14) (.tmp 16) 27 rfl w.heap.size 3 (.int .i64 0) 1 8 Try.underlying27 info_int rfl (by decide) u4 _ _ rfl (HO2.out.alloc _) _ _ 1 1 [.int .i64 (k : Int)] rfl (Rd.lit _ _ _ rfl (Nat.lt_succ_self _) rfl) (ints_one [k]) (by unfold maxLen; omega) (by omega) (by simp; omega) ?_; intro v' w3 hown3 hg3 hat3)
        have R : w3.ownsRow w.heap.size 3 1 v' (allTo kind (k + 1)).length (ints (allTo kind (k + 1))) ∧ Bk w3 w1.heap.size 58 (wcells (codes kind)) ∧ Below w.heap.size w w3 := by
          rw [HS.out, if_pos HM.out]
          refine ⟨by simpa [ints] using hown3, ?_, ?_⟩
          · exact (HK2.out.alloc _).app hg3 (own_ne (HO2.out.alloc (.cells #[.int .i64 (k : Int)] 3)) (HK2.out.alloc _) (by decide))
          · exact below_app (hbel2.alloc (by omega) _) hg3 (by simp; omega) (fun g hg => (own_block HO2.out g hg).1)
        clear hown3 hg3 hat3 HO2 HK2 hbel2
        go_wp2
        go_roundw
        case rel => exact ⟨k + 1, by omega, by go_num, R.1, R.2.1, R.2.2⟩
        case measure => simp [intOf]; omega
      · have hm' : may kind (k : Int) = false := by simpa using hm
        rw [hm']
        have R : allTo kind (k + 1) = allTo kind k := by rw [HS.out, if_neg hm]
        have HR := Lib.hid R
        clear hm hm' R
        go_wp2
        go_roundw
        case rel => exact ⟨k + 1, by omega, by go_num, by rw [HR.out]; exact HO2.out, HK2.out, hbel2⟩
        case measure => simp [intOf]; omega
    · obtain rfl : k = 256 := by omega
      clear hbk
      go_wp2
      go_ret
      exact ⟨_, rfl, HO.out, hbel⟩

end Go.Proofs.Ytcokgfmlkanoiaa
