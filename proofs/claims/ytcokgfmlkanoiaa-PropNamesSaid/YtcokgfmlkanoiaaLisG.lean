/- prop.Read: the walk. prop.Same, polyglotkit.Same of properties. -/
import Derived.Test.YtcokgfmlkanoiaaLisC
import Derived.Test.YtcokgfmlkanoiaaLisF
namespace Go.Proofs.Ytcokgfmlkanoiaa
open Go.RowKit

theorem ret_tup (A : Option Addr) (n c : Nat) (x y : Int) (h : x = y) : Ending.returned (.tuple #[.slice A n c, .int .i64 x, .int .i64 0]) = .returned (.tuple #[.slice A n c, .int .i64 y, .int .i64 0]) := by rw [h]
/-- What prop.Read leaves. -/
def ReadOut (r : List Pr × Nat × Int) (w : World) (e : Ending) (w' : World) : Prop :=
  ∃ A c, e = .returned (.tuple #[.slice A r.1.length c, .int .i64 r.2.1, .int .i64 r.2.2]) ∧ r.1.length ≤ c ∧ Rd w' w'.heap.size 4 A r.1.length (prs r.1) ∧ Below w.heap.size w w'
theorem readOut_bad {r : List Pr × Nat × Int} {x : Int} {w w' : World} (h : r = ([], 0, x)) (hb : Below w.heap.size w w') : ReadOut r w (.returned (.tuple #[.slice none 0 0, .int .i64 0, .int .i64 x])) w' := by
  subst h
  exact ⟨none, 0, rfl, Nat.le_refl _, Rd.nil _ _ _ _, hb⟩

set_option maxHeartbeats 1000000 in
set_option maxRecDepth 10000 in
theorem readP_any (kind : Int) (s : ByteArray) (w : World) (hs : s.size ≤ 140737488351232) :
    Calls Try.prog 42 #[.int .i64 kind, .string s] w (ReadOut (readP kind s) w) := by
  have hlt := readV_lt (ls s)
  have hsz := readV_size (ls s)
  rw [ls_len] at hsz
  have HV := Lib.hid (readV_any s w (by omega))
  have HP : Hid (readP kind s = if (readV (ls s)).2.2 ≠ 0 then ([], 0, (readV (ls s)).2.2)
    else if s.size < (readV (ls s)).2.1 + (readV (ls s)).1 then ([], 0, 3)
    else if (listS kind (s.extract (readV (ls s)).2.1 ((readV (ls s)).2.1 + (readV (ls s)).1))).2 ≠ 0 then ([], 0, (listS kind (s.extract (readV (ls s)).2.1 ((readV (ls s)).2.1 + (readV (ls s)).1))).2)
    else ((listS kind (s.extract (readV (ls s)).2.1 ((readV (ls s)).2.1 + (readV (ls s)).1))).1, (readV (ls s)).2.1 + (readV (ls s)).1, 0)) := Lib.hid rfl
  generalize readV (ls s) = R at *
  obtain ⟨n, k, x⟩ := R
  simp only at hlt hsz HP HV
  have HS := Lib.hid hs
  by_cases hx : x = 0
  · subst hx
    by_cases hlen : s.size < k + n
    · have HX : Hid (readP kind s = ([], 0, 3)) := Lib.hid (by rw [HP.out, if_neg (by decide), if_pos hlen])
      have d1 : (s.size : Int) - (k : Int) < (n : Int) := by omega
      clear hlen HP
      go_enter Try.func42, Try.ntmps42
      go_wp2_with fail
      refine HV.out.mono ?_
      rintro e w1 ⟨rfl, hb⟩
      have HB := Lib.hid hb; clear hb
      go_wp2
      go_ret3
      exact readOut_bad HX.out HB.out
    · have HX : Hid (readP kind s = if (listS kind (s.extract k (k + n))).2 ≠ 0 then ([], 0, (listS kind (s.extract k (k + n))).2) else ((listS kind (s.extract k (k + n))).1, k + n, 0)) := Lib.hid (by rw [HP.out, if_neg (by decide), if_neg hlen])
      have d1 : (n : Int) ≤ (s.size : Int) - (k : Int) := by omega
      have d2 : (k : Int) + (n : Int) ≤ (s.size : Int) := by omega
      have d3 : (k : Int) ≤ (k : Int) + (n : Int) := by omega
      have d4 : (0 : Int) ≤ (k : Int) := by omega
      have d5 : k + n ≤ s.size := by omega
      clear hlen HP
      go_enter Try.func42, Try.ntmps42
      go_wp2_with fail
      refine HV.out.mono ?_
      rintro e w1 ⟨rfl, hb⟩
      have HB := Lib.hid hb; clear hb
      go_wp2_with fail
      refine (list_any kind (s.extract k (k + n)) _ (by rw [ByteArray.size_extract]; have := HS.out; omega)).mono ?_
      rintro e w2 ⟨A, c, rfl, hc, hrd, hb⟩
      generalize listS kind (s.extract k (k + n)) = L at *
      obtain ⟨l, y⟩ := L
      simp only at HX hrd hc
      have HRD := Lib.hid hrd; have HC := Lib.hid hc; have HB2 := Lib.hid (HB.out.trans (hb.mono HB.out.size)); clear hrd hc hb
      by_cases hy : y = 0
      · subst hy
        have HY : Hid (readP kind s = (l, k + n, 0)) := Lib.hid (by rw [HX.out, if_neg (by decide)])
        go_wp2
        go_ret3
        rw [HY.out]
        exact ⟨A, c, ret_tup A l.length c _ _ (by simp), HC.out, HRD.out, HB2.out⟩
      · have e0 : (y != 0) = true := bne_iff_ne.2 hy
        have HY : Hid (readP kind s = ([], 0, y)) := Lib.hid (by rw [HX.out, if_pos hy])
        clear hy
        go_wp2
        go_ret3
        exact readOut_bad HY.out HB2.out
  · have HX : Hid (readP kind s = ([], 0, x)) := Lib.hid (by rw [HP.out, if_pos hx])
    have e0 : (x != 0) = true := bne_iff_ne.2 hx
    clear hx HP
    go_enter Try.func42, Try.ntmps42
    go_wp2_with fail
    refine HV.out.mono ?_
    rintro e w1 ⟨rfl, hb⟩
    have HB := Lib.hid hb; clear hb
    go_wp2
    go_ret3
    exact readOut_bad HX.out HB.out
end Go.Proofs.Ytcokgfmlkanoiaa
