/- publish: the chapter's example; the reference's names. -/
import Derived.Test.YtmkkjiogokfnmaaDoorMPubA
import Derived.Test.YtmkkjiogokfnmaaDoorMRef
namespace Go.Proofs.YtmkkjiogokfnmaaDoor
open Go.RowKit
attribute [local go_sem ↓] to_ldPk to_bxPk to_bdPk to_alPk to_stPk
attribute [local go_sem] run_bxPk run_bxPk_agg ld_fresh run_alPk run_bd0 run_bdK run_bdKI run_bdKIC run_bdKC run_bdKICP run_stPk_fresh pkC_0 pkC_1 pkC_2 pkC_3 pkC_4 pkC_5 pkC_6 pkC_7 pkC_8 pkC_9 pkC_10 pkC_11 pkC_12 pkC_13 pkC_14 pkC_15 pkC_16 pkC_17 pkC_18 pkC_19 pkC_20 pkC_21 pkC_22 pkC_23 pkC_24
def hasL (l : List UInt8) (c : UInt8) : Bool := l.contains c
theorem hasL_cons (b : UInt8) (l : List UInt8) (c : UInt8) : hasL (b :: l) c = (c == b || hasL l c) := List.contains_cons
theorem u8_ne {a b : UInt8} (h : a ≠ b) : (a.toNat : Int) ≠ (b.toNat : Int) := fun x => h (UInt8.toNat_inj.1 (by omega))
set_option maxHeartbeats 1000000 in
set_option maxRecDepth 10000 in
theorem hasS_any (s : ByteArray) (c : UInt8) (w : World) (hs : s.size ≤ 4611686018427387904) :
    Calls Tryd.prog 15 #[.string s, .int .u8 (c.toNat : Int)] w fun e w' => e = .returned (.bool (hasL (ls s) c)) ∧ w = w' := by
  have HS := Lib.hid hs; clear hs
  go_enter Tryd.func15, Tryd.ntmps15
  go_wp2
  go_loop [5] (fun i => ∃ k : Nat, k ≤ s.size ∧ i = .int .i64 k ∧ hasL (ls s) c = hasL ((ls s).drop k) c) (fun i => s.size - (intOf i).toNat)
  case atStart => exact ⟨0, by omega, rfl, rfl⟩
  case round =>
    obtain ⟨k, hk, rfl, hc⟩ := hrel
    have HC := Lib.hid hc; clear hc
    by_cases hlt : k < s.size
    · have hd := List.drop_eq_getElem_cons (show k < (ls s).length by rw [ls_len]; exact hlt)
      rw [ls_at s k hlt] at hd
      obtain ⟨b, hb⟩ : ∃ b, s[k]'hlt = b := ⟨_, rfl⟩
      rw [hb] at hd
      have HD := Lib.hid hd; clear hd
      have b1 : (0 : Int) ≤ (k : Int) := by omega
      have b2 : (k : Int) < (s.size : Int) := by omega
      have hsz := HS.out
      by_cases h : b = c
      · have e1 : ((b.toNat : Int) == (c.toNat : Int)) = true := beq_iff_eq.2 (by rw [h])
        have HX : Hid (hasL (ls s) c = true) := Lib.hid (by rw [HC.out, HD.out, h, hasL_cons, beq_self_eq_true, Bool.true_or])
        clear h
        go_wp2
        go_ret
        exact ⟨by rw [HX.out]; rfl, rfl⟩
      · have e1 : ((b.toNat : Int) == (c.toNat : Int)) = false := beq_eq_false_iff_ne.2 (u8_ne h)
        have HX : Hid (hasL (ls s) c = hasL ((ls s).drop (k + 1)) c) := Lib.hid (by
          rw [HC.out, HD.out, hasL_cons, beq_eq_false_iff_ne.2 (fun x => h x.symm), Bool.false_or])
        clear h
        go_wp2
        go_round
        case rel => exact ⟨k + 1, by omega, by go_num, HX.out⟩
        case measure => simp [intOf]; omega
    · have HX : Hid (hasL (ls s) c = false) := Lib.hid (by rw [HC.out, List.drop_eq_nil_of_le (by rw [ls_len]; omega)]; rfl)
      have b2 : (s.size : Int) ≤ (k : Int) := by omega
      clear hlt
      go_wp2
      go_ret
      exact ⟨by rw [HX.out]; rfl, rfl⟩
theorem anyS_has (s : ByteArray) : anyS s = (hasL (ls s) 43 || hasL (ls s) 35) := by
  unfold anyS
  generalize ls s = l
  induction l with
  | nil => rfl
  | cons b l ih =>
    rw [List.any_cons, ih, hasL_cons, hasL_cons, special_low]
    by_cases h1 : b = 43
    · subst h1; simp
    · by_cases h2 : b = 35
      · subst h2; simp
      · have e : decide (b.toNat = 43 ∨ b.toNat = 35) = false := decide_eq_false (by
          rintro (x | x)
          · exact h1 (UInt8.toNat_inj.1 x)
          · exact h2 (UInt8.toNat_inj.1 x))
        rw [e, beq_eq_false_iff_ne.2 (fun x => h1 x.symm), beq_eq_false_iff_ne.2 (fun x => h2 x.symm)]
        simp
def oneP : Pk := { pk0 with kind := 3, qos := 1, id := 10, topic := ⟨#[97, 47, 98]⟩, payload := ⟨#[104, 105]⟩ }
theorem run_bdOne (w : World) : (bdPk #[(0, .int .i64 3), (3, .int .i64 1), (4, .int .i64 10), (5, .string ⟨#[97, 47, 98]⟩), (6, .string ⟨#[104, 105]⟩)]).run Tryd.prog w = .ok (pkV oneP hs0) w := by kernel_rfl
/-- A packet without lists. -/
theorem flat_in {p : Pk} (h1 : p.will.props = []) (h2 : p.codes = []) (h3 : p.filters = []) (h4 : p.props = []) (w : World) (B : Nat) : PkIn w B p hs0 := by
  refine ⟨?_, ?_, ?_, ?_, ?_, ?_, ?_, ?_⟩
  · rw [h1]; exact Rd.nil _ _ _ _
  · rw [h2]; exact Rd.nil _ _ _ _
  · rw [h3]; exact Rd.nil _ _ _ _
  · rw [h4]; exact Rd.nil _ _ _ _
  · rw [h1]; exact Nat.zero_le _
  · rw [h2]; exact Nat.zero_le _
  · rw [h3]; exact Nat.zero_le _
  · rw [h4]; exact Nat.zero_le _
theorem oneP_ok : PkOk oneP := by
  refine ⟨?_, ?_, ?_, ?_, ?_⟩
  · intro q hq; cases hq
  · intro q hq; cases hq
  · intro q hq; cases hq
  · decide +kernel
  · decide +kernel
set_option maxRecDepth 100000 in
theorem results_pk1 {fn : Func} {p : Tmp} (hr : fn.results = #[.cell p PkT]) (tmps : Array Value) {w : World} {g : Nat} {q : Pk} {h : Hs} (hp : tmps.getD p undef = .pointer (some ⟨g, 0, none⟩)) (hb : Bk w g PkT (pkC q h)) :
    (results fn tmps).run Tryd.prog w = .ok (pkV q h) w := by
  have hl := lv_bk hb
  have e : (results fn tmps).run Tryd.prog w = ((asAddr (tmps.getD p undef)).run Tryd.prog w).andThen fun a w₁ => (loadVar PkT a).run Tryd.prog w₁ := by
    simp only [results, hr]
    simp [Sem.run_bind, Result.andThen]
  rw [e, hp]
  generalize pkV q h = V at hl ⊢
  exact then_ok _ (⟨g, 0, none⟩ : Addr) w _ rfl |>.trans hl
theorem example_pub : pubB 4 oneP = (⟨#[0, 3, 97, 47, 98, 0, 10, 104, 105]⟩, 0) := by decide +kernel
end Go.Proofs.YtmkkjiogokfnmaaDoor
