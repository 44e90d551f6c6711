/- Lists compared: the walks of polyglotkit.Same over filters, of head.equal, slices.EqualFunc, head.list. -/
import Derived.Test.YtdpeljnoaiaplaaPkA
namespace Go.Proofs.Ytdpeljnoaiaplaa
open Go.RowKit
set_option maxHeartbeats 1000000 in
set_option maxRecDepth 10000 in
theorem sameF_any (A A' : Option Addr) (n m c c' : Nat) (l l' : List Fi) (w : World) (e1 : l.length = n) (e2 : l'.length = m) (hl : Rd w w.heap.size 5 A n (fis l)) (hm : Rd w w.heap.size 5 A' m (fis l')) (hn : n ≤ 4611686018427387904) (hn' : m ≤ 4611686018427387904) :
    Calls Try.prog 74 #[.slice A n c, .slice A' m c'] w fun e w' => e = .returned (.bool (decide (l = l'))) ∧ Below w.heap.size w w' := by
  have hgt := guard_filter
  by_cases hlen : n = m
  · subst hlen
    have E1 := Lib.hid e1; have E2 := Lib.hid e2; clear e1 e2
    have HL := Lib.hid hl; have HM := Lib.hid hm; clear hl hm
    go_enter Try.func74, Try.ntmps74
    go_wp2
    go_loopw [5] (fun i wr => ∃ k : Nat, k ≤ n ∧ i = .int .i64 k ∧ (∀ j, j < k → l[j]? = l'[j]?) ∧ Below w.heap.size w wr) (fun i _ => n - (intOf i).toNat)
    case atStart => exact ⟨0, by omega, rfl, fun j hj => by omega, Below.refl _ _⟩
    case round =>
      obtain ⟨k, hk, rfl, hall, hbel⟩ := hrel
      have HA := Lib.hid hall; clear hall
      by_cases hlt : k < n
      · obtain ⟨bA, oA, rfl, hb, c0, c1, c2, c3, c4⟩ := (show Rd w w.heap.size 5 A l.length (fis l) by rw [E1.out]; exact HL.out).below hbel |>.atF (show k < l.length by rw [E1.out]; exact hlt)
        obtain ⟨bA', oA', rfl, hb', d0, d1, d2, d3, d4⟩ := (show Rd w w.heap.size 5 A' l'.length (fis l') by rw [E2.out]; exact HM.out).below hbel |>.atF (show k < l'.length by rw [E2.out]; exact hlt)
        have HZ : Hid (l[k]? = some (l[k]'(by rw [E1.out]; exact hlt))) := Lib.hid (List.getElem?_eq_getElem _)
        have HZ' : Hid (l'[k]? = some (l'[k]'(by rw [E2.out]; exact hlt))) := Lib.hid (List.getElem?_eq_getElem _)
        generalize l[k]'(by rw [E1.out]; exact hlt) = p at *
        generalize l'[k]'(by rw [E2.out]; exact hlt) = q at *
        have b1 : (0 : Int) ≤ (k : Int) := by omega
        have b2 : (k : Int) < (n : Int) := by omega
        have hne := fun W => neq_filter p q W
        by_cases he : p = q
        · subst he
          have hd : decide (p = p) = true := by simp
          rw [hd] at hne
          clear hd
          go_wp2
          go_quiet (fail)
          go_wp2
          go_roundw
          case rel =>
            refine ⟨k + 1, by omega, by go_num, fun j hj => ?_, below_drawn hbel _⟩
            rcases Nat.lt_succ_iff_lt_or_eq.1 hj with h | rfl
            · exact HA.out j h
            · rw [HZ.out, HZ'.out]
          case measure => simp [intOf]; omega
        · have hd : decide (p = q) = false := decide_eq_false he
          rw [hd] at hne
          have HE := Lib.hid he; clear he hd
          go_wp2
          go_quiet (fail)
          go_wp2
          go_ret
          refine ⟨?_, below_drawn hbel _⟩
          have : l ≠ l' := by
            rintro rfl
            have := HZ.out.symm.trans HZ'.out
            exact HE.out (by simpa using this)
          simp [this]
      · go_wp2
        go_ret
        refine ⟨?_, hbel⟩
        have : l = l' := by
          apply List.ext_getElem?
          intro j
          by_cases hj : j < k
          · exact HA.out j hj
          · rw [List.getElem?_eq_none (by have := E1.out; omega), List.getElem?_eq_none (by have := E2.out; omega)]
        simp [this]
  · have h1 : ((n : Int) != (m : Int)) = true := by simpa using (by omega : ¬ (n : Int) = (m : Int))
    have HN := Lib.hid hlen; have E1 := Lib.hid e1; have E2 := Lib.hid e2; clear hlen e1 e2 hl hm
    go_enter Try.func74, Try.ntmps74
    go_wp2
    go_ret
    refine ⟨?_, Below.refl _ _⟩
    have : l ≠ l' := by
      rintro rfl
      exact HN.out (E1.out.symm.trans E2.out)
    simp [this]

set_option maxHeartbeats 400000 in
set_option maxRecDepth 10000 in
theorem equalP_any (p q : Pr) (w : World) : Calls Try.prog 124 #[.agg #[.int .i64 p.id, .int .u32 p.n, .string p.text, .string p.value], .agg #[.int .i64 q.id, .int .u32 q.n, .string q.text, .string q.value]] w fun e w' => e = .returned (.bool (decide (p = q))) ∧ Below w.heap.size w w' := by
  have hgt := guard_prop
  have hne := fun W => eql_prop p q W
  generalize decide (p = q) = b at *
  have HL := Lib.hid (((Below.refl w.heap.size w).alloc (Nat.le_refl _) (.cells #[.int .i64 p.id, .int .u32 p.n, .string p.text, .string p.value] 46)).alloc (by simp) (.cells #[.int .i64 q.id, .int .u32 q.n, .string q.text, .string q.value] 46))
  go_enter Try.func124, Try.ntmps124
  go_wp2
  go_ret
  exact ⟨rfl, HL.out⟩

set_option maxHeartbeats 400000 in
set_option maxRecDepth 10000 in
theorem equalF_any (p q : Fi) (w : World) : Calls Try.prog 122 #[.agg #[.string p.topic, .int .i64 p.qos, .bool p.noLocal, .bool p.asPub, .int .i64 p.handling], .agg #[.string q.topic, .int .i64 q.qos, .bool q.noLocal, .bool q.asPub, .int .i64 q.handling]] w fun e w' => e = .returned (.bool (decide (p = q))) ∧ Below w.heap.size w w' := by
  have hgt := guard_filter
  have hne := fun W => eql_filter p q W
  generalize decide (p = q) = b at *
  have HL := Lib.hid (((Below.refl w.heap.size w).alloc (Nat.le_refl _) (.cells #[.string p.topic, .int .i64 p.qos, .bool p.noLocal, .bool p.asPub, .int .i64 p.handling] 65)).alloc (by simp) (.cells #[.string q.topic, .int .i64 q.qos, .bool q.noLocal, .bool q.asPub, .int .i64 q.handling] 65))
  go_enter Try.func122, Try.ntmps122
  go_wp2
  go_ret
  exact ⟨rfl, HL.out⟩

set_option maxHeartbeats 400000 in
theorem equalI_any (p q : Int) (w : World) : Calls Try.prog 120 #[.int .i64 p, .int .i64 q] w fun e w' => e = .returned (.bool (decide (p = q))) ∧ Below w.heap.size w w' := by
  go_enter Try.func120, Try.ntmps120
  go_wp2
  go_ret
  refine ⟨?_, Below.refl _ _⟩
  by_cases h : p = q <;> simp [h]

set_option maxHeartbeats 1000000 in
set_option maxRecDepth 10000 in
theorem eqfP_any (A A' : Option Addr) (n m c c' : Nat) (l l' : List Pr) (w : World) (e1 : l.length = n) (e2 : l'.length = m) (hl : Rd w w.heap.size 4 A n (prs l)) (hm : Rd w w.heap.size 4 A' m (prs l')) (hn : n ≤ 4611686018427387904) (hn' : m ≤ 4611686018427387904) :
    Calls Try.prog 123 #[.slice A n c, .slice A' m c', .func (.func 124) #[] #[]] w fun e w' => e = .returned (.bool (decide (l = l'))) ∧ Below w.heap.size w w' := by
  by_cases hlen : n = m
  · subst hlen
    have E1 := Lib.hid e1; have E2 := Lib.hid e2; clear e1 e2
    have HL := Lib.hid hl; have HM := Lib.hid hm; clear hl hm
    go_enter Try.func123, Try.ntmps123
    go_wp2
    go_loopw [17] (fun i wr => ∃ k : Nat, k ≤ n ∧ i = .int .i64 k ∧ (∀ j, j < k → l[j]? = l'[j]?) ∧ Below w.heap.size w wr) (fun i _ => n - (intOf i).toNat)
    case atStart => exact ⟨0, by omega, rfl, fun j hj => by omega, Below.refl _ _⟩
    case round =>
      obtain ⟨k, hk, rfl, hall, hbel⟩ := hrel
      have HA := Lib.hid hall; clear hall
      by_cases hlt : k < n
      · obtain ⟨bA, oA, rfl, hb, c0, c1, c2, c3⟩ := (show Rd w w.heap.size 4 A l.length (prs l) by rw [E1.out]; exact HL.out).below hbel |>.atP (show k < l.length by rw [E1.out]; exact hlt)
        obtain ⟨bA', oA', rfl, hb', d0, d1, d2, d3⟩ := (show Rd w w.heap.size 4 A' l'.length (prs l') by rw [E2.out]; exact HM.out).below hbel |>.atP (show k < l'.length by rw [E2.out]; exact hlt)
        have HZ : Hid (l[k]? = some (l[k]'(by rw [E1.out]; exact hlt))) := Lib.hid (List.getElem?_eq_getElem _)
        have HZ' : Hid (l'[k]? = some (l'[k]'(by rw [E2.out]; exact hlt))) := Lib.hid (List.getElem?_eq_getElem _)
        generalize l[k]'(by rw [E1.out]; exact hlt) = p at *
        generalize l'[k]'(by rw [E2.out]; exact hlt) = q at *
        have b1 : (0 : Int) ≤ (k : Int) := by omega
        have b2 : (k : Int) < (n : Int) := by omega
        have hz := hbel.size
        have hbl : bA < wr.heap.size := by omega
        have hbl' : bA' < wr.heap.size := by omega
        have HB2 := Lib.hid ((hbel.alloc hz (.cells #[.int .i64 p.id, .int .u32 p.n, .string p.text, .string p.value] 46)).alloc (by simp; omega) (.cells #[.int .i64 q.id, .int .u32 q.n, .string q.text, .string q.value] 46))
        go_wp2_with fail
        refine (equalP_any p q _).mono ?_
        rintro e w2 ⟨rfl, hb2⟩
        have HB3 := Lib.hid (HB2.out.trans (hb2.mono HB2.out.size)); clear hb2
        by_cases he : p = q
        · rw [decide_eq_true he]
          have HE := Lib.hid he; clear he
          go_wp2
          go_roundw
          case rel =>
            refine ⟨k + 1, by omega, by go_num, fun j hj => ?_, HB3.out⟩
            rcases Nat.lt_succ_iff_lt_or_eq.1 hj with h | rfl
            · exact HA.out j h
            · rw [HZ.out, HZ'.out]; rw [HE.out]
          case measure => simp [intOf]; omega
        · rw [decide_eq_false he]
          have HE := Lib.hid he; clear he
          go_wp2
          go_ret
          refine ⟨?_, HB3.out⟩
          have : l ≠ l' := by
            rintro rfl
            have := HZ.out.symm.trans HZ'.out
            exact HE.out (by simpa using this)
          simp [this]
      · go_wp2
        go_ret
        refine ⟨?_, hbel⟩
        have : l = l' := by
          apply List.ext_getElem?
          intro j
          by_cases hj : j < k
          · exact HA.out j hj
          · rw [List.getElem?_eq_none (by have := E1.out; omega), List.getElem?_eq_none (by have := E2.out; omega)]
        simp [this]
  · have h1 : ((n : Int) != (m : Int)) = true := by simpa using (by omega : ¬ (n : Int) = (m : Int))
    have HN := Lib.hid hlen; have E1 := Lib.hid e1; have E2 := Lib.hid e2; clear hlen e1 e2 hl hm
    go_enter Try.func123, Try.ntmps123
    go_wp2
    go_ret
    refine ⟨?_, Below.refl _ _⟩
    have : l ≠ l' := by
      rintro rfl
      exact HN.out (E1.out.symm.trans E2.out)
    simp [this]

set_option maxHeartbeats 1000000 in
set_option maxRecDepth 10000 in
theorem eqfF_any (A A' : Option Addr) (n m c c' : Nat) (l l' : List Fi) (w : World) (e1 : l.length = n) (e2 : l'.length = m) (hl : Rd w w.heap.size 5 A n (fis l)) (hm : Rd w w.heap.size 5 A' m (fis l')) (hn : n ≤ 4611686018427387904) (hn' : m ≤ 4611686018427387904) :
    Calls Try.prog 121 #[.slice A n c, .slice A' m c', .func (.func 122) #[] #[]] w fun e w' => e = .returned (.bool (decide (l = l'))) ∧ Below w.heap.size w w' := by
  by_cases hlen : n = m
  · subst hlen
    have E1 := Lib.hid e1; have E2 := Lib.hid e2; clear e1 e2
    have HL := Lib.hid hl; have HM := Lib.hid hm; clear hl hm
    go_enter Try.func121, Try.ntmps121
    go_wp2
    go_loopw [17] (fun i wr => ∃ k : Nat, k ≤ n ∧ i = .int .i64 k ∧ (∀ j, j < k → l[j]? = l'[j]?) ∧ Below w.heap.size w wr) (fun i _ => n - (intOf i).toNat)
    case atStart => exact ⟨0, by omega, rfl, fun j hj => by omega, Below.refl _ _⟩
    case round =>
      obtain ⟨k, hk, rfl, hall, hbel⟩ := hrel
      have HA := Lib.hid hall; clear hall
      by_cases hlt : k < n
      · obtain ⟨bA, oA, rfl, hb, c0, c1, c2, c3, c4⟩ := (show Rd w w.heap.size 5 A l.length (fis l) by rw [E1.out]; exact HL.out).below hbel |>.atF (show k < l.length by rw [E1.out]; exact hlt)
        obtain ⟨bA', oA', rfl, hb', d0, d1, d2, d3, d4⟩ := (show Rd w w.heap.size 5 A' l'.length (fis l') by rw [E2.out]; exact HM.out).below hbel |>.atF (show k < l'.length by rw [E2.out]; exact hlt)
        have HZ : Hid (l[k]? = some (l[k]'(by rw [E1.out]; exact hlt))) := Lib.hid (List.getElem?_eq_getElem _)
        have HZ' : Hid (l'[k]? = some (l'[k]'(by rw [E2.out]; exact hlt))) := Lib.hid (List.getElem?_eq_getElem _)
        generalize l[k]'(by rw [E1.out]; exact hlt) = p at *
        generalize l'[k]'(by rw [E2.out]; exact hlt) = q at *
        have b1 : (0 : Int) ≤ (k : Int) := by omega
        have b2 : (k : Int) < (n : Int) := by omega
        have hz := hbel.size
        have hbl : bA < wr.heap.size := by omega
        have hbl' : bA' < wr.heap.size := by omega
        have HB2 := Lib.hid ((hbel.alloc hz (.cells #[.string p.topic, .int .i64 p.qos, .bool p.noLocal, .bool p.asPub, .int .i64 p.handling] 65)).alloc (by simp; omega) (.cells #[.string q.topic, .int .i64 q.qos, .bool q.noLocal, .bool q.asPub, .int .i64 q.handling] 65))
        go_wp2_with fail
        refine (equalF_any p q _).mono ?_
        rintro e w2 ⟨rfl, hb2⟩
        have HB3 := Lib.hid (HB2.out.trans (hb2.mono HB2.out.size)); clear hb2
        by_cases he : p = q
        · rw [decide_eq_true he]
          have HE := Lib.hid he; clear he
          go_wp2
          go_roundw
          case rel =>
            refine ⟨k + 1, by omega, by go_num, fun j hj => ?_, HB3.out⟩
            rcases Nat.lt_succ_iff_lt_or_eq.1 hj with h | rfl
            · exact HA.out j h
            · rw [HZ.out, HZ'.out]; rw [HE.out]
          case measure => simp [intOf]; omega
        · rw [decide_eq_false he]
          have HE := Lib.hid he; clear he
          go_wp2
          go_ret
          refine ⟨?_, HB3.out⟩
          have : l ≠ l' := by
            rintro rfl
            have := HZ.out.symm.trans HZ'.out
            exact HE.out (by simpa using this)
          simp [this]
      · go_wp2
        go_ret
        refine ⟨?_, hbel⟩
        have : l = l' := by
          apply List.ext_getElem?
          intro j
          by_cases hj : j < k
          · exact HA.out j hj
          · rw [List.getElem?_eq_none (by have := E1.out; omega), List.getElem?_eq_none (by have := E2.out; omega)]
        simp [this]
  · have h1 : ((n : Int) != (m : Int)) = true := by simpa using (by omega : ¬ (n : Int) = (m : Int))
    have HN := Lib.hid hlen; have E1 := Lib.hid e1; have E2 := Lib.hid e2; clear hlen e1 e2 hl hm
    go_enter Try.func121, Try.ntmps121
    go_wp2
    go_ret
    refine ⟨?_, Below.refl _ _⟩
    have : l ≠ l' := by
      rintro rfl
      exact HN.out (E1.out.symm.trans E2.out)
    simp [this]

set_option maxHeartbeats 1000000 in
set_option maxRecDepth 10000 in
theorem eqfI_any (A A' : Option Addr) (n m c c' : Nat) (l l' : List Int) (w : World) (e1 : l.length = n) (e2 : l'.length = m) (hl : Rd w w.heap.size 1 A n (iv l)) (hm : Rd w w.heap.size 1 A' m (iv l')) (hn : n ≤ 4611686018427387904) (hn' : m ≤ 4611686018427387904) :
    Calls Try.prog 119 #[.slice A n c, .slice A' m c', .func (.func 120) #[] #[]] w fun e w' => e = .returned (.bool (decide (l = l'))) ∧ Below w.heap.size w w' := by
  by_cases hlen : n = m
  · subst hlen
    have E1 := Lib.hid e1; have E2 := Lib.hid e2; clear e1 e2
    have HL := Lib.hid hl; have HM := Lib.hid hm; clear hl hm
    go_enter Try.func119, Try.ntmps119
    go_wp2
    go_loopw [17] (fun i wr => ∃ k : Nat, k ≤ n ∧ i = .int .i64 k ∧ (∀ j, j < k → l[j]? = l'[j]?) ∧ Below w.heap.size w wr) (fun i _ => n - (intOf i).toNat)
    case atStart => exact ⟨0, by omega, rfl, fun j hj => by omega, Below.refl _ _⟩
    case round =>
      obtain ⟨k, hk, rfl, hall, hbel⟩ := hrel
      have HA := Lib.hid hall; clear hall
      by_cases hlt : k < n
      · obtain ⟨bA, oA, p, rfl, hb, hz1, c0⟩ := (HL.out.below hbel).atI hlt
        obtain ⟨bA', oA', q, rfl, hb', hz2, d0⟩ := (HM.out.below hbel).atI hlt
        have HZ := Lib.hid hz1; have HZ' := Lib.hid hz2; clear hz1 hz2
        have b1 : (0 : Int) ≤ (k : Int) := by omega
        have b2 : (k : Int) < (n : Int) := by omega
        go_wp2_with fail
        refine (equalI_any p q _).mono ?_
        rintro e w2 ⟨rfl, hb2⟩
        have HB3 := Lib.hid (hbel.trans (hb2.mono hbel.size)); clear hb2
        by_cases he : p = q
        · rw [decide_eq_true he]
          have HE := Lib.hid he; clear he
          go_wp2
          go_roundw
          case rel =>
            refine ⟨k + 1, by omega, by go_num, fun j hj => ?_, HB3.out⟩
            rcases Nat.lt_succ_iff_lt_or_eq.1 hj with h | rfl
            · exact HA.out j h
            · rw [HZ.out, HZ'.out]; rw [HE.out]
          case measure => simp [intOf]; omega
        · rw [decide_eq_false he]
          have HE := Lib.hid he; clear he
          go_wp2
          go_ret
          refine ⟨?_, HB3.out⟩
          have : l ≠ l' := by
            rintro rfl
            have := HZ.out.symm.trans HZ'.out
            exact HE.out (by simpa using this)
          simp [this]
      · go_wp2
        go_ret
        refine ⟨?_, hbel⟩
        have : l = l' := by
          apply List.ext_getElem?
          intro j
          by_cases hj : j < k
          · exact HA.out j hj
          · rw [List.getElem?_eq_none (by have := E1.out; omega), List.getElem?_eq_none (by have := E2.out; omega)]
        simp [this]
  · have h1 : ((n : Int) != (m : Int)) = true := by simpa using (by omega : ¬ (n : Int) = (m : Int))
    have HN := Lib.hid hlen; have E1 := Lib.hid e1; have E2 := Lib.hid e2; clear hlen e1 e2 hl hm
    go_enter Try.func119, Try.ntmps119
    go_wp2
    go_ret
    refine ⟨?_, Below.refl _ _⟩
    have : l ≠ l' := by
      rintro rfl
      exact HN.out (E1.out.symm.trans E2.out)
    simp [this]

set_option maxHeartbeats 1000000 in
set_option maxRecDepth 10000 in
theorem listI_any (A A' : Option Addr) (n m c c' : Nat) (l l' : List Int) (w : World) (e1 : l.length = n) (e2 : l'.length = m) (hl : Rd w w.heap.size 1 A n (iv l)) (hm : Rd w w.heap.size 1 A' m (iv l')) (hn : n ≤ 4611686018427387904) (hn' : m ≤ 4611686018427387904) :
    Calls Try.prog 90 #[.slice A n c, .slice A' m c'] w fun e w' => e = .returned (.bool (decide (l = l'))) ∧ Below w.heap.size w w' := by
  have H := Lib.hid (eqfI_any A A' n m c c' l l' w e1 e2 hl hm hn hn')
  clear e1 e2 hl hm
  go_enter Try.func90, Try.ntmps90
  go_wp2_with fail
  refine H.out.mono ?_
  rintro e w2 ⟨rfl, hb2⟩
  go_wp2
  go_ret
  exact ⟨rfl, hb2⟩

set_option maxHeartbeats 1000000 in
set_option maxRecDepth 10000 in
theorem listF_any (A A' : Option Addr) (n m c c' : Nat) (l l' : List Fi) (w : World) (e1 : l.length = n) (e2 : l'.length = m) (hl : Rd w w.heap.size 5 A n (fis l)) (hm : Rd w w.heap.size 5 A' m (fis l')) (hn : n ≤ 4611686018427387904) (hn' : m ≤ 4611686018427387904) :
    Calls Try.prog 91 #[.slice A n c, .slice A' m c'] w fun e w' => e = .returned (.bool (decide (l = l'))) ∧ Below w.heap.size w w' := by
  have H := Lib.hid (eqfF_any A A' n m c c' l l' w e1 e2 hl hm hn hn')
  clear e1 e2 hl hm
  go_enter Try.func91, Try.ntmps91
  go_wp2_with fail
  refine H.out.mono ?_
  rintro e w2 ⟨rfl, hb2⟩
  go_wp2
  go_ret
  exact ⟨rfl, hb2⟩

set_option maxHeartbeats 1000000 in
set_option maxRecDepth 10000 in
theorem listP_any (A A' : Option Addr) (n m c c' : Nat) (l l' : List Pr) (w : World) (e1 : l.length = n) (e2 : l'.length = m) (hl : Rd w w.heap.size 4 A n (prs l)) (hm : Rd w w.heap.size 4 A' m (prs l')) (hn : n ≤ 4611686018427387904) (hn' : m ≤ 4611686018427387904) :
    Calls Try.prog 92 #[.slice A n c, .slice A' m c'] w fun e w' => e = .returned (.bool (decide (l = l'))) ∧ Below w.heap.size w w' := by
  have H := Lib.hid (eqfP_any A A' n m c c' l l' w e1 e2 hl hm hn hn')
  clear e1 e2 hl hm
  go_enter Try.func92, Try.ntmps92
  go_wp2_with fail
  refine H.out.mono ?_
  rintro e w2 ⟨rfl, hb2⟩
  go_wp2
  go_ret
  exact ⟨rfl, hb2⟩

end Go.Proofs.Ytdpeljnoaiaplaa
