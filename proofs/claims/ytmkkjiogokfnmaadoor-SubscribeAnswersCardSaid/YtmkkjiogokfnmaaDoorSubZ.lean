/- The law SubscribeAnswers: the walk. -/
import Derived.Test.YtmkkjiogokfnmaaDoorMSubG
import Derived.Test.YtmkkjiogokfnmaaDoorMFilE
import Derived.Test.YtmkkjiogokfnmaaDoorMReaB
import Derived.Test.YtmkkjiogokfnmaaDoorLimP
import Derived.Deep.RegionLaw
namespace Go.Proofs.YtmkkjiogokfnmaaDoor
open Go.RowKit
attribute [local go_sem ↓] to_ldPk to_bxPk to_bdPk to_alPk to_stPk
attribute [local go_sem] run_bxPk run_bxPk_agg ld_fresh run_alPk run_bd0 run_bdK run_bdKI run_bdKIC run_bdKC run_bdKICP run_stPk_fresh pkC_0 pkC_1 pkC_2 pkC_3 pkC_4 pkC_5 pkC_6 pkC_7 pkC_8 pkC_9 pkC_10 pkC_11 pkC_12 pkC_13 pkC_14 pkC_15 pkC_16 pkC_17 pkC_18 pkC_19 pkC_20 pkC_21 pkC_22 pkC_23 pkC_24
def verW (v : Int) : Int := if v % 2 = 0 then 4 else 5
theorem verW_or (v : Int) : verW v = 4 ∨ verW v = 5 := by unfold verW; split <;> simp
theorem tmod_twoW (v : Int) : (v.tmod 2 = 0) ↔ v % 2 = 0 := by
  rw [← Int.dvd_iff_tmod_eq_zero, Int.dvd_iff_emod_eq_zero]
set_option maxHeartbeats 400000 in
theorem verW_any (v : Int) (w : World) : Calls Tryd.prog 5 #[.int .i64 v] w fun e w' => e = .returned (.int .i64 (verW v)) ∧ w = w' := by
  by_cases h : v % 2 = 0
  · have HV : Hid (verW v = 4) := Lib.hid (if_pos h)
    have e0 : (v.tmod 2 == 0) = true := beq_iff_eq.2 ((tmod_twoW v).2 h)
    clear h
    go_enter Tryd.func5, Tryd.ntmps5
    go_wp2
    go_ret
    exact ⟨by rw [HV.out]; rfl, rfl⟩
  · have HV : Hid (verW v = 5) := Lib.hid (if_neg h)
    have e0 : (v.tmod 2 == 0) = false := beq_eq_false_iff_ne.2 (fun x => h ((tmod_twoW v).1 x))
    clear h
    go_enter Tryd.func5, Tryd.ntmps5
    go_wp2
    go_ret
    exact ⟨by rw [HV.out]; rfl, rfl⟩
/-- A filter with nothing but its topic; who asks for such; who answers with codes. -/
def fiT (t : ByteArray) : Fi := ⟨t, 0, false, false, 0⟩
def askP (i : Int) (l : List ByteArray) : Pk := { pk0 with kind := 8, id := i, filters := l.map fiT }
def ansP (i : Int) (c : List Int) : Pk := { pk0 with kind := 9, id := i, codes := c }
theorem fiT_opt {v : Int} (hv : v = 4 ∨ v = 5) (t : ByteArray) : optB v 8 (fiT t) = true := by
  have h1 : fiPlain (fiT t) = true := decide_eq_true rfl
  unfold optB
  rw [if_neg (by decide), h1]
  rcases hv with rfl | rfl
  · rfl
  · rw [if_neg (by decide)]
    show (sbLow 0 && (sbLow 0 && !(sharedB t && false))) = true
    rw [Bool.and_false]
    rfl
theorem askP_E {v i : Int} (hv : v = 4 ∨ v = 5) (hi : 1 ≤ i ∧ i ≤ 65535) {l : List ByteArray} (hf : ∀ t ∈ l, filterB t = true) : sbE v (askP i l) = if l = [] then 2 else 0 := by
  have hk : sbKnown v (askP i l).kind = true := decide_eq_true ⟨hv, (by decide : (8 : Int) ≤ 8), (by decide : (8 : Int) ≤ 11)⟩
  have hq : askP i l = sbQ v (askP i l) := rfl
  have hh : sbHave v (askP i l) = decide (0 < l.length) := by
    show decide (0 < (l.map fiT).length) = _
    rw [List.length_map]
  have hb : (bytesS (askP i l).kind (askP i l).props).2 = 0 := by rw [show (askP i l).props = [] from rfl, bytesS_none]
  have hfi : fiE v 8 (l.map fiT) = 0 := fiE_all.2 (fun f hm => by
    obtain ⟨t, ht, rfl⟩ := List.mem_map.1 hm
    exact ⟨hf t ht, fiT_opt hv t⟩)
  have hF : sbFields v (askP i l) = decide (0 < l.length) := by
    unfold sbFields
    rw [decide_eq_true hq, hh, Bool.and_true]
    show (!(decide (i < 1) || (decide (65535 < i) || (decide (v = 4) && decide (0 < 0)))) && _) = _
    rw [decide_eq_false (by omega), decide_eq_false (by omega)]
    simp
  unfold sbE sbArg
  rw [hk, hF, Bool.true_and]
  cases l with
  | nil => rfl
  | cons t l =>
    rw [if_neg (by simp), if_neg (fun x => x hb), show (askP i (t :: l)).filters = (t :: l).map fiT from rfl, show (askP i (t :: l)).kind = 8 from rfl, hfi, if_neg (by decide)]
    rfl
theorem ansP_E {v i : Int} (hv : v = 4 ∨ v = 5) (hi : 1 ≤ i ∧ i ≤ 65535) (c : List Int) : decide (sbE v (ansP i c) = 0) = (decide (0 < c.length) && c.all (ansB v 9)) := by
  have hk : sbKnown v (ansP i c).kind = true := decide_eq_true ⟨hv, (by decide : (8 : Int) ≤ 9), (by decide : (9 : Int) ≤ 11)⟩
  have hs : sbSil v 9 = false := by unfold sbSil; rw [decide_eq_false (by omega)]
  have hq : ansP i c = sbQ v (ansP i c) := by
    unfold sbQ
    rw [show sbAsk (ansP i c).kind = false from rfl, if_neg (by decide), show (ansP i c).kind = 9 from rfl, hs, if_neg (by decide)]
    rfl
  have hh : sbHave v (ansP i c) = decide (0 < c.length) := by
    unfold sbHave
    rw [show sbAsk (ansP i c).kind = false from rfl, if_neg (by decide), show (ansP i c).kind = 9 from rfl, hs, if_neg (by decide)]
    rfl
  have hb : (bytesS (ansP i c).kind (ansP i c).props).2 = 0 := by rw [show (ansP i c).props = [] from rfl, bytesS_none]
  have hF : sbFields v (ansP i c) = decide (0 < c.length) := by
    unfold sbFields
    rw [decide_eq_true hq, hh, Bool.and_true]
    show (!(decide (i < 1) || (decide (65535 < i) || (decide (v = 4) && decide (0 < 0)))) && _) = _
    rw [decide_eq_false (by omega), decide_eq_false (by omega)]
    simp
  unfold sbE sbArg
  rw [hk, hF, Bool.true_and]
  cases c with
  | nil => rfl
  | cons z c =>
    rw [if_neg (by simp), if_neg (fun x => x hb), show (ansP i (z :: c)).filters = [] from rfl, show fiE v (ansP i (z :: c)).kind [] = 0 from rfl, if_neg (by decide), show (ansP i (z :: c)).codes = z :: c from rfl, show (ansP i (z :: c)).kind = 9 from rfl]
    rw [decide_eq_true (show 0 < (z :: c).length by simp), Bool.true_and, Bool.eq_iff_iff, decide_eq_true_iff, cdE_all, List.all_eq_true]
/-- What the law says is right. -/
def rightA (v : Int) (l : List ByteArray) (c : List Int) : Bool := (decide (0 < l.length) && decide (c.length = l.length)) && c.all (ansB v 9)
theorem ans_right {v i : Int} (hv : v = 4 ∨ v = 5) (hi : 1 ≤ i ∧ i ≤ 65535) {l : List ByteArray} (hf : ∀ t ∈ l, filterB t = true) (c : List Int) : sbAns v (askP i l) (ansP i c) = rightA v l c := by
  have h1 := askP_E hv hi hf
  have h2 := ansP_E hv hi c
  have h3 : decide (sbE v (askP i l) = 0) = decide (0 < l.length) := by
    rw [h1, decide_eq_decide]
    cases l with
    | nil => simp
    | cons t l => simp
  have h4 : sbSil v (ansP i c).kind = false := by
    show sbSil v 9 = false
    unfold sbSil
    rw [decide_eq_false (by omega)]
  have h5 : (askP i l).filters.length = l.length := by
    show (l.map fiT).length = _
    rw [List.length_map]
  have h6 : sbAsk (askP i l).kind = true := rfl
  have h7 : decide ((ansP i c).kind = (askP i l).kind + 1) = true := rfl
  have h8 : decide ((ansP i c).id = (askP i l).id) = true := decide_eq_true rfl
  have h9 : (ansP i c).codes.length = c.length := rfl
  unfold sbAns rightA
  rw [h2, h3, h4, h5, h6, h7, h8, h9, Bool.true_and, Bool.true_and, Bool.true_and, Bool.false_or]
  by_cases hl : 0 < l.length
  · by_cases hc : c.length = l.length
    · rw [decide_eq_true hl, decide_eq_true hc, decide_eq_true (show 0 < c.length by omega)]
      simp
    · rw [decide_eq_false hc]
      simp
  · rw [decide_eq_false hl]
    simp
theorem run_bdKIS (k i : Int) (l : List Int) (A : Option Addr) (n : Nat) (w : World) : (bdPk #[(0, .int .i64 k), (4, .int .i64 i), (18, .slice A l.length n)]).run Tryd.prog w = .ok (pkV { pk0 with kind := k, id := i, codes := l } { hs0 with codes := ⟨A, n⟩ }) w := by kernel_rfl
theorem St.addA {w x : World} {l : List (Nat × Pk × Hs)} {g : Nat} {p : Pk} {h : Hs} (s : St w l x) (hg : w.heap.size ≤ g) (hb : Bk x g PkT (pkC p h)) (ip : PkIn x x.heap.size p h) : St w (l ++ [(g, p, h)]) x := by
  refine ⟨s.kept, fun i g' p' h' e => ?_⟩
  rcases Nat.lt_or_ge i l.length with hi | hi
  · rw [List.getElem?_append_left hi] at e
    exact s.pks i g' p' h' e
  · rw [List.getElem?_append_right hi] at e
    obtain rfl | ⟨k, hk⟩ : i = l.length ∨ ∃ k, i = l.length + (k + 1) := by
      rcases Nat.eq_or_lt_of_le hi with h | h
      · exact .inl h.symm
      · exact .inr ⟨i - l.length - 1, by omega⟩
    · simp only [Nat.sub_self, List.getElem?_cons_zero, Option.some.injEq, Prod.mk.injEq] at e
      obtain ⟨rfl, rfl, rfl⟩ := e
      exact ⟨hg, hb, ip⟩
    · subst hk
      rw [show l.length + (k + 1) - l.length = k + 1 by omega] at e
      simp at e
theorem St.oneA {w x : World} {g : Nat} {p : Pk} {h : Hs} (hb : Below w.heap.size w x) (hg : w.heap.size ≤ g) (hB : Bk x g PkT (pkC p h)) (ip : PkIn x x.heap.size p h) : St w [(g, p, h)] x := by
  refine ⟨hb, fun i g' p' h' e => ?_⟩
  cases i with
  | zero =>
    simp only [List.getElem?_cons_zero, Option.some.injEq, Prod.mk.injEq] at e
    obtain ⟨rfl, rfl, rfl⟩ := e
    exact ⟨hg, hB, ip⟩
  | succ i => simp at e
theorem askP_ok (i : Int) {l : List ByteArray} (h : ∀ t ∈ l, t.size ≤ 140737488351232) (hl : l.length ≤ 20) : PkOk (askP i l) := by
  refine ⟨?_, ?_, ?_, ?_, ?_⟩
  · intro q hq; cases hq
  · intro q hq; cases hq
  · intro q hq
    obtain ⟨t, ht, rfl⟩ := List.mem_map.1 hq
    exact h t ht
  · exact ⟨Nat.zero_le _, Nat.zero_le _, Nat.zero_le _, Nat.zero_le _, Nat.zero_le _, Nat.zero_le _, Nat.zero_le _⟩
  · refine ⟨Nat.zero_le _, Nat.zero_le _, ?_, Nat.zero_le _⟩
    show (l.map fiT).length ≤ _
    rw [List.length_map]
    omega
theorem askP_ok1 (i : Int) {l : List ByteArray} (h : ∀ t ∈ l, t.size ≤ 140737488351232) (hl : l.length ≤ 20) {x : ByteArray} (hx : x.size ≤ 140737488351232) : PkOk (askP i (l ++ [x])) := by
  refine ⟨?_, ?_, ?_, ?_, ?_⟩
  · intro q hq; cases hq
  · intro q hq; cases hq
  · intro q hq
    obtain ⟨t, ht, rfl⟩ := List.mem_map.1 hq
    rcases List.mem_append.1 ht with ht | ht
    · exact h t ht
    · rw [List.mem_singleton.1 ht]
      exact hx
  · exact ⟨Nat.zero_le _, Nat.zero_le _, Nat.zero_le _, Nat.zero_le _, Nat.zero_le _, Nat.zero_le _, Nat.zero_le _⟩
  · refine ⟨Nat.zero_le _, Nat.zero_le _, ?_, Nat.zero_le _⟩
    show ((l ++ [x]).map fiT).length ≤ _
    rw [List.length_map, List.length_append]
    simp
    omega
theorem ans_other {v : Int} {p q : Pk} (h : q.id ≠ p.id) : sbAns v p q = false := by
  unfold sbAns
  rw [decide_eq_false h]
  simp
theorem ans_more {v i : Int} {l : List ByteArray} {c : List Int} (h : c.length ≠ (l.map fiT).length) : sbAns v (askP i l) (ansP i c) = false := by
  have h1 : decide ((ansP i c).codes.length = (askP i l).filters.length) = false := decide_eq_false h
  have h2 : sbSil v (ansP i c).kind = false := by
    show sbSil v 9 = false
    unfold sbSil
    rw [decide_eq_false (by omega)]
  unfold sbAns
  rw [h1, h2]
  simp
theorem ans_back {v i : Int} {l : List ByteArray} {c : List Int} : sbAns v (ansP i c) (askP i l) = false := rfl
theorem ansP_ok (i : Int) {c : List Int} (hl : c.length ≤ 20) : PkOk (ansP i c) := by
  refine ⟨?_, ?_, ?_, ?_, ?_⟩
  · intro q hq; cases hq
  · intro q hq; cases hq
  · intro q hq; cases hq
  · exact ⟨Nat.zero_le _, Nat.zero_le _, Nat.zero_le _, Nat.zero_le _, Nat.zero_le _, Nat.zero_le _, Nat.zero_le _⟩
  · refine ⟨Nat.zero_le _, ?_, Nat.zero_le _, Nat.zero_le _⟩
    show c.length ≤ _
    omega
def askW (F : Hd) : Hs := { hs0 with filters := F }
def ansW (C : Hd) : Hs := { hs0 with codes := C }
theorem ask_put (i : Int) (l : List ByteArray) (t : ByteArray) (A : Option Addr) (c : Nat) (F : Hd) : (pkC (askP i l) (askW F)).setIfInBounds 23 (.slice A ((l.map fiT).length + 1) c) = pkC (askP i (l ++ [t])) (askW ⟨A, c⟩) := by
  have h := filters_put { pk0 with kind := 8, id := i } hs0 (l.map fiT) (fiT t) A c F
  rw [show askP i (l ++ [t]) = { ({ pk0 with kind := 8, id := i } : Pk) with filters := l.map fiT ++ [fiT t] } by unfold askP; rw [List.map_append]; rfl]
  exact h
set_option maxHeartbeats 4000000 in
set_option maxRecDepth 10000 in
theorem subscribeAnswers_any (v i : Int) (A : Option Addr) (l : List ByteArray) (n : Nat) (C : Option Addr) (cd : List Int) (m : Nat) (w : World) (h0 : 0 ≤ i) (h6 : i < 65536)
    (hr : Rd w w.heap.size 1 A l.length (txv l)) (hn : l.length ≤ n) (hz : ∀ t ∈ l, t.size ≤ 140737488351232) (hc : Rd w w.heap.size 1 C cd.length (iv cd)) (hm : cd.length ≤ m) :
    Calls Tryd.prog 3 #[.int .i64 v, .int .u16 i, .slice A l.length n, .slice C cd.length m] w fun e w' => e = .returned (.bool true) ∧ Below w.heap.size w w' := by
  have HR := Lib.hid hr; have HN := Lib.hid hn; have HZ := Lib.hid hz; have HC := Lib.hid hc; have HM := Lib.hid hm
  have hw1 : IntKind.i64.wrap i = i := by rw [IntKind.wrap_i64]; omega
  clear hr hn hz hc hm
  go_enter Tryd.func3, Tryd.ntmps3
  go_wp2_with fail
  refine (lives11_any _).mono ?_
  rintro e w1 ⟨rfl, hb⟩
  have B1 := Lib.hid hb
  clear hb
  by_cases d1 : 20 < l.length
  · have d2 : (20 : Int) < (l.length : Int) := by omega
    clear d1
    go_wp2
    go_ret
    exact ⟨rfl, B1.out⟩
  have d2 : (l.length : Int) ≤ 20 := by omega
  have HL := Lib.hid d1
  clear d1
  by_cases d3 : 20 < cd.length
  · have d4 : (20 : Int) < (cd.length : Int) := by omega
    clear d3
    go_wp2
    go_ret
    exact ⟨rfl, B1.out⟩
  have d4 : (cd.length : Int) ≤ 20 := by omega
  have HCL := Lib.hid d3
  clear d3
  by_cases hi0 : i = 0
  · subst hi0
    go_wp2
    go_ret
    exact ⟨rfl, B1.out⟩
  by_cases hi6 : i = 65535
  · subst hi6
    go_wp2
    go_ret
    exact ⟨rfl, B1.out⟩
  have e0 : (i == 0) = false := beq_eq_false_iff_ne.2 hi0
  have e6 : (i == 65535) = false := beq_eq_false_iff_ne.2 hi6
  have HI : Hid (1 ≤ i ∧ i ≤ 65534) := Lib.hid (by omega)
  clear hi0 hi6 h0 h6
  go_wp2_with fail
  refine (verW_any v _).mono ?_
  rintro e w2 ⟨rfl, rfl⟩
  have HV := Lib.hid (verW_or v)
  generalize verW v = V at *
  have B2 := Lib.hid (B1.out.alloc B1.out.size (.cells (pkC (askP i []) (askW hd0)) PkT))
  have K2 := Lib.hid (Bk.fresh w1 PkT (pkC (askP i []) (askW hd0)))
  have hbd := fun W => run_bdKI 8 i W
  have hpk : ({ pk0 with kind := 8, id := i } : Pk) = askP i [] := rfl
  have hhs : hs0 = askW hd0 := rfl
  go_wp2
  obtain ⟨G, hG⟩ : ∃ G, w1.heap.size = G := ⟨_, rfl⟩
  have HGW : Hid (w.heap.size ≤ G) := Lib.hid (by rw [← hG]; exact B1.out.size)
  obtain ⟨W0, hW0⟩ : ∃ W, w1.alloc (.cells (pkC (askP i []) (askW hd0)) PkT) = W := ⟨_, rfl⟩
  have HW0 : Hid (G < W0.heap.size) := Lib.hid (by rw [← hW0, ← hG]; simp)
  rw [hW0, hG] at K2
  rw [hW0] at B2
  rw [hG]
  have HHG := Lib.hid hG
  clear hG
  go_loopw [11] (fun i' wr => ∃ (k : Nat) (F : Hd), k ≤ l.length ∧ i' = .int .i64 k ∧ (∀ t ∈ l.take k, filterB t = true) ∧ Below w.heap.size w wr ∧ Bk wr G PkT (pkC (askP i (l.take k)) (askW F)) ∧ OwnF W0 wr ((l.take k).map fiT) F ∧ W0.heap.size ≤ wr.heap.size) (fun i' _ => l.length - (intOf i').toNat)
  case atStart =>
    exact ⟨0, hd0, by omega, rfl, by simp, by first | exact B2.out | exact hW0 ▸ B2.out, by first | exact K2.out | exact hW0 ▸ K2.out, World.ownsRow_nil _ _ _ _, by first | exact Nat.le_refl _ | exact hW0 ▸ Nat.le_refl _⟩
  case round =>
    obtain ⟨k, F, hk, rfl, hfk, hbk, hKk, hok, hsk⟩ := hrel
    have HBk := Lib.hid hbk; have HKk := Lib.hid hKk; have HOk := Lib.hid hok; have HFk := Lib.hid hfk; have HSk := Lib.hid hsk
    have HRk := Lib.hid ((HR.out.below hbk).wider hbk.size)
    clear hbk hKk hok hfk hsk
    by_cases hlt : k < l.length
    · obtain ⟨bA, oA, z, rfl, hb, hz, hc⟩ := HRk.out.atT hlt
      have hzL : l[k] = z := by rw [List.getElem?_eq_getElem hlt] at hz; exact Option.some.inj hz
      have HTK : Hid (l.take (k + 1) = l.take k ++ [z]) := Lib.hid (by rw [List.take_succ_eq_append_getElem hlt, hzL])
      have HZS : Hid (z.size ≤ 140737488351232) := Lib.hid (by rw [← hzL]; exact HZ.out _ (List.getElem_mem hlt))
      have HLT := Lib.hid hlt
      have HBA := Lib.hid hb
      have b1 : (0 : Int) ≤ (k : Int) := by omega
      have b2 : (k : Int) < (l.length : Int) := by omega
      clear hz hzL hlt hb
      by_cases hz1 : 100 < z.size
      · have d5 : (100 : Int) < (z.size : Int) := by omega
        clear hz1
        go_wp2
        go_ret
        exact ⟨rfl, HBk.out⟩
      have d5 : (z.size : Int) ≤ 100 := by omega
      clear hz1
      go_wp2_with fail
      refine (refFilter_any z _ (by have := HZS.out; omega)).mono ?_
      rintro e w5 ⟨rfl, hb⟩
      have HB5 := Lib.hid (HBk.out.trans (hb.mono HBk.out.size))
      have HK5 := Lib.hid (HKk.out.below hb HKk.out.lt)
      have HO5 : Hid (OwnF W0 w5 ((l.take k).map fiT) F) := Lib.hid (own_below HOk.out hb)
      have HS5 := Lib.hid (Nat.le_trans HSk.out hb.size)
      have hc5 : w5.cell? ⟨bA, oA + k, none⟩ = some (.string z) := (hb.cell HBA.out).trans hc
      clear hb hc
      cases hf : filterB z
      · clear hc5
        go_wp2
        go_ret
        exact ⟨rfl, HB5.out⟩
      have HF := Lib.hid hf
      clear hf
      obtain ⟨fi, hfi⟩ : ∃ fi, (l.take k).map fiT = fi := ⟨_, rfl⟩
      rw [hfi] at HO5
      have c23 : w5.cell? ⟨G, 23, none⟩ = some (.slice F.a fi.length F.c) := by rw [← hfi]; exact (HK5.out.cell 23).trans (pkC_23 _ _)
      have c23A : (w5.alloc (.cells #[.string z, .int .i64 0, .bool false, .bool false, .int .i64 0] 35)).cell? ⟨G, 23, none⟩ = some (.slice F.a fi.length F.c) := by rw [← hfi]; exact ((HK5.out.alloc _).cell 23).trans (pkC_23 _ _)
      have HLF : Hid (fi.length ≤ 20) := Lib.hid (by rw [← hfi, List.length_map, List.length_take]; have := HL.out; omega)
      have HFI := Lib.hid hfi
      have HNE := Lib.hid (own_ne HO5.out HK5.out (by decide))
      clear hfi
      go_wp2_with fail
      go_region_law ((refine step_app (by rfl) _ _ _ (by rfl) W0.heap.size 35 _ 5 40 Tryd.underlying30 info_filter rfl (by decide) (.slice F.a fi.length F.c) _ _ (by rfl) (by first | exact own_drewN (HO5.out.alloc _) 1 | exact (own_drewN HO5.out 1).alloc _) _ _ 1 1 (fiC (fiT z)) (by rfl) (by first | exact (rd_fi1 w5 (fiT z)).drewN 1 | exact rd_fi1 _ (fiT z)) (fiC_one _) (by have := HLF.out; unfold maxLen; omega) (by have := HLF.out; omega) (by have := HS5.out; simp; omega) ?_; intro v' w7 hown7 hg7 hat7; obtain ⟨A', c', rfl, hcap, hrd⟩ := own_rd hown7; have hK7 : Bk w7 G PkT (pkC (askP i (l.take k)) (askW F)) := (by first | exact ((HK5.out.alloc _).drewN 1).app hg7 HNE.out | exact ((HK5.out.drewN 1).alloc _).app hg7 HNE.out); have hB7 : Below w.heap.size w w7 := (by first | exact below_app (below_drawn (HB5.out.alloc HB5.out.size _) 1) hg7 (below_drawn (HB5.out.alloc HB5.out.size _) 1).size (fun g hg => by have h1 := (own_block HO5.out g hg).1; have h2 := HGW.out; have h3 := HW0.out; omega) | exact below_app ((below_drawn HB5.out 1).alloc (below_drawn HB5.out 1).size _) hg7 ((below_drawn HB5.out 1).alloc (below_drawn HB5.out 1).size _).size (fun g hg => by have h1 := (own_block HO5.out g hg).1; have h2 := HGW.out; have h3 := HW0.out; omega)); have hS7 : W0.heap.size ≤ w7.heap.size := (by have h1 := hg7.size; have h2 := HS5.out; simp at h1; omega); have e23 := (hK7.cell 23).trans (pkC_23 _ _); have f23 := hK7.free 23))
      all_goals
        have HK7 := Lib.hid hK7; have HB7 := Lib.hid hB7; have HS7 := Lib.hid hS7; have HO7 := Lib.hid hown7
        clear hK7 hB7 hS7 hown7 hg7 hat7 hcap hrd e23 f23 c23 c23A hc5
        go_wp2
        go_roundw
        case rel =>
          have htk := HTK.out
          have hown : OwnF W0 (w7.setCell ⟨G, 23, none⟩ (.slice A' (fi.length + 1) c')) (fi ++ [fiT z]) ⟨A', c'⟩ := OwnF.snoc HO7.out _ HW0.out
          refine ⟨k + 1, ⟨A', c'⟩, HLT.out, by go_num, ?_, HB7.out.setCell HGW.out _, ?_, ?_, ?_⟩
          · rw [htk]
            intro t ht
            rcases List.mem_append.1 ht with h | h
            · exact HFk.out t h
            · rw [List.mem_singleton.1 h]
              exact HF.out
          · have h := HK7.out.upd 23 (.slice A' (fi.length + 1) c') (cs' := pkC (askP i (l.take k ++ [z])) (askW ⟨A', c'⟩)) (by rw [← HFI.out]; exact ask_put i (l.take k) z A' c' F)
            rw [htk]
            exact h
          · rw [htk, List.map_append, HFI.out]
            exact hown
          · simpa using HS7.out
        case measure => simp [intOf]; have := HLT.out; omega
    · obtain rfl : k = l.length := by omega
      have HT : l.take l.length = l := List.take_length
      have HK3 : Hid (Bk wr G PkT (pkC (askP i l) (askW F))) := Lib.hid (by have h := HKk.out; rwa [HT] at h)
      have HO3 : Hid (OwnF W0 wr (l.map fiT) F) := Lib.hid (by have h := HOk.out; rwa [HT] at h)
      have HFV : Hid (∀ t ∈ l, filterB t = true) := Lib.hid (by have h := HFk.out; rwa [HT] at h)
      have HLO := Lib.hid (own_rdS HO3.out)
      have S1 : Hid (St w [(G, askP i l, askW F)] wr) := Lib.hid (St.oneA HBk.out HGW.out HK3.out ⟨Rd.nil _ _ _ _, Rd.nil _ _ _ _, HLO.out.2, Rd.nil _ _ _ _, Nat.zero_le _, Nat.zero_le _, HLO.out.1, Nat.zero_le _⟩)
      have HC1 := Lib.hid ((HC.out.below HBk.out).wider HBk.out.size)
      have S2 := Lib.hid (S1.out.pushB (g := wr.heap.size) rfl (p := ansP i cd) (h := ansW ⟨C, m⟩) ⟨Rd.nil _ _ _ _, HC1.out, Rd.nil _ _ _ _, Rd.nil _ _ _ _, Nat.zero_le _, HM.out, Nat.zero_le _, Nat.zero_le _⟩)
      have HC2 := Lib.hid ((HC1.out.below ((Below.refl _ _).alloc (Nat.le_refl _) (.cells (pkC (ansP i cd) (ansW ⟨C, m⟩)) PkT))).wider (show wr.heap.size ≤ (wr.alloc (.cells (pkC (ansP i cd) (ansW ⟨C, m⟩)) PkT)).heap.size by simp))
      have hbd2 : ∀ W, (bdPk #[(0, .int .i64 9), (4, .int .i64 i), (18, .slice C cd.length m)]).run Tryd.prog W = .ok (pkV (ansP i cd) (ansW ⟨C, m⟩)) W := fun W => run_bdKIS 9 i cd C m W
      clear HT HKk HOk HFk HSk HRk HBk hbd hpk hhs hlt hk
      go_upto_region 14 with fail
      go_cut [13] (fun a wx => wr.alloc (.cells (pkC (ansP i cd) (ansW ⟨C, m⟩)) PkT) = wx ∧ a = .bool (decide (0 < l.length) && decide (cd.length = l.length)))
      case first =>
        by_cases g0 : 0 < l.length
        rotate_left
        · have g1 : (l.length : Int) ≤ 0 := by omega
          have HX : Hid (decide (0 < l.length) = false) := Lib.hid (decide_eq_false g0)
          clear g0
          go_wp2
          go_meet
          case rel => exact ⟨rfl, by rw [HX.out]; rfl⟩
        have g1 : (0 : Int) < (l.length : Int) := by omega
        have HX : Hid (decide (0 < l.length) = true) := Lib.hid (decide_eq_true g0)
        clear g0
        by_cases g2 : cd.length = l.length
        · have g3 : ((cd.length : Int) == (l.length : Int)) = true := beq_iff_eq.2 (by omega)
          have HY : Hid (decide (cd.length = l.length) = true) := Lib.hid (decide_eq_true g2)
          clear g2
          go_wp2
          go_meet
          case rel => exact ⟨rfl, by rw [HX.out, HY.out]; rfl⟩
        · have g3 : ((cd.length : Int) == (l.length : Int)) = false := beq_eq_false_iff_ne.2 (by omega)
          have HY : Hid (decide (cd.length = l.length) = false) := Lib.hid (decide_eq_false g2)
          clear g2
          go_wp2
          go_meet
          case rel => exact ⟨rfl, by rw [HX.out, HY.out]; rfl⟩
      obtain ⟨rfl, rfl⟩ := hcut
      clear hbd2
      have HB2 := Lib.hid S2.out.kept
      obtain ⟨G2, hG2⟩ : ∃ G2, wr.heap.size = G2 := ⟨_, rfl⟩
      rw [hG2] at S2 ⊢
      obtain ⟨W1, hW1⟩ : ∃ W1, wr.alloc (.cells (pkC (ansP i cd) (ansW ⟨C, m⟩)) PkT) = W1 := ⟨_, rfl⟩
      rw [hW1] at S2 HC2 HB2 ⊢
      clear hW1 hG2
      obtain ⟨rt, hrt⟩ : ∃ rt, (decide (0 < l.length) && decide (cd.length = l.length)) = rt := ⟨_, rfl⟩
      rw [hrt]
      have HRT := Lib.hid hrt
      clear hrt
      go_wp2
      go_loopw [13, 14, 15] (fun r j _ wx => ∃ k : Nat, k ≤ cd.length ∧ j = .int .i64 k ∧ r = .bool (rt && (cd.take k).all (ansB V 9)) ∧ Below W1.heap.size W1 wx) (fun _ j _ _ => cd.length - (intOf j).toNat)
      case atStart => exact ⟨0, by omega, rfl, by simp, Below.refl _ _⟩
      case round =>
        obtain ⟨k, hk, rfl, rfl, hbk⟩ := hrel
        have HBK := Lib.hid hbk
        have HCK := Lib.hid ((HC2.out.below hbk).wider hbk.size)
        clear hbk
        by_cases hlt : k < cd.length
        · obtain ⟨bC, oC, z, rfl, hb, hz, hc⟩ := HCK.out.atI hlt
          have hzL : cd[k] = z := by rw [List.getElem?_eq_getElem hlt] at hz; exact Option.some.inj hz
          have HTK : Hid ((rt && (cd.take (k + 1)).all (ansB V 9)) = ((rt && (cd.take k).all (ansB V 9)) && ansB V 9 z)) := Lib.hid (by rw [List.take_succ_eq_append_getElem hlt, hzL, List.all_append, Bool.and_assoc]; simp)
          have HLT := Lib.hid hlt
          have HBC := Lib.hid hb
          have b1 : (0 : Int) ≤ (k : Int) := by omega
          have b2 : (k : Int) < (cd.length : Int) := by omega
          obtain ⟨ra, hra⟩ : ∃ ra, (rt && (cd.take k).all (ansB V 9)) = ra := ⟨_, rfl⟩
          rw [hra] at HTK ⊢
          clear hz hzL hlt hb hra
          go_wp2_with fail
          refine (refMay_any 9 z _).mono ?_
          rintro e w5 ⟨rfl, hb⟩
          have HB5 := Lib.hid (HBK.out.trans (hb.mono HBK.out.size))
          have hc5 : w5.cell? ⟨bC, oC + k, none⟩ = some (.int .i64 z) := (hb.cell HBC.out).trans hc
          clear hb hc
          rcases HV.out with h4 | h5
          · have h4b : (V == 4) = true := beq_iff_eq.2 h4
            have HAB : Hid (ansB V 9 z = grantB z) := Lib.hid (by unfold ansB; rw [if_pos h4])
            clear h4
            go_wp2_with fail
            refine (refGrant_any z _).mono ?_
            rintro e w6 ⟨rfl, rfl⟩
            rw [← HAB.out]
            generalize ansB V 9 z = ab at *
            cases ra
            · go_wp2
              go_roundw
              case rel => exact ⟨k + 1, HLT.out, by go_num, by rw [HTK.out]; rfl, HB5.out⟩
              case measure => simp [intOf]; have := HLT.out; omega
            · go_wp2
              go_roundw
              case rel => exact ⟨k + 1, HLT.out, by go_num, by rw [HTK.out]; rfl, HB5.out⟩
              case measure => simp [intOf]; have := HLT.out; omega
          · have h4b : (V == 4) = false := beq_eq_false_iff_ne.2 (by omega)
            have HAB : Hid (ansB V 9 z = may 9 z) := Lib.hid (by unfold ansB; rw [if_neg (by omega)])
            clear h5
            rw [← HAB.out]
            generalize ansB V 9 z = ab at *
            cases ra
            · go_wp2
              go_roundw
              case rel => exact ⟨k + 1, HLT.out, by go_num, by rw [HTK.out]; rfl, HB5.out⟩
              case measure => simp [intOf]; have := HLT.out; omega
            · go_wp2
              go_roundw
              case rel => exact ⟨k + 1, HLT.out, by go_num, by rw [HTK.out]; rfl, HB5.out⟩
              case measure => simp [intOf]; have := HLT.out; omega
        · obtain rfl : k = cd.length := by omega
          have HBW := Lib.hid (HB2.out.trans (HBK.out.mono HB2.out.size))
          have S3 := Lib.hid (S2.out.below HBK.out)
          have HRA : Hid ((rt && (cd.take cd.length).all (ansB V 9)) = rightA V l cd) := Lib.hid (by rw [List.take_length, ← HRT.out]; rfl)
          have HAN : Hid (sbAns V (askP i l) (ansP i cd) = rightA V l cd) := Lib.hid (ans_right HV.out (by have := HI.out; omega) HFV.out cd)
          have HOK : Hid (PkOk (askP i l)) := Lib.hid (askP_ok i HZ.out (by have := HL.out; omega))
          have HOQ : Hid (PkOk (ansP i cd)) := Lib.hid (ansP_ok i (by have := HCL.out; omega))
          have HMR : Hid (rightA V l cd = true → cd.length = l.length) := Lib.hid (fun h => by
            unfold rightA at h
            simp only [Bool.and_eq_true, decide_eq_true_eq] at h
            exact h.1.2)
          rw [HRA.out]
          generalize rightA V l cd = ra at *
          clear HRA HRT HBK HCK S2 HC2 hk hlt
          have l0 := S3.out.ld 0 rfl
          have l1 := S3.out.ld 1 rfl
          go_wp2_with fail
          refine (sbAns_any V (askP i l) (ansP i cd) (askW F) (ansW ⟨C, m⟩) _ (S3.out.into 0 rfl) (S3.out.into 1 rfl) HOK.out HOQ.out).mono ?_
          rintro e w5 ⟨rfl, hb⟩
          have S5 := Lib.hid (S3.out.below hb)
          clear hb l0 l1
          rw [HAN.out]
          have l0 := S5.out.ld 0 rfl
          have l1 := S5.out.ld 1 rfl
          have e9 : (ra != ra) = false := bne_self_eq_false ra
          go_upto_region 25 with fail
          have hp4 : (pkC (ansP i cd) (ansW ⟨C, m⟩)).setIfInBounds 4 (.int .i64 (i + 1)) = pkC (ansP (i + 1) cd) (ansW ⟨C, m⟩) := rfl
          have HP4 := Lib.hid hp4
          have S7 := Lib.hid (S5.out.pushB (g := w5.heap.size) rfl (p := ansP (i + 1) cd) (h := ansW ⟨C, m⟩) ⟨Rd.nil _ _ _ _, (S5.out.into 1 rfl).codes, Rd.nil _ _ _ _, Rd.nil _ _ _ _, Nat.zero_le _, (S5.out.into 1 rfl).caps.2.1, Nat.zero_le _, Nat.zero_le _⟩)
          have hw2 : IntKind.i64.wrap (i + 1) = i + 1 := by rw [IntKind.wrap_i64]; have := HI.out; omega
          clear l0 l1 e9 hp4
          go_upto_region 26 with fail
          rw [HP4.out]
          have HK7 := Lib.hid (S7.out.ld 0 rfl)
          obtain ⟨G3, hG3⟩ : ∃ G3, w5.heap.size = G3 := ⟨_, rfl⟩
          obtain ⟨W4, hW4⟩ : ∃ W4, w5.alloc (.cells (pkC (ansP (i + 1) cd) (ansW ⟨C, m⟩)) PkT) = W4 := ⟨_, rfl⟩
          rw [hW4, hG3] at S7
          rw [hW4, hG3]
          clear HP4 HK7 hW4 hG3
          have l0 := S7.out.ld 0 rfl
          have S8 := Lib.hid (S7.out.pushB (g := W4.heap.size) rfl (S7.out.into 0 rfl))
          go_upto_region 27 with fail
          obtain ⟨G4, hG4⟩ : ∃ G4, W4.heap.size = G4 := ⟨_, rfl⟩
          obtain ⟨W5, hW5⟩ : ∃ W5, W4.alloc (.cells (pkC (askP i l) (askW F)) PkT) = W5 := ⟨_, rfl⟩
          rw [hW5, hG4] at S8
          rw [hW5, hG4]
          have HG4 := Lib.hid hG4; have HW5 := Lib.hid hW5
          clear hW5 hG4 l0
          have HNL : Hid ((l.map fiT).length ≤ 20) := Lib.hid (by rw [List.length_map]; have := HL.out; omega)
          have HRF : Hid (Rd W5 W5.heap.size 5 F.a (l.map fiT).length (fis (l.map fiT))) := Lib.hid (S8.out.into 0 rfl).filters
          have c23 : W5.cell? ⟨G, 23, none⟩ = some (.slice F.a (l.map fiT).length F.c) := (S8.out.cell 0 rfl 23).trans (pkC_23 _ _)
          obtain ⟨fi, hfi⟩ : ∃ fi, l.map fiT = fi := ⟨_, rfl⟩
          rw [hfi] at HNL HRF c23
          have HFI := Lib.hid hfi
          clear hfi
          go_wp2_with fail
          refine (ownF_any fi F.a F.c _ HRF.out (by have := HNL.out; omega)).mono ?_
          rintro e w6 ⟨v6, rfl, hown6, hb6⟩
          obtain ⟨A6, c6, rfl, -, -⟩ := own_rd hown6
          have S9 := Lib.hid (S8.out.below hb6)
          have HO6 := Lib.hid hown6
          have HB6 := Lib.hid hb6
          clear hown6 hb6 c23
          have HNE := Lib.hid (own_ne HO6.out (S9.out.bk 3 rfl) (by decide))
          go_upto_region 28 with (at_builtin; refine wpList_app _ rfl (.tmp 121) (.tmp 123) 30 rfl W5.heap.size 35 _ 5 40 Tryd.underlying30 info_filter rfl (by decide) (.slice A6 fi.length c6) _ _ rfl (HO6.out.alloc _) _ _ 1 1 (fiC (fiT ⟨#[120]⟩)) rfl (rd_fi1 w6 (fiT ⟨#[120]⟩)) (fiC_one _) (by have := HNL.out; unfold maxLen; omega) (by have := HNL.out; omega) (by have := HB6.out.size; simp; omega) ?_; intro v8 w8 hown8 hg8 hat8; obtain ⟨A8, c8, rfl, hcap8, hrd8⟩ := own_rd hown8; have hK8 := ((S9.out.bk 3 rfl).alloc _).app hg8 HNE.out; have e23 := (hK8.cell 23).trans (pkC_23 _ _); have f23 := hK8.free 23)
          have HBQ : Hid (Below W5.heap.size W5 w8) := Lib.hid (below_app (HB6.out.alloc HB6.out.size _) hg8 (HB6.out.alloc HB6.out.size _).size (fun g hg => (own_block HO6.out g hg).1))
          have HBL : Hid (Below W4.heap.size W4 (w8.setCell ⟨G4, 23, none⟩ (.slice A8 (fi.length + 1) c8))) := Lib.hid (by
            have h1 : Below W4.heap.size W4 W5 := by rw [← HW5.out]; exact (Below.refl _ _).alloc (Nat.le_refl _) _
            exact (h1.trans (HBQ.out.mono h1.size)).setCell (by rw [HG4.out]; exact Nat.le_refl _) _)
          have hlt4 : G4 < W5.heap.size := (S8.out.bk 3 rfl).lt
          have HO9 : Hid (OwnF W5 (w8.setCell ⟨G4, 23, none⟩ (.slice A8 (fi.length + 1) c8)) (fi ++ [fiT ⟨#[120]⟩]) ⟨A8, c8⟩) := Lib.hid (OwnF.snoc hown8 _ hlt4)
          have K9 : Hid (Bk (w8.setCell ⟨G4, 23, none⟩ (.slice A8 (fi.length + 1) c8)) G4 PkT (pkC (askP i (l ++ [⟨#[120]⟩])) (askW ⟨A8, c8⟩))) := Lib.hid (hK8.upd 23 _ (cs' := pkC (askP i (l ++ [⟨#[120]⟩])) (askW ⟨A8, c8⟩)) (by rw [← HFI.out]; exact ask_put i l ⟨#[120]⟩ A8 c8 F))
          have HF9 : Hid ((askP i (l ++ [⟨#[120]⟩])).filters = fi ++ [fiT ⟨#[120]⟩]) := Lib.hid (by rw [← HFI.out]; show (l ++ [_]).map fiT = _; rw [List.map_append]; rfl)
          have S10 := Lib.hid (S7.out.below HBL.out)
          have HO9' := Lib.hid (own_rdS HO9.out)
          have S11 := Lib.hid (S10.out.addA (p := askP i (l ++ [⟨#[120]⟩])) (h := askW ⟨A8, c8⟩) (g := G4) (by rw [← HG4.out]; exact S7.out.kept.size) K9.out ⟨Rd.nil _ _ _ _, Rd.nil _ _ _ _, by rw [HF9.out]; exact HO9'.out.2, Rd.nil _ _ _ _, Nat.zero_le _, Nat.zero_le _, by rw [HF9.out]; exact HO9'.out.1, Nat.zero_le _⟩)
          have HA1 : Hid (sbAns V (askP i l) (ansP (i + 1) cd) = false) := Lib.hid (ans_other (by show i + 1 ≠ i; omega))
          have HA2 : Hid (ra = true → sbAns V (askP i (l ++ [⟨#[120]⟩])) (ansP i cd) = false) := Lib.hid (fun h => ans_more (by
            show cd.length ≠ ((l ++ [(⟨#[120]⟩ : ByteArray)]).map fiT).length
            rw [List.length_map, List.length_append, HMR.out h]
            simp))
          have HA3 : Hid (sbAns V (ansP i cd) (askP i l) = false) := Lib.hid (ans_back)
          have HOM : Hid (PkOk (askP i (l ++ [⟨#[120]⟩]))) := Lib.hid (askP_ok1 i HZ.out (by have := HL.out; omega) (by decide))
          have HON : Hid (PkOk (ansP (i + 1) cd)) := Lib.hid (ansP_ok _ (by have := HCL.out; omega))
          obtain ⟨W9, hW9⟩ : ∃ W9, w8.setCell ⟨G4, 23, none⟩ (.slice A8 (fi.length + 1) c8) = W9 := ⟨_, rfl⟩
          rw [hW9] at S11 ⊢
          obtain ⟨PM, hPM⟩ : ∃ PM, askP i (l ++ [⟨#[120]⟩]) = PM := ⟨_, rfl⟩
          obtain ⟨HM8, hHM8⟩ : ∃ HM8, askW ⟨A8, c8⟩ = HM8 := ⟨_, rfl⟩
          rw [hPM, hHM8] at S11
          rw [hPM] at HA2 HOM
          clear K9 HF9
          clear hPM hHM8
          clear hW9 HO9 HO9' S10 HBL HBQ hown8 hg8 hat8 hcap8 hrd8 hK8 e23 f23 HNE
          have l0 := S11.out.ld 0 rfl; have l1 := S11.out.ld 1 rfl; have l2 := S11.out.ld 2 rfl; have l3 := S11.out.ld 3 rfl
          go_wp2_with fail
          refine (sbAns_any V (askP i l) (ansP (i + 1) cd) (askW F) (ansW ⟨C, m⟩) _ (S11.out.into 0 rfl) (S11.out.into 2 rfl) HOK.out HON.out).mono ?_
          rintro e w10 ⟨rfl, hb⟩
          have S12 := Lib.hid (S11.out.below hb)
          clear hb l0 l1 l2 l3
          rw [HA1.out]
          have l0 := S12.out.ld 0 rfl; have l1 := S12.out.ld 1 rfl; have l3 := S12.out.ld 3 rfl
          cases ra
          · go_wp2_with fail
            refine (sbAns_any V (ansP i cd) (askP i l) (ansW ⟨C, m⟩) (askW F) _ (S12.out.into 1 rfl) (S12.out.into 0 rfl) HOQ.out HOK.out).mono ?_
            rintro e w11 ⟨rfl, hb⟩
            have S13 := Lib.hid (S12.out.below hb)
            rw [HA3.out]
            clear hb l0 l1 l3
            go_wp2
            go_ret
            exact ⟨rfl, S13.out.kept⟩
          · go_wp2_with fail
            refine (sbAns_any V PM (ansP i cd) HM8 (ansW ⟨C, m⟩) _ (S12.out.into 3 rfl) (S12.out.into 1 rfl) HOM.out HOQ.out).mono ?_
            rintro e w11 ⟨rfl, hb⟩
            have S13 := Lib.hid (S12.out.below hb)
            rw [HA2.out (by first | rfl | trivial)]
            clear hb l0 l1 l3
            have l0 := S13.out.ld 0 rfl; have l1 := S13.out.ld 1 rfl
            go_wp2_with fail
            refine (sbAns_any V (ansP i cd) (askP i l) (ansW ⟨C, m⟩) (askW F) _ (S13.out.into 1 rfl) (S13.out.into 0 rfl) HOQ.out HOK.out).mono ?_
            rintro e w12 ⟨rfl, hb⟩
            have S14 := Lib.hid (S13.out.below hb)
            rw [HA3.out]
            clear hb l0 l1
            go_wp2
            go_ret
            exact ⟨rfl, S14.out.kept⟩
end Go.Proofs.YtmkkjiogokfnmaaDoor
