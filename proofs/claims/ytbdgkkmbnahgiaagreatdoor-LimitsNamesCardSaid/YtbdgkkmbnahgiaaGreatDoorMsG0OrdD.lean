/- A part of what the laws stand on: OrdD, CntH, CntS, ConA, MFil, SubA. -/
import Derived.OrdersHeld
import Derived.Deep.RegionHeld
import Derived.Test.YtbdgkkmbnahgiaaGreatDoorMsG0MCnu
import Derived.Lib.SplitLaws
namespace Go.Proofs.YtbdgkkmbnahgiaaGreatDoor
open Go

section
variable {P : Program} {ops : Array Oper} {Q : Exit → Act → World → Prop} {md : Region.Mode} {S : World → Prop} {D : List Nat}

/-- Whatever order is picked from here on; S holds behind an operation as long as none of D has come up. -/
def anyD (P : Program) (md : Region.Mode) (ops : Array Oper) (Q : Exit → Act → World → Prop) (S : World → Prop) (D : List Nat) : Nat → Array Bool → Act → World → Prop
  | 0, listed, a, w => Region.ready md ops listed = [] ∧ Q .normal a w
  | fuel + 1, listed, a, w =>
    (Region.ready md ops listed = [] → Q .normal a w) ∧
    ∀ i ∈ Region.ready md ops listed, wpOp P ops Q i (fun a' w' => ((∀ d ∈ D, (listed.setIfInBounds i true).getD d true = false) → S w') ∧ anyD P md ops Q S D fuel (listed.setIfInBounds i true) a' w') a w

theorem any_of_D : ∀ (fuel : Nat) (listed : Array Bool) (a : Act) (w : World), anyD P md ops Q S D fuel listed a w → wpAny P md ops Q fuel listed a w
  | 0, _, _, _, h => h
  | fuel + 1, _, _, _, h => ⟨h.1, fun i hi => wpOp_mono (fun a' w' h' => any_of_D fuel _ a' w' h'.2) (h.2 i hi)⟩

theorem getD_tf {listed : Array Bool} {i : Nat} (h : listed.getD i true = false) : listed.getD i false = false := by
  rcases Nat.lt_or_ge i listed.size with h' | h'
  · simp [h'] at h ⊢; exact h
  · simp [Array.getElem?_eq_none h'] at h

/-- Every operation of L waits for number i, or for one of L. -/
def behindB (md : Region.Mode) (ops : Array Oper) (i : Nat) (L : List Nat) : Bool :=
  L.all fun j => match ops[j]? with
    | some oj => j != i && oj.after.any fun e => Region.binds md e && (e.on == i || L.contains e.on)
    | none => false

theorem behind_spec {i : Nat} {L : List Nat} (h : behindB md ops i L = true) (j : Nat) (hj : j ∈ L) :
    j ≠ i ∧ ∃ oj, ops[j]? = some oj ∧ ∃ e ∈ oj.after, Region.binds md e = true ∧ (e.on = i ∨ e.on ∈ L) := by
  have h1 := List.all_eq_true.1 h j hj
  split at h1
  · rename_i oj hoj
    simp only [Bool.and_eq_true, bne_iff_ne] at h1
    obtain ⟨e, he, hb⟩ := Array.any_eq_true'.1 h1.2
    simp only [Bool.and_eq_true, Bool.or_eq_true, beq_iff_eq, List.contains_iff_mem] at hb
    exact ⟨h1.1, oj, hoj, e, he, hb.1, hb.2⟩
  · cases h1

theorem anyD_first {i : Nat} {oi : Oper} {v : Value} {L : List Nat} (hi : ops[i]? = some oi) (hsel : ∀ (j : Nat) (o : Oper) cs b, ops[j]? = some o → o.op ≠ .select cs b)
    (hQ : ∀ c a w, Q (.panic c) (a.put oi.dst v) w → Q (.panic c) a w) (hD : ∀ d ∈ D, d ∈ L) (hL : behindB md ops i L = true) :
    ∀ (fuel : Nat) (listed : Array Bool) (a : Act) (w : World),
      (∀ j oj, ops[j]? = some oj → j ≠ i → listed.getD j true = false → (∀ e ∈ oj.after, Region.binds md e = true → e.on ≠ i) → oi.apart ops oj = true) →
      i ∈ Region.ready md ops listed → (∀ j ∈ L, listed.getD j true = false) → YieldsIf P ops S oi v a → S w →
      anyD P md ops Q S D fuel (listed.setIfInBounds i true) (a.put oi.dst v) w → anyD P md ops Q S D (fuel + 1) listed a w := by
  intro fuel
  induction fuel with
  | zero =>
    intro listed a w _ hr hun hy hS H
    refine ⟨fun h => (by rw [h] at hr; cases hr), fun j hj => ?_⟩
    by_cases hji : j = i
    · subst hji; exact hy.wpOp hi hS ⟨fun _ => hS, H⟩
    · have := ready_mono hj hji
      rw [H.1] at this
      cases this
  | succ fuel ih =>
    intro listed a w hfree hr hun hy hS H
    refine ⟨fun h => (by rw [h] at hr; cases hr), fun j hj => ?_⟩
    by_cases hji : j = i
    · subst hji; exact hy.wpOp hi hS ⟨fun _ => hS, H⟩
    · have h1 := H.2 j (ready_mono hj hji)
      obtain ⟨hjun, oj, hoj, hall⟩ := mem_ready.1 hj
      have hiun := (mem_ready.1 hr).1
      have hnot : ∀ e ∈ oj.after, Region.binds md e = true → e.on ≠ i := fun e he hb heq => by
        have h1 := hall e he hb
        rw [heq, getD_tf hiun] at h1
        cases h1
      have hjL : j ∉ L := fun hjL => by
        obtain ⟨-, o', ho', e, he, hb, hon⟩ := behind_spec hL j hjL
        have : o' = oj := Option.some.inj (ho'.symm.trans hoj)
        subst this
        have h2 := hall e he hb
        rcases hon with hon | hon
        · rw [hon, getD_tf hiun] at h2; cases h2
        · rw [getD_tf (hun _ hon)] at h2; cases h2
      have h2 := wpOp_putIf hoj (hfree j oj hoj hji hjun hnot) (fun cs b => hsel i oi cs b hi) (fun cs b => hsel j oj cs b hoj) hQ hy h1
      have hfree' : ∀ k ok, ops[k]? = some ok → k ≠ i → (listed.setIfInBounds j true).getD k true = false →
          (∀ e ∈ ok.after, Region.binds md e = true → e.on ≠ i) → oi.apart ops ok = true := fun k ok hk hki hun hno => by
        refine hfree k ok hk hki ?_ hno
        by_cases hjk : j = k
        · subst hjk; exact hjun
        · rw [getD_set_ne true hjk] at hun; exact hun
      have hunj : ∀ k ∈ L, (listed.setIfInBounds j true).getD k true = false := fun k hk => by
        have hjk : j ≠ k := fun h => by rw [h] at hjL; exact hjL hk
        rw [getD_set_ne true hjk]; exact hun k hk
      have hunD : ∀ d ∈ D, ((listed.setIfInBounds i true).setIfInBounds j true).getD d true = false := fun d hd => by
        have hdL := hD d hd
        have hdi : i ≠ d := fun h => (behind_spec hL d hdL).1 h.symm
        have hdj : j ≠ d := fun h => by rw [h] at hjL; exact hjL hdL
        rw [getD_set_ne true hdj, getD_set_ne true hdi]; exact hun d hdL
      refine wpOp_mono (fun a' w' h3 => ⟨fun _ => h3.2.1 hunD, ih (listed.setIfInBounds j true) a' w' hfree' (ready_mono hr (Ne.symm hji)) hunj h3.1 (h3.2.1 hunD) ?_⟩) h2
      rw [Array.setIfInBounds_comm _ _ hji]
      exact h3.2.2

/-- None of L has come up. -/
def noneB (listed : Array Bool) (L : List Nat) : Bool := L.all fun j => !listed.getD j true

/-- Take number i first. -/
theorem anyD_take {i : Nat} (L : List Nat) {oi : Oper} {v : Value} {fuel : Nat} {listed : Array Bool} {a : Act} {w : World} (hi : ops[i]? = some oi)
    (hs : Region.noSelect ops = true) (hf : Region.free md ops listed i = true) (hr : (Region.ready md ops listed).contains i = true)
    (hL : behindB md ops i L = true) (hD : (D.all fun d => L.contains d) = true) (hn : noneB listed L = true)
    (hQ : ∀ c a w, Q (.panic c) (a.put oi.dst v) w → Q (.panic c) a w) (hy : YieldsIf P ops S oi v a) (hS : S w)
    (h : anyD P md ops Q S D fuel (listed.setIfInBounds i true) (a.put oi.dst v) w) : anyD P md ops Q S D (fuel + 1) listed a w :=
  anyD_first (L := L) hi (Region.noSelect_spec hs) hQ (fun d hd => by simpa using List.all_eq_true.1 hD d hd) hL fuel listed a w (Region.free_spec hi hf) (by simpa using hr)
    (fun j hj => by simpa using List.all_eq_true.1 hn j hj) hy hS h

/-- As anyD_take, the six tests left to the kernel. -/
theorem anyD_pick {i : Nat} (L : List Nat) {oi : Oper} {v : Value} {fuel : Nat} {listed : Array Bool} {a : Act} {w : World} (hi : ops[i]? = some oi)
    (hy : YieldsIf P ops S oi v a) (hS : S w) (h : anyD P md ops Q S D fuel (listed.setIfInBounds i true) (a.put oi.dst v) w)
    (hs : Region.noSelect ops = true := by kernel_rfl) (hf : Region.free md ops listed i = true := by kernel_rfl) (hr : (Region.ready md ops listed).contains i = true := by kernel_rfl)
    (hL : behindB md ops i L = true := by kernel_rfl) (hD : (D.all fun d => L.contains d) = true := by kernel_rfl) (hn : noneB listed L = true := by kernel_rfl)
    (hQ : ∀ c a w, Q (.panic c) (a.put oi.dst v) w → Q (.panic c) a w := by exact fun _ _ _ h => h) : anyD P md ops Q S D (fuel + 1) listed a w :=
  anyD_take L hi hs hf hr hL hD hn hQ hy hS h
/-- Each of the operations 'rs' comes up next. -/
def AllD (P : Program) (md : Region.Mode) (ops : Array Oper) (Q : Exit → Act → World → Prop) (S : World → Prop) (D : List Nat) (fuel : Nat) (listed : Array Bool) (a : Act) (w : World) (rs : List Nat) : Prop :=
  ∀ i ∈ rs, wpOp P ops Q i (fun a' w' => ((∀ d ∈ D, (listed.setIfInBounds i true).getD d true = false) → S w') ∧ anyD P md ops Q S D fuel (listed.setIfInBounds i true) a' w') a w
theorem AllD.nil {fuel : Nat} {listed : Array Bool} {a : Act} {w : World} : AllD P md ops Q S D fuel listed a w [] := fun _ h => by cases h
theorem AllD.cons {fuel : Nat} {listed : Array Bool} {a : Act} {w : World} {i : Nat} {o : Oper} {rs : List Nat} (ho : ops[i]? = some o)
    (h : ∀ K' : Act → World → Prop, Shut (∀ a w, ((∀ d ∈ D, (listed.setIfInBounds i true).getD d true = false) → S w) → anyD P md ops Q S D fuel (listed.setIfInBounds i true) a w → K' a w) → if Region.wanted o (yielded ops a.tmps) = true then Oper.wp P o a w K' Q else K' (a.put o.dst undef) w)
    (hs : AllD P md ops Q S D fuel listed a w rs) : AllD P md ops Q S D fuel listed a w (i :: rs) := fun j hj => by
  rcases List.mem_cons.1 hj with rfl | hj
  · exact wpOp_step ho (fun K' hK => h K' (fun a w hS hW => hK a w ⟨hS, hW⟩))
  · exact hs j hj
theorem anyD_ready {rs : List Nat} {fuel : Nat} {listed : Array Bool} {a : Act} {w : World} (hr : Region.ready md ops listed = rs) (hne : rs ≠ [])
    (h : AllD P md ops Q S D fuel listed a w rs) : anyD P md ops Q S D (fuel + 1) listed a w := ⟨fun h0 => absurd (hr ▸ h0) hne, hr ▸ h⟩
theorem anyD_done {listed : Array Bool} {a : Act} {w : World} (hr : Region.ready md ops listed = []) (h : Q .normal a w) :
    ∀ fuel, anyD P md ops Q S D fuel listed a w
  | 0 => ⟨hr, h⟩
  | _ + 1 => ⟨fun _ => h, by rw [hr]; simp⟩
theorem getD_tt {listed : Array Bool} {i d : Nat} (h : listed.getD d true = true) : (listed.setIfInBounds i true).getD d true = true := by
  by_cases hid : i = d
  · subst hid
    rcases Nat.lt_or_ge i listed.size with h' | h'
    · simp [h']
    · simp [Array.getElem?_eq_none h', Array.setIfInBounds_eq_of_size_le h']
  · rw [getD_set_ne true hid]; exact h
/-- One of D has come up: nothing more is asked of the world. -/
theorem anyD_late {d : Nat} (hd : d ∈ D) : ∀ (fuel : Nat) (listed : Array Bool) (a : Act) (w : World), listed.getD d true = true → wpAny P md ops Q fuel listed a w → anyD P md ops Q S D fuel listed a w
  | 0, _, _, _, _, h => h
  | fuel + 1, _, _, _, hl, h => ⟨h.1, fun i hi => wpOp_mono (fun a' w' h' => ⟨fun hn => absurd ((getD_tt hl).symm.trans (hn d hd)) (by decide), anyD_late hd fuel _ a' w' (getD_tt hl) h'⟩) (h.2 i hi)⟩
/-- As AllReady.cons, the way back shut. -/
theorem allShut {fuel : Nat} {listed : Array Bool} {a : Act} {w : World} {i : Nat} {o : Oper} {rs : List Nat} (ho : ops[i]? = some o)
    (h : ∀ K' : Act → World → Prop, Shut (∀ a w, wpAny P md ops Q fuel (listed.setIfInBounds i true) a w → K' a w) → if Region.wanted o (yielded ops a.tmps) = true then Oper.wp P o a w K' Q else K' (a.put o.dst undef) w)
    (hs : AllReady P md ops Q fuel listed a w rs) : AllReady P md ops Q fuel listed a w (i :: rs) := AllReady.cons ho h hs
/-- One operation alone comes up next. -/
theorem anyD_one (i : Nat) {fuel : Nat} {listed : Array Bool} {a : Act} {w : World} {o : Oper} (ho : ops[i]? = some o)
    (h : ∀ K' : Act → World → Prop, Shut (∀ a w, ((∀ d ∈ D, (listed.setIfInBounds i true).getD d true = false) → S w) → anyD P md ops Q S D fuel (listed.setIfInBounds i true) a w → K' a w) → if Region.wanted o (yielded ops a.tmps) = true then Oper.wp P o a w K' Q else K' (a.put o.dst undef) w)
    (hr : Region.ready md ops listed = [i] := by kernel_rfl) : anyD P md ops Q S D (fuel + 1) listed a w := anyD_ready hr (by simp) (AllD.cons ho h AllD.nil)
theorem wpAny_one (i : Nat) {fuel : Nat} {listed : Array Bool} {a : Act} {w : World} {o : Oper} (ho : ops[i]? = some o)
    (h : ∀ K' : Act → World → Prop, Shut (∀ a w, wpAny P md ops Q fuel (listed.setIfInBounds i true) a w → K' a w) → if Region.wanted o (yielded ops a.tmps) = true then Oper.wp P o a w K' Q else K' (a.put o.dst undef) w)
    (hr : Region.ready md ops listed = [i] := by kernel_rfl) : wpAny P md ops Q (fuel + 1) listed a w := wpAny_ready hr (by simp) (allShut ho h AllReady.nil)
theorem wp_region_D {id : Nat} {a : Act} {w : World} (S : World → Prop) (D : List Nat) (hm : P.follows .mixedOrders = true)
    (h : anyD P .any ops Q S D ops.size (Array.replicate ops.size false) a w.drew) : (Code.region id ops true).wp P Q a w :=
  wp_region_any hm (any_of_D _ _ _ _ h)
end
end Go.Proofs.YtbdgkkmbnahgiaaGreatDoor

namespace Go.Proofs.YtbdgkkmbnahgiaaGreatDoor
open Go.RowKit
attribute [local go_sem ↓] to_ldPk to_bxPk to_bdPk to_alPk to_stPk
attribute [local go_sem] run_bxPk run_bxPk_agg ld_fresh run_alPk run_bd0 run_bdK run_bdKI run_bdKIC run_bdKC run_bdKICP run_stPk_fresh pkC_0 pkC_1 pkC_2 pkC_3 pkC_4 pkC_5 pkC_6 pkC_7 pkC_8 pkC_9 pkC_10 pkC_11 pkC_12 pkC_13 pkC_14 pkC_15 pkC_16 pkC_17 pkC_18 pkC_19 pkC_20 pkC_21 pkC_22 pkC_23 pkC_24

theorem dataB_size (s : ByteArray) : (dataB s).size ≤ 65537 := by
  unfold dataB
  split
  · unfold framedS
    rw [ByteArray.size_append, mk_size, putL_len]; omega
  · exact Nat.zero_le _
theorem binary_data (s : ByteArray) (w : World) (hs : s.size ≤ 4611686018427387904) :
    Calls Tryz.prog 160 #[.string s] w fun e w' => e = .returned (.tuple #[.string (dataB s), .int .i64 (if s.size ≤ 65535 then 0 else 2)]) ∧ Below w.heap.size w w' := binary_any s w hs
set_option maxHeartbeats 400000 in
set_option maxRecDepth 10000 in
theorem data_any (s : ByteArray) (w : World) (hs : s.size ≤ 4611686018427387904) :
    Calls Tryz.prog 263 #[.string s] w fun e w' => e = .returned (.string (dataB s)) ∧ Below w.heap.size w w' := by
  go_enter Tryz.func263, Tryz.ntmps263
  go_wp2_with fail
  refine (binary_data s _ hs).mono ?_
  rintro e w1 ⟨rfl, hb⟩
  generalize (if s.size ≤ 65535 then (0 : Int) else 2) = E at *
  go_wp2
  go_ret
  exact ⟨rfl, hb⟩
theorem cells6_s (w : World) (x0 x1 x2 x3 x4 x5 : ByteArray) (t : TypeId) : ∀ (j : Nat) x, [x0, x1, x2, x3, x4, x5][j]? = some x → (w.alloc (.cells #[.string x0, .string x1, .string x2, .string x3, .string x4, .string x5] t)).cell? ⟨w.heap.size, 0 + j, none⟩ = some (.string x) := by
  intro j x h
  rw [Nat.zero_add, (Bk.fresh w t #[.string x0, .string x1, .string x2, .string x3, .string x4, .string x5]).cell]
  rcases j with _ | _ | _ | _ | _ | _ | j
  · simp at h; subst h; rfl
  · simp at h; subst h; rfl
  · simp at h; subst h; rfl
  · simp at h; subst h; rfl
  · simp at h; subst h; rfl
  · simp at h; subst h; rfl
  · simp at h
theorem cells4_s (w : World) (x0 x1 x2 x3 : ByteArray) (t : TypeId) : ∀ (j : Nat) x, [x0, x1, x2, x3][j]? = some x → (w.alloc (.cells #[.string x0, .string x1, .string x2, .string x3] t)).cell? ⟨w.heap.size, 0 + j, none⟩ = some (.string x) := by
  intro j x h
  rw [Nat.zero_add, (Bk.fresh w t #[.string x0, .string x1, .string x2, .string x3]).cell]
  rcases j with _ | _ | _ | _ | j
  · simp at h; subst h; rfl
  · simp at h; subst h; rfl
  · simp at h; subst h; rfl
  · simp at h; subst h; rfl
  · simp at h
theorem cells2_s (w : World) (x0 x1 : ByteArray) (t : TypeId) : ∀ (j : Nat) x, [x0, x1][j]? = some x → (w.alloc (.cells #[.string x0, .string x1] t)).cell? ⟨w.heap.size, 0 + j, none⟩ = some (.string x) := by
  intro j x h
  rw [Nat.zero_add, (Bk.fresh w t #[.string x0, .string x1]).cell]
  rcases j with _ | _ | j
  · simp at h; subst h; rfl
  · simp at h; subst h; rfl
  · simp at h

theorem tail8_size (v k : Int) (l : List Pr) : (tail8 v k l).size ≤ 131075004 := by
  unfold tail8
  split
  · exact Nat.zero_le _
  · rw [mk_size]
    by_cases h : (bytesS k l).2 = 0
    · exact (bytesS_size k l h).2
    · rw [bytesS_bad k l h]; exact Nat.zero_le _
theorem catL_size : ∀ l : List ByteArray, (catL l).size = (l.map ByteArray.size).sum
  | [] => rfl
  | x :: l => by rw [catL, ByteArray.size_append, catL_size l]; rfl
theorem cntE_one {v : Int} {p : Pk} (x : cntE v p = 0) (h2 : p.kind ≠ 2) : p.kind = 1 ∧ (v = 4 ∨ v = 5) ∧ (0 ≤ p.alive ∧ p.alive < 65536 ∧ 0 ≤ p.will.qos ∧ p.will.qos ≤ 2) := by
  obtain ⟨g1, g2, g3, g4⟩ := cntE_rng x
  have h1 : p.kind = 1 := (of_decide_eq_true (show decide (p.kind = 1 ∨ p.kind = 2) = true from g2)).resolve_right h2
  refine ⟨h1, of_decide_eq_true (show decide (v = 4 ∨ v = 5) = true from g1), ?_⟩
  unfold cntRng at g4
  split at g4
  · cases g4
  · split at g4
    · cases g4
    · exact of_decide_eq_true g4
set_option maxHeartbeats 8000000 in
set_option maxRecDepth 10000 in
theorem cntBody1_any (v : Int) (p : Pk) (h : Hs) (w : World) (ip : PkIn w w.heap.size p h) (ok : PkOk p) (h2 : p.kind ≠ 2) :
    Calls Tryz.prog 193 #[.int .i64 v, pkV p h] w fun e w' => e = .returned (.tuple #[.string (if cntE v p = 0 then (cntS v p, (0 : Int)) else (⟨#[]⟩, cntE v p)).1, .int .i64 (if cntE v p = 0 then (cntS v p, (0 : Int)) else (⟨#[]⟩, cntE v p)).2]) ∧ Below w.heap.size w w' := by
  have OK := Lib.hid ok
  have S0 := Lib.hid ((St.start w).push ip)
  obtain ⟨B, hB⟩ : ∃ B, (if cntE v p = 0 then (cntS v p, (0 : Int)) else (⟨#[]⟩, cntE v p)) = B := ⟨_, rfl⟩
  rw [hB]
  have HE := Lib.hid hB.symm
  have l0 := S0.out.ld 0 rfl
  have H2 := Lib.hid h2
  clear ip ok h2 hB
  go_enter Tryz.func193, Tryz.ntmps193
  go_wp2_with fail
  refine (cntValid_any v p h _ (S0.out.into 0 rfl) OK.out).mono ?_
  rintro e w1 ⟨rfl, hb⟩
  have S1 := Lib.hid (S0.out.below hb); clear hb l0
  by_cases he : cntE v p = 0
  rotate_left
  · have e0 : (cntE v p != 0) = true := bne_iff_ne.2 he
    have HX : Hid (B = (⟨#[]⟩, cntE v p)) := Lib.hid (by rw [HE.out, if_neg he])
    clear he
    go_wp2
    go_ret2
    exact ⟨by rw [HX.out]; rfl, S1.out.kept⟩
  have HX : Hid (B = (cntS v p, 0)) := Lib.hid (by rw [HE.out, if_pos he])
  have HG := Lib.hid (cntE_one he H2.out)
  rw [he]
  have HFR := Lib.hid (flN_range p)
  obtain ⟨FQ, hFQ⟩ : ∃ FQ, flQ p = FQ := ⟨_, rfl⟩
  have HFQ : Hid (flN p = FQ) := Lib.hid (by rw [← hFQ]; exact (if_pos HG.out.1).symm)
  have HFC : Hid (∀ x : World, Calls Tryz.prog 262 #[pkV p h] x fun e w' => e = .returned (.int .i64 FQ) ∧ Below x.heap.size x w') := Lib.hid (fun x => by rw [← hFQ]; exact cntFlags_any p h x)
  clear hFQ
  have HR2 : Hid (0 ≤ FQ ∧ FQ < 256) := Lib.hid (by rw [← HFQ.out]; exact HFR.out)
  obtain ⟨vn, hvn, hw1⟩ : ∃ m : Nat, Hid (v.toNat = m) ∧ IntKind.u64.wrap v = (m : Int) := ⟨_, Lib.hid rfl, by rw [IntKind.wrap_u64]; have := HG.out.2.1; omega⟩
  obtain ⟨fn, hfn, hw2⟩ : ∃ m : Nat, Hid (FQ.toNat = m) ∧ IntKind.u64.wrap FQ = (m : Int) := ⟨_, Lib.hid rfl, by rw [IntKind.wrap_u64]; have := HR2.out; omega⟩
  obtain ⟨an, han, hw3⟩ : ∃ m : Nat, Hid (p.alive.toNat = m) ∧ IntKind.u64.wrap p.alive = (m : Int) := ⟨_, Lib.hid rfl, by rw [IntKind.wrap_u64]; have := HG.out.2.2; omega⟩
  have HVN : Hid (vn < 256) := Lib.hid (by have := hvn.out; have := HG.out.2.1; omega)
  have HFN : Hid (fn < 256) := Lib.hid (by have := hfn.out; have := HR2.out; omega)
  have HAN : Hid (an < 65536) := Lib.hid (by have := han.out; have := HG.out.2.2; omega)
  have k0 := (S1.out.cell 0 rfl 0).trans (pkC_0 _ _)
  have k24 := (S1.out.cell 0 rfl 24).trans (pkC_24 _ _)
  clear he
  go_wp2_with fail
  refine (tail8_any v p.kind p.props _ rfl OK.out.props h.props.a h.props.c _ (S1.out.into 0 rfl).props OK.out.len.2.2.2).mono ?_
  rintro e w2 ⟨rfl, hb⟩
  have S2 := Lib.hid (S1.out.below hb); clear hb k0 k24
  have k0 := (S2.out.cell 0 rfl 0).trans (pkC_0 _ _)
  have e2 : (p.kind == 2) = false := beq_eq_false_iff_ne.2 H2.out
  have HS1 : Hid (cntS1 v p = catL [cntName, ⟨(putL v.toNat 1).toArray⟩, ⟨(putL (flN p).toNat 1).toArray⟩, ⟨(putL p.alive.toNat 2).toArray⟩, tail8 v p.kind p.props, dataB p.client]) := Lib.hid rfl
  rw [hvn.out, HFQ.out, hfn.out, han.out] at HS1
  have HTS := Lib.hid (tail8_size v p.kind p.props)
  have HCS := Lib.hid (dataB_size p.client)
  obtain ⟨T, hT⟩ : ∃ T, tail8 v p.kind p.props = T := ⟨_, rfl⟩
  rw [hT] at HS1 HTS ⊢
  obtain ⟨X1, hX1⟩ : ∃ X : ByteArray, (⟨(putL vn 1).toArray⟩ : ByteArray) = X := ⟨_, rfl⟩
  obtain ⟨X2, hX2⟩ : ∃ X : ByteArray, (⟨(putL fn 1).toArray⟩ : ByteArray) = X := ⟨_, rfl⟩
  obtain ⟨X3, hX3⟩ : ∃ X : ByteArray, (⟨(putL an 2).toArray⟩ : ByteArray) = X := ⟨_, rfl⟩
  obtain ⟨D1, hD1⟩ : ∃ X : ByteArray, dataB p.client = X := ⟨_, rfl⟩
  rw [hX1, hX2, hX3, hD1] at HS1
  rw [hD1] at HCS
  have HSZ : Hid (X1.size = 1 ∧ X2.size = 1 ∧ X3.size = 2) := Lib.hid ⟨by rw [← hX1, mk_size, putL_len], by rw [← hX2, mk_size, putL_len], by rw [← hX3, mk_size, putL_len]⟩
  have P1 := Lib.hid (fun x : World => put_any vn 1 x (by have := HVN.out; omega) (by omega) (by omega))
  have P2 := Lib.hid (fun x : World => put_any fn 1 x (by have := HFN.out; omega) (by omega) (by omega))
  have P3 := Lib.hid (fun x : World => put_any an 2 x (by have := HAN.out; omega) (by omega) (by omega))
  have P4 := Lib.hid (fun x : World => data_any p.client x (by have := OK.out.texts; omega))
  rw [hX1] at P1
  rw [hX2] at P2
  rw [hX3] at P3
  rw [hD1] at P4
  clear hT hX1 hX2 hX3 hD1
  have hN : (⟨#[0, 4, 77, 81, 84, 84]⟩ : ByteArray) = cntName := rfl
  have HNS : Hid (cntName.size = 6) := Lib.hid rfl
  go_wp2_with fail
  rw [hN]
  clear hN
  have J0 := Lib.hid S2.out.drew
  have HS := And.intro (J0.out.ld 0 rfl) (And.intro ((J0.out.cell 0 rfl 8).trans (pkC_8 _ _)) ((J0.out.cell 0 rfl 9).trans (pkC_9 _ _)))
  refine wp_region_D (fun w' => (ldPk (.pointer (some ⟨w.heap.size, 0, none⟩))).run Tryz.prog w' = .ok (pkV p h) w' ∧ w'.cell? ⟨w.heap.size, 8, none⟩ = some (.int .i64 p.alive) ∧ w'.cell? ⟨w.heap.size, 9, none⟩ = some (.string p.client)) [15] (by kernel_rfl) ?_
  refine anyD_pick (i := 0) (v := ?v0) [1, 2, 15] rfl (Or.inl ⟨by rfl, ?h0⟩) HS ?r0
  case h0 => intro w' hSw; (try dsimp only at hSw); go_simp; try with_reducible rfl
  (try simp only [Act.put]); (try simp only [List.setIfInBounds_toArray]); (try simp only [List.set_cons_succ]); (try simp only [List.set_cons_zero])
  refine anyD_pick (i := 1) (v := ?v1) [2, 15] rfl (Or.inl ⟨by rfl, ?h1⟩) HS ?r1
  case h1 => intro w' hSw; (try dsimp only at hSw); go_simp; try with_reducible rfl
  (try simp only [Act.put]); (try simp only [List.setIfInBounds_toArray]); (try simp only [List.set_cons_succ]); (try simp only [List.set_cons_zero])
  refine anyD_pick (i := 3) (v := ?v3) [4, 5, 6, 15] rfl (Or.inl ⟨by rfl, ?h3⟩) HS ?r3
  case h3 => intro w' hSw; (try dsimp only at hSw); go_simp; try with_reducible rfl
  (try simp only [Act.put]); (try simp only [List.setIfInBounds_toArray]); (try simp only [List.set_cons_succ]); (try simp only [List.set_cons_zero])
  refine anyD_pick (i := 7) (v := ?v7) [8, 9, 10, 15] rfl (Or.inl ⟨by rfl, ?h7⟩) HS ?r7
  case h7 => intro w' hSw; (try dsimp only at hSw); go_simp; try with_reducible rfl
  (try simp only [Act.put]); (try simp only [List.setIfInBounds_toArray]); (try simp only [List.set_cons_succ]); (try simp only [List.set_cons_zero])
  refine anyD_pick (i := 8) (v := ?v8) [9, 10, 15] rfl (Or.inl ⟨by rfl, ?h8⟩) HS ?r8
  case h8 => intro w' hSw; (try dsimp only at hSw); go_simp; try with_reducible rfl
  (try simp only [Act.put]); (try simp only [List.setIfInBounds_toArray]); (try simp only [List.set_cons_succ]); (try simp only [List.set_cons_zero])
  refine anyD_pick (i := 9) (v := ?v9) [10, 15] rfl (Or.inl ⟨by rfl, ?h9⟩) HS ?r9
  case h9 => intro w' hSw; (try dsimp only at hSw); go_simp; try with_reducible rfl
  (try simp only [Act.put]); (try simp only [List.setIfInBounds_toArray]); (try simp only [List.set_cons_succ]); (try simp only [List.set_cons_zero])
  refine anyD_pick (i := 11) (v := ?v11) [15] rfl (Or.inl ⟨by rfl, ?h11⟩) HS ?r11
  case h11 => intro w' hSw; (try dsimp only at hSw); go_simp; try with_reducible rfl
  (try simp only [Act.put]); (try simp only [List.setIfInBounds_toArray]); (try simp only [List.set_cons_succ]); (try simp only [List.set_cons_zero])
  refine anyD_pick (i := 12) (v := ?v12) [13, 14, 15] rfl (Or.inl ⟨by rfl, ?h12⟩) HS ?r12
  case h12 => intro w' hSw; (try dsimp only at hSw); go_simp; try with_reducible rfl
  (try simp only [Act.put]); (try simp only [List.setIfInBounds_toArray]); (try simp only [List.set_cons_succ]); (try simp only [List.set_cons_zero])
  refine anyD_pick (i := 13) (v := ?v13) [14, 15] rfl (Or.inl ⟨by rfl, ?h13⟩) HS ?r13
  case h13 => intro w' hSw; (try dsimp only at hSw); go_simp; try with_reducible rfl
  (try simp only [Act.put]); (try simp only [List.setIfInBounds_toArray]); (try simp only [List.set_cons_succ]); (try simp only [List.set_cons_zero])
  refine anyD_one 2 rfl (fun K hK => ?_)
  go_simp
  go_at_call 56
  refine (P1.out _).mono ?_
  rintro e' z2 ⟨rfl, hb⟩
  have J1 := Lib.hid (J0.out.below hb); clear hb HS
  have HS := And.intro (J1.out.ld 0 rfl) (And.intro ((J1.out.cell 0 rfl 8).trans (pkC_8 _ _)) ((J1.out.cell 0 rfl 9).trans (pkC_9 _ _)))
  go_simp
  refine hK.out _ _ (fun _ => HS) ?_
  clear hK K
  (try simp only [Act.put]); (try simp only [List.setIfInBounds_toArray]); (try simp only [List.set_cons_succ]); (try simp only [List.set_cons_zero])
  refine anyD_one 4 rfl (fun K hK => ?_)
  go_simp
  go_at_call 262
  refine (HFC.out _).mono ?_
  rintro e' z4 ⟨rfl, hb⟩
  have J2 := Lib.hid (J1.out.below hb); clear hb HS
  have HS := And.intro (J2.out.ld 0 rfl) (And.intro ((J2.out.cell 0 rfl 8).trans (pkC_8 _ _)) ((J2.out.cell 0 rfl 9).trans (pkC_9 _ _)))
  go_simp
  refine hK.out _ _ (fun _ => HS) ?_
  clear hK K
  (try simp only [Act.put]); (try simp only [List.setIfInBounds_toArray]); (try simp only [List.set_cons_succ]); (try simp only [List.set_cons_zero])
  refine anyD_pick (i := 5) (v := ?v5) [6, 15] rfl (Or.inl ⟨by rfl, ?h5⟩) HS ?r5
  case h5 => intro w' hSw; (try dsimp only at hSw); go_simp; try with_reducible rfl
  (try simp only [Act.put]); (try simp only [List.setIfInBounds_toArray]); (try simp only [List.set_cons_succ]); (try simp only [List.set_cons_zero])
  refine anyD_one 6 rfl (fun K hK => ?_)
  go_simp
  go_at_call 56
  refine (P2.out _).mono ?_
  rintro e' z6 ⟨rfl, hb⟩
  have J3 := Lib.hid (J2.out.below hb); clear hb HS
  have HS := And.intro (J3.out.ld 0 rfl) (And.intro ((J3.out.cell 0 rfl 8).trans (pkC_8 _ _)) ((J3.out.cell 0 rfl 9).trans (pkC_9 _ _)))
  go_simp
  refine hK.out _ _ (fun _ => HS) ?_
  clear hK K
  (try simp only [Act.put]); (try simp only [List.setIfInBounds_toArray]); (try simp only [List.set_cons_succ]); (try simp only [List.set_cons_zero])
  refine anyD_one 10 rfl (fun K hK => ?_)
  go_simp
  go_at_call 56
  refine (P3.out _).mono ?_
  rintro e' z10 ⟨rfl, hb⟩
  have J4 := Lib.hid (J3.out.below hb); clear hb HS
  have HS := And.intro (J4.out.ld 0 rfl) (And.intro ((J4.out.cell 0 rfl 8).trans (pkC_8 _ _)) ((J4.out.cell 0 rfl 9).trans (pkC_9 _ _)))
  go_simp
  refine hK.out _ _ (fun _ => HS) ?_
  clear hK K
  (try simp only [Act.put]); (try simp only [List.setIfInBounds_toArray]); (try simp only [List.set_cons_succ]); (try simp only [List.set_cons_zero])
  refine anyD_one 14 rfl (fun K hK => ?_)
  go_simp
  go_at_call 263
  refine (P4.out _).mono ?_
  rintro e' z14 ⟨rfl, hb⟩
  have J5 := Lib.hid (J4.out.below hb); clear hb HS
  have HS := And.intro (J5.out.ld 0 rfl) (And.intro ((J5.out.cell 0 rfl 8).trans (pkC_8 _ _)) ((J5.out.cell 0 rfl 9).trans (pkC_9 _ _)))
  go_simp
  refine hK.out _ _ (fun _ => HS) ?_
  clear hK K
  (try simp only [Act.put]); (try simp only [List.setIfInBounds_toArray]); (try simp only [List.set_cons_succ]); (try simp only [List.set_cons_zero])
  refine anyD_one 15 rfl (fun K hK => ?_)
  go_simp
  refine hK.out _ _ (fun hn => absurd (hn 15 (by simp)) (by decide)) (anyD_late (d := 15) (by simp) _ _ _ _ (by kernel_rfl) ?_)
  clear hK K HS
  (try simp only [Act.put]); (try simp only [List.setIfInBounds_toArray]); (try simp only [List.set_cons_succ]); (try simp only [List.set_cons_zero])
  have J6 := Lib.hid (J5.out.alloc (.cells #[.string cntName, .string X1, .string X2, .string X3, .string T, .string D1] 9))
  refine wpAny_one 16 rfl (fun K hK => ?_)
  go_simp
  go_at_call 261
  refine (put8_any [cntName, X1, X2, X3, T, D1] 6 6 z14.heap.size 0 rfl _ (cells6_s z14 _ _ _ _ _ _ _) (by simp) (by omega) (by omega) (by rw [catL_size]; simp only [List.map, List.sum_cons, List.sum_nil]; have := HNS.out; have := HSZ.out; have := HTS.out; have := HCS.out; omega)).mono ?_
  rintro e' z16 ⟨rfl, hb⟩
  have S7 := Lib.hid (J6.out.below hb); clear hb
  go_simp
  refine hK.out _ _ ?_
  clear hK K
  (try simp only [Act.put]); (try simp only [List.setIfInBounds_toArray]); (try simp only [List.set_cons_succ]); (try simp only [List.set_cons_zero])
  refine wpAny_one 17 rfl (fun K hK => ?_)
  go_simp
  refine hK.out _ _ ?_
  clear hK K
  (try simp only [Act.put]); (try simp only [List.setIfInBounds_toArray]); (try simp only [List.set_cons_succ]); (try simp only [List.set_cons_zero])
  refine wpAny_done (by kernel_rfl) ?_ _
  rw [← HS1.out]
  have HZ1 : Hid ((cntS1 v p).size ≤ 131140700) := Lib.hid (by rw [HS1.out, catL_size]; simp only [List.map, List.sum_cons, List.sum_nil]; have := HNS.out; have := HSZ.out; have := HTS.out; have := HCS.out; omega)
  have HS2 : Hid (cntS2 v p = if p.hasWill = true then catL [cntS1 v p, tail8 v 16 p.will.props, dataB p.will.topic, dataB p.will.payload] else cntS1 v p) := Lib.hid rfl
  have HS3 : Hid (cntS3 v p = if p.hasUser = true then catL [cntS2 v p, dataB p.user] else cntS2 v p) := Lib.hid rfl
  have HS4 : Hid (cntS v p = if p.hasPass = true then catL [cntS3 v p, dataB p.pass] else cntS3 v p) := Lib.hid rfl
  obtain ⟨O1, hO1⟩ : ∃ O, cntS1 v p = O := ⟨_, rfl⟩
  rw [hO1] at HS1 HZ1 HS2 ⊢
  clear hO1 HS1 HTS HCS HSZ HNS P1 P2 P3 P4 HFC hw1 hw2 hw3 k0 e2
  have k14 := (S7.out.cell 0 rfl 14).trans (pkC_14 _ _)
  obtain ⟨wb, hwb⟩ : ∃ b, p.hasWill = b := ⟨_, rfl⟩
  rw [hwb] at k14 HS2
  clear hwb
  cases wb
  · rw [if_neg (by decide)] at HS2
    rw [HS2.out] at HS3
    have uk := (S7.out.cell 0 rfl 10).trans (pkC_10 _ _)
    obtain ⟨ub, hub⟩ : ∃ b, p.hasUser = b := ⟨_, rfl⟩
    rw [hub] at uk HS3
    clear hub
    cases ub
    · rw [if_neg (by decide)] at HS3
      rw [HS3.out] at HS4
      have qk := (S7.out.cell 0 rfl 12).trans (pkC_12 _ _)
      obtain ⟨qb, hqb⟩ : ∃ b, p.hasPass = b := ⟨_, rfl⟩
      rw [hqb] at qk HS4
      clear hqb
      cases qb
      · rw [if_neg (by decide)] at HS4
        go_wp2
        go_ret2
        exact ⟨by rw [HX.out, HS4.out]; rfl, S7.out.kept⟩
      · rw [if_pos rfl] at HS4
        have qf := (S7.out.cell 0 rfl 13).trans (pkC_13 _ _)
        go_wp2_with fail
        refine (data_any p.pass _ (by have := OK.out.texts; omega)).mono ?_
        rintro e yq ⟨rfl, hb⟩
        have S7a := Lib.hid (S7.out.below hb); clear hb qk qf
        have qD := Lib.hid (dataB_size p.pass)
        obtain ⟨qX, hqX⟩ : ∃ X, dataB p.pass = X := ⟨_, rfl⟩
        rw [hqX] at HS4 qD ⊢
        clear hqX
        have S7b := Lib.hid (S7a.out.alloc (.cells #[.string O1, .string qX] 9))
        go_wp2_with fail
        refine (put8_any [O1, qX] 2 2 yq.heap.size 0 rfl _ (cells2_s yq _ _ _) (by simp) (by omega) (by omega) (by rw [catL_size]; simp only [List.map, List.sum_cons, List.sum_nil]; have := HZ1.out; have := qD.out; omega)).mono ?_
        rintro e zq ⟨rfl, hb⟩
        have S7p := Lib.hid (S7b.out.below hb); clear hb
        have HZp : Hid ((catL [O1, qX]).size ≤ 131210700) := Lib.hid (by rw [catL_size]; simp only [List.map, List.sum_cons, List.sum_nil]; have := HZ1.out; have := qD.out; omega)
        obtain ⟨Op1, hOp1⟩ : ∃ O, catL [O1, qX] = O := ⟨_, rfl⟩
        rw [hOp1] at HS4 HZp ⊢
        clear hOp1
        go_wp2
        go_ret2
        exact ⟨by rw [HX.out, HS4.out]; rfl, S7p.out.kept⟩
    · rw [if_pos rfl] at HS3
      have uf := (S7.out.cell 0 rfl 11).trans (pkC_11 _ _)
      go_wp2_with fail
      refine (data_any p.user _ (by have := OK.out.texts; omega)).mono ?_
      rintro e yu ⟨rfl, hb⟩
      have S7a := Lib.hid (S7.out.below hb); clear hb uk uf
      have uD := Lib.hid (dataB_size p.user)
      obtain ⟨uX, huX⟩ : ∃ X, dataB p.user = X := ⟨_, rfl⟩
      rw [huX] at HS3 uD ⊢
      clear huX
      have S7b := Lib.hid (S7a.out.alloc (.cells #[.string O1, .string uX] 9))
      go_wp2_with fail
      refine (put8_any [O1, uX] 2 2 yu.heap.size 0 rfl _ (cells2_s yu _ _ _) (by simp) (by omega) (by omega) (by rw [catL_size]; simp only [List.map, List.sum_cons, List.sum_nil]; have := HZ1.out; have := uD.out; omega)).mono ?_
      rintro e zu ⟨rfl, hb⟩
      have S7u := Lib.hid (S7b.out.below hb); clear hb
      have HZu : Hid ((catL [O1, uX]).size ≤ 131210700) := Lib.hid (by rw [catL_size]; simp only [List.map, List.sum_cons, List.sum_nil]; have := HZ1.out; have := uD.out; omega)
      obtain ⟨Ou1, hOu1⟩ : ∃ O, catL [O1, uX] = O := ⟨_, rfl⟩
      rw [hOu1] at HS3 HZu ⊢
      clear hOu1
      rw [HS3.out] at HS4
      have qk := (S7u.out.cell 0 rfl 12).trans (pkC_12 _ _)
      obtain ⟨qb, hqb⟩ : ∃ b, p.hasPass = b := ⟨_, rfl⟩
      rw [hqb] at qk HS4
      clear hqb
      cases qb
      · rw [if_neg (by decide)] at HS4
        go_wp2
        go_ret2
        exact ⟨by rw [HX.out, HS4.out]; rfl, S7u.out.kept⟩
      · rw [if_pos rfl] at HS4
        have qf := (S7u.out.cell 0 rfl 13).trans (pkC_13 _ _)
        go_wp2_with fail
        refine (data_any p.pass _ (by have := OK.out.texts; omega)).mono ?_
        rintro e yq ⟨rfl, hb⟩
        have S7ua := Lib.hid (S7u.out.below hb); clear hb qk qf
        have qD := Lib.hid (dataB_size p.pass)
        obtain ⟨qX, hqX⟩ : ∃ X, dataB p.pass = X := ⟨_, rfl⟩
        rw [hqX] at HS4 qD ⊢
        clear hqX
        have S7ub := Lib.hid (S7ua.out.alloc (.cells #[.string Ou1, .string qX] 9))
        go_wp2_with fail
        refine (put8_any [Ou1, qX] 2 2 yq.heap.size 0 rfl _ (cells2_s yq _ _ _) (by simp) (by omega) (by omega) (by rw [catL_size]; simp only [List.map, List.sum_cons, List.sum_nil]; have := HZu.out; have := qD.out; omega)).mono ?_
        rintro e zq ⟨rfl, hb⟩
        have S7up := Lib.hid (S7ub.out.below hb); clear hb
        have HZp : Hid ((catL [Ou1, qX]).size ≤ 131280700) := Lib.hid (by rw [catL_size]; simp only [List.map, List.sum_cons, List.sum_nil]; have := HZu.out; have := qD.out; omega)
        obtain ⟨Opu1, hOpu1⟩ : ∃ O, catL [Ou1, qX] = O := ⟨_, rfl⟩
        rw [hOpu1] at HS4 HZp ⊢
        clear hOpu1
        go_wp2
        go_ret2
        exact ⟨by rw [HX.out, HS4.out]; rfl, S7up.out.kept⟩
  · rw [if_pos rfl] at HS2
    have HWS : Hid ((tail8 v 16 p.will.props).size ≤ 131075004 ∧ (dataB p.will.topic).size ≤ 65537 ∧ (dataB p.will.payload).size ≤ 65537) := Lib.hid ⟨tail8_size _ _ _, dataB_size _, dataB_size _⟩
    have W1 := Lib.hid (fun (x : World) hr => tail8_any v 16 p.will.props _ rfl OK.out.wp h.wp.a h.wp.c x hr OK.out.len.1)
    have W2 := Lib.hid (fun x : World => data_any p.will.topic x (by have := OK.out.texts; omega))
    have W3 := Lib.hid (fun x : World => data_any p.will.payload x (by have := OK.out.texts; omega))
    obtain ⟨WT, hWT⟩ : ∃ X, tail8 v 16 p.will.props = X := ⟨_, rfl⟩
    obtain ⟨WA, hWA⟩ : ∃ X, dataB p.will.topic = X := ⟨_, rfl⟩
    obtain ⟨WB, hWB⟩ : ∃ X, dataB p.will.payload = X := ⟨_, rfl⟩
    rw [hWT, hWA, hWB] at HS2 HWS
    rw [hWT] at W1
    rw [hWA] at W2
    rw [hWB] at W3
    clear hWT hWA hWB
    go_wp2_with fail
    have J7 := Lib.hid S7.out.drew
    have HS := And.intro ((J7.out.cell 0 rfl 19).trans (pkC_19 _ _)) (And.intro ((J7.out.cell 0 rfl 15).trans (pkC_15 _ _)) ((J7.out.cell 0 rfl 16).trans (pkC_16 _ _)))
    refine wp_region_D (fun w' => w'.cell? ⟨w.heap.size, 19, none⟩ = some (.slice h.wp.a p.will.props.length h.wp.c) ∧ w'.cell? ⟨w.heap.size, 15, none⟩ = some (.string p.will.topic) ∧ w'.cell? ⟨w.heap.size, 16, none⟩ = some (.string p.will.payload)) [14] (by kernel_rfl) ?_
    refine anyD_pick (i := 0) (v := ?x0) [14] rfl (Or.inl ⟨by rfl, ?y0⟩) HS ?z0
    case y0 => intro w' hSw; (try dsimp only at hSw); go_simp; try with_reducible rfl
    (try simp only [Act.put]); (try simp only [List.setIfInBounds_toArray]); (try simp only [List.set_cons_succ]); (try simp only [List.set_cons_zero])
    refine anyD_pick (i := 1) (v := ?x1) [5, 14] rfl (Or.inl ⟨by rfl, ?y1⟩) HS ?z1
    case y1 => intro w' hSw; (try dsimp only at hSw); go_simp; try with_reducible rfl
    (try simp only [Act.put]); (try simp only [List.setIfInBounds_toArray]); (try simp only [List.set_cons_succ]); (try simp only [List.set_cons_zero])
    refine anyD_pick (i := 2) (v := ?x2) [3, 4, 5, 14] rfl (Or.inl ⟨by rfl, ?y2⟩) HS ?z2
    case y2 => intro w' hSw; (try dsimp only at hSw); go_simp; try with_reducible rfl
    (try simp only [Act.put]); (try simp only [List.setIfInBounds_toArray]); (try simp only [List.set_cons_succ]); (try simp only [List.set_cons_zero])
    refine anyD_pick (i := 3) (v := ?x3) [4, 5, 14] rfl (Or.inl ⟨by rfl, ?y3⟩) HS ?z3
    case y3 => intro w' hSw; (try dsimp only at hSw); go_simp; try with_reducible rfl
    (try simp only [Act.put]); (try simp only [List.setIfInBounds_toArray]); (try simp only [List.set_cons_succ]); (try simp only [List.set_cons_zero])
    refine anyD_pick (i := 4) (v := ?x4) [5, 14] rfl (Or.inl ⟨by rfl, ?y4⟩) HS ?z4
    case y4 => intro w' hSw; (try dsimp only at hSw); go_simp; try with_reducible rfl
    (try simp only [Act.put]); (try simp only [List.setIfInBounds_toArray]); (try simp only [List.set_cons_succ]); (try simp only [List.set_cons_zero])
    refine anyD_pick (i := 6) (v := ?x6) [7, 8, 9, 14] rfl (Or.inl ⟨by rfl, ?y6⟩) HS ?z6
    case y6 => intro w' hSw; (try dsimp only at hSw); go_simp; try with_reducible rfl
    (try simp only [Act.put]); (try simp only [List.setIfInBounds_toArray]); (try simp only [List.set_cons_succ]); (try simp only [List.set_cons_zero])
    refine anyD_pick (i := 7) (v := ?x7) [8, 9, 14] rfl (Or.inl ⟨by rfl, ?y7⟩) HS ?z7
    case y7 => intro w' hSw; (try dsimp only at hSw); go_simp; try with_reducible rfl
    (try simp only [Act.put]); (try simp only [List.setIfInBounds_toArray]); (try simp only [List.set_cons_succ]); (try simp only [List.set_cons_zero])
    refine anyD_pick (i := 8) (v := ?x8) [9, 14] rfl (Or.inl ⟨by rfl, ?y8⟩) HS ?z8
    case y8 => intro w' hSw; (try dsimp only at hSw); go_simp; try with_reducible rfl
    (try simp only [Act.put]); (try simp only [List.setIfInBounds_toArray]); (try simp only [List.set_cons_succ]); (try simp only [List.set_cons_zero])
    refine anyD_pick (i := 10) (v := ?x10) [11, 12, 13, 14] rfl (Or.inl ⟨by rfl, ?y10⟩) HS ?z10
    case y10 => intro w' hSw; (try dsimp only at hSw); go_simp; try with_reducible rfl
    (try simp only [Act.put]); (try simp only [List.setIfInBounds_toArray]); (try simp only [List.set_cons_succ]); (try simp only [List.set_cons_zero])
    refine anyD_pick (i := 11) (v := ?x11) [12, 13, 14] rfl (Or.inl ⟨by rfl, ?y11⟩) HS ?z11
    case y11 => intro w' hSw; (try dsimp only at hSw); go_simp; try with_reducible rfl
    (try simp only [Act.put]); (try simp only [List.setIfInBounds_toArray]); (try simp only [List.set_cons_succ]); (try simp only [List.set_cons_zero])
    refine anyD_pick (i := 12) (v := ?x12) [13, 14] rfl (Or.inl ⟨by rfl, ?y12⟩) HS ?z12
    case y12 => intro w' hSw; (try dsimp only at hSw); go_simp; try with_reducible rfl
    (try simp only [Act.put]); (try simp only [List.setIfInBounds_toArray]); (try simp only [List.set_cons_succ]); (try simp only [List.set_cons_zero])
    refine anyD_one 5 rfl (fun K hK => ?_)
    go_simp
    go_at_call 260
    refine (W1.out _ (J7.out.into 0 rfl).wp).mono ?_
    rintro e' z5 ⟨rfl, hb⟩
    have J8 := Lib.hid (J7.out.below hb); clear hb HS
    have HS := And.intro ((J8.out.cell 0 rfl 19).trans (pkC_19 _ _)) (And.intro ((J8.out.cell 0 rfl 15).trans (pkC_15 _ _)) ((J8.out.cell 0 rfl 16).trans (pkC_16 _ _)))
    go_simp
    refine hK.out _ _ (fun _ => HS) ?_
    clear hK K
    (try simp only [Act.put]); (try simp only [List.setIfInBounds_toArray]); (try simp only [List.set_cons_succ]); (try simp only [List.set_cons_zero])
    refine anyD_one 9 rfl (fun K hK => ?_)
    go_simp
    go_at_call 263
    refine (W2.out _).mono ?_
    rintro e' z9 ⟨rfl, hb⟩
    have J9 := Lib.hid (J8.out.below hb); clear hb HS
    have HS := And.intro ((J9.out.cell 0 rfl 19).trans (pkC_19 _ _)) (And.intro ((J9.out.cell 0 rfl 15).trans (pkC_15 _ _)) ((J9.out.cell 0 rfl 16).trans (pkC_16 _ _)))
    go_simp
    refine hK.out _ _ (fun _ => HS) ?_
    clear hK K
    (try simp only [Act.put]); (try simp only [List.setIfInBounds_toArray]); (try simp only [List.set_cons_succ]); (try simp only [List.set_cons_zero])
    refine anyD_one 13 rfl (fun K hK => ?_)
    go_simp
    go_at_call 263
    refine (W3.out _).mono ?_
    rintro e' z13 ⟨rfl, hb⟩
    have JA := Lib.hid (J9.out.below hb); clear hb HS
    have HS := And.intro ((JA.out.cell 0 rfl 19).trans (pkC_19 _ _)) (And.intro ((JA.out.cell 0 rfl 15).trans (pkC_15 _ _)) ((JA.out.cell 0 rfl 16).trans (pkC_16 _ _)))
    go_simp
    refine hK.out _ _ (fun _ => HS) ?_
    clear hK K
    (try simp only [Act.put]); (try simp only [List.setIfInBounds_toArray]); (try simp only [List.set_cons_succ]); (try simp only [List.set_cons_zero])
    refine anyD_one 14 rfl (fun K hK => ?_)
    go_simp
    refine hK.out _ _ (fun hn => absurd (hn 14 (by simp)) (by decide)) (anyD_late (d := 14) (by simp) _ _ _ _ (by kernel_rfl) ?_)
    clear hK K HS
    (try simp only [Act.put]); (try simp only [List.setIfInBounds_toArray]); (try simp only [List.set_cons_succ]); (try simp only [List.set_cons_zero])
    have JB := Lib.hid (JA.out.alloc (.cells #[.string O1, .string WT, .string WA, .string WB] 9))
    refine wpAny_one 15 rfl (fun K hK => ?_)
    go_simp
    go_at_call 261
    refine (put8_any [O1, WT, WA, WB] 4 4 z13.heap.size 0 rfl _ (cells4_s z13 _ _ _ _ _) (by simp) (by omega) (by omega) (by rw [catL_size]; simp only [List.map, List.sum_cons, List.sum_nil]; have := HZ1.out; have := HWS.out; omega)).mono ?_
    rintro e' z15 ⟨rfl, hb⟩
    have S8 := Lib.hid (JB.out.below hb); clear hb
    go_simp
    refine hK.out _ _ ?_
    clear hK K
    (try simp only [Act.put]); (try simp only [List.setIfInBounds_toArray]); (try simp only [List.set_cons_succ]); (try simp only [List.set_cons_zero])
    refine wpAny_one 16 rfl (fun K hK => ?_)
    go_simp
    refine hK.out _ _ ?_
    clear hK K
    (try simp only [Act.put]); (try simp only [List.setIfInBounds_toArray]); (try simp only [List.set_cons_succ]); (try simp only [List.set_cons_zero])
    refine wpAny_done (by kernel_rfl) ?_ _
    have HZ2 : Hid ((catL [O1, WT, WA, WB]).size ≤ 262346900) := Lib.hid (by rw [catL_size]; simp only [List.map, List.sum_cons, List.sum_nil]; have := HZ1.out; have := HWS.out; omega)
    obtain ⟨O2, hO2⟩ : ∃ O, catL [O1, WT, WA, WB] = O := ⟨_, rfl⟩
    rw [hO2] at HS2 HZ2 ⊢
    clear hO2 W1 W2 W3
    rw [HS2.out] at HS3
    have uk := (S8.out.cell 0 rfl 10).trans (pkC_10 _ _)
    obtain ⟨ub, hub⟩ : ∃ b, p.hasUser = b := ⟨_, rfl⟩
    rw [hub] at uk HS3
    clear hub
    cases ub
    · rw [if_neg (by decide)] at HS3
      rw [HS3.out] at HS4
      have qk := (S8.out.cell 0 rfl 12).trans (pkC_12 _ _)
      obtain ⟨qb, hqb⟩ : ∃ b, p.hasPass = b := ⟨_, rfl⟩
      rw [hqb] at qk HS4
      clear hqb
      cases qb
      · rw [if_neg (by decide)] at HS4
        go_wp2
        go_ret2
        exact ⟨by rw [HX.out, HS4.out]; rfl, S8.out.kept⟩
      · rw [if_pos rfl] at HS4
        have qf := (S8.out.cell 0 rfl 13).trans (pkC_13 _ _)
        go_wp2_with fail
        refine (data_any p.pass _ (by have := OK.out.texts; omega)).mono ?_
        rintro e yq ⟨rfl, hb⟩
        have S8a := Lib.hid (S8.out.below hb); clear hb qk qf
        have qD := Lib.hid (dataB_size p.pass)
        obtain ⟨qX, hqX⟩ : ∃ X, dataB p.pass = X := ⟨_, rfl⟩
        rw [hqX] at HS4 qD ⊢
        clear hqX
        have S8b := Lib.hid (S8a.out.alloc (.cells #[.string O2, .string qX] 9))
        go_wp2_with fail
        refine (put8_any [O2, qX] 2 2 yq.heap.size 0 rfl _ (cells2_s yq _ _ _) (by simp) (by omega) (by omega) (by rw [catL_size]; simp only [List.map, List.sum_cons, List.sum_nil]; have := HZ2.out; have := qD.out; omega)).mono ?_
        rintro e zq ⟨rfl, hb⟩
        have S8p := Lib.hid (S8b.out.below hb); clear hb
        have HZp : Hid ((catL [O2, qX]).size ≤ 262416900) := Lib.hid (by rw [catL_size]; simp only [List.map, List.sum_cons, List.sum_nil]; have := HZ2.out; have := qD.out; omega)
        obtain ⟨Op2, hOp2⟩ : ∃ O, catL [O2, qX] = O := ⟨_, rfl⟩
        rw [hOp2] at HS4 HZp ⊢
        clear hOp2
        go_wp2
        go_ret2
        exact ⟨by rw [HX.out, HS4.out]; rfl, S8p.out.kept⟩
    · rw [if_pos rfl] at HS3
      have uf := (S8.out.cell 0 rfl 11).trans (pkC_11 _ _)
      go_wp2_with fail
      refine (data_any p.user _ (by have := OK.out.texts; omega)).mono ?_
      rintro e yu ⟨rfl, hb⟩
      have S8a := Lib.hid (S8.out.below hb); clear hb uk uf
      have uD := Lib.hid (dataB_size p.user)
      obtain ⟨uX, huX⟩ : ∃ X, dataB p.user = X := ⟨_, rfl⟩
      rw [huX] at HS3 uD ⊢
      clear huX
      have S8b := Lib.hid (S8a.out.alloc (.cells #[.string O2, .string uX] 9))
      go_wp2_with fail
      refine (put8_any [O2, uX] 2 2 yu.heap.size 0 rfl _ (cells2_s yu _ _ _) (by simp) (by omega) (by omega) (by rw [catL_size]; simp only [List.map, List.sum_cons, List.sum_nil]; have := HZ2.out; have := uD.out; omega)).mono ?_
      rintro e zu ⟨rfl, hb⟩
      have S8u := Lib.hid (S8b.out.below hb); clear hb
      have HZu : Hid ((catL [O2, uX]).size ≤ 262416900) := Lib.hid (by rw [catL_size]; simp only [List.map, List.sum_cons, List.sum_nil]; have := HZ2.out; have := uD.out; omega)
      obtain ⟨Ou2, hOu2⟩ : ∃ O, catL [O2, uX] = O := ⟨_, rfl⟩
      rw [hOu2] at HS3 HZu ⊢
      clear hOu2
      rw [HS3.out] at HS4
      have qk := (S8u.out.cell 0 rfl 12).trans (pkC_12 _ _)
      obtain ⟨qb, hqb⟩ : ∃ b, p.hasPass = b := ⟨_, rfl⟩
      rw [hqb] at qk HS4
      clear hqb
      cases qb
      · rw [if_neg (by decide)] at HS4
        go_wp2
        go_ret2
        exact ⟨by rw [HX.out, HS4.out]; rfl, S8u.out.kept⟩
      · rw [if_pos rfl] at HS4
        have qf := (S8u.out.cell 0 rfl 13).trans (pkC_13 _ _)
        go_wp2_with fail
        refine (data_any p.pass _ (by have := OK.out.texts; omega)).mono ?_
        rintro e yq ⟨rfl, hb⟩
        have S8ua := Lib.hid (S8u.out.below hb); clear hb qk qf
        have qD := Lib.hid (dataB_size p.pass)
        obtain ⟨qX, hqX⟩ : ∃ X, dataB p.pass = X := ⟨_, rfl⟩
        rw [hqX] at HS4 qD ⊢
        clear hqX
        have S8ub := Lib.hid (S8ua.out.alloc (.cells #[.string Ou2, .string qX] 9))
        go_wp2_with fail
        refine (put8_any [Ou2, qX] 2 2 yq.heap.size 0 rfl _ (cells2_s yq _ _ _) (by simp) (by omega) (by omega) (by rw [catL_size]; simp only [List.map, List.sum_cons, List.sum_nil]; have := HZu.out; have := qD.out; omega)).mono ?_
        rintro e zq ⟨rfl, hb⟩
        have S8up := Lib.hid (S8ub.out.below hb); clear hb
        have HZp : Hid ((catL [Ou2, qX]).size ≤ 262486900) := Lib.hid (by rw [catL_size]; simp only [List.map, List.sum_cons, List.sum_nil]; have := HZu.out; have := qD.out; omega)
        obtain ⟨Opu2, hOpu2⟩ : ∃ O, catL [Ou2, qX] = O := ⟨_, rfl⟩
        rw [hOpu2] at HS4 HZp ⊢
        clear hOpu2
        go_wp2
        go_ret2
        exact ⟨by rw [HX.out, HS4.out]; rfl, S8up.out.kept⟩
theorem cntBody_any (v : Int) (p : Pk) (h : Hs) (w : World) (ip : PkIn w w.heap.size p h) (ok : PkOk p) :
    Calls Tryz.prog 193 #[.int .i64 v, pkV p h] w fun e w' => e = .returned (.tuple #[.string (cntB v p).1, .int .i64 (cntB v p).2]) ∧ Below w.heap.size w w' := by
  by_cases h2 : p.kind = 2
  · have hB : cntB v p = cntB2 v p := if_pos h2
    rw [hB]
    exact cntBody2_any v p h w ip ok h2
  · have hB : cntB v p = if cntE v p = 0 then (cntS v p, 0) else (⟨#[]⟩, cntE v p) := if_neg h2
    rw [hB]
    exact cntBody1_any v p h w ip ok h2
end Go.Proofs.YtbdgkkmbnahgiaaGreatDoor

namespace Go.Proofs.YtbdgkkmbnahgiaaGreatDoor
open Go.RowKit
attribute [local go_sem ↓] to_ldPk to_bxPk to_bdPk to_alPk to_stPk
attribute [local go_sem] run_bxPk run_bxPk_agg ld_fresh run_alPk run_bd0 run_bdK run_bdKI run_bdKIC run_bdKC run_bdKICP run_stPk_fresh pkC_0 pkC_1 pkC_2 pkC_3 pkC_4 pkC_5 pkC_6 pkC_7 pkC_8 pkC_9 pkC_10 pkC_11 pkC_12 pkC_13 pkC_14 pkC_15 pkC_16 pkC_17 pkC_18 pkC_19 pkC_20 pkC_21 pkC_22 pkC_23 pkC_24

theorem cntB_bad {v : Int} {p : Pk} (x : cntE v p ≠ 0) : cntB v p = (⟨#[]⟩, cntE v p) := by
  unfold cntB cntB2
  rw [if_neg x, if_neg x]
  split <;> rfl
theorem SR.of {gp : Nat} {v : Value} {W y : World} (hk : W.cell? ⟨gp, 0, none⟩ = some v) (hb : Below W.heap.size W y) : SR gp v W y := ⟨(hb.cell (p := ⟨gp, 0, none⟩) (World.block_lt_of_cell? _ _ hk)).trans hk, hb⟩
end Go.Proofs.YtbdgkkmbnahgiaaGreatDoor

namespace Go.Proofs.YtbdgkkmbnahgiaaGreatDoor
open Go.RowKit

def conIs (k : Int) : Bool := decide (12 ≤ k ∧ k ≤ 15)
def conMay (v k : Int) : Bool := decide ((k = 14 ∨ k = 15) ∧ v = 5)
def conK (v k : Int) : Int := if conIs k = false ∨ ¬ (v = 4 ∨ v = 5) then 2 else if k = 15 ∧ v = 4 then 8 else 0
def conQ (v : Int) (p : Pk) : Pk := if conMay v p.kind = true then ackR1 p.kind 0 p.code p.props else ackR1 p.kind 0 0 []
def conE (v : Int) (p : Pk) : Int :=
  if conK v p.kind ≠ 0 then conK v p.kind
  else if conMay v p.kind = true ∧ may p.kind p.code = false then 2
  else if p ≠ conQ v p then 2
  else (bytesS p.kind p.props).2
def tailS (code : Int) (l : List Pr) (k : Int) : List UInt8 := if code < 0 ∨ 255 < code ∨ (bytesS k l).2 ≠ 0 then [] else tailL k code l
def conB (v : Int) (p : Pk) : List UInt8 × Int := if conE v p = 0 then (tailS p.code p.props p.kind, 0) else ([], conE v p)
/-- The error behind a tail that must be whole. -/
def toldE (k : Int) (s : ByteArray) : Int := if (restS k s 0).2.2.2 ≠ 0 then (restS k s 0).2.2.2 else if (restS k s 0).2.2.1 < s.size then 5 else 0
def toldS (k : Int) (s : ByteArray) : Int × List Pr × Int := if toldE k s ≠ 0 then (0, [], toldE k s) else ((restS k s 0).1, (restS k s 0).2.1, 0)
def toldV (v k : Int) (s : ByteArray) : Int × List Pr × Int := if conMay v k = true then toldS k s else (0, [], if s.size ≠ 0 then 5 else 0)
def conPre (v k : Int) (s : ByteArray) : Pk := ackR1 k 0 (toldV v k s).1 (toldV v k s).2.1
def conR (v k : Int) (s : ByteArray) : Pk × Int :=
  if conK v k ≠ 0 then (pk0, conK v k)
  else if (toldV v k s).2.2 ≠ 0 then (pk0, (toldV v k s).2.2)
  else if conE v (conPre v k s) ≠ 0 then (pk0, conE v (conPre v k s))
  else (conPre v k s, 0)

structure ConGood (v : Int) (p : Pk) : Prop where
  k : conK v p.kind = 0
  may : conMay v p.kind = true → may p.kind p.code = true
  old : conMay v p.kind = false → p.code = 0 ∧ p.props = []
  same : p = conQ v p
  c1 : 0 ≤ p.code
  c2 : p.code < 256
  bytes : (bytesS p.kind p.props).2 = 0
theorem conE_good {v : Int} {p : Pk} (x : conE v p = 0) : ConGood v p := by
  unfold conE at x
  split at x
  · next h => exact absurd x h
  · next hk =>
    split at x
    · cases x
    · next hm =>
      split at x
      · cases x
      · next hs =>
        have hs' := Decidable.not_not.1 hs
        have hq : conMay v p.kind = false → p.code = 0 ∧ p.props = [] := fun hf => by
          have hq : conQ v p = ackR1 p.kind 0 0 [] := by unfold conQ; rw [if_neg (by rw [hf]; decide)]
          rw [hq] at hs'
          exact ⟨congrArg Pk.code hs', congrArg Pk.props hs'⟩
        have hmay : conMay v p.kind = true → Go.Proofs.YtbdgkkmbnahgiaaGreatDoor.may p.kind p.code = true := fun ht => by
          cases e : Go.Proofs.YtbdgkkmbnahgiaaGreatDoor.may p.kind p.code
          · exact absurd ⟨ht, e⟩ hm
          · rfl
        have hc : 0 ≤ p.code ∧ p.code < 256 := by
          cases e : conMay v p.kind
          · have := (hq e).1; omega
          · exact may_range (hmay e)
        exact ⟨Decidable.not_not.1 hk, hmay, hq, hs', hc.1, hc.2, x⟩
theorem ConGood.ok {v : Int} {p : Pk} (x : ConGood v p) : conE v p = 0 := by
  unfold conE
  rw [if_neg (fun h => h x.k), if_neg, if_neg (fun h => h x.same)]
  · exact x.bytes
  · rintro ⟨h1, h2⟩
    rw [x.may h1] at h2; cases h2
theorem ConGood.tail {v : Int} {p : Pk} (x : ConGood v p) : tailS p.code p.props p.kind = tailL p.kind p.code p.props := by
  unfold tailS
  rw [if_neg]
  rintro (h | h | h)
  · have := x.c1; omega
  · have := x.c2; omega
  · exact h x.bytes

theorem toldV_tail {v k : Int} {s : ByteArray} (h : (toldV v k s).2.2 = 0) : tailL k (toldV v k s).1 (toldV v k s).2.1 = ls s := by
  unfold toldV at h ⊢
  cases e : conMay v k
  · rw [e, if_neg (by decide)] at h
    rw [if_neg (by decide)]
    have hz : s.size = 0 := Decidable.not_not.1 fun x => by simp only at h; rw [if_pos x] at h; cases h
    have : ls s = [] := List.eq_nil_of_length_eq_zero (by rw [ls_len]; exact hz)
    rw [this]
    rfl
  · rw [e, if_pos rfl] at h
    rw [if_pos rfl]
    unfold toldS at h ⊢
    have he : toldE k s = 0 := Decidable.not_not.1 fun x => by rw [if_pos x] at h; exact x h
    rw [if_neg (fun x => x he)]
    unfold toldE at he
    have h1 : (restS k s 0).2.2.2 = 0 := Decidable.not_not.1 fun x => by rw [if_pos x] at he; exact x he
    rw [if_neg (fun x => x h1)] at he
    have h2 : ¬ (restS k s 0).2.2.1 < s.size := fun x => by rw [if_pos x] at he; cases he
    have := (rest_back (k := k) (t := s) (a := 0) (by omega) h1 (by omega)).1
    rw [List.drop_zero] at this
    exact this.symm
theorem conR_ways (v k : Int) (s : ByteArray) : (conR v k s = (pk0, (conR v k s).2) ∧ (conR v k s).2 ≠ 0) ∨
    ((conR v k s).2 = 0 ∧ ConGood v (conR v k s).1 ∧ (conR v k s).1.kind = k ∧ tailS (conR v k s).1.code (conR v k s).1.props (conR v k s).1.kind = ls s) := by
  unfold conR
  by_cases h1 : conK v k ≠ 0
  · rw [if_pos h1]; exact .inl ⟨rfl, h1⟩
  rw [if_neg h1]
  by_cases h2 : (toldV v k s).2.2 ≠ 0
  · rw [if_pos h2]; exact .inl ⟨rfl, h2⟩
  rw [if_neg h2]
  by_cases h3 : conE v (conPre v k s) ≠ 0
  · rw [if_pos h3]; exact .inl ⟨rfl, h3⟩
  rw [if_neg h3]
  have g := conE_good (Decidable.not_not.1 h3)
  refine .inr ⟨rfl, g, rfl, ?_⟩
  simp only
  rw [g.tail]
  exact toldV_tail (Decidable.not_not.1 h2)
theorem toldV_good {v k : Int} {s : ByteArray} (hs : s.size ≤ 140737488351232) : (∀ p ∈ (toldV v k s).2.1, prGood p) ∧ (toldV v k s).2.1.length ≤ 1000 := by
  unfold toldV
  split
  · unfold toldS
    split
    · exact ⟨by simp, Nat.zero_le _⟩
    · exact ⟨rest_good hs, rest_many k s 0⟩
  · exact ⟨by simp, Nat.zero_le _⟩
theorem conR_ok {v k : Int} {s : ByteArray} (hs : s.size ≤ 140737488351232) : PkOk (conR v k s).1 := by
  have hpre : PkOk (conPre v k s) := pkOk_R1 (toldV_good hs).1 (by have := (toldV_good (v := v) (k := k) hs).2; omega)
  have h0 : PkOk pk0 := pkOk_R1 (k := 0) (i := 0) (c := 0) (l := []) (by simp) (by simp)
  unfold conR
  split
  · exact h0
  · split
    · exact h0
    · split
      · exact h0
      · exact hpre
end Go.Proofs.YtbdgkkmbnahgiaaGreatDoor

namespace Go.Proofs.YtbdgkkmbnahgiaaGreatDoor
open Go.RowKit Go.Shelf

/-- What stands between slashes. -/
def lvs (s : ByteArray) : List ByteArray := Lib.splitB ⟨#[47]⟩ 0 (Lib.countB s ⟨#[47]⟩) s
theorem occ_one (l : List UInt8) (c : UInt8) (j : Nat) : Lib.occAt l [c] j = (l[j]? == some c) := by
  unfold Lib.occAt
  rw [← List.head?_drop]
  cases l.drop j with
  | nil => rfl
  | cons b t =>
    rw [Bool.eq_iff_iff]
    simp [List.isPrefixOf]
    exact eq_comm
theorem index_hit {l : List UInt8} {c : UInt8} {i : Nat} (h : l[i]? = some c) (hn : ∀ j, j < i → l[j]? ≠ some c) : Lib.index l [c] = i := by
  refine Lib.index_first ?_ ?_ ?_
  · have := (List.getElem?_eq_some_iff.1 h).1; omega
  · rw [occ_one, h]; simp
  · intro j hj; rw [occ_one]; simpa using hn j hj
theorem index_miss {l : List UInt8} {c : UInt8} (hn : ∀ j : Nat, l[j]? ≠ some c) : Lib.index l [c] = -1 :=
  Lib.index_none fun j _ => by rw [occ_one]; simpa using hn j
theorem lvs_none {s : ByteArray} (h : ∀ j : Nat, (ls s)[j]? ≠ some 47) : lvs s = [s] := Lib.splitB_miss _ _ _ _ (index_miss h)
theorem lvs_hit {s : ByteArray} {i : Nat} (h : (ls s)[i]? = some 47) (hn : ∀ j : Nat, j < i → (ls s)[j]? ≠ some 47) : lvs s = s.extract 0 i :: lvs (s.extract (i + 1) s.size) := by
  have hi : Lib.indexB s ⟨#[47]⟩ = i := index_hit h hn
  have hc := Lib.countB_hit s ⟨#[47]⟩ i (by decide) hi
  unfold lvs
  rw [hc, Nat.add_comm 1, Lib.splitB_hit _ _ _ _ i hi]
  rfl
theorem lvs_count (s : ByteArray) : (lvs s).length = Lib.countB s ⟨#[47]⟩ + 1 := Lib.splitB_all _ (by decide) 0 _ s rfl
theorem lvs_len (s : ByteArray) : (lvs s).length ≤ s.size + 1 := by
  have := Lib.countB_le ⟨#[47]⟩ (by decide) s.size s (Nat.le_refl _)
  rw [lvs_count]; omega
theorem find_slash (s : ByteArray) : (∀ j : Nat, (ls s)[j]? ≠ some 47) ∨ ∃ i, i < s.size ∧ (ls s)[i]? = some 47 ∧ ∀ j : Nat, j < i → (ls s)[j]? ≠ some 47 := by
  rcases Lib.index_spec (ls s) [47] with ⟨-, h⟩ | ⟨i, -, -, h, hn⟩
  · left
    intro j hj
    have hl := (List.getElem?_eq_some_iff.1 hj).1
    have := h j (by omega)
    rw [occ_one, hj] at this
    simp at this
  · right
    rw [occ_one] at h
    have h' : (ls s)[i]? = some 47 := by simpa using h
    have hl := (List.getElem?_eq_some_iff.1 h').1
    refine ⟨i, by rw [ls_len] at hl; exact hl, h', fun j hj he => ?_⟩
    have := hn j hj
    rw [occ_one, he] at this
    simp at this
theorem lvs_ind {C : ByteArray → Prop} (h1 : ∀ s, (∀ j : Nat, (ls s)[j]? ≠ some 47) → C s)
    (h2 : ∀ s i, i < s.size → (ls s)[i]? = some 47 → (∀ j : Nat, j < i → (ls s)[j]? ≠ some 47) → C (s.extract (i + 1) s.size) → C s) (s : ByteArray) : C s := by
  suffices h : ∀ n (t : ByteArray), t.size ≤ n → C t from h s.size s (Nat.le_refl _)
  intro n
  induction n with
  | zero =>
    intro t ht
    refine h1 t fun j hj => ?_
    have := (List.getElem?_eq_some_iff.1 hj).1
    rw [ls_len] at this
    omega
  | succ n ih =>
    intro t ht
    rcases find_slash t with h | ⟨i, hi, h, hn⟩
    · exact h1 t h
    · exact h2 t i hi h hn (ih _ (by rw [ByteArray.size_extract]; omega))
theorem lvs_size (s : ByteArray) : ∀ x ∈ lvs s, x.size ≤ s.size := by
  induction s using lvs_ind with
  | h1 s h => rw [lvs_none h]; intro x hx; simp at hx; rw [hx]; exact Nat.le_refl _
  | h2 s i hi h hn ih =>
    rw [lvs_hit h hn]
    intro x hx
    rcases List.mem_cons.1 hx with rfl | hx
    · rw [ByteArray.size_extract]; omega
    · have := ih x hx
      rw [ByteArray.size_extract] at this
      omega
def wildB (x : ByteArray) : Bool := (x.toList == [43]) || (x.toList == [35])
def levOk (x : ByteArray) (last : Bool) : Bool := !(((x.toList == [35]) && !last) || (!wildB x && anyS x))
def levsOk (l : List ByteArray) : Bool := (List.range l.length).all fun i => levOk (l.getD i ⟨#[]⟩) (decide (i + 1 = l.length))
def filterB (s : ByteArray) : Bool := textB s && levsOk (lvs s)
theorem levs_yes {l : List ByteArray} (h : ∀ i x, l[i]? = some x → levOk x (decide (i + 1 = l.length)) = true) : levsOk l = true := by
  unfold levsOk
  rw [List.all_eq_true]
  intro i hi
  have hi := List.mem_range.1 hi
  rw [List.getD_eq_getElem?_getD, List.getElem?_eq_getElem hi]
  exact h i _ (List.getElem?_eq_getElem hi)
theorem levs_no {l : List ByteArray} {i : Nat} {x : ByteArray} (hx : l[i]? = some x) (h : levOk x (decide (i + 1 = l.length)) = false) : levsOk l = false := by
  unfold levsOk
  rw [List.all_eq_false]
  have hi := (List.getElem?_eq_some_iff.1 hx).1
  refine ⟨i, List.mem_range.2 hi, ?_⟩
  rw [List.getD_eq_getElem?_getD, hx]
  simp [h]

theorem tl_ls (x : ByteArray) : x.toList = ls x := Lib.toList_data x
end Go.Proofs.YtbdgkkmbnahgiaaGreatDoor

namespace Go.Proofs.YtbdgkkmbnahgiaaGreatDoor
open Go.RowKit Go.Shelf

theorem ls_front (s : ByteArray) (i : Nat) : ls (s.extract 0 i) = (ls s).take i := by
  show (s.extract 0 i).data.toList = _
  rw [Lib.extract_from_zero]; rfl
theorem ls_back (s : ByteArray) (a : Nat) : ls (s.extract a s.size) = (ls s).drop a := by
  show (s.extract a s.size).data.toList = _
  rw [Lib.extract_to_end]; rfl
theorem size_back (s : ByteArray) (a : Nat) : (s.extract a s.size).size = s.size - a := by rw [ByteArray.size_extract]; omega
def frontL : List UInt8 := [36, 115, 104, 97, 114, 101, 47]
def frontB (s : ByteArray) : Bool := frontL.isPrefixOf (ls s)
def shrS (s : ByteArray) : ByteArray := if frontB s then s.extract 7 s.size else s
/-- A cut at the first slash: what stands ahead, behind, whether there is one. -/
def cutS (s : ByteArray) : ByteArray × ByteArray × Bool :=
  if Lib.indexB s ⟨#[47]⟩ = -1 then (s, ⟨#[]⟩, false) else (s.extract 0 (Lib.indexB s ⟨#[47]⟩).toNat, s.extract ((Lib.indexB s ⟨#[47]⟩).toNat + 1) s.size, true)
def sharedB (s : ByteArray) : Bool := frontB s && ((cutS (shrS s)).2.2 && (validB s && (nameB (cutS (shrS s)).1 && filterB (cutS (shrS s)).2.1)))
theorem cut_size (s : ByteArray) : (cutS s).1.size ≤ s.size ∧ (cutS s).2.1.size ≤ s.size := by
  unfold cutS
  split
  · exact ⟨Nat.le_refl _, Nat.zero_le _⟩
  · simp only [ByteArray.size_extract]; omega
theorem shr_size (s : ByteArray) : (shrS s).size ≤ s.size := by
  unfold shrS
  split
  · rw [ByteArray.size_extract]; omega
  · exact Nat.le_refl _

theorem front_facts {s : ByteArray} (h : frontB s = true) : 7 ≤ s.size ∧ (ls s)[6]? = some 47 ∧ ∀ j, j < 6 → (ls s)[j]? ≠ some 47 := by
  unfold frontB at h
  obtain ⟨t, ht⟩ := List.isPrefixOf_iff_prefix.1 h
  have hl : (ls s).length = 7 + t.length := by rw [← ht]; simp [frontL]; omega
  rw [ls_len] at hl
  refine ⟨by omega, by rw [← ht]; rfl, fun j hj => ?_⟩
  rw [← ht]
  have : j = 0 ∨ j = 1 ∨ j = 2 ∨ j = 3 ∨ j = 4 ∨ j = 5 := by omega
  rcases this with rfl | rfl | rfl | rfl | rfl | rfl <;> simp [frontL]
end Go.Proofs.YtbdgkkmbnahgiaaGreatDoor

namespace Go.Proofs.YtbdgkkmbnahgiaaGreatDoor
open Go.RowKit

def sbKnown (v k : Int) : Bool := decide ((v = 4 ∨ v = 5) ∧ 8 ≤ k ∧ k ≤ 11)
def sbAsk (k : Int) : Bool := decide (k = 8 ∨ k = 10)
def sbSil (v k : Int) : Bool := decide (k = 11 ∧ v = 4)
/-- A packet with just what its kind may have. -/
def sbQ (v : Int) (p : Pk) : Pk :=
  if sbAsk p.kind = true then { pk0 with kind := p.kind, id := p.id, props := p.props, filters := p.filters }
  else if sbSil v p.kind = true then { pk0 with kind := p.kind, id := p.id, props := p.props }
  else { pk0 with kind := p.kind, id := p.id, props := p.props, codes := p.codes }
def sbHave (v : Int) (p : Pk) : Bool := if sbAsk p.kind = true then decide (0 < p.filters.length) else if sbSil v p.kind = true then true else decide (0 < p.codes.length)
def sbFields (v : Int) (p : Pk) : Bool := !(decide (p.id < 1) || (decide (65535 < p.id) || (decide (v = 4) && decide (0 < p.props.length)))) && (sbHave v p && decide (p = sbQ v p))
def sbLow (n : Int) : Bool := decide (0 ≤ n) && decide (n < 3)
def fiPlain (f : Fi) : Bool := decide (f = ⟨f.topic, f.qos, false, false, 0⟩)
/-- May a filter's options be? -/
def optB (v k : Int) (f : Fi) : Bool :=
  if k = 10 then fiPlain f && decide (f.qos = 0) else if v = 4 then fiPlain f && sbLow f.qos else sbLow f.qos && (sbLow f.handling && !(sharedB f.topic && f.noLocal))
def ansB (v k c : Int) : Bool := if v = 4 then grantB c else may k c
def fiE (v k : Int) : List Fi → Int
  | [] => 0
  | f :: l => if filterB f.topic = false then 10 else if optB v k f = false then 2 else fiE v k l
def cdE (v k : Int) : List Int → Int
  | [] => 0
  | c :: l => if ansB v k c = false then 2 else cdE v k l
def sbArg (v : Int) (p : Pk) : Bool := sbKnown v p.kind && sbFields v p
def sbE (v : Int) (p : Pk) : Int :=
  if sbArg v p = false then 2 else if (bytesS p.kind p.props).2 ≠ 0 then (bytesS p.kind p.props).2
  else if fiE v p.kind p.filters ≠ 0 then fiE v p.kind p.filters else cdE v p.kind p.codes
end Go.Proofs.YtbdgkkmbnahgiaaGreatDoor

