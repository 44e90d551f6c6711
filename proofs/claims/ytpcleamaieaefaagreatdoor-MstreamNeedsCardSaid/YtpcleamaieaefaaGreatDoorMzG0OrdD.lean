/- A part of what the laws stand on: OrdD, CntS, ConA, MFil, SubA, FilC. -/
import Derived.OrdersHeld
import Derived.Deep.RegionHeld
import Derived.Test.YtpcleamaieaefaaGreatDoorMzG0MCnu
import Derived.Lib.SplitLaws
import Derived.Shelf.Strings.SplitCore
import Derived.Shelf.Strings.Search3
import Derived.Shelf.Strings.Count
import Derived.Shelf.Strings.Cut
namespace Go.Proofs.YtpcleamaieaefaaGreatDoor
open Go

section
variable {P : Program} {ops : Array Oper} {Q : Exit → Act → World → Prop} {md : Region.Mode} {S : World → Prop} {D : List Nat}

/-- Whatever order is picked from here on; S holds behind an operation as long as none of D has come up. -/
def anyD (P : Program) (md : Region.Mode) (ops : Array Oper) (Q : Exit → Act → World → Prop) (S : World → Prop) (D : List Nat) : Nat → Array Bool → Act → World → Prop
  | 0, listed, a, w => Region.ready md ops listed = [] ∧ Q .normal a w
  | fuel + 1, listed, a, w =>
    (Region.ready md ops listed = [] → Q .normal a w) ∧
    ∀ i ∈ Region.ready md ops listed, wpOp P ops Q i (fun a' w' => ((∀ d ∈ D, (listed.setIfInBounds i true).getD d true = false) → S w') ∧ anyD P md ops Q S D fuel (listed.setIfInBounds i true) a' w') a w

theorem any_of_D : ∀ (fuel : Nat) (listed : Array Bool) (a : Act) (w : World), anyD P md ops Q S D fuel listed a w → wpAny P md ops Q fuel listed a w
  | 0, _, _, _, h => h
  | fuel + 1, _, _, _, h => ⟨h.1, fun i hi => wpOp_mono (fun a' w' h' => any_of_D fuel _ a' w' h'.2) (h.2 i hi)⟩

theorem getD_tf {listed : Array Bool} {i : Nat} (h : listed.getD i true = false) : listed.getD i false = false := by
  rcases Nat.lt_or_ge i listed.size with h' | h'
  · simp [h'] at h ⊢; exact h
  · simp [Array.getElem?_eq_none h'] at h

/-- Every operation of L waits for number i, or for one of L. -/
def behindB (md : Region.Mode) (ops : Array Oper) (i : Nat) (L : List Nat) : Bool :=
  L.all fun j => match ops[j]? with
    | some oj => j != i && oj.after.any fun e => Region.binds md e && (e.on == i || L.contains e.on)
    | none => false

theorem behind_spec {i : Nat} {L : List Nat} (h : behindB md ops i L = true) (j : Nat) (hj : j ∈ L) :
    j ≠ i ∧ ∃ oj, ops[j]? = some oj ∧ ∃ e ∈ oj.after, Region.binds md e = true ∧ (e.on = i ∨ e.on ∈ L) := by
  have h1 := List.all_eq_true.1 h j hj
  split at h1
  · rename_i oj hoj
    simp only [Bool.and_eq_true, bne_iff_ne] at h1
    obtain ⟨e, he, hb⟩ := Array.any_eq_true'.1 h1.2
    simp only [Bool.and_eq_true, Bool.or_eq_true, beq_iff_eq, List.contains_iff_mem] at hb
    exact ⟨h1.1, oj, hoj, e, he, hb.1, hb.2⟩
  · cases h1

theorem anyD_first {i : Nat} {oi : Oper} {v : Value} {L : List Nat} (hi : ops[i]? = some oi) (hsel : ∀ (j : Nat) (o : Oper) cs b, ops[j]? = some o → o.op ≠ .select cs b)
    (hQ : ∀ c a w, Q (.panic c) (a.put oi.dst v) w → Q (.panic c) a w) (hD : ∀ d ∈ D, d ∈ L) (hL : behindB md ops i L = true) :
    ∀ (fuel : Nat) (listed : Array Bool) (a : Act) (w : World),
      (∀ j oj, ops[j]? = some oj → j ≠ i → listed.getD j true = false → (∀ e ∈ oj.after, Region.binds md e = true → e.on ≠ i) → oi.apart ops oj = true) →
      i ∈ Region.ready md ops listed → (∀ j ∈ L, listed.getD j true = false) → YieldsIf P ops S oi v a → S w →
      anyD P md ops Q S D fuel (listed.setIfInBounds i true) (a.put oi.dst v) w → anyD P md ops Q S D (fuel + 1) listed a w := by
  intro fuel
  induction fuel with
  | zero =>
    intro listed a w _ hr hun hy hS H
    refine ⟨fun h => (by rw [h] at hr; cases hr), fun j hj => ?_⟩
    by_cases hji : j = i
    · subst hji; exact hy.wpOp hi hS ⟨fun _ => hS, H⟩
    · have := ready_mono hj hji
      rw [H.1] at this
      cases this
  | succ fuel ih =>
    intro listed a w hfree hr hun hy hS H
    refine ⟨fun h => (by rw [h] at hr; cases hr), fun j hj => ?_⟩
    by_cases hji : j = i
    · subst hji; exact hy.wpOp hi hS ⟨fun _ => hS, H⟩
    · have h1 := H.2 j (ready_mono hj hji)
      obtain ⟨hjun, oj, hoj, hall⟩ := mem_ready.1 hj
      have hiun := (mem_ready.1 hr).1
      have hnot : ∀ e ∈ oj.after, Region.binds md e = true → e.on ≠ i := fun e he hb heq => by
        have h1 := hall e he hb
        rw [heq, getD_tf hiun] at h1
        cases h1
      have hjL : j ∉ L := fun hjL => by
        obtain ⟨-, o', ho', e, he, hb, hon⟩ := behind_spec hL j hjL
        have : o' = oj := Option.some.inj (ho'.symm.trans hoj)
        subst this
        have h2 := hall e he hb
        rcases hon with hon | hon
        · rw [hon, getD_tf hiun] at h2; cases h2
        · rw [getD_tf (hun _ hon)] at h2; cases h2
      have h2 := wpOp_putIf hoj (hfree j oj hoj hji hjun hnot) (fun cs b => hsel i oi cs b hi) (fun cs b => hsel j oj cs b hoj) hQ hy h1
      have hfree' : ∀ k ok, ops[k]? = some ok → k ≠ i → (listed.setIfInBounds j true).getD k true = false →
          (∀ e ∈ ok.after, Region.binds md e = true → e.on ≠ i) → oi.apart ops ok = true := fun k ok hk hki hun hno => by
        refine hfree k ok hk hki ?_ hno
        by_cases hjk : j = k
        · subst hjk; exact hjun
        · rw [getD_set_ne true hjk] at hun; exact hun
      have hunj : ∀ k ∈ L, (listed.setIfInBounds j true).getD k true = false := fun k hk => by
        have hjk : j ≠ k := fun h => by rw [h] at hjL; exact hjL hk
        rw [getD_set_ne true hjk]; exact hun k hk
      have hunD : ∀ d ∈ D, ((listed.setIfInBounds i true).setIfInBounds j true).getD d true = false := fun d hd => by
        have hdL := hD d hd
        have hdi : i ≠ d := fun h => (behind_spec hL d hdL).1 h.symm
        have hdj : j ≠ d := fun h => by rw [h] at hjL; exact hjL hdL
        rw [getD_set_ne true hdj, getD_set_ne true hdi]; exact hun d hdL
      refine wpOp_mono (fun a' w' h3 => ⟨fun _ => h3.2.1 hunD, ih (listed.setIfInBounds j true) a' w' hfree' (ready_mono hr (Ne.symm hji)) hunj h3.1 (h3.2.1 hunD) ?_⟩) h2
      rw [Array.setIfInBounds_comm _ _ hji]
      exact h3.2.2

/-- None of L has come up. -/
def noneB (listed : Array Bool) (L : List Nat) : Bool := L.all fun j => !listed.getD j true

/-- Take number i first. -/
theorem anyD_take {i : Nat} (L : List Nat) {oi : Oper} {v : Value} {fuel : Nat} {listed : Array Bool} {a : Act} {w : World} (hi : ops[i]? = some oi)
    (hs : Region.noSelect ops = true) (hf : Region.free md ops listed i = true) (hr : (Region.ready md ops listed).contains i = true)
    (hL : behindB md ops i L = true) (hD : (D.all fun d => L.contains d) = true) (hn : noneB listed L = true)
    (hQ : ∀ c a w, Q (.panic c) (a.put oi.dst v) w → Q (.panic c) a w) (hy : YieldsIf P ops S oi v a) (hS : S w)
    (h : anyD P md ops Q S D fuel (listed.setIfInBounds i true) (a.put oi.dst v) w) : anyD P md ops Q S D (fuel + 1) listed a w :=
  anyD_first (L := L) hi (Region.noSelect_spec hs) hQ (fun d hd => by simpa using List.all_eq_true.1 hD d hd) hL fuel listed a w (Region.free_spec hi hf) (by simpa using hr)
    (fun j hj => by simpa using List.all_eq_true.1 hn j hj) hy hS h

/-- Each of the operations 'rs' comes up next. -/
def AllD (P : Program) (md : Region.Mode) (ops : Array Oper) (Q : Exit → Act → World → Prop) (S : World → Prop) (D : List Nat) (fuel : Nat) (listed : Array Bool) (a : Act) (w : World) (rs : List Nat) : Prop :=
  ∀ i ∈ rs, wpOp P ops Q i (fun a' w' => ((∀ d ∈ D, (listed.setIfInBounds i true).getD d true = false) → S w') ∧ anyD P md ops Q S D fuel (listed.setIfInBounds i true) a' w') a w
theorem AllD.nil {fuel : Nat} {listed : Array Bool} {a : Act} {w : World} : AllD P md ops Q S D fuel listed a w [] := fun _ h => by cases h
theorem AllD.cons {fuel : Nat} {listed : Array Bool} {a : Act} {w : World} {i : Nat} {o : Oper} {rs : List Nat} (ho : ops[i]? = some o)
    (h : ∀ K' : Act → World → Prop, Shut (∀ a w, ((∀ d ∈ D, (listed.setIfInBounds i true).getD d true = false) → S w) → anyD P md ops Q S D fuel (listed.setIfInBounds i true) a w → K' a w) → if Region.wanted o (yielded ops a.tmps) = true then Oper.wp P o a w K' Q else K' (a.put o.dst undef) w)
    (hs : AllD P md ops Q S D fuel listed a w rs) : AllD P md ops Q S D fuel listed a w (i :: rs) := fun j hj => by
  rcases List.mem_cons.1 hj with rfl | hj
  · exact wpOp_step ho (fun K' hK => h K' (fun a w hS hW => hK a w ⟨hS, hW⟩))
  · exact hs j hj
theorem anyD_ready {rs : List Nat} {fuel : Nat} {listed : Array Bool} {a : Act} {w : World} (hr : Region.ready md ops listed = rs) (hne : rs ≠ [])
    (h : AllD P md ops Q S D fuel listed a w rs) : anyD P md ops Q S D (fuel + 1) listed a w := ⟨fun h0 => absurd (hr ▸ h0) hne, hr ▸ h⟩
theorem anyD_done {listed : Array Bool} {a : Act} {w : World} (hr : Region.ready md ops listed = []) (h : Q .normal a w) :
    ∀ fuel, anyD P md ops Q S D fuel listed a w
  | 0 => ⟨hr, h⟩
  | _ + 1 => ⟨fun _ => h, by rw [hr]; simp⟩
theorem getD_tt {listed : Array Bool} {i d : Nat} (h : listed.getD d true = true) : (listed.setIfInBounds i true).getD d true = true := by
  by_cases hid : i = d
  · subst hid
    rcases Nat.lt_or_ge i listed.size with h' | h'
    · simp [h']
    · simp [Array.getElem?_eq_none h', Array.setIfInBounds_eq_of_size_le h']
  · rw [getD_set_ne true hid]; exact h
/-- One of D has come up: nothing more is asked of the world. -/
theorem anyD_late {d : Nat} (hd : d ∈ D) : ∀ (fuel : Nat) (listed : Array Bool) (a : Act) (w : World), listed.getD d true = true → wpAny P md ops Q fuel listed a w → anyD P md ops Q S D fuel listed a w
  | 0, _, _, _, _, h => h
  | fuel + 1, _, _, _, hl, h => ⟨h.1, fun i hi => wpOp_mono (fun a' w' h' => ⟨fun hn => absurd ((getD_tt hl).symm.trans (hn d hd)) (by decide), anyD_late hd fuel _ a' w' (getD_tt hl) h'⟩) (h.2 i hi)⟩
/-- As AllReady.cons, the way back shut. -/
theorem allShut {fuel : Nat} {listed : Array Bool} {a : Act} {w : World} {i : Nat} {o : Oper} {rs : List Nat} (ho : ops[i]? = some o)
    (h : ∀ K' : Act → World → Prop, Shut (∀ a w, wpAny P md ops Q fuel (listed.setIfInBounds i true) a w → K' a w) → if Region.wanted o (yielded ops a.tmps) = true then Oper.wp P o a w K' Q else K' (a.put o.dst undef) w)
    (hs : AllReady P md ops Q fuel listed a w rs) : AllReady P md ops Q fuel listed a w (i :: rs) := AllReady.cons ho h hs
theorem wp_region_D {id : Nat} {a : Act} {w : World} (S : World → Prop) (D : List Nat) (hm : P.follows .mixedOrders = true)
    (h : anyD P .any ops Q S D ops.size (Array.replicate ops.size false) a w.drew) : (Code.region id ops true).wp P Q a w :=
  wp_region_any hm (any_of_D _ _ _ _ h)
end
end Go.Proofs.YtpcleamaieaefaaGreatDoor

namespace Go.Proofs.YtpcleamaieaefaaGreatDoor
open Go.RowKit
attribute [local go_sem ↓] to_ldPk to_bxPk to_bdPk to_alPk to_stPk
attribute [local go_sem] run_bxPk run_bxPk_agg ld_fresh run_alPk run_bd0 run_bdK run_bdKI run_bdKIC run_bdKC run_bdKICP run_stPk_fresh pkC_0 pkC_1 pkC_2 pkC_3 pkC_4 pkC_5 pkC_6 pkC_7 pkC_8 pkC_9 pkC_10 pkC_11 pkC_12 pkC_13 pkC_14 pkC_15 pkC_16 pkC_17 pkC_18 pkC_19 pkC_20 pkC_21 pkC_22 pkC_23 pkC_24

theorem SR.of {gp : Nat} {v : Value} {W y : World} (hk : W.cell? ⟨gp, 0, none⟩ = some v) (hb : Below W.heap.size W y) : SR gp v W y := ⟨(hb.cell (p := ⟨gp, 0, none⟩) (World.block_lt_of_cell? _ _ hk)).trans hk, hb⟩
end Go.Proofs.YtpcleamaieaefaaGreatDoor

namespace Go.Proofs.YtpcleamaieaefaaGreatDoor
open Go.RowKit

def conIs (k : Int) : Bool := decide (12 ≤ k ∧ k ≤ 15)
def conMay (v k : Int) : Bool := decide ((k = 14 ∨ k = 15) ∧ v = 5)
def conK (v k : Int) : Int := if conIs k = false ∨ ¬ (v = 4 ∨ v = 5) then 2 else if k = 15 ∧ v = 4 then 8 else 0
def conQ (v : Int) (p : Pk) : Pk := if conMay v p.kind = true then ackR1 p.kind 0 p.code p.props else ackR1 p.kind 0 0 []
def conE (v : Int) (p : Pk) : Int :=
  if conK v p.kind ≠ 0 then conK v p.kind
  else if conMay v p.kind = true ∧ may p.kind p.code = false then 2
  else if p ≠ conQ v p then 2
  else (bytesS p.kind p.props).2
def tailS (code : Int) (l : List Pr) (k : Int) : List UInt8 := if code < 0 ∨ 255 < code ∨ (bytesS k l).2 ≠ 0 then [] else tailL k code l
def conB (v : Int) (p : Pk) : List UInt8 × Int := if conE v p = 0 then (tailS p.code p.props p.kind, 0) else ([], conE v p)
/-- The error behind a tail that must be whole. -/
def toldE (k : Int) (s : ByteArray) : Int := if (restS k s 0).2.2.2 ≠ 0 then (restS k s 0).2.2.2 else if (restS k s 0).2.2.1 < s.size then 5 else 0
def toldS (k : Int) (s : ByteArray) : Int × List Pr × Int := if toldE k s ≠ 0 then (0, [], toldE k s) else ((restS k s 0).1, (restS k s 0).2.1, 0)
def toldV (v k : Int) (s : ByteArray) : Int × List Pr × Int := if conMay v k = true then toldS k s else (0, [], if s.size ≠ 0 then 5 else 0)
def conPre (v k : Int) (s : ByteArray) : Pk := ackR1 k 0 (toldV v k s).1 (toldV v k s).2.1
def conR (v k : Int) (s : ByteArray) : Pk × Int :=
  if conK v k ≠ 0 then (pk0, conK v k)
  else if (toldV v k s).2.2 ≠ 0 then (pk0, (toldV v k s).2.2)
  else if conE v (conPre v k s) ≠ 0 then (pk0, conE v (conPre v k s))
  else (conPre v k s, 0)

structure ConGood (v : Int) (p : Pk) : Prop where
  k : conK v p.kind = 0
  may : conMay v p.kind = true → may p.kind p.code = true
  old : conMay v p.kind = false → p.code = 0 ∧ p.props = []
  same : p = conQ v p
  c1 : 0 ≤ p.code
  c2 : p.code < 256
  bytes : (bytesS p.kind p.props).2 = 0
theorem conE_good {v : Int} {p : Pk} (x : conE v p = 0) : ConGood v p := by
  unfold conE at x
  split at x
  · next h => exact absurd x h
  · next hk =>
    split at x
    · cases x
    · next hm =>
      split at x
      · cases x
      · next hs =>
        have hs' := Decidable.not_not.1 hs
        have hq : conMay v p.kind = false → p.code = 0 ∧ p.props = [] := fun hf => by
          have hq : conQ v p = ackR1 p.kind 0 0 [] := by unfold conQ; rw [if_neg (by rw [hf]; decide)]
          rw [hq] at hs'
          exact ⟨congrArg Pk.code hs', congrArg Pk.props hs'⟩
        have hmay : conMay v p.kind = true → Go.Proofs.YtpcleamaieaefaaGreatDoor.may p.kind p.code = true := fun ht => by
          cases e : Go.Proofs.YtpcleamaieaefaaGreatDoor.may p.kind p.code
          · exact absurd ⟨ht, e⟩ hm
          · rfl
        have hc : 0 ≤ p.code ∧ p.code < 256 := by
          cases e : conMay v p.kind
          · have := (hq e).1; omega
          · exact may_range (hmay e)
        exact ⟨Decidable.not_not.1 hk, hmay, hq, hs', hc.1, hc.2, x⟩
theorem ConGood.ok {v : Int} {p : Pk} (x : ConGood v p) : conE v p = 0 := by
  unfold conE
  rw [if_neg (fun h => h x.k), if_neg, if_neg (fun h => h x.same)]
  · exact x.bytes
  · rintro ⟨h1, h2⟩
    rw [x.may h1] at h2; cases h2
theorem ConGood.tail {v : Int} {p : Pk} (x : ConGood v p) : tailS p.code p.props p.kind = tailL p.kind p.code p.props := by
  unfold tailS
  rw [if_neg]
  rintro (h | h | h)
  · have := x.c1; omega
  · have := x.c2; omega
  · exact h x.bytes

theorem toldV_tail {v k : Int} {s : ByteArray} (h : (toldV v k s).2.2 = 0) : tailL k (toldV v k s).1 (toldV v k s).2.1 = ls s := by
  unfold toldV at h ⊢
  cases e : conMay v k
  · rw [e, if_neg (by decide)] at h
    rw [if_neg (by decide)]
    have hz : s.size = 0 := Decidable.not_not.1 fun x => by simp only at h; rw [if_pos x] at h; cases h
    have : ls s = [] := List.eq_nil_of_length_eq_zero (by rw [ls_len]; exact hz)
    rw [this]
    rfl
  · rw [e, if_pos rfl] at h
    rw [if_pos rfl]
    unfold toldS at h ⊢
    have he : toldE k s = 0 := Decidable.not_not.1 fun x => by rw [if_pos x] at h; exact x h
    rw [if_neg (fun x => x he)]
    unfold toldE at he
    have h1 : (restS k s 0).2.2.2 = 0 := Decidable.not_not.1 fun x => by rw [if_pos x] at he; exact x he
    rw [if_neg (fun x => x h1)] at he
    have h2 : ¬ (restS k s 0).2.2.1 < s.size := fun x => by rw [if_pos x] at he; cases he
    have := (rest_back (k := k) (t := s) (a := 0) (by omega) h1 (by omega)).1
    rw [List.drop_zero] at this
    exact this.symm
theorem conR_ways (v k : Int) (s : ByteArray) : (conR v k s = (pk0, (conR v k s).2) ∧ (conR v k s).2 ≠ 0) ∨
    ((conR v k s).2 = 0 ∧ ConGood v (conR v k s).1 ∧ (conR v k s).1.kind = k ∧ tailS (conR v k s).1.code (conR v k s).1.props (conR v k s).1.kind = ls s) := by
  unfold conR
  by_cases h1 : conK v k ≠ 0
  · rw [if_pos h1]; exact .inl ⟨rfl, h1⟩
  rw [if_neg h1]
  by_cases h2 : (toldV v k s).2.2 ≠ 0
  · rw [if_pos h2]; exact .inl ⟨rfl, h2⟩
  rw [if_neg h2]
  by_cases h3 : conE v (conPre v k s) ≠ 0
  · rw [if_pos h3]; exact .inl ⟨rfl, h3⟩
  rw [if_neg h3]
  have g := conE_good (Decidable.not_not.1 h3)
  refine .inr ⟨rfl, g, rfl, ?_⟩
  simp only
  rw [g.tail]
  exact toldV_tail (Decidable.not_not.1 h2)
theorem toldV_good {v k : Int} {s : ByteArray} (hs : s.size ≤ 140737488351232) : (∀ p ∈ (toldV v k s).2.1, prGood p) ∧ (toldV v k s).2.1.length ≤ 1000 := by
  unfold toldV
  split
  · unfold toldS
    split
    · exact ⟨by simp, Nat.zero_le _⟩
    · exact ⟨rest_good hs, rest_many k s 0⟩
  · exact ⟨by simp, Nat.zero_le _⟩
theorem conR_ok {v k : Int} {s : ByteArray} (hs : s.size ≤ 140737488351232) : PkOk (conR v k s).1 := by
  have hpre : PkOk (conPre v k s) := pkOk_R1 (toldV_good hs).1 (by have := (toldV_good (v := v) (k := k) hs).2; omega)
  have h0 : PkOk pk0 := pkOk_R1 (k := 0) (i := 0) (c := 0) (l := []) (by simp) (by simp)
  unfold conR
  split
  · exact h0
  · split
    · exact h0
    · split
      · exact h0
      · exact hpre
end Go.Proofs.YtpcleamaieaefaaGreatDoor

namespace Go.Proofs.YtpcleamaieaefaaGreatDoor
open Go.RowKit Go.Shelf

/-- What stands between slashes. -/
def lvs (s : ByteArray) : List ByteArray := Lib.splitB ⟨#[47]⟩ 0 (Lib.countB s ⟨#[47]⟩) s
theorem occ_one (l : List UInt8) (c : UInt8) (j : Nat) : Lib.occAt l [c] j = (l[j]? == some c) := by
  unfold Lib.occAt
  rw [← List.head?_drop]
  cases l.drop j with
  | nil => rfl
  | cons b t =>
    rw [Bool.eq_iff_iff]
    simp [List.isPrefixOf]
    exact eq_comm
theorem index_hit {l : List UInt8} {c : UInt8} {i : Nat} (h : l[i]? = some c) (hn : ∀ j, j < i → l[j]? ≠ some c) : Lib.index l [c] = i := by
  refine Lib.index_first ?_ ?_ ?_
  · have := (List.getElem?_eq_some_iff.1 h).1; omega
  · rw [occ_one, h]; simp
  · intro j hj; rw [occ_one]; simpa using hn j hj
theorem index_miss {l : List UInt8} {c : UInt8} (hn : ∀ j : Nat, l[j]? ≠ some c) : Lib.index l [c] = -1 :=
  Lib.index_none fun j _ => by rw [occ_one]; simpa using hn j
theorem lvs_none {s : ByteArray} (h : ∀ j : Nat, (ls s)[j]? ≠ some 47) : lvs s = [s] := Lib.splitB_miss _ _ _ _ (index_miss h)
theorem lvs_hit {s : ByteArray} {i : Nat} (h : (ls s)[i]? = some 47) (hn : ∀ j : Nat, j < i → (ls s)[j]? ≠ some 47) : lvs s = s.extract 0 i :: lvs (s.extract (i + 1) s.size) := by
  have hi : Lib.indexB s ⟨#[47]⟩ = i := index_hit h hn
  have hc := Lib.countB_hit s ⟨#[47]⟩ i (by decide) hi
  unfold lvs
  rw [hc, Nat.add_comm 1, Lib.splitB_hit _ _ _ _ i hi]
  rfl
theorem lvs_count (s : ByteArray) : (lvs s).length = Lib.countB s ⟨#[47]⟩ + 1 := Lib.splitB_all _ (by decide) 0 _ s rfl
theorem lvs_len (s : ByteArray) : (lvs s).length ≤ s.size + 1 := by
  have := Lib.countB_le ⟨#[47]⟩ (by decide) s.size s (Nat.le_refl _)
  rw [lvs_count]; omega
theorem find_slash (s : ByteArray) : (∀ j : Nat, (ls s)[j]? ≠ some 47) ∨ ∃ i, i < s.size ∧ (ls s)[i]? = some 47 ∧ ∀ j : Nat, j < i → (ls s)[j]? ≠ some 47 := by
  rcases Lib.index_spec (ls s) [47] with ⟨-, h⟩ | ⟨i, -, -, h, hn⟩
  · left
    intro j hj
    have hl := (List.getElem?_eq_some_iff.1 hj).1
    have := h j (by omega)
    rw [occ_one, hj] at this
    simp at this
  · right
    rw [occ_one] at h
    have h' : (ls s)[i]? = some 47 := by simpa using h
    have hl := (List.getElem?_eq_some_iff.1 h').1
    refine ⟨i, by rw [ls_len] at hl; exact hl, h', fun j hj he => ?_⟩
    have := hn j hj
    rw [occ_one, he] at this
    simp at this
theorem lvs_ind {C : ByteArray → Prop} (h1 : ∀ s, (∀ j : Nat, (ls s)[j]? ≠ some 47) → C s)
    (h2 : ∀ s i, i < s.size → (ls s)[i]? = some 47 → (∀ j : Nat, j < i → (ls s)[j]? ≠ some 47) → C (s.extract (i + 1) s.size) → C s) (s : ByteArray) : C s := by
  suffices h : ∀ n (t : ByteArray), t.size ≤ n → C t from h s.size s (Nat.le_refl _)
  intro n
  induction n with
  | zero =>
    intro t ht
    refine h1 t fun j hj => ?_
    have := (List.getElem?_eq_some_iff.1 hj).1
    rw [ls_len] at this
    omega
  | succ n ih =>
    intro t ht
    rcases find_slash t with h | ⟨i, hi, h, hn⟩
    · exact h1 t h
    · exact h2 t i hi h hn (ih _ (by rw [ByteArray.size_extract]; omega))
theorem lvs_size (s : ByteArray) : ∀ x ∈ lvs s, x.size ≤ s.size := by
  induction s using lvs_ind with
  | h1 s h => rw [lvs_none h]; intro x hx; simp at hx; rw [hx]; exact Nat.le_refl _
  | h2 s i hi h hn ih =>
    rw [lvs_hit h hn]
    intro x hx
    rcases List.mem_cons.1 hx with rfl | hx
    · rw [ByteArray.size_extract]; omega
    · have := ih x hx
      rw [ByteArray.size_extract] at this
      omega
def wildB (x : ByteArray) : Bool := (x.toList == [43]) || (x.toList == [35])
def levOk (x : ByteArray) (last : Bool) : Bool := !(((x.toList == [35]) && !last) || (!wildB x && anyS x))
def levsOk (l : List ByteArray) : Bool := (List.range l.length).all fun i => levOk (l.getD i ⟨#[]⟩) (decide (i + 1 = l.length))
def filterB (s : ByteArray) : Bool := textB s && levsOk (lvs s)
theorem levs_yes {l : List ByteArray} (h : ∀ i x, l[i]? = some x → levOk x (decide (i + 1 = l.length)) = true) : levsOk l = true := by
  unfold levsOk
  rw [List.all_eq_true]
  intro i hi
  have hi := List.mem_range.1 hi
  rw [List.getD_eq_getElem?_getD, List.getElem?_eq_getElem hi]
  exact h i _ (List.getElem?_eq_getElem hi)
theorem levs_no {l : List ByteArray} {i : Nat} {x : ByteArray} (hx : l[i]? = some x) (h : levOk x (decide (i + 1 = l.length)) = false) : levsOk l = false := by
  unfold levsOk
  rw [List.all_eq_false]
  have hi := (List.getElem?_eq_some_iff.1 hx).1
  refine ⟨i, List.mem_range.2 hi, ?_⟩
  rw [List.getD_eq_getElem?_getD, hx]
  simp [h]

theorem tl_ls (x : ByteArray) : x.toList = ls x := Lib.toList_data x
end Go.Proofs.YtpcleamaieaefaaGreatDoor

namespace Go.Proofs.YtpcleamaieaefaaGreatDoor
open Go.RowKit Go.Shelf

theorem ls_front (s : ByteArray) (i : Nat) : ls (s.extract 0 i) = (ls s).take i := by
  show (s.extract 0 i).data.toList = _
  rw [Lib.extract_from_zero]; rfl
theorem ls_back (s : ByteArray) (a : Nat) : ls (s.extract a s.size) = (ls s).drop a := by
  show (s.extract a s.size).data.toList = _
  rw [Lib.extract_to_end]; rfl
theorem size_back (s : ByteArray) (a : Nat) : (s.extract a s.size).size = s.size - a := by rw [ByteArray.size_extract]; omega
def frontL : List UInt8 := [36, 115, 104, 97, 114, 101, 47]
def frontB (s : ByteArray) : Bool := frontL.isPrefixOf (ls s)
def shrS (s : ByteArray) : ByteArray := if frontB s then s.extract 7 s.size else s
/-- A cut at the first slash: what stands ahead, behind, whether there is one. -/
def cutS (s : ByteArray) : ByteArray × ByteArray × Bool :=
  if Lib.indexB s ⟨#[47]⟩ = -1 then (s, ⟨#[]⟩, false) else (s.extract 0 (Lib.indexB s ⟨#[47]⟩).toNat, s.extract ((Lib.indexB s ⟨#[47]⟩).toNat + 1) s.size, true)
def sharedB (s : ByteArray) : Bool := frontB s && ((cutS (shrS s)).2.2 && (validB s && (nameB (cutS (shrS s)).1 && filterB (cutS (shrS s)).2.1)))
theorem cut_size (s : ByteArray) : (cutS s).1.size ≤ s.size ∧ (cutS s).2.1.size ≤ s.size := by
  unfold cutS
  split
  · exact ⟨Nat.le_refl _, Nat.zero_le _⟩
  · simp only [ByteArray.size_extract]; omega
theorem shr_size (s : ByteArray) : (shrS s).size ≤ s.size := by
  unfold shrS
  split
  · rw [ByteArray.size_extract]; omega
  · exact Nat.le_refl _

theorem front_facts {s : ByteArray} (h : frontB s = true) : 7 ≤ s.size ∧ (ls s)[6]? = some 47 ∧ ∀ j, j < 6 → (ls s)[j]? ≠ some 47 := by
  unfold frontB at h
  obtain ⟨t, ht⟩ := List.isPrefixOf_iff_prefix.1 h
  have hl : (ls s).length = 7 + t.length := by rw [← ht]; simp [frontL]; omega
  rw [ls_len] at hl
  refine ⟨by omega, by rw [← ht]; rfl, fun j hj => ?_⟩
  rw [← ht]
  have : j = 0 ∨ j = 1 ∨ j = 2 ∨ j = 3 ∨ j = 4 ∨ j = 5 := by omega
  rcases this with rfl | rfl | rfl | rfl | rfl | rfl <;> simp [frontL]
end Go.Proofs.YtpcleamaieaefaaGreatDoor

namespace Go.Proofs.YtpcleamaieaefaaGreatDoor
open Go.RowKit

def sbKnown (v k : Int) : Bool := decide ((v = 4 ∨ v = 5) ∧ 8 ≤ k ∧ k ≤ 11)
def sbAsk (k : Int) : Bool := decide (k = 8 ∨ k = 10)
def sbSil (v k : Int) : Bool := decide (k = 11 ∧ v = 4)
/-- A packet with just what its kind may have. -/
def sbQ (v : Int) (p : Pk) : Pk :=
  if sbAsk p.kind = true then { pk0 with kind := p.kind, id := p.id, props := p.props, filters := p.filters }
  else if sbSil v p.kind = true then { pk0 with kind := p.kind, id := p.id, props := p.props }
  else { pk0 with kind := p.kind, id := p.id, props := p.props, codes := p.codes }
def sbHave (v : Int) (p : Pk) : Bool := if sbAsk p.kind = true then decide (0 < p.filters.length) else if sbSil v p.kind = true then true else decide (0 < p.codes.length)
def sbFields (v : Int) (p : Pk) : Bool := !(decide (p.id < 1) || (decide (65535 < p.id) || (decide (v = 4) && decide (0 < p.props.length)))) && (sbHave v p && decide (p = sbQ v p))
def sbLow (n : Int) : Bool := decide (0 ≤ n) && decide (n < 3)
def fiPlain (f : Fi) : Bool := decide (f = ⟨f.topic, f.qos, false, false, 0⟩)
/-- May a filter's options be? -/
def optB (v k : Int) (f : Fi) : Bool :=
  if k = 10 then fiPlain f && decide (f.qos = 0) else if v = 4 then fiPlain f && sbLow f.qos else sbLow f.qos && (sbLow f.handling && !(sharedB f.topic && f.noLocal))
def ansB (v k c : Int) : Bool := if v = 4 then grantB c else may k c
def fiE (v k : Int) : List Fi → Int
  | [] => 0
  | f :: l => if filterB f.topic = false then 10 else if optB v k f = false then 2 else fiE v k l
def cdE (v k : Int) : List Int → Int
  | [] => 0
  | c :: l => if ansB v k c = false then 2 else cdE v k l
def sbArg (v : Int) (p : Pk) : Bool := sbKnown v p.kind && sbFields v p
def sbE (v : Int) (p : Pk) : Int :=
  if sbArg v p = false then 2 else if (bytesS p.kind p.props).2 ≠ 0 then (bytesS p.kind p.props).2
  else if fiE v p.kind p.filters ≠ 0 then fiE v p.kind p.filters else cdE v p.kind p.codes
end Go.Proofs.YtpcleamaieaefaaGreatDoor

namespace Go.Proofs.YtpcleamaieaefaaGreatDoor
open Go.RowKit Go.Shelf
def lays221_ren : Ren := ⟨fun | 138 => 276 | 143 => 277 | 195 => 322 | 197 => 323 | 217 => 325 | 218 => 324 | 219 => 279 | 221 => 215 | 224 => 320 | 225 => 321 | 260 => 339 | 266 => 340 | 267 => 326 | 268 => 275 | 314 => 341 | n => n, fun | 0 => 0 | 3 => 3 | 4 => 4 | 5 => 5 | 9 => 9 | 21 => 21 | 31 => 65 | 46 => 98 | 51 => 95 | 105 => 257 | 119 => 283 | 138 => 285 | 139 => 286 | 146 => 275 | n => n, fun | 1 => 0 | 3 => 1 | 4 => 2 | n => n⟩
theorem lays221 : Lays.n221 Tryz.prog lays221_ren where
  mixed := by kernel_rfl
  f138 := Tryz.func276.trans (congrArg some (by kernel_rfl))
  f143 := Tryz.func277.trans (congrArg some (by kernel_rfl))
  f195 := Tryz.func322.trans (congrArg some (by kernel_rfl))
  f197 := Tryz.func323.trans (congrArg some (by kernel_rfl))
  f217 := Tryz.func325.trans (congrArg some (by kernel_rfl))
  f218 := Tryz.func324.trans (congrArg some (by kernel_rfl))
  f219 := Tryz.func279.trans (congrArg some (by kernel_rfl))
  f221 := Tryz.func215.trans (congrArg some (by kernel_rfl))
  f224 := Tryz.func320.trans (congrArg some (by kernel_rfl))
  f225 := Tryz.func321.trans (congrArg some (by kernel_rfl))
  f260 := Tryz.func339.trans (congrArg some (by kernel_rfl))
  f266 := Tryz.func340.trans (congrArg some (by kernel_rfl))
  f267 := Tryz.func326.trans (congrArg some (by kernel_rfl))
  f268 := Tryz.func275.trans (congrArg some (by kernel_rfl))
  f314 := Tryz.func341.trans (congrArg some (by kernel_rfl))
  t0 := Tryz.underlying0
  a0 := Tryz.isAgg0
  z0 := Tryz.sizeOf0
  v0 := Tryz.zeroValue0
  t3 := Tryz.underlying3
  a3 := Tryz.isAgg3
  z3 := Tryz.sizeOf3
  v3 := Tryz.zeroValue3
  t4 := Tryz.underlying4
  a4 := Tryz.isAgg4
  z4 := Tryz.sizeOf4
  v4 := Tryz.zeroValue4
  t5 := Tryz.underlying5
  a5 := Tryz.isAgg5
  z5 := Tryz.sizeOf5
  v5 := Tryz.zeroValue5
  t9 := Tryz.underlying9
  a9 := Tryz.isAgg9
  z9 := Tryz.sizeOf9
  v9 := Tryz.zeroValue9
  t21 := Tryz.underlying21
  a21 := Tryz.isAgg21
  z21 := Tryz.sizeOf21
  v21 := Tryz.zeroValue21
  t31 := Tryz.underlying65
  a31 := Tryz.isAgg65
  z31 := Tryz.sizeOf65
  v31 := Tryz.zeroValue65
  t46 := Tryz.underlying98
  a46 := Tryz.isAgg98
  z46 := Tryz.sizeOf98
  v46 := Tryz.zeroValue98
  t51 := Tryz.underlying95
  a51 := Tryz.isAgg95
  z51 := Tryz.sizeOf95
  v51 := Tryz.zeroValue95
  t105 := Tryz.underlying257
  a105 := Tryz.isAgg257
  z105 := Tryz.sizeOf257
  v105 := Tryz.zeroValue257
  t119 := Tryz.underlying283
  a119 := Tryz.isAgg283
  z119 := Tryz.sizeOf283
  t138 := Tryz.underlying285
  a138 := Tryz.isAgg285
  z138 := Tryz.sizeOf285
  v138 := Tryz.zeroValue285
  t139 := Tryz.underlying286
  a139 := Tryz.isAgg286
  z139 := Tryz.sizeOf286
  v139 := Tryz.zeroValue286
  t146 := Tryz.underlying275
  a146 := Tryz.isAgg275
  z146 := Tryz.sizeOf275
  v146 := Tryz.zeroValue275
  g1 := by kernel_rfl
  g3 := by kernel_rfl
  g4 := by kernel_rfl
theorem info_string : (Tryz.prog.info? 9).map (fun i => (i.zero, i.size, i.bytes)) = some (some (.string ByteArray.empty), 1, 16) := by kernel_rfl
/-- Texts as the cells of a slice. -/
def sv (l : List ByteArray) : List Value := l.map Value.string
theorem sv_len (l : List ByteArray) : (sv l).length = l.length := by simp [sv]
theorem index_s (x : ByteArray) (w : World) : Calls Tryz.prog 277 #[.string x, .string ⟨#[47]⟩] w fun e w' => e = .returned (.int .i64 (Lib.indexB x ⟨#[47]⟩)) ∧ w' = w := by
  have c : Calls Tryz.prog 277 #[.string x, .string ⟨#[47]⟩] w fun e w' => e = .returned (.int .i64 (Lib.indexByte x.data.toList 47)) ∧ w' = w := Any.strings_Index_one { lays221 with } x 47 w
  rw [← Lib.index_one] at c
  exact c
theorem indexL_s (x : ByteArray) (w : World) : Calls Tryz.prog 279 #[.string x, .string ⟨#[47]⟩] w fun e w' => e = .returned (.int .i64 (Lib.indexB x ⟨#[47]⟩)) ∧ w' = w := by
  have c : Calls Tryz.prog 279 #[.string x, .string ⟨#[47]⟩] w fun e w' => e = .returned (.int .i64 (Lib.indexByte x.data.toList 47)) ∧ w' = w := Any.stringslite_Index_one { lays221 with } x 47 w
  rw [← Lib.index_one] at c
  exact c
theorem count_s (x : ByteArray) (w : World) : Calls Tryz.prog 276 #[.string x, .string ⟨#[47]⟩] w fun e w' => e = .returned (.int .i64 (Lib.countB x ⟨#[47]⟩)) ∧ w' = w := by
  have c : Calls Tryz.prog 276 #[.string x, .string ⟨#[47]⟩] w fun e w' => e = .returned (.int .i64 (Lib.countByte x.data.toList 47)) ∧ w' = w := Any.strings_Count_one { lays221 with } x 47 w
  refine c.mono fun e w' ⟨he, hw⟩ => ⟨?_, hw⟩
  rw [he]
  show _ = Ending.returned (Value.int .i64 ((Lib.count x.data.toList [47] : Nat) : Int))
  rw [Lib.count_one]
  rfl
set_option maxHeartbeats 1000000 in
theorem split_any (s : ByteArray) (w : World) (hs : s.size < 4294967281) :
    Calls Tryz.prog 158 #[.string s, .string ⟨#[47]⟩] w fun e w' => e = .returned (.slice (some ⟨w.heap.size, 0, none⟩) (lvs s).length (lvs s).length) ∧ w' = w.alloc (.cells (sv (lvs s)).toArray 9) := by
  have hle := Lib.countB_le ⟨#[47]⟩ (by decide) s.size s (Nat.le_refl _)
  have c : Calls Tryz.prog 215 #[.string s, .string ⟨#[47]⟩, .int .i64 ((0 : Nat) : Int), .int .i64 (-1)] w _ := Any.strings_genSplit_core lays221 info_string s ⟨#[47]⟩ 0 (-1) (Lib.countB s ⟨#[47]⟩ + 1) w hs (by decide) (Nat.zero_le _) (fun x c _ => index_s x _) (count_s s w) (by decide) (by decide) (by rw [if_pos (by decide)]; omega)
  rw [Nat.add_sub_cancel] at c
  have e2 : Lib.cellsOf (Lib.splitB ⟨#[47]⟩ 0 (Lib.countB s ⟨#[47]⟩) s) (Lib.countB s ⟨#[47]⟩ + 1) = (sv (lvs s)).toArray := by rw [← lvs_count s]; exact Lib.cellsOf_full _
  rw [e2] at c
  have e3 : (Lib.splitB ⟨#[47]⟩ 0 (Lib.countB s ⟨#[47]⟩) s).length = (lvs s).length := rfl
  rw [e3, ← lvs_count s] at c
  clear hle e2 e3 hs
  generalize lvs s = l at *
  go_enter Tryz.func158, Tryz.ntmps158
  go_wp2_with fail
  refine c.mono ?_
  rintro e w1 ⟨rfl, rfl⟩
  go_wp2
  go_ret
  exact ⟨rfl, rfl⟩
set_option maxHeartbeats 1000000 in
theorem levelsS_any (s : ByteArray) (w : World) (hs : s.size < 4294967281) :
    Calls Tryz.prog 108 #[.string s] w fun e w' => e = .returned (.slice (some ⟨w.heap.size, 0, none⟩) (lvs s).length (lvs s).length) ∧ w' = w.alloc (.cells (sv (lvs s)).toArray 9) := by
  have c := split_any s w hs
  generalize lvs s = l at *
  go_enter Tryz.func108, Tryz.ntmps108
  go_wp2_with fail
  refine c.mono ?_
  rintro e w1 ⟨rfl, rfl⟩
  go_wp2
  go_ret
  exact ⟨rfl, rfl⟩
set_option maxHeartbeats 1000000 in
theorem wild_any (x : ByteArray) (w : World) :
    Calls Tryz.prog 156 #[.string x] w fun e w' => e = .returned (.bool (wildB x)) ∧ w = w' := by
  have HW : Hid (wildB x = ((x.toList == [43]) || (x.toList == [35]))) := Lib.hid rfl
  go_enter Tryz.func156, Tryz.ntmps156
  cases h1 : (x.toList == [43])
  · have HX : Hid (wildB x = (x.toList == [35])) := Lib.hid (by rw [HW.out, h1, Bool.false_or])
    go_wp2
    go_ret
    exact ⟨by rw [HX.out]; rfl, rfl⟩
  · have HX : Hid (wildB x = true) := Lib.hid (by rw [HW.out, h1, Bool.true_or])
    go_wp2
    go_ret
    exact ⟨by rw [HX.out]; rfl, rfl⟩
theorem levs_step {l : List ByteArray} {k : Nat} {x : ByteArray} (hx : l[k]? = some x) (h : levOk x (decide (k + 1 = l.length)) = true) (ha : ∀ (j : Nat) (y : ByteArray), j < k → l[j]? = some y → levOk y (decide (j + 1 = l.length)) = true) :
    ∀ (j : Nat) (y : ByteArray), j < k + 1 → l[j]? = some y → levOk y (decide (j + 1 = l.length)) = true := by
  intro j y hj hy
  rcases Nat.lt_succ_iff_lt_or_eq.1 hj with h1 | rfl
  · exact ha j y h1 hy
  · rw [hx] at hy
    obtain rfl := Option.some.inj hy
    exact h
theorem levs_end {l : List ByteArray} (ha : ∀ (j : Nat) (y : ByteArray), j < l.length → l[j]? = some y → levOk y (decide (j + 1 = l.length)) = true) : levsOk l = true :=
  levs_yes fun i x hx => ha i x (List.getElem?_eq_some_iff.1 hx).1 hx
theorem rd_sv {w : World} {B n : Nat} {A : Option Addr} {l : List ByteArray} (h : Rd w B 1 A n (sv l)) {i : Nat} (hi : i < n) : ∃ b o x, A = some ⟨b, o, none⟩ ∧ b < B ∧ l[i]? = some x ∧ w.cell? ⟨b, o + i, none⟩ = some (.string x) := by
  obtain ⟨b, o, u, e, hb, hu, hc⟩ := h.at1 hi
  have hl : i < l.length := by have := h.len; rw [sv_len] at this; omega
  refine ⟨b, o, l[i], e, hb, List.getElem?_eq_getElem hl, ?_⟩
  have : u = .string l[i] := by simpa [sv, hl] using hu.symm
  rw [← this]; exact hc
set_option maxHeartbeats 2000000 in
set_option maxRecDepth 10000 in
theorem levels_any (A : Option Addr) (n c : Nat) (l : List ByteArray) (w : World) (hn : l.length = n) (h : Rd w w.heap.size 1 A n (sv l)) (hsz : ∀ x ∈ l, x.size ≤ 65535) (hn2 : n ≤ 4611686018427387904) :
    Calls Tryz.prog 107 #[.slice A n c] w fun e w' => e = .returned (.bool (levsOk l)) ∧ Below w.heap.size w w' := by
  have E1 := Lib.hid hn; have HL := Lib.hid h; have HS := Lib.hid hsz
  clear hn h hsz
  go_enter Tryz.func107, Tryz.ntmps107
  go_wp2
  go_loopw [8] (fun i wr => ∃ k : Nat, k ≤ n ∧ i = .int .i64 k ∧ (∀ (j : Nat) (y : ByteArray), j < k → l[j]? = some y → levOk y (decide (j + 1 = l.length)) = true) ∧ Below w.heap.size w wr) (fun i _ => n - (intOf i).toNat)
  case atStart => exact ⟨0, by omega, rfl, fun j x hj => by omega, Below.refl _ _⟩
  case round =>
    obtain ⟨k, hk, rfl, hall, hbel⟩ := hrel
    have HA := Lib.hid hall; have HB := Lib.hid hbel; clear hall
    by_cases hlt : k < n
    · obtain ⟨b, o, x, rfl, hb, hx, hc⟩ := rd_sv (HL.out.below hbel) hlt
      have HX := Lib.hid hx
      have HXS := Lib.hid (HS.out x (List.mem_of_getElem? hx))
      obtain ⟨d, hd⟩ : ∃ d, decide (k + 1 = l.length) = d := ⟨_, rfl⟩
      have hlast : ((k : Int) + 1 == (n : Int)) = d := by
        rw [← hd, E1.out, Bool.eq_iff_iff, beq_iff_eq, decide_eq_true_iff]; omega
      have HD := Lib.hid hd
      have b1 : (0 : Int) ≤ (k : Int) := by omega
      have b2 : (k : Int) < (n : Int) := by omega
      have HV : Hid (levOk x d = !(((x.toList == [35]) && !d) || (!wildB x && anyS x))) := Lib.hid rfl
      clear hx hd hbel
      cases h35 : (x.toList == [35])
      · have HV1 : Hid (levOk x d = !(!wildB x && anyS x)) := Lib.hid (by rw [HV.out, h35]; rfl)
        go_wp2_with fail
        refine (wild_any x _).mono ?_
        rintro e w1 ⟨rfl, rfl⟩
        cases hw : wildB x
        · have HV2 : Hid (levOk x d = !anyS x) := Lib.hid (by rw [HV1.out, hw]; rfl)
          clear hw
          go_wp2_with fail
          refine (containsAny_any x _ HXS.out).mono ?_
          rintro e w2 ⟨rfl, hb2⟩
          have HB2 := Lib.hid (HB.out.trans (hb2.mono HB.out.size)); clear hb2
          cases ha : anyS x
          · have HV3 : Hid (levOk x (decide (k + 1 = l.length)) = true) := Lib.hid (by rw [HD.out, HV2.out, ha]; rfl)
            clear ha
            go_wp2
            go_roundw
            case rel => exact ⟨k + 1, by omega, by go_num, levs_step HX.out HV3.out HA.out, HB2.out⟩
            case measure => simp [intOf]; omega
          · have HV3 : Hid (levsOk l = false) := Lib.hid (levs_no HX.out (by rw [HD.out, HV2.out, ha]; rfl))
            clear ha
            go_wp2
            go_ret
            exact ⟨by rw [HV3.out]; rfl, HB2.out⟩
        · have HV3 : Hid (levOk x (decide (k + 1 = l.length)) = true) := Lib.hid (by rw [HD.out, HV1.out, hw]; rfl)
          clear hw
          go_wp2
          go_roundw
          case rel => exact ⟨k + 1, by omega, by go_num, levs_step HX.out HV3.out HA.out, HB.out⟩
          case measure => simp [intOf]; omega
      · cases d
        · have HV3 : Hid (levsOk l = false) := Lib.hid (levs_no HX.out (by rw [HD.out, HV.out, h35]; rfl))
          go_wp2
          go_ret
          exact ⟨by rw [HV3.out]; rfl, HB.out⟩
        · have HWX : Hid (wildB x = true) := Lib.hid (by unfold wildB; rw [h35, Bool.or_true])
          have HV3 : Hid (levOk x (decide (k + 1 = l.length)) = true) := Lib.hid (by rw [HD.out, HV.out, HWX.out, Bool.not_true, Bool.and_false]; rfl)
          go_wp2_with fail
          refine (wild_any x _).mono ?_
          rintro e w1 ⟨rfl, rfl⟩
          rw [HWX.out]
          go_wp2
          go_roundw
          case rel => exact ⟨k + 1, by omega, by go_num, levs_step HX.out HV3.out HA.out, HB.out⟩
          case measure => simp [intOf]; omega
    · obtain rfl : k = n := by omega
      have HV3 : Hid (levsOk l = true) := Lib.hid (levs_end (fun j y hj => HA.out j y (by have := E1.out; omega)))
      go_wp2
      go_ret
      exact ⟨by rw [HV3.out]; rfl, hbel⟩
theorem rd_lvs (w : World) (l : List ByteArray) : Rd (w.alloc (.cells (sv l).toArray 9)) (w.alloc (.cells (sv l).toArray 9)).heap.size 1 (some ⟨w.heap.size, 0, none⟩) l.length (sv l) := by
  have h := Rd.fresh w (sv l).toArray 9
  simp only [heap_alloc_size] at h ⊢
  simpa [sv_len] using h
set_option maxHeartbeats 1000000 in
set_option maxRecDepth 10000 in
theorem filter_any (s : ByteArray) (w : World) (hs : s.size ≤ 4611686018427387904) :
    Calls Tryz.prog 66 #[.string s] w fun e w' => e = .returned (.bool (filterB s)) ∧ Below w.heap.size w w' := by
  have HS := Lib.hid hs
  have HF : Hid (filterB s = (textB s && levsOk (lvs s))) := Lib.hid rfl
  clear hs
  go_enter Tryz.func66, Tryz.ntmps66
  go_wp2_with fail
  refine (textT_any s _ HS.out).mono ?_
  rintro e w1 ⟨rfl, hb⟩
  have HB := Lib.hid hb; clear hb
  cases ht : textB s
  · have HX : Hid (filterB s = false) := Lib.hid (by rw [HF.out, ht]; rfl)
    clear ht
    go_wp2
    go_ret
    exact ⟨by rw [HX.out]; rfl, HB.out⟩
  have HX : Hid (filterB s = levsOk (lvs s)) := Lib.hid (by rw [HF.out, ht, Bool.true_and])
  have HV : Hid (s.size ≤ 65535) := Lib.hid (valid_size (by unfold textB at ht; rw [Bool.and_eq_true] at ht; exact ht.2))
  clear ht HF
  have HLS : Hid (∀ x ∈ lvs s, x.size ≤ 65535) := Lib.hid fun x hx => Nat.le_trans (lvs_size s x hx) HV.out
  have HLL : Hid ((lvs s).length ≤ 4611686018427387904) := Lib.hid (by have := lvs_len s; have := HV.out; omega)
  go_wp2_with fail
  refine (levelsS_any s _ (by have := HV.out; omega)).mono ?_
  rintro e w2 ⟨rfl, rfl⟩
  generalize lvs s = l at *
  have HR := Lib.hid (rd_lvs w1 l)
  have HB2 := Lib.hid (HB.out.alloc HB.out.size (.cells (sv l).toArray 9))
  generalize w1.alloc (.cells (sv l).toArray 9) = W at *
  generalize w1.heap.size = g at *
  go_wp2_with fail
  refine (levels_any _ _ _ l _ rfl HR.out HLS.out HLL.out).mono ?_
  rintro e w3 ⟨rfl, hb⟩
  have HB3 := Lib.hid (HB2.out.trans (hb.mono HB2.out.size)); clear hb
  go_wp2
  go_ret
  exact ⟨by rw [HX.out]; rfl, HB3.out⟩
theorem front_ext (s : ByteArray) : frontB s = (decide (7 ≤ s.size) && ((s.extract 0 7).toList == [36, 115, 104, 97, 114, 101, 47])) := by
  rw [tl_ls, ls_front]
  unfold frontB
  by_cases h : 7 ≤ s.size
  · rw [decide_eq_true h, Bool.true_and, Bool.eq_iff_iff, List.isPrefixOf_iff_prefix, beq_iff_eq, List.prefix_iff_eq_take]
    exact eq_comm
  · rw [decide_eq_false h, Bool.false_and, Bool.eq_false_iff]
    intro hp
    have := (List.isPrefixOf_iff_prefix.1 hp).length_le
    rw [ls_len] at this
    simp [frontL] at this
    omega
set_option maxHeartbeats 1000000 in
theorem hasPrefix_any (s : ByteArray) (w : World) (hs : s.size ≤ 4611686018427387904) :
    Calls Tryz.prog 278 #[.string s, .string ⟨#[36, 115, 104, 97, 114, 101, 47]⟩] w fun e w' => e = .returned (.bool (frontB s)) ∧ w = w' := by
  by_cases h : 7 ≤ s.size
  · have h' : (7 : Int) ≤ (s.size : Int) := by omega
    have HF : Hid (frontB s = ((s.extract 0 7).toList == [36, 115, 104, 97, 114, 101, 47])) := Lib.hid (by rw [front_ext, decide_eq_true h, Bool.true_and])
    clear h
    go_enter Tryz.func278, Tryz.ntmps278
    go_wp2
    go_ret
    exact ⟨by rw [HF.out]; rfl, rfl⟩
  · have h' : ¬ (7 : Int) ≤ (s.size : Int) := by omega
    have HF : Hid (frontB s = false) := Lib.hid (by rw [front_ext, decide_eq_false h, Bool.false_and])
    clear h
    go_enter Tryz.func278, Tryz.ntmps278
    go_wp2
    go_ret
    exact ⟨by rw [HF.out]; rfl, rfl⟩
theorem front_size {s : ByteArray} (h : frontB s = true) : 7 ≤ s.size := (front_facts h).1
set_option maxHeartbeats 1000000 in
theorem cutPrefixL_any (s : ByteArray) (w : World) (hs : s.size ≤ 4611686018427387904) :
    Calls Tryz.prog 216 #[.string s, .string ⟨#[36, 115, 104, 97, 114, 101, 47]⟩] w fun e w' => e = .returned (.tuple #[.string (shrS s), .bool (frontB s)]) ∧ w = w' := by
  have HS := Lib.hid hs; clear hs
  go_enter Tryz.func216, Tryz.ntmps216
  go_wp2_with fail
  refine (hasPrefix_any s _ HS.out).mono ?_
  rintro e w1 ⟨rfl, rfl⟩
  cases hf : frontB s
  · have HFB := Lib.hid hf
    have HX : Hid (shrS s = s) := Lib.hid (by unfold shrS; rw [hf]; rfl)
    clear hf
    go_wp2
    go_ret2
    exact ⟨by rw [HX.out, HFB.out]; rfl, rfl⟩
  · have HFB := Lib.hid hf
    have HX : Hid (shrS s = s.extract 7 s.size) := Lib.hid (by unfold shrS; rw [hf]; rfl)
    have h7 : (7 : Int) ≤ (s.size : Int) := by have := front_size hf; omega
    clear hf
    go_wp2
    go_ret2
    exact ⟨by rw [HX.out, HFB.out]; rfl, rfl⟩
set_option maxHeartbeats 1000000 in
theorem cutPrefix_any (s : ByteArray) (w : World) (hs : s.size ≤ 4611686018427387904) :
    Calls Tryz.prog 159 #[.string s, .string ⟨#[36, 115, 104, 97, 114, 101, 47]⟩] w fun e w' => e = .returned (.tuple #[.string (shrS s), .bool (frontB s)]) ∧ w = w' := by
  have HS := Lib.hid hs; clear hs
  go_enter Tryz.func159, Tryz.ntmps159
  go_wp2_with fail
  refine (cutPrefixL_any s _ HS.out).mono ?_
  rintro e w1 ⟨rfl, rfl⟩
  go_wp2
  go_ret2
  exact ⟨rfl, rfl⟩
set_option maxHeartbeats 2000000 in
theorem cutL_any (s : ByteArray) (w : World) (hs : s.size ≤ 4611686018427387904) :
    Calls Tryz.prog 217 #[.string s, .string ⟨#[47]⟩] w fun e w' => e = .returned (.tuple #[.string (cutS s).1, .string (cutS s).2.1, .bool (cutS s).2.2]) ∧ Below w.heap.size w w' := by
  rcases Lib.indexB_cases s ⟨#[47]⟩ with hix | ⟨i, hix, hroom⟩
  · have HX : Hid (cutS s = (s, ⟨#[]⟩, false)) := Lib.hid (by unfold cutS; rw [if_pos hix])
    have HI := Lib.hid hix
    clear hix
    go_enter Tryz.func217, Tryz.ntmps217
    go_wp2_with fail
    refine (indexL_s s _).mono ?_
    rintro e w1 ⟨rfl, rfl⟩
    rw [HI.out]
    go_wp2
    go_ret3
    exact ⟨by rw [HX.out]; rfl, Below.refl _ _⟩
  · have HX : Hid (cutS s = (s.extract 0 i, s.extract (i + 1) s.size, true)) := Lib.hid (by
      unfold cutS; rw [if_neg (by omega), hix]; rfl)
    have HI := Lib.hid hix
    have hz : (⟨#[47]⟩ : ByteArray).size = 1 := rfl
    rw [hz] at hroom
    have c1 : (0 : Int) ≤ (i : Int) := by omega
    have c2 : (i : Int) ≤ (s.size : Int) := by omega
    have c3 : (0 : Int) ≤ (i : Int) + 1 := by omega
    have c4 : (i : Int) + 1 ≤ (s.size : Int) := by omega
    clear hix hz hroom
    go_enter Tryz.func217, Tryz.ntmps217
    go_wp2_with fail
    refine (indexL_s s _).mono ?_
    rintro e w1 ⟨rfl, rfl⟩
    rw [HI.out]
    go_wp2
    go_region
    go_wp2
    go_ret3
    exact ⟨by rw [HX.out]; rfl, below_drawn (Below.refl _ _) _⟩
set_option maxHeartbeats 1000000 in
theorem cut_any (s : ByteArray) (w : World) (hs : s.size ≤ 4611686018427387904) :
    Calls Tryz.prog 160 #[.string s, .string ⟨#[47]⟩] w fun e w' => e = .returned (.tuple #[.string (cutS s).1, .string (cutS s).2.1, .bool (cutS s).2.2]) ∧ Below w.heap.size w w' := by
  have HS := Lib.hid hs; clear hs
  go_enter Tryz.func160, Tryz.ntmps160
  go_wp2_with fail
  refine (cutL_any s _ HS.out).mono ?_
  rintro e w1 ⟨rfl, hb⟩
  have HB := Lib.hid hb; clear hb
  go_wp2
  go_ret3
  exact ⟨rfl, HB.out⟩
/-- What topic.Shared leaves. -/
def SharedOut (s : ByteArray) (w : World) (e : Ending) (w' : World) : Prop := (∃ a b : ByteArray, e = .returned (.tuple #[.string a, .string b, .bool (sharedB s)])) ∧ Below w.heap.size w w'
set_option maxHeartbeats 2000000 in
set_option maxRecDepth 10000 in
theorem shared_any (s : ByteArray) (w : World) (hs : s.size ≤ 4611686018427387904) :
    Calls Tryz.prog 110 #[.string s] w (SharedOut s w) := by
  have HS := Lib.hid hs
  have HZ := Lib.hid (shr_size s)
  have HC := Lib.hid (cut_size (shrS s))
  have HE : Hid (sharedB s = (frontB s && ((cutS (shrS s)).2.2 && (validB s && (nameB (cutS (shrS s)).1 && filterB (cutS (shrS s)).2.1))))) := Lib.hid rfl
  clear hs
  go_enter Tryz.func110, Tryz.ntmps110
  go_wp2_with fail
  refine (cutPrefix_any s _ HS.out).mono ?_
  rintro e w1 ⟨rfl, rfl⟩
  go_wp2_with fail
  refine (cut_any (shrS s) _ (by have := HS.out; have := HZ.out; omega)).mono ?_
  rintro e w1 ⟨rfl, hb⟩
  have HB := Lib.hid hb; clear hb
  obtain ⟨R, hR⟩ : ∃ R, cutS (shrS s) = R := ⟨_, rfl⟩
  rw [hR] at HC HE ⊢
  clear hR
  generalize shrS s = r at *
  obtain ⟨x, y, z⟩ := R
  simp only at HC HE ⊢
  cases hf : frontB s
  · have HX : Hid (sharedB s = false) := Lib.hid (by rw [HE.out, hf]; rfl)
    clear hf
    go_wp2
    go_ret3
    exact ⟨⟨_, _, by rw [HX.out]; rfl⟩, HB.out⟩
  have HE1 : Hid (sharedB s = (z && (validB s && (nameB x && filterB y)))) := Lib.hid (by rw [HE.out, hf, Bool.true_and])
  clear hf
  cases z
  · have HX : Hid (sharedB s = false) := Lib.hid (by rw [HE1.out]; rfl)
    go_wp2
    go_ret3
    exact ⟨⟨_, _, by rw [HX.out]; rfl⟩, HB.out⟩
  go_wp2_with fail
  refine (valid_any s _ HS.out).mono ?_
  rintro e w2 ⟨rfl, hb⟩
  have HB2 := Lib.hid (HB.out.trans (hb.mono HB.out.size)); clear hb
  cases hv : validB s
  · have HX : Hid (sharedB s = false) := Lib.hid (by rw [HE1.out, hv]; rfl)
    clear hv
    go_wp2
    go_ret3
    exact ⟨⟨_, _, by rw [HX.out]; rfl⟩, HB2.out⟩
  have HE2 : Hid (sharedB s = (nameB x && filterB y)) := Lib.hid (by rw [HE1.out, hv, Bool.true_and, Bool.true_and])
  clear hv
  go_wp2_with fail
  refine (name_any x _ (by have := HS.out; have := HZ.out; have := HC.out.1; omega)).mono ?_
  rintro e w3 ⟨rfl, hb⟩
  have HB3 := Lib.hid (HB2.out.trans (hb.mono HB2.out.size)); clear hb
  cases hn : nameB x
  · have HX : Hid (sharedB s = false) := Lib.hid (by rw [HE2.out, hn]; rfl)
    clear hn
    go_wp2
    go_ret3
    exact ⟨⟨_, _, by rw [HX.out]; rfl⟩, HB3.out⟩
  have HE3 : Hid (sharedB s = filterB y) := Lib.hid (by rw [HE2.out, hn, Bool.true_and])
  clear hn
  go_wp2_with fail
  refine (filter_any y _ (by have := HS.out; have := HZ.out; have := HC.out.2; omega)).mono ?_
  rintro e w4 ⟨rfl, hb⟩
  have HB4 := Lib.hid (HB3.out.trans (hb.mono HB3.out.size)); clear hb
  cases hn : filterB y
  · have HX : Hid (sharedB s = false) := Lib.hid (by rw [HE3.out, hn])
    clear hn
    go_wp2
    go_ret3
    exact ⟨⟨_, _, by rw [HX.out]; rfl⟩, HB4.out⟩
  have HX : Hid (sharedB s = true) := Lib.hid (by rw [HE3.out, hn])
  clear hn
  go_wp2
  go_ret3
  exact ⟨⟨_, _, by rw [HX.out]; rfl⟩, HB4.out⟩
end Go.Proofs.YtpcleamaieaefaaGreatDoor

