/- A part of what the laws stand on: MPrp, Row, Open. -/
import Derived.Test.YtbdgkkmbnahgiaaGreatDoorMsG0MPro
import Derived.Laws.StructEq
import Derived.Test.YtbdgkkmbnahgiaaGreatDoorRows
import Derived.ProofKit
import Derived.OpenShut
import Derived.Carry
import Derived.SizedLaws
import Derived.Deep.Slices
import Derived.Deep.Fields
import Derived.ChangeArms
import Derived.ChangeMaps5
namespace Go.Proofs.YtbdgkkmbnahgiaaGreatDoor
open Go.RowKit

/-- How often an id comes. -/
def cnt (k : Nat) (l : List Pr) : Nat := l.countP fun p => p.id.toNat == k
theorem cnt_cons (k : Nat) (p : Pr) (l : List Pr) : cnt k (p :: l) = cnt k l + if p.id.toNat = k then 1 else 0 := by
  simp [cnt, List.countP_cons]
theorem cnt_pos {k : Nat} {l : List Pr} : 0 < cnt k l ↔ ∃ p ∈ l, p.id.toNat = k := by
  simp [cnt, List.countP_pos_iff]
def ckL (kind : Int) (l : List Pr) : Prop := ∀ p ∈ l, checkE (ruleOf p.id) kind p = 0
def onceL (kind : Int) (f : Nat → Nat) (l : List Pr) : Prop := ∀ p ∈ l, oftenP kind p.id.toNat = false → f p.id.toNat + cnt p.id.toNat l ≤ 1

theorem againB_iff (f : Nat → Nat) (kind : Int) (k : Nat) : againB f kind k = true ↔ 1 ≤ f k ∧ oftenP kind k = false := by
  unfold againB
  simp
  omega

theorem once_cons (kind : Int) (f : Nat → Nat) (p : Pr) (l : List Pr) (h : ¬ (1 ≤ f p.id.toNat ∧ oftenP kind p.id.toNat = false)) :
    onceL kind (upd f p.id.toNat (f p.id.toNat + 1)) l ↔ onceL kind f (p :: l) := by
  have e : ∀ j, upd f p.id.toNat (f p.id.toNat + 1) j + cnt j l = f j + cnt j (p :: l) := by
    intro j
    rw [cnt_cons]
    unfold upd
    by_cases hj : j = p.id.toNat
    · subst hj; simp; omega
    · rw [if_neg hj, if_neg (fun x => hj x.symm)]; rfl
  unfold onceL
  simp only [e]
  constructor
  · intro ho q hq hoft
    rcases List.mem_cons.1 hq with rfl | hq
    · have hf : f q.id.toNat = 0 := by
        rcases Nat.eq_zero_or_pos (f q.id.toNat) with h0 | h0
        · exact h0
        · exact absurd ⟨h0, hoft⟩ h
      rcases Nat.eq_zero_or_pos (cnt q.id.toNat l) with h0 | h0
      · rw [cnt_cons]; simp; omega
      · obtain ⟨x, hx, hxe⟩ := cnt_pos.1 h0
        have := ho x hx (by rw [hxe]; exact hoft)
        rw [hxe] at this
        exact this
    · exact ho q hq hoft
  · intro ho q hq hoft
    exact ho q (List.mem_cons_of_mem _ hq) hoft

theorem bytesGo_ok (kind : Int) : ∀ (l : List Pr) (f : Nat → Nat) (out : List UInt8), (bytesGo kind l f out).2 = 0 ↔ (ckL kind l ∧ onceL kind f l ∧ loneB (fun k => f k + cnt k l) = false)
  | [], f, out => by
    simp only [bytesGo, ckL, onceL, cnt, List.countP_nil, Nat.add_zero]
    cases h : loneB f <;> simp
  | p :: l, f, out => by
    have e : (fun j => upd f p.id.toNat (f p.id.toNat + 1) j + cnt j l) = fun j => f j + cnt j (p :: l) := by
      funext j
      rw [cnt_cons]
      unfold upd
      by_cases hj : j = p.id.toNat
      · subst hj; simp; omega
      · rw [if_neg hj, if_neg (fun x => hj x.symm)]; rfl
    rw [bytesGo]
    by_cases hc : checkE (ruleOf p.id) kind p = 0
    · rw [if_neg (by simpa using hc)]
      by_cases ha : againB f kind p.id.toNat = true
      · rw [if_pos ha]
        constructor
        · intro h; exact absurd h (by decide)
        · rintro ⟨_, h, _⟩
          have h1 := h p (by simp) ((againB_iff _ _ _).1 ha).2
          have h2 := ((againB_iff _ _ _).1 ha).1
          rw [cnt_cons] at h1
          simp at h1
          omega
      · rw [if_neg ha, bytesGo_ok kind l, e, once_cons kind f p l (fun h => ha ((againB_iff _ _ _).2 h))]
        constructor
        · rintro ⟨h1, h2, h3⟩
          refine ⟨fun q hq => ?_, h2, h3⟩
          rcases List.mem_cons.1 hq with rfl | hq
          · exact hc
          · exact h1 q hq
        · rintro ⟨h1, h2, h3⟩
          exact ⟨fun q hq => h1 q (List.mem_cons_of_mem _ hq), h2, h3⟩
    · rw [if_pos hc]
      constructor
      · intro h; exact absurd h hc
      · rintro ⟨h, _⟩; exact absurd (h p (by simp)) hc
theorem bytesGo_bytes (kind : Int) : ∀ (l : List Pr) (f : Nat → Nat) (out : List UInt8), (bytesGo kind l f out).2 = 0 → bytesGo kind l f out = (varL (out ++ l.flatMap propL).length ++ (out ++ l.flatMap propL), 0)
  | [], f, out => by
    rw [bytesGo]
    cases h : loneB f <;> simp
  | p :: l, f, out => by
    rw [bytesGo]
    by_cases hc : checkE (ruleOf p.id) kind p = 0
    · rw [if_neg (by simpa using hc)]
      by_cases ha : againB f kind p.id.toNat = true
      · rw [if_pos ha]; intro h; exact absurd h (by decide)
      · rw [if_neg ha]
        intro h
        rw [bytesGo_bytes kind l _ _ h]
        simp
    · rw [if_pos hc]; intro h; exact absurd h hc
theorem bytesGo_bad (kind : Int) : ∀ (l : List Pr) (f : Nat → Nat) (out : List UInt8), (bytesGo kind l f out).2 ≠ 0 → (bytesGo kind l f out).1 = []
  | [], f, out => by
    rw [bytesGo]
    cases h : loneB f <;> simp
  | p :: l, f, out => by
    rw [bytesGo]
    by_cases hc : checkE (ruleOf p.id) kind p = 0
    · rw [if_neg (by simpa using hc)]
      by_cases ha : againB f kind p.id.toNat = true
      · rw [if_pos ha]; intro _; rfl
      · rw [if_neg ha]
        exact bytesGo_bad kind l _ _
    · rw [if_pos hc]; intro _; rfl
/-- A list that is valid. -/
def okL (kind : Int) (l : List Pr) : Prop := ckL kind l ∧ (∀ p ∈ l, oftenP kind p.id.toNat = false → cnt p.id.toNat l ≤ 1) ∧ ¬ (0 < cnt 22 l ∧ cnt 21 l = 0)
theorem lone_iff (f : Nat → Nat) : loneB f = false ↔ ¬ (0 < f 22 ∧ f 21 = 0) := by
  unfold loneB
  rw [← Bool.not_eq_true]
  simp
theorem okL_iff (kind : Int) (l : List Pr) : okL kind l ↔ (ckL kind l ∧ onceL kind (fun _ => 0) l ∧ loneB (fun k => 0 + cnt k l) = false) := by
  unfold okL onceL
  rw [lone_iff]
  simp only [Nat.zero_add]
theorem bytesS_ok (kind : Int) (l : List Pr) : (bytesS kind l).2 = 0 ↔ l.length ≤ 1000 ∧ okL kind l := by
  unfold bytesS
  by_cases h : 1000 < l.length
  · rw [if_pos h]
    constructor
    · intro h; exact absurd h (by decide)
    · rintro ⟨h1, _⟩; omega
  · rw [if_neg h, bytesGo_ok, okL_iff]
    constructor
    · intro h1; exact ⟨by omega, h1⟩
    · rintro ⟨_, h1⟩; exact h1
theorem bytesS_bytes (kind : Int) (l : List Pr) (h : (bytesS kind l).2 = 0) : bytesS kind l = (varL (l.flatMap propL).length ++ l.flatMap propL, 0) := by
  unfold bytesS at h ⊢
  by_cases hl : 1000 < l.length
  · rw [if_pos hl] at h; exact absurd h (by decide)
  · rw [if_neg hl] at h ⊢
    rw [bytesGo_bytes kind l _ _ h]
    simp
theorem bytesS_bad (kind : Int) (l : List Pr) (h : (bytesS kind l).2 ≠ 0) : (bytesS kind l).1 = [] := by
  unfold bytesS at h ⊢
  by_cases hl : 1000 < l.length
  · rw [if_pos hl]
  · rw [if_neg hl] at h ⊢
    exact bytesGo_bad kind l _ _ h
/-- The first of an id. -/
def getP (l : List Pr) (id : Int) : Option Pr := l.find? fun p => p.id == id
end Go.Proofs.YtbdgkkmbnahgiaaGreatDoor

namespace Go.Proofs.YtbdgkkmbnahgiaaGreatDoor
open Go.RowKit

theorem info_prop : (Tryz.prog.info? 102).map (fun i => (i.zero, i.size, i.bytes)) = some (some (.agg #[.int .i64 0, .int .u32 0, .string ⟨#[]⟩, .string ⟨#[]⟩]), 4, 48) := by kernel_rfl
theorem prs_one (l : List Pr) : ∀ u ∈ prs l, u.oneCell' = true := by
  intro u hu
  obtain ⟨p, _, hp⟩ := List.mem_flatMap.1 hu
  simp [prC] at hp
  rcases hp with rfl | rfl | rfl | rfl <;> rfl
theorem prs_append (a b : List Pr) : prs (a ++ b) = prs a ++ prs b := by simp [prs]

/-- A property within the form's reach. -/
def prGood (p : Pr) : Prop := p.n < 4294967296 ∧ p.text.size ≤ 140737488351232 ∧ p.value.size ≤ 140737488351232
theorem prGood_ok {p : Pr} (h : prGood p) : p.Ok := ⟨h.1, by have := h.2.1; omega, by have := h.2.2; omega⟩
def getR (l : List Pr) (id : Int) : Pr := (getP l id).getD ⟨0, 0, ⟨#[]⟩, ⟨#[]⟩⟩
set_option maxHeartbeats 400000 in
set_option maxRecDepth 10000 in
theorem getP_any (id : Int) (l : List Pr) (A : Option Addr) (c : Nat) (w : World) (h : Rd w w.heap.size 4 A l.length (prs l)) (hl : l.length ≤ 4611686018427387904) :
    Calls Tryz.prog 383 #[.slice A l.length c, .int .i64 id] w fun e w' => e = .returned (.tuple #[(getR l id).val, .bool (getP l id).isSome]) ∧ Below w.heap.size w w' := by
  have H := Lib.hid h; clear h
  go_enter Tryz.func383, Tryz.ntmps383
  go_wp2
  go_loopw [10] (fun i wr => ∃ k : Nat, k ≤ l.length ∧ i = .int .i64 k ∧ getP l id = getP (l.drop k) id ∧ Bk wr w.heap.size 102 #[.int .i64 0, .int .u32 0, .string ⟨#[]⟩, .string ⟨#[]⟩] ∧ Below w.heap.size w wr) (fun i _ => l.length - (intOf i).toNat)
  case atStart => exact ⟨0, by omega, rfl, rfl, Bk.fresh _ _ _, (Below.refl _ _).alloc (Nat.le_refl _) _⟩
  case round =>
    obtain ⟨k, hk, rfl, hg, hbk, hbel⟩ := hrel
    have HG := Lib.hid hg; have HB := Lib.hid hbk
    have hz := hbel.size
    have hlw := hbk.lt
    clear hg hbk
    by_cases hlt : k < l.length
    · obtain ⟨b, o, rfl, hb, c0, c1, c2, c3⟩ := (H.out.below hbel).atP hlt
      have HD := Lib.hid (List.drop_eq_getElem_cons hlt)
      generalize l[k] = p at *
      obtain ⟨pid, n, t, v⟩ := p
      simp only at c0 c1 c2 c3
      have b1 : (0 : Int) ≤ (k : Int) := by omega
      have b2 : (k : Int) < (l.length : Int) := by omega
      have HB2 := Lib.hid (HB.out.alloc (.cells #[.int .i64 pid, .int .u32 n, .string t, .string v] 102))
      have HL2 := Lib.hid (hbel.alloc (by omega) (.cells #[.int .i64 pid, .int .u32 n, .string t, .string v] 102))
      by_cases he : pid = id
      · subst he
        obtain ⟨⟨d0, d1, d2, d3⟩, f0, f1, f2, f3⟩ := HB.out.four
        have HF : Hid (getP l pid = some ⟨pid, n, t, v⟩) := Lib.hid (by rw [HG.out, HD.out]; simp [getP])
        go_wp2
        have HX := Lib.hid ((below_four hbel (Nat.le_refl _) (.int .i64 pid) (.int .u32 n) (.string t) (.string v)).alloc (by simp; omega) (.cells #[.int .i64 pid, .int .u32 n, .string t, .string v] 102))
        exact bodyPost_ret (v := .tuple #[.agg #[.int .i64 pid, .int .u32 n, .string t, .string v], .bool true]) (by simp [results, Tryz.results383, go_sem, hlw, d0, d1, d2, d3]) rfl ⟨by unfold getR; rw [HF.out]; rfl, HX.out⟩
      · have e1 : (pid == id) = false := beq_eq_false_iff_ne.2 he
        have HF : Hid (getP l id = getP (l.drop (k + 1)) id) := Lib.hid (by rw [HG.out, HD.out]; simp [getP, e1])
        have HE := Lib.hid he; clear he
        go_wp2
        go_roundw
        case rel => exact ⟨k + 1, by omega, by go_num, HF.out, HB2.out, HL2.out⟩
        case measure => simp [intOf]; omega
    · obtain rfl : k = l.length := by omega
      have HF : Hid (getP l id = none) := Lib.hid (by rw [HG.out, List.drop_length]; rfl)
      obtain ⟨⟨d0, d1, d2, d3⟩, f0, f1, f2, f3⟩ := HB.out.four
      go_wp2
      have HX := Lib.hid (below_four hbel (Nat.le_refl _) (.int .i64 0) (.int .u32 0) (.string ⟨#[]⟩) (.string ⟨#[]⟩))
      exact bodyPost_ret (v := .tuple #[.agg #[.int .i64 0, .int .u32 0, .string ⟨#[]⟩, .string ⟨#[]⟩], .bool false]) (by simp [results, Tryz.results383, go_sem, d0, d1, d2, d3]) rfl ⟨by unfold getR; rw [HF.out]; rfl, HX.out⟩
end Go.Proofs.YtbdgkkmbnahgiaaGreatDoor

namespace Go.Proofs.YtbdgkkmbnahgiaaGreatDoor
open Go.RowKit
attribute [local go_sem ↓] Go.wp_at_zero Go.wp_at_succ

/-- Nothing that was there has turned. -/
def Kept (w0 x : World) : Prop := Below w0.heap.size w0 x
section
variable {w0 x y : World}
theorem Kept.refl (w : World) : Kept w w := Below.refl _ _
theorem Kept.below (h : Kept w0 x) (hb : Below x.heap.size x y) : Kept w0 y := Below.trans h (hb.mono (Below.size h))
theorem Kept.drewN (h : Kept w0 x) (n : Nat) : Kept w0 (x.drewN n) := below_drawn h n
theorem Kept.drew (h : Kept w0 x) : Kept w0 x.drew := below_drawn h 1
theorem Kept.alloc (h : Kept w0 x) (o : Obj) : Kept w0 (x.alloc o) := Below.alloc h (Below.size h) o
theorem Kept.app {v : Value} (h : Kept w0 x) (hg : x.grownBy y v.ownBlock) (hv : ∀ k, v.ownBlock = some k → w0.heap.size ≤ k) : Kept w0 y := Below.grown h hg (Below.size h) hv
theorem Kept.rd {k n : Nat} {A : Option Addr} {xs : List Value} (hk : Kept w0 x) (h : Rd w0 w0.heap.size k A n xs) : Rd x x.heap.size k A n xs := (h.below hk).wider (Below.size hk)
theorem Kept.to (h : Kept w0 x) : Below w0.heap.size w0 x := h
theorem Kept.size (h : Kept w0 x) : w0.heap.size ≤ x.heap.size := Below.size h
theorem Kept.own {e : TypeId} {k n : Nat} {v : Value} {xs : List Value} (_ : Kept w0 x) (h : y.ownsRow x.heap.size e k v n xs) (hk : w0.heap.size ≤ x.heap.size) : ∀ g, v.ownBlock = some g → w0.heap.size ≤ g := fun g hg => Nat.le_trans hk (own_block h g hg).1
end

theorem bytesP_n (kind : Int) (l : List Pr) (n : Nat) (hn : l.length = n) (hok : ∀ p ∈ l, prGood p) (A : Option Addr) (cap : Nat) (w : World) (h : Rd w w.heap.size 4 A n (prs l)) (hl : n ≤ 4611686018427387904) :
    Calls Tryz.prog 57 #[.int .i64 kind, .slice A n cap] w fun e w' => e = .returned (.tuple #[.string ⟨(bytesS kind l).1.toArray⟩, .int .i64 (bytesS kind l).2]) ∧ Below w.heap.size w w' := by
  subst hn
  exact bytesP_any kind l (fun p hp => prGood_ok (hok p hp)) A cap w h hl
theorem validP_n (kind : Int) (l : List Pr) (n : Nat) (hn : l.length = n) (hok : ∀ p ∈ l, prGood p) (A : Option Addr) (cap : Nat) (w : World) (h : Rd w w.heap.size 4 A n (prs l)) (hl : n ≤ 4611686018427387904) :
    Calls Tryz.prog 75 #[.int .i64 kind, .slice A n cap] w fun e w' => e = .returned (.int .i64 (bytesS kind l).2) ∧ Below w.heap.size w w' := by
  subst hn
  exact validP_any kind l (fun p hp => prGood_ok (hok p hp)) A cap w h hl
theorem Rd.one4 (w : World) (p : Pr) : Rd (w.alloc (.cells #[.int .i64 p.id, .int .u32 p.n, .string p.text, .string p.value] 102)) (w.heap.size + 1) 4 (some ⟨w.heap.size, 0, none⟩) 1 (prs [p]) := by
  have := Rd.lit4 w #[.int .i64 p.id, .int .u32 p.n, .string p.text, .string p.value] 102 [p] rfl
  simpa using this
end Go.Proofs.YtbdgkkmbnahgiaaGreatDoor

namespace Go.Proofs.YtbdgkkmbnahgiaaGreatDoor
open Go.RowKit

theorem flat_total {kind : Int} : ∀ {l : List Pr}, ckL kind l → (l.flatMap propL).length ≤ l.length * 131075
  | [], _ => by simp
  | p :: l, h => by
    have h1 := propL_len (h p (by simp))
    have h2 := flat_total (fun q hq => h q (List.mem_cons_of_mem _ hq))
    rw [List.flatMap_cons, List.length_append, List.length_cons]
    omega
theorem bytesS_size (kind : Int) (l : List Pr) (h : (bytesS kind l).2 = 0) : (l.flatMap propL).length ≤ 131075000 ∧ (bytesS kind l).1.length ≤ 131075004 := by
  have hb := bytesS_bytes kind l h
  obtain ⟨h1, h2, _⟩ := (bytesS_ok kind l).1 h
  have h3 := flat_total h2
  refine ⟨by omega, ?_⟩
  rw [hb]
  have := varF_len 3 (l.flatMap propL).length
  simp only [varL, List.length_append]
  omega
theorem mk_size (l : List UInt8) : (⟨l.toArray⟩ : ByteArray).size = l.length := by show l.toArray.size = _; simp
end Go.Proofs.YtbdgkkmbnahgiaaGreatDoor

namespace Go.Proofs.YtbdgkkmbnahgiaaGreatDoor
open Go.RowKit

instance : DecidableEq Pr := fun a b => decidable_of_iff (a.id = b.id ∧ a.n = b.n ∧ a.text = b.text ∧ a.value = b.value) (by cases a; cases b; simp)
theorem pr_eq_iff (a b : Pr) : a = b ↔ a.id = b.id ∧ a.n = b.n ∧ a.text = b.text ∧ a.value = b.value := by cases a; cases b; simp
theorem guard_prop : Tryz.prog.eqGuardType Tryz.prog.depth 102 = false := by kernel_rfl
theorem toList_inj (a b : ByteArray) : a.toList = b.toList ↔ a = b := by
  rw [ByteArray.toList_eq, ByteArray.toList_eq]
  exact ⟨fun h => ls_ext h, fun h => by rw [h]⟩
theorem eql_prop (p q : Pr) (w : World) : (binOp .eql 102 (.agg #[.int .i64 p.id, .int .u32 p.n, .string p.text, .string p.value]) (.agg #[.int .i64 q.id, .int .u32 q.n, .string q.text, .string q.value])).run Tryz.prog w = .ok (.bool (decide (p = q))) w := by
  have u1 := Tryz.underlying3
  have u2 := Tryz.underlying100
  have u3 := Tryz.underlying9
  have hS : Tryz.prog.underlying 102 = some (.struct (Tryz.prog.fieldsOf 102)) := by kernel_rfl
  have hp : Tryz.prog.stoodInHeld 102 = false := by kernel_rfl
  rw [run_eql_struct, show (10000 : Nat) = 9999 + 1 from rfl, run_equalIn_agg w 9999 102 _ _ hS hp]
  simp only [Program.fieldsOf, Tryz.underlying102]
  go_simp
  by_cases h1 : p.id = q.id <;> by_cases h2 : p.n = q.n <;> by_cases h3 : p.text = q.text <;> by_cases h4 : p.value = q.value <;> simp [pr_eq_iff, h1, h2, h3, h4, toList_inj] <;> omega
theorem neq_prop (p q : Pr) (w : World) : (binOp .neq 102 (.agg #[.int .i64 p.id, .int .u32 p.n, .string p.text, .string p.value]) (.agg #[.int .i64 q.id, .int .u32 q.n, .string q.text, .string q.value])).run Tryz.prog w = .ok (.bool (!decide (p = q))) w := by
  have h := eql_prop p q w
  rw [run_eql_struct] at h
  rw [run_neq_struct]
  generalize (Op.equalIn 10000 _ _ _).run Tryz.prog w = r at h ⊢
  cases r with
  | ok b w' => simp [Result.andThen] at h ⊢; obtain ⟨rfl, rfl⟩ := h; simp
  | halt x w' => simp [Result.andThen] at h
set_option maxHeartbeats 1000000 in
set_option maxRecDepth 10000 in
theorem sameKit_any (A A' : Option Addr) (n m c c' : Nat) (l l' : List Pr) (w : World) (e1 : l.length = n) (e2 : l'.length = m) (hl : Rd w w.heap.size 4 A n (prs l)) (hm : Rd w w.heap.size 4 A' m (prs l')) (hn : n ≤ 4611686018427387904) (hn' : m ≤ 4611686018427387904) :
    Calls Tryz.prog 71 #[.slice A n c, .slice A' m c'] w fun e w' => e = .returned (.bool (decide (l = l'))) ∧ Below w.heap.size w w' := by
  have hgt := guard_prop
  by_cases hlen : n = m
  · subst hlen
    have E1 := Lib.hid e1; have E2 := Lib.hid e2; clear e1 e2
    have HL := Lib.hid hl; have HM := Lib.hid hm; clear hl hm
    go_enter Tryz.func71, Tryz.ntmps71
    go_wp2
    go_loopw [5] (fun i wr => ∃ k : Nat, k ≤ n ∧ i = .int .i64 k ∧ (∀ j, j < k → l[j]? = l'[j]?) ∧ Below w.heap.size w wr) (fun i _ => n - (intOf i).toNat)
    case atStart => exact ⟨0, by omega, rfl, fun j hj => by omega, Below.refl _ _⟩
    case round =>
      obtain ⟨k, hk, rfl, hall, hbel⟩ := hrel
      have HA := Lib.hid hall; clear hall
      by_cases hlt : k < n
      · obtain ⟨bA, oA, rfl, hb, c0, c1, c2, c3⟩ := (show Rd w w.heap.size 4 A l.length (prs l) by rw [E1.out]; exact HL.out).below hbel |>.atP (show k < l.length by rw [E1.out]; exact hlt)
        obtain ⟨bA', oA', rfl, hb', d0, d1, d2, d3⟩ := (show Rd w w.heap.size 4 A' l'.length (prs l') by rw [E2.out]; exact HM.out).below hbel |>.atP (show k < l'.length by rw [E2.out]; exact hlt)
        have HZ : Hid (l[k]? = some (l[k]'(by rw [E1.out]; exact hlt))) := Lib.hid (List.getElem?_eq_getElem _)
        have HZ' : Hid (l'[k]? = some (l'[k]'(by rw [E2.out]; exact hlt))) := Lib.hid (List.getElem?_eq_getElem _)
        generalize l[k]'(by rw [E1.out]; exact hlt) = p at *
        generalize l'[k]'(by rw [E2.out]; exact hlt) = q at *
        have b1 : (0 : Int) ≤ (k : Int) := by omega
        have b2 : (k : Int) < (n : Int) := by omega
        have hne := fun W => neq_prop p q W
        by_cases he : p = q
        · subst he
          have hd : decide (p = p) = true := by simp
          rw [hd] at hne
          clear hd
          go_wp2
          go_quiet (fail)
          go_wp2
          go_roundw
          case rel =>
            refine ⟨k + 1, by omega, by go_num, fun j hj => ?_, below_drawn hbel _⟩
            rcases Nat.lt_succ_iff_lt_or_eq.1 hj with h | rfl
            · exact HA.out j h
            · rw [HZ.out, HZ'.out]
          case measure => simp [intOf]; omega
        · have hd : decide (p = q) = false := decide_eq_false he
          rw [hd] at hne
          have HE := Lib.hid he; clear he hd
          go_wp2
          go_quiet (fail)
          go_wp2
          go_ret
          refine ⟨?_, below_drawn hbel _⟩
          have : l ≠ l' := by
            rintro rfl
            have := HZ.out.symm.trans HZ'.out
            exact HE.out (by simpa using this)
          simp [this]
      · go_wp2
        go_ret
        refine ⟨?_, hbel⟩
        have : l = l' := by
          apply List.ext_getElem?
          intro j
          by_cases hj : j < k
          · exact HA.out j hj
          · rw [List.getElem?_eq_none (by have := E1.out; omega), List.getElem?_eq_none (by have := E2.out; omega)]
        simp [this]
  · have h1 : ((n : Int) != (m : Int)) = true := by simpa using (by omega : ¬ (n : Int) = (m : Int))
    have HN := Lib.hid hlen; have E1 := Lib.hid e1; have E2 := Lib.hid e2; clear hlen e1 e2 hl hm
    go_enter Tryz.func71, Tryz.ntmps71
    go_wp2
    go_ret
    refine ⟨?_, Below.refl _ _⟩
    have : l ≠ l' := by
      rintro rfl
      exact HN.out (E1.out.symm.trans E2.out)
    simp [this]

end Go.Proofs.YtbdgkkmbnahgiaaGreatDoor

namespace Go.Proofs.YtbdgkkmbnahgiaaGreatDoor
open Go.ChangeShapes Go.WideShapes Go.ChangeAt Go.RowKit

section
variable {H : Type} {enc : TypeId × Value → H} {P : Program} {W W' : World}

theorem trodAll_kept (hl : laidOutB P = true) (hb : Below W.heap.size W W') {sp : Nat → Bool} : ∀ {ts : List TypeId} {vs : List Value} {ds : List (DataW H)} {ps : List MemPlace},
    (∀ t ∈ ts, P.readableRec t = true ∧ t < P.types.size) → DataW.TrodAll enc P W 0 (fun _ => true) true ts vs ds ps → (∀ p ∈ ps, p.block < W.heap.size) → (∀ p ∈ ps, sp p.block = true) →
    DataW.TrodAll enc P W' 0 sp true ts vs ds ps
  | [], [], [], _, _, h, _, _ => h
  | t :: ts, v :: vs, d :: ds, ps, ht, ⟨p, q, h1, h2, e⟩, hlt, hsp => by
    subst e
    refine ⟨p, q, ?_, ?_, rfl⟩
    · obtain ⟨hr, hrow⟩ := ht t (by simp)
      exact WideElems.Trod_stays hl hr hrow h1 (fun x hx => hb.same (hlt x (by simp [hx]))) (fun x hx => hsp x (by simp [hx]))
    · exact trodAll_kept hl hb (fun t' ht' => ht t' (by simp [ht'])) h2 (fun x hx => hlt x (by simp [hx])) (fun x hx => hsp x (by simp [hx]))

theorem law_post {f : Func} {s : ChangeSpec} {fresh handsOn again : Bool} {args : Array Value} {ds : List (DataW H)} {before : List MemPlace} {tb : TypeId} (hl : laidOutB P = true)
    (hts : ∀ t ∈ f.params.toList, P.readableRec t = true ∧ t < P.types.size) (hv : s.vars = []) (hres : f.resultTypes = #[tb]) (htb : P.underlying tb = some .bool)
    (hW : DataW.Whole enc P f.params.toList s.vars false W args.toList ds [] before) (hspec : s.fn H (ds ++ []) = { results := [.lit (.bool true)], args := ds }) (hb : Below W.heap.size W W') :
    s.post enc P f false fresh handsOn again W args (.bool true) W' := by
  have hlt : ∀ p ∈ before, p.block < W.heap.size := fun p hp => hW.lt p hp
  have hW0 := hW
  obtain ⟨p, q, hA, hV, he, hz, _⟩ := hW
  have hq : q = [] := by
    rw [hv] at hV
    exact hV
  subst hq
  rw [List.append_nil] at he
  subst he
  have hargs : ∀ sp : Nat → Bool, (∀ x ∈ before, sp x.block = true) → DataW.TrodAll enc P W' 0 sp true f.params.toList args.toList (s.fn H (ds ++ [])).args before := fun sp hsp => by
    rw [hspec]
    exact trodAll_kept hl hb hts hA hlt hsp
  have hvars : ∀ sp : Nat → Bool, DataW.TrodVars enc P W' sp s.vars (s.fn H (ds ++ [])).vars [] := fun sp => by
    rw [hspec, hv]
    exact rfl
  have hr : ∀ (b : Nat) (sp : Nat → Bool) (hd : Bool), DataW.TrodAll enc P W' b sp hd f.resultTypes.toList ((Value.bool true).resultList f.resultTypes.size) (s.fn H (ds ++ [])).results [] := fun b sp hd => by
    rw [hspec, hres]
    exact trodAll_cons_mk (shut_bool htb _) trodAll_mk0
  have hold : ∀ x ∈ before, (fun b => decide (b < W.heap.size)) x.block = true := fun x hx => by simpa using hlt x hx
  refine ⟨ds, [], before, [], before, [], hW0, hr _ _ _, hargs _ hold, hvars _, World.keptBut_mono (fun x hx => ⟨hx, .inr (by simpa using hx)⟩) (hb.frame (· ∈ before)), fun _ => ?_⟩
  refine ⟨ok_one hres rfl (okWide_bool_mk htb _), _, _, ([] ++ before) ++ [], ⟨[] ++ before, [], trodAll_append (hargs _ (fun _ _ => rfl)) (hr _ _ _), hvars _, rfl, ?_, ?_⟩, ?_⟩
  · intro b off hp
    have hin : MemPlace.cell b off ∈ before := by simpa using hp
    rw [hb.frozen (hlt _ hin)]
    exact hz b off hin
  · intro ha
    cases ha
  · intro x hx _
    simpa using hx
end
theorem all_ok {P : Program} {ts : List TypeId} (h : (ts.all fun t => P.readableRec t && decide (t < P.types.size)) = true) : ∀ t ∈ ts, P.readableRec t = true ∧ t < P.types.size := by
  intro t ht
  have := List.all_eq_true.1 h t ht
  simpa using this
theorem laid_out : laidOutB Tryz.prog = true := by kernel_rfl
theorem godebug_own : ownKnob Tryz.prog.godebug = none := by kernel_rfl

end Go.Proofs.YtbdgkkmbnahgiaaGreatDoor

namespace Go.Proofs.YtbdgkkmbnahgiaaGreatDoor
open Go.ChangeShapes Go.WideShapes Go.ChangeAt Go.RowKit Go.Deep

section
variable {H : Type} {enc : TypeId × Value → H} {P : Program} {w : World} {base : Nat} {spare : Nat → Bool} {held : Bool}

/-- All that a datum weighs is within the reach. -/
def Sized (P : Program) (t : TypeId) (d : DataW H) : Prop := ∀ z ∈ d.weights P t, z ≤ reachBytes

theorem weightsAll_mem {e : TypeId} : ∀ {ds : List (DataW H)} {d : DataW H}, d ∈ ds → ∀ z ∈ d.weights P e, z ∈ DataW.weightsAll P e ds
  | [], _, h, _, _ => by simp at h
  | x :: ds, d, h, z, hz => by
    unfold DataW.weightsAll
    rcases List.mem_cons.1 h with rfl | h
    · exact List.mem_append.2 (.inl hz)
    · exact List.mem_append.2 (.inr (weightsAll_mem h z hz))
theorem Sized.elem {t e : TypeId} {l r : List (DataW H)} (ht : P.underlying t = some (.slice e)) (h : Sized P t (.slice l r)) {d : DataW H} (hd : d ∈ l) : Sized P e d := fun z hz => h z (by
  simp only [DataW.weights, ht]
  exact List.mem_cons_of_mem _ (List.mem_append.2 (.inl (weightsAll_mem hd z hz))))
theorem Sized.len {t e : TypeId} {l r : List (DataW H)} (ht : P.underlying t = some (.slice e)) (h : Sized P t (.slice l r)) : l.length * P.bytesOf e ≤ reachBytes := by
  have := h ((l.length + r.length) * P.bytesOf e) (by simp [DataW.weights, ht])
  exact Nat.le_trans (Nat.mul_le_mul_right _ (by omega)) this
theorem Sized.str {t : TypeId} {s : List UInt8} (h : Sized P t (.lit (.string s) : DataW H)) : s.length ≤ reachBytes := h _ (by simp [DataW.weights])
theorem sized_at {ts : List TypeId} {ds : List (DataW H)} (h : (DataW.weightsEach P ts ds).all (· ≤ reachBytes) = true) {j : Nat} {t : TypeId} {d : DataW H} (ht : ts[j]? = some t) (hd : ds[j]? = some d) : Sized P t d := fun z hz => by
  have := List.all_eq_true.1 h _ (DataW.weights_mem_each ht hd z hz)
  simpa using this
theorem flat_len {X : Type} {k : Nat} {C : X → List Value} (hk : ∀ x, (C x).length = k) : ∀ l : List X, (l.flatMap C).length = l.length * k
  | [] => by simp
  | x :: l => by
    rw [List.flatMap_cons, List.length_append, hk, flat_len hk l, List.length_cons, Nat.add_mul]; omega
theorem flat_at {X : Type} {k : Nat} {C : X → List Value} (hk : ∀ x, (C x).length = k) : ∀ (l : List X) (i r : Nat) (h : i < l.length), r < k → (l.flatMap C)[i * k + r]? = (C l[i])[r]?
  | x :: l, 0, r, _, hr => by
    rw [Nat.zero_mul, Nat.zero_add, List.flatMap_cons, List.getElem?_append_left (by rw [hk]; exact hr)]
    rfl
  | x :: l, i + 1, r, h, hr => by
    have ih := flat_at hk l i r (by simpa using h) hr
    rw [List.flatMap_cons, List.getElem?_append_right (by rw [hk, Nat.add_mul]; omega), hk]
    rw [show (i + 1) * k + r - k = i * k + r by rw [Nat.add_mul]; omega]
    exact ih

/-- A slice, its elements known each by itself, as a list that is read. -/
theorem open_rows {X : Type} [Inhabited X] {k : Nat} (C : X → List Value) (hk : ∀ x, (C x).length = k) (hk0 : 0 < k) {t e : TypeId} (ht : P.underlying t = some (.slice e)) (hc : P.cellsOf e = k) (good : X → Prop)
    (hel : ∀ (n : Nat) (cs : List Value) (D : DataW H) (Pl : List MemPlace), DataW.trod enc P w base spare held n e cs = some (D, Pl) → Sized P e D → (∀ x ∈ Pl, x.block < w.heap.size) → ∃ x, cs = C x ∧ good x)
    {fuel : Nat} {cs : List Value} {d : DataW H} {ps : List MemPlace} (h : DataW.trod enc P w base spare held fuel t cs = some (d, ps)) (hs : Sized P t d) (hlt : ∀ x ∈ ps, x.block < w.heap.size) :
    ∃ (A : Option Addr) (l : List X) (c : Nat), cs = [.slice A l.length c] ∧ Rd w w.heap.size k A l.length (l.flatMap C) ∧ (∀ x ∈ l, good x) ∧ l.length * P.bytesOf e ≤ reachBytes ∧ l.length ≤ c ∧ c ≤ maxLen := by
  rcases open_slice ht h with ⟨rfl, _⟩ | ⟨a, len, cap, m, n, D, Pl, rfl, _, hl, hm, hmm, hx, hi⟩
  · exact ⟨none, [], 0, rfl, Rd.nil _ _ _ _, by simp, by simp, Nat.le_refl _, by unfold maxLen; omega⟩
  · simp only [Prod.mk.injEq] at hx
    obtain ⟨rfl, rfl⟩ := hx
    have hlm : len ≤ m := by rw [hmm]; split <;> omega
    have each : ∀ i, i < len → ∃ x, good x ∧ ∀ r u, (C x)[r]? = some u → w.cell? (a.add (i * k + r)) = some u := by
      intro i hilen
      obtain ⟨cs', h1, h2⟩ := hi i (by omega)
      obtain ⟨x, rfl, hg⟩ := hel n cs' _ _ h2 (hs.elem ht (List.mem_map.2 ⟨i, List.mem_range.2 hilen, rfl⟩)) (fun y hy => hlt y (List.mem_append.2 (.inr (List.mem_flatMap.2 ⟨i, List.mem_range.2 (by omega), hy⟩))))
      refine ⟨x, hg, fun r u hu => ?_⟩
      rw [hc] at h1
      obtain ⟨_, h3, h4⟩ := World.cells?_some h1
      have hr : r < k := by
        rcases Nat.lt_or_ge r k with h | h
        · exact h
        · rw [List.getElem?_eq_none (by rw [hk]; exact h)] at hu; cases hu
      have := h4 r hr
      rw [add_add] at this
      rw [this, hu]
    obtain ⟨f, hf⟩ := choose_lt each
    have hlen : ((List.range len).map f).length = len := by simp
    refine ⟨some a, (List.range len).map f, cap, by rw [hlen], ?_, ?_, ?_, by omega, hm⟩
    · by_cases h0 : len = 0
      · subst h0; exact Rd.nil _ _ _ _
      · rw [hlen]
        refine Rd.of_addr (by rw [flat_len hk, hlen]) ?_ ?_
        · have hrow : (MemPlace.cell a.block a.off) ∈ MemPlace.row a (m * P.cellsOf e) := by
            refine MemPlace.mem_row.2 ⟨0, ?_, by simp⟩
            rw [hc]
            exact Nat.mul_pos (by omega) hk0
          exact hlt _ (List.mem_append.2 (.inl hrow))
        · intro j u hu
          have hj : j < len * k := by
            rcases Nat.lt_or_ge j (len * k) with h | h
            · exact h
            · rw [List.getElem?_eq_none (by rw [flat_len hk, hlen]; exact h)] at hu; cases hu
          have hi1 : j / k < len := Nat.div_lt_of_lt_mul (by rw [Nat.mul_comm]; exact hj)
          have hr1 : j % k < k := Nat.mod_lt _ hk0
          have e : j = j / k * k + j % k := by rw [Nat.mul_comm]; exact (Nat.div_add_mod j k).symm
          rw [e, flat_at hk _ _ _ (by rw [hlen]; exact hi1) hr1] at hu
          rw [e]
          exact (hf _ hi1).2 _ _ (by simpa using hu)
    · intro x hx
      obtain ⟨i, hi2, rfl⟩ := List.mem_map.1 hx
      exact (hf i (List.mem_range.1 hi2)).1
    · have := hs.len ht
      simpa using this

end
instance : Inhabited Pr := ⟨⟨0, 0, ⟨#[]⟩, ⟨#[]⟩⟩⟩
section
variable {H : Type} {enc : TypeId × Value → H} {w : World} {base : Nat} {spare : Nat → Bool} {held : Bool}
end
end Go.Proofs.YtbdgkkmbnahgiaaGreatDoor

