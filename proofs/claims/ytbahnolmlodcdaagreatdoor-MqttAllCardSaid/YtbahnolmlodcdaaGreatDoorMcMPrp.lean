/- A part of what the laws stand on: MPrp, Row. -/
import Derived.Test.YtbahnolmlodcdaaGreatDoorMcMPro
import Derived.Test.YtbahnolmlodcdaaGreatDoorMcMKit
import Derived.Test.YtbahnolmlodcdaaGreatDoorMcMVar
import Derived.Deep.RegionHeld3
import Derived.Laws.StructEq
import Derived.Test.YtbahnolmlodcdaaGreatDoorRows
import Derived.WalkKit
import Derived.ProofKit
import Derived.OpenShut
import Derived.Carry
namespace Go.Proofs.YtbahnolmlodcdaaGreatDoor
open Go.RowKit

/-- How often an id comes. -/
def cnt (k : Nat) (l : List Pr) : Nat := l.countP fun p => p.id.toNat == k
theorem cnt_cons (k : Nat) (p : Pr) (l : List Pr) : cnt k (p :: l) = cnt k l + if p.id.toNat = k then 1 else 0 := by
  simp [cnt, List.countP_cons]
theorem cnt_append (k : Nat) (a b : List Pr) : cnt k (a ++ b) = cnt k a + cnt k b := by simp [cnt]
theorem cnt_pos {k : Nat} {l : List Pr} : 0 < cnt k l ↔ ∃ p ∈ l, p.id.toNat = k := by
  simp [cnt, List.countP_pos_iff]
def ckL (kind : Int) (l : List Pr) : Prop := ∀ p ∈ l, checkE (ruleOf p.id) kind p = 0
def onceL (kind : Int) (f : Nat → Nat) (l : List Pr) : Prop := ∀ p ∈ l, oftenP kind p.id.toNat = false → f p.id.toNat + cnt p.id.toNat l ≤ 1

theorem againB_iff (f : Nat → Nat) (kind : Int) (k : Nat) : againB f kind k = true ↔ 1 ≤ f k ∧ oftenP kind k = false := by
  unfold againB
  simp
  omega

theorem once_cons (kind : Int) (f : Nat → Nat) (p : Pr) (l : List Pr) (h : ¬ (1 ≤ f p.id.toNat ∧ oftenP kind p.id.toNat = false)) :
    onceL kind (upd f p.id.toNat (f p.id.toNat + 1)) l ↔ onceL kind f (p :: l) := by
  have e : ∀ j, upd f p.id.toNat (f p.id.toNat + 1) j + cnt j l = f j + cnt j (p :: l) := by
    intro j
    rw [cnt_cons]
    unfold upd
    by_cases hj : j = p.id.toNat
    · subst hj; simp; omega
    · rw [if_neg hj, if_neg (fun x => hj x.symm)]; rfl
  unfold onceL
  simp only [e]
  constructor
  · intro ho q hq hoft
    rcases List.mem_cons.1 hq with rfl | hq
    · have hf : f q.id.toNat = 0 := by
        rcases Nat.eq_zero_or_pos (f q.id.toNat) with h0 | h0
        · exact h0
        · exact absurd ⟨h0, hoft⟩ h
      rcases Nat.eq_zero_or_pos (cnt q.id.toNat l) with h0 | h0
      · rw [cnt_cons]; simp; omega
      · obtain ⟨x, hx, hxe⟩ := cnt_pos.1 h0
        have := ho x hx (by rw [hxe]; exact hoft)
        rw [hxe] at this
        exact this
    · exact ho q hq hoft
  · intro ho q hq hoft
    exact ho q (List.mem_cons_of_mem _ hq) hoft

theorem bytesGo_ok (kind : Int) : ∀ (l : List Pr) (f : Nat → Nat) (out : List UInt8), (bytesGo kind l f out).2 = 0 ↔ (ckL kind l ∧ onceL kind f l ∧ loneB (fun k => f k + cnt k l) = false)
  | [], f, out => by
    simp only [bytesGo, ckL, onceL, cnt, List.countP_nil, Nat.add_zero]
    cases h : loneB f <;> simp
  | p :: l, f, out => by
    have e : (fun j => upd f p.id.toNat (f p.id.toNat + 1) j + cnt j l) = fun j => f j + cnt j (p :: l) := by
      funext j
      rw [cnt_cons]
      unfold upd
      by_cases hj : j = p.id.toNat
      · subst hj; simp; omega
      · rw [if_neg hj, if_neg (fun x => hj x.symm)]; rfl
    rw [bytesGo]
    by_cases hc : checkE (ruleOf p.id) kind p = 0
    · rw [if_neg (by simpa using hc)]
      by_cases ha : againB f kind p.id.toNat = true
      · rw [if_pos ha]
        constructor
        · intro h; exact absurd h (by decide)
        · rintro ⟨_, h, _⟩
          have h1 := h p (by simp) ((againB_iff _ _ _).1 ha).2
          have h2 := ((againB_iff _ _ _).1 ha).1
          rw [cnt_cons] at h1
          simp at h1
          omega
      · rw [if_neg ha, bytesGo_ok kind l, e, once_cons kind f p l (fun h => ha ((againB_iff _ _ _).2 h))]
        constructor
        · rintro ⟨h1, h2, h3⟩
          refine ⟨fun q hq => ?_, h2, h3⟩
          rcases List.mem_cons.1 hq with rfl | hq
          · exact hc
          · exact h1 q hq
        · rintro ⟨h1, h2, h3⟩
          exact ⟨fun q hq => h1 q (List.mem_cons_of_mem _ hq), h2, h3⟩
    · rw [if_pos hc]
      constructor
      · intro h; exact absurd h hc
      · rintro ⟨h, _⟩; exact absurd (h p (by simp)) hc
theorem bytesGo_bytes (kind : Int) : ∀ (l : List Pr) (f : Nat → Nat) (out : List UInt8), (bytesGo kind l f out).2 = 0 → bytesGo kind l f out = (varL (out ++ l.flatMap propL).length ++ (out ++ l.flatMap propL), 0)
  | [], f, out => by
    rw [bytesGo]
    cases h : loneB f <;> simp
  | p :: l, f, out => by
    rw [bytesGo]
    by_cases hc : checkE (ruleOf p.id) kind p = 0
    · rw [if_neg (by simpa using hc)]
      by_cases ha : againB f kind p.id.toNat = true
      · rw [if_pos ha]; intro h; exact absurd h (by decide)
      · rw [if_neg ha]
        intro h
        rw [bytesGo_bytes kind l _ _ h]
        simp
    · rw [if_pos hc]; intro h; exact absurd h hc
theorem bytesGo_bad (kind : Int) : ∀ (l : List Pr) (f : Nat → Nat) (out : List UInt8), (bytesGo kind l f out).2 ≠ 0 → (bytesGo kind l f out).1 = []
  | [], f, out => by
    rw [bytesGo]
    cases h : loneB f <;> simp
  | p :: l, f, out => by
    rw [bytesGo]
    by_cases hc : checkE (ruleOf p.id) kind p = 0
    · rw [if_neg (by simpa using hc)]
      by_cases ha : againB f kind p.id.toNat = true
      · rw [if_pos ha]; intro _; rfl
      · rw [if_neg ha]
        exact bytesGo_bad kind l _ _
    · rw [if_pos hc]; intro _; rfl
/-- A list that is valid. -/
def okL (kind : Int) (l : List Pr) : Prop := ckL kind l ∧ (∀ p ∈ l, oftenP kind p.id.toNat = false → cnt p.id.toNat l ≤ 1) ∧ ¬ (0 < cnt 22 l ∧ cnt 21 l = 0)
theorem lone_iff (f : Nat → Nat) : loneB f = false ↔ ¬ (0 < f 22 ∧ f 21 = 0) := by
  unfold loneB
  rw [← Bool.not_eq_true]
  simp
theorem okL_iff (kind : Int) (l : List Pr) : okL kind l ↔ (ckL kind l ∧ onceL kind (fun _ => 0) l ∧ loneB (fun k => 0 + cnt k l) = false) := by
  unfold okL onceL
  rw [lone_iff]
  simp only [Nat.zero_add]
theorem bytesS_ok (kind : Int) (l : List Pr) : (bytesS kind l).2 = 0 ↔ l.length ≤ 1000 ∧ okL kind l := by
  unfold bytesS
  by_cases h : 1000 < l.length
  · rw [if_pos h]
    constructor
    · intro h; exact absurd h (by decide)
    · rintro ⟨h1, _⟩; omega
  · rw [if_neg h, bytesGo_ok, okL_iff]
    constructor
    · intro h1; exact ⟨by omega, h1⟩
    · rintro ⟨_, h1⟩; exact h1
theorem bytesS_bytes (kind : Int) (l : List Pr) (h : (bytesS kind l).2 = 0) : bytesS kind l = (varL (l.flatMap propL).length ++ l.flatMap propL, 0) := by
  unfold bytesS at h ⊢
  by_cases hl : 1000 < l.length
  · rw [if_pos hl] at h; exact absurd h (by decide)
  · rw [if_neg hl] at h ⊢
    rw [bytesGo_bytes kind l _ _ h]
    simp
theorem bytesS_bad (kind : Int) (l : List Pr) (h : (bytesS kind l).2 ≠ 0) : (bytesS kind l).1 = [] := by
  unfold bytesS at h ⊢
  by_cases hl : 1000 < l.length
  · rw [if_pos hl]
  · rw [if_neg hl] at h ⊢
    exact bytesGo_bad kind l _ _ h
theorem many_of_often {kind : Int} {p : Pr} (h : checkE (ruleOf p.id) kind p = 0) : manyP kind p.id = oftenP kind p.id.toNat := by
  have hid := (check_ok h).1
  have hm : mayP kind p.id = true := by
    unfold mayP
    rcases hh : hasR (ruleOf p.id) kind with _ | _
    · unfold checkE at h
      rw [if_pos hh] at h
      exact absurd h (by decide)
    · rfl
  have e : ((p.id.toNat : Nat) : Int) = p.id := by omega
  unfold manyP
  rw [hm, Bool.and_true, e]

theorem ckL_append {kind : Int} {a b : List Pr} : ckL kind (a ++ b) ↔ ckL kind a ∧ ckL kind b := by
  unfold ckL
  constructor
  · intro h; exact ⟨fun p hp => h p (List.mem_append.2 (.inl hp)), fun p hp => h p (List.mem_append.2 (.inr hp))⟩
  · rintro ⟨h1, h2⟩ p hp
    rcases List.mem_append.1 hp with hp | hp
    · exact h1 p hp
    · exact h2 p hp
/-- The first of an id. -/
def getP (l : List Pr) (id : Int) : Option Pr := l.find? fun p => p.id == id
end Go.Proofs.YtbahnolmlodcdaaGreatDoor

namespace Go.Proofs.YtbahnolmlodcdaaGreatDoor
open Go.RowKit

theorem info_prop : (Tryz.prog.info? 104).map (fun i => (i.zero, i.size, i.bytes)) = some (some (.agg #[.int .i64 0, .int .u32 0, .string ⟨#[]⟩, .string ⟨#[]⟩]), 4, 48) := by kernel_rfl
theorem prs_one (l : List Pr) : ∀ u ∈ prs l, u.oneCell' = true := by
  intro u hu
  obtain ⟨p, _, hp⟩ := List.mem_flatMap.1 hu
  simp [prC] at hp
  rcases hp with rfl | rfl | rfl | rfl <;> rfl
theorem prs_append (a b : List Pr) : prs (a ++ b) = prs a ++ prs b := by simp [prs]

/-- How many bytes the texts have. -/
def wt (l : List Pr) : Nat := (l.map fun p => p.text.size + p.value.size).sum
theorem wt_snoc (l : List Pr) (k : Nat) (h : k < l.length) : wt (l.take (k + 1)) = wt (l.take k) + l[k].text.size + l[k].value.size := by
  unfold wt
  rw [List.take_succ_eq_append_getElem h, List.map_append, List.sum_append]
  simp only [List.map_cons, List.map_nil, List.sum_cons, List.sum_nil]
  omega
/-- A property within the form's reach. -/
def prGood (p : Pr) : Prop := p.n < 4294967296 ∧ p.text.size ≤ 140737488351232 ∧ p.value.size ≤ 140737488351232
theorem prGood_ok {p : Pr} (h : prGood p) : p.Ok := ⟨h.1, by have := h.2.1; omega, by have := h.2.2; omega⟩
def small (l : List Pr) : Prop := ∀ p ∈ l, p.text.size ≤ 140737488351232 ∧ p.value.size ≤ 140737488351232
theorem small_of_good {l : List Pr} (h : ∀ p ∈ l, prGood p) : small l := fun p hp => (h p hp).2
theorem wt_le : ∀ (l : List Pr), small l → wt l ≤ l.length * 281474976702464
  | [], _ => by simp [wt]
  | p :: l, h => by
    have h1 := wt_le l (fun q hq => h q (List.mem_cons_of_mem _ hq))
    have h2 := h p (by simp)
    simp [wt] at h1 ⊢
    omega
theorem small_take {l : List Pr} (h : small l) (k : Nat) : small (l.take k) := fun p hp => h p (List.mem_of_mem_take hp)

set_option maxHeartbeats 400000 in
set_option maxRecDepth 10000 in
theorem weight_any (l : List Pr) (A : Option Addr) (c : Nat) (w : World) (h : Rd w w.heap.size 4 A l.length (prs l)) (hl : l.length ≤ 1010) (hs : small l) :
    Calls Tryz.prog 119 #[.slice A l.length c] w fun e w' => e = .returned (.int .i64 (wt l)) ∧ Below w.heap.size w w' := by
  have H := Lib.hid h; have HS := Lib.hid hs; clear h hs
  go_enter Tryz.func119, Tryz.ntmps119
  go_wp2
  go_loopw [3, 4] (fun n i wr => ∃ k : Nat, k ≤ l.length ∧ i = .int .i64 k ∧ n = .int .i64 (wt (l.take k)) ∧ Below w.heap.size w wr) (fun _ i _ => l.length - (intOf i).toNat)
  case atStart => exact ⟨0, by omega, rfl, rfl, Below.refl _ _⟩
  case round =>
    obtain ⟨k, hk, rfl, rfl, hbel⟩ := hrel
    by_cases hlt : k < l.length
    · obtain ⟨b, o, rfl, hb, c0, c1, c2, c3⟩ := (H.out.below hbel).atP hlt
      have h2 := HS.out l[k] (List.getElem_mem hlt)
      have h3 := wt_le (l.take k) (small_take HS.out k)
      rw [List.length_take] at h3
      have h3' : wt (l.take k) ≤ 284289726469488640 := by omega
      have HW := Lib.hid (wt_snoc l k hlt)
      clear h3 c0 c1
      generalize wt (l.take k) = q at *
      generalize l[k] = p at *
      obtain ⟨id, n, t, v⟩ := p
      simp only at h2 HW c2 c3
      obtain ⟨h4, h5⟩ := h2
      have w1 : IntKind.i64.wrap ((q : Int) + (t.size : Int)) = (q : Int) + (t.size : Int) := by rw [IntKind.wrap_i64]; omega
      have w2 : IntKind.i64.wrap ((q : Int) + (t.size : Int) + (v.size : Int)) = (q : Int) + (t.size : Int) + (v.size : Int) := by rw [IntKind.wrap_i64]; omega
      have b1 : (0 : Int) ≤ (k : Int) := by omega
      have b2 : (k : Int) < (l.length : Int) := by omega
      go_wp2
      go_quiet (fail)
      go_wp2
      go_roundw
      case rel => exact ⟨k + 1, by omega, by go_num, by rw [HW.out]; go_num, below_drawn hbel _⟩
      case measure => simp [intOf]; omega
    · obtain rfl : k = l.length := by omega
      go_wp2
      go_ret
      exact ⟨by rw [List.take_length]; rfl, hbel⟩

def lightB (l : List Pr) : Bool := decide (l.length ≤ 1010) && decide (wt l ≤ 140000)
set_option maxHeartbeats 400000 in
set_option maxRecDepth 10000 in
theorem lightP_any (l : List Pr) (A : Option Addr) (c : Nat) (w : World) (h : Rd w w.heap.size 4 A l.length (prs l)) (hl : l.length ≤ 4611686018427387904) (hs : small l) :
    Calls Tryz.prog 75 #[.slice A l.length c] w fun e w' => e = .returned (.bool (lightB l)) ∧ Below w.heap.size w w' := by
  have H := Lib.hid h; have HS := Lib.hid hs; clear h hs
  by_cases h1 : l.length ≤ 1010
  · have HF : Hid (lightB l = decide (wt l ≤ 140000)) := Lib.hid (by rw [lightB, decide_eq_true h1, Bool.true_and])
    have d1 : (l.length : Int) ≤ 1010 := by omega
    have HL := Lib.hid h1
    go_enter Tryz.func75, Tryz.ntmps75
    go_wp2_with fail
    refine (weight_any l A c _ H.out HL.out HS.out).mono ?_
    rintro e w1 ⟨rfl, hb⟩
    go_wp2
    go_ret
    exact ⟨by rw [HF.out]; congr 2; simp; omega, hb⟩
  · have HF : Hid (lightB l = false) := Lib.hid (by rw [lightB, decide_eq_false h1, Bool.false_and])
    have d1 : (1010 : Int) < (l.length : Int) := by omega
    clear h1
    go_enter Tryz.func75, Tryz.ntmps75
    go_wp2
    go_ret
    exact ⟨by rw [HF.out]; rfl, Below.refl _ _⟩

def getR (l : List Pr) (id : Int) : Pr := (getP l id).getD ⟨0, 0, ⟨#[]⟩, ⟨#[]⟩⟩
set_option maxHeartbeats 400000 in
set_option maxRecDepth 10000 in
theorem getP_any (id : Int) (l : List Pr) (A : Option Addr) (c : Nat) (w : World) (h : Rd w w.heap.size 4 A l.length (prs l)) (hl : l.length ≤ 4611686018427387904) :
    Calls Tryz.prog 348 #[.slice A l.length c, .int .i64 id] w fun e w' => e = .returned (.tuple #[(getR l id).val, .bool (getP l id).isSome]) ∧ Below w.heap.size w w' := by
  have H := Lib.hid h; clear h
  go_enter Tryz.func348, Tryz.ntmps348
  go_wp2
  go_loopw [10] (fun i wr => ∃ k : Nat, k ≤ l.length ∧ i = .int .i64 k ∧ getP l id = getP (l.drop k) id ∧ Bk wr w.heap.size 104 #[.int .i64 0, .int .u32 0, .string ⟨#[]⟩, .string ⟨#[]⟩] ∧ Below w.heap.size w wr) (fun i _ => l.length - (intOf i).toNat)
  case atStart => exact ⟨0, by omega, rfl, rfl, Bk.fresh _ _ _, (Below.refl _ _).alloc (Nat.le_refl _) _⟩
  case round =>
    obtain ⟨k, hk, rfl, hg, hbk, hbel⟩ := hrel
    have HG := Lib.hid hg; have HB := Lib.hid hbk
    have hz := hbel.size
    have hlw := hbk.lt
    clear hg hbk
    by_cases hlt : k < l.length
    · obtain ⟨b, o, rfl, hb, c0, c1, c2, c3⟩ := (H.out.below hbel).atP hlt
      have HD := Lib.hid (List.drop_eq_getElem_cons hlt)
      generalize l[k] = p at *
      obtain ⟨pid, n, t, v⟩ := p
      simp only at c0 c1 c2 c3
      have b1 : (0 : Int) ≤ (k : Int) := by omega
      have b2 : (k : Int) < (l.length : Int) := by omega
      have HB2 := Lib.hid (HB.out.alloc (.cells #[.int .i64 pid, .int .u32 n, .string t, .string v] 104))
      have HL2 := Lib.hid (hbel.alloc (by omega) (.cells #[.int .i64 pid, .int .u32 n, .string t, .string v] 104))
      by_cases he : pid = id
      · subst he
        obtain ⟨⟨d0, d1, d2, d3⟩, f0, f1, f2, f3⟩ := HB.out.four
        have HF : Hid (getP l pid = some ⟨pid, n, t, v⟩) := Lib.hid (by rw [HG.out, HD.out]; simp [getP])
        go_wp2
        have HX := Lib.hid ((below_four hbel (Nat.le_refl _) (.int .i64 pid) (.int .u32 n) (.string t) (.string v)).alloc (by simp; omega) (.cells #[.int .i64 pid, .int .u32 n, .string t, .string v] 104))
        exact bodyPost_ret (v := .tuple #[.agg #[.int .i64 pid, .int .u32 n, .string t, .string v], .bool true]) (by simp [results, Tryz.results348, go_sem, hlw, d0, d1, d2, d3]) rfl ⟨by unfold getR; rw [HF.out]; rfl, HX.out⟩
      · have e1 : (pid == id) = false := beq_eq_false_iff_ne.2 he
        have HF : Hid (getP l id = getP (l.drop (k + 1)) id) := Lib.hid (by rw [HG.out, HD.out]; simp [getP, e1])
        have HE := Lib.hid he; clear he
        go_wp2
        go_roundw
        case rel => exact ⟨k + 1, by omega, by go_num, HF.out, HB2.out, HL2.out⟩
        case measure => simp [intOf]; omega
    · obtain rfl : k = l.length := by omega
      have HF : Hid (getP l id = none) := Lib.hid (by rw [HG.out, List.drop_length]; rfl)
      obtain ⟨⟨d0, d1, d2, d3⟩, f0, f1, f2, f3⟩ := HB.out.four
      go_wp2
      have HX := Lib.hid (below_four hbel (Nat.le_refl _) (.int .i64 0) (.int .u32 0) (.string ⟨#[]⟩) (.string ⟨#[]⟩))
      exact bodyPost_ret (v := .tuple #[.agg #[.int .i64 0, .int .u32 0, .string ⟨#[]⟩, .string ⟨#[]⟩], .bool false]) (by simp [results, Tryz.results348, go_sem, d0, d1, d2, d3]) rfl ⟨by unfold getR; rw [HF.out]; rfl, HX.out⟩
end Go.Proofs.YtbahnolmlodcdaaGreatDoor

namespace Go.Proofs.YtbahnolmlodcdaaGreatDoor
open Go.RowKit

theorem ret3 {a b c a' b' c' : Int} (h1 : a = a') (h2 : b = b') (h3 : c = c') : Ending.returned (.tuple #[.int .i64 a, .int .i64 b, .int .i64 c]) = .returned (.tuple #[.int .i64 a', .int .i64 b', .int .i64 c']) := by rw [h1, h2, h3]
set_option maxHeartbeats 2000000 in
set_option maxRecDepth 10000 in
theorem ref2Read_any (s : ByteArray) (w : World) (hs : s.size ≤ 4611686018427387904) :
    Calls Tryz.prog 80 #[.string s] w fun e w' => e = .returned (.tuple #[.int .i64 (readV (ls s)).1, .int .i64 (readV (ls s)).2.1, .int .i64 (readV (ls s)).2.2]) ∧ w = w' := by
  go_enter Tryz.func80, Tryz.ntmps80
  go_wp2
  go_loop [5, 6, 7] (fun n t i => ∃ k m : Nat, k ≤ 4 ∧ k ≤ s.size ∧ i = .int .i64 k ∧ n = .int .i64 m ∧ t = .int .i64 ((128 ^ k : Nat) : Int) ∧ m < 2 ^ (7 * k) ∧ readV (ls s) = (if k = 4 then (0, 0, 5) else rv ((ls s).drop k) m k)) (fun _ _ i => 4 - (intOf i).toNat)
  case atStart => exact ⟨0, 0, by omega, by omega, rfl, rfl, rfl, by simp, rfl⟩
  case round =>
    obtain ⟨k, m, hk, hks, rfl, rfl, rfl, hm, hv⟩ := hrel
    have HV := Lib.hid hv; clear hv
    by_cases h4 : k < 4
    · by_cases hlt : k < s.size
      · have HC := Lib.hid (rv_cons hlt m)
        have hb := UInt8.toNat_lt s[k]
        have hbi : ((s[k].toNat : Nat) : Int) ≤ 255 := by omega
        have HP : Hid (pushN m k s[k] = m + s[k].toNat % 128 * 2 ^ (7 * k)) := rfl
        have HLT := Lib.hid (pushN_lt s[k] hm)
        by_cases h128 : 128 ≤ s[k].toNat
        · have HE : Hid (readV (ls s) = if k + 1 = 4 then (0, 0, 5) else rv ((ls s).drop (k + 1)) (pushN m k s[k]) (k + 1)) := Lib.hid (by
            rw [HV.out, if_neg (by omega), HC.out, rv, if_pos h128]
            by_cases h3 : k = 3
            · rw [if_pos h3, if_pos (by omega)]
            · rw [if_neg h3, if_neg (by omega)])
          clear HV HC
          obtain rfl | rfl | rfl | rfl : k = 0 ∨ k = 1 ∨ k = 2 ∨ k = 3 := by omega
          · simp only [Nat.reduceMul, Nat.reducePow] at hm HP
            have h128i : (128 : Int) ≤ (s[0].toNat : Int) := by omega
            have hlti : (0 : Int) < (s.size : Int) := by omega
            have hne : ¬ s = ByteArray.empty := fun h => by subst h; simp at hlti
            clear h128
            go_wp2
            go_round
            case rel => exact ⟨1, pushN m 0 s[0], by omega, by omega, rfl, congrArg (Value.int .i64) (by have := HP.out; omega), rfl, HLT.out, HE.out⟩
            case measure => simp [intOf]
          · simp only [Nat.reduceMul, Nat.reducePow] at hm HP
            have h128i : (128 : Int) ≤ (s[1].toNat : Int) := by omega
            have hlti : (1 : Int) < (s.size : Int) := by omega
            have hne : ¬ s = ByteArray.empty := fun h => by subst h; simp at hlti
            clear h128
            go_wp2
            go_round
            case rel => exact ⟨2, pushN m 1 s[1], by omega, by omega, rfl, congrArg (Value.int .i64) (by have := HP.out; omega), rfl, HLT.out, HE.out⟩
            case measure => simp [intOf]
          · simp only [Nat.reduceMul, Nat.reducePow] at hm HP
            have h128i : (128 : Int) ≤ (s[2].toNat : Int) := by omega
            have hlti : (2 : Int) < (s.size : Int) := by omega
            have hne : ¬ s = ByteArray.empty := fun h => by subst h; simp at hlti
            clear h128
            go_wp2
            go_round
            case rel => exact ⟨3, pushN m 2 s[2], by omega, by omega, rfl, congrArg (Value.int .i64) (by have := HP.out; omega), rfl, HLT.out, HE.out⟩
            case measure => simp [intOf]
          · simp only [Nat.reduceMul, Nat.reducePow] at hm HP
            have h128i : (128 : Int) ≤ (s[3].toNat : Int) := by omega
            have hlti : (3 : Int) < (s.size : Int) := by omega
            have hne : ¬ s = ByteArray.empty := fun h => by subst h; simp at hlti
            clear h128
            go_wp2
            go_round
            case rel => exact ⟨4, pushN m 3 s[3], by omega, by omega, rfl, congrArg (Value.int .i64) (by have := HP.out; omega), rfl, HLT.out, HE.out⟩
            case measure => simp [intOf]
        · by_cases h0 : s[k].toNat = 0 ∧ 0 < k
          · have HE : Hid (readV (ls s) = (0, 0, 5)) := Lib.hid (by
              rw [HV.out, if_neg (by omega), HC.out, rv, if_neg h128, if_pos h0])
            have hz : (s[k].toNat : Int) = 0 := by omega
            have hkp := h0.2
            clear HV HC h0
            obtain rfl | rfl | rfl | rfl : k = 0 ∨ k = 1 ∨ k = 2 ∨ k = 3 := by omega
            · omega
            · simp only [Nat.reduceMul, Nat.reducePow] at hm HP
              have h128i : (s[1].toNat : Int) < 128 := by omega
              have hz0 : ((s[1].toNat : Int) == 0) = true := beq_iff_eq.2 hz
              have hlti : (1 : Int) < (s.size : Int) := by omega
              clear h128 hz
              go_wp2
              go_ret3
              exact ⟨by rw [HE.out]; rfl, rfl⟩
            · simp only [Nat.reduceMul, Nat.reducePow] at hm HP
              have h128i : (s[2].toNat : Int) < 128 := by omega
              have hz0 : ((s[2].toNat : Int) == 0) = true := beq_iff_eq.2 hz
              have hlti : (2 : Int) < (s.size : Int) := by omega
              clear h128 hz
              go_wp2
              go_ret3
              exact ⟨by rw [HE.out]; rfl, rfl⟩
            · simp only [Nat.reduceMul, Nat.reducePow] at hm HP
              have h128i : (s[3].toNat : Int) < 128 := by omega
              have hz0 : ((s[3].toNat : Int) == 0) = true := beq_iff_eq.2 hz
              have hlti : (3 : Int) < (s.size : Int) := by omega
              clear h128 hz
              go_wp2
              go_ret3
              exact ⟨by rw [HE.out]; rfl, rfl⟩
          · have HE : Hid (readV (ls s) = (pushN m k s[k], k + 1, 0)) := Lib.hid (by
              rw [HV.out, if_neg (by omega), HC.out, rv, if_neg h128, if_neg h0])
            have HZ := Lib.hid h0
            clear HV HC h0
            obtain rfl | rfl | rfl | rfl : k = 0 ∨ k = 1 ∨ k = 2 ∨ k = 3 := by omega
            · simp only [Nat.reduceMul, Nat.reducePow] at hm HP
              have h128i : (s[0].toNat : Int) < 128 := by omega
              have hlti : (0 : Int) < (s.size : Int) := by omega
              have hne : ¬ s = ByteArray.empty := fun h => by subst h; simp at hlti
              clear h128
              go_wp2
              go_ret3
              exact ⟨by rw [HE.out]; exact ret3 (by have := HP.out; show _ = ((pushN m 0 s[0] : Nat) : Int); omega) rfl rfl, rfl⟩
            · simp only [Nat.reduceMul, Nat.reducePow] at hm HP
              have h128i : (s[1].toNat : Int) < 128 := by omega
              have hz0 : ((s[1].toNat : Int) == 0) = false := beq_eq_false_iff_ne.2 (fun h => HZ.out ⟨by omega, by omega⟩)
              have hlti : (1 : Int) < (s.size : Int) := by omega
              have hne : ¬ s = ByteArray.empty := fun h => by subst h; simp at hlti
              clear h128
              go_wp2
              go_ret3
              exact ⟨by rw [HE.out]; exact ret3 (by have := HP.out; show _ = ((pushN m 1 s[1] : Nat) : Int); omega) rfl rfl, rfl⟩
            · simp only [Nat.reduceMul, Nat.reducePow] at hm HP
              have h128i : (s[2].toNat : Int) < 128 := by omega
              have hz0 : ((s[2].toNat : Int) == 0) = false := beq_eq_false_iff_ne.2 (fun h => HZ.out ⟨by omega, by omega⟩)
              have hlti : (2 : Int) < (s.size : Int) := by omega
              have hne : ¬ s = ByteArray.empty := fun h => by subst h; simp at hlti
              clear h128
              go_wp2
              go_ret3
              exact ⟨by rw [HE.out]; exact ret3 (by have := HP.out; show _ = ((pushN m 2 s[2] : Nat) : Int); omega) rfl rfl, rfl⟩
            · simp only [Nat.reduceMul, Nat.reducePow] at hm HP
              have h128i : (s[3].toNat : Int) < 128 := by omega
              have hz0 : ((s[3].toNat : Int) == 0) = false := beq_eq_false_iff_ne.2 (fun h => HZ.out ⟨by omega, by omega⟩)
              have hlti : (3 : Int) < (s.size : Int) := by omega
              have hne : ¬ s = ByteArray.empty := fun h => by subst h; simp at hlti
              clear h128
              go_wp2
              go_ret3
              exact ⟨by rw [HE.out]; exact ret3 (by have := HP.out; show _ = ((pushN m 3 s[3] : Nat) : Int); omega) rfl rfl, rfl⟩
      · obtain rfl : k = s.size := by omega
        have HE : Hid (readV (ls s) = (0, 0, 3)) := Lib.hid (by
          rw [HV.out, if_neg (by omega), List.drop_of_length_le (by rw [ls_len]; omega)]; rfl)
        clear HV
        go_wp2
        go_ret3
        exact ⟨by rw [HE.out]; rfl, rfl⟩
    · obtain rfl : k = 4 := by omega
      have HE : Hid (readV (ls s) = (0, 0, 5)) := Lib.hid (by rw [HV.out, if_pos rfl])
      clear HV
      go_wp2
      go_ret3
      exact ⟨by rw [HE.out]; rfl, rfl⟩
end Go.Proofs.YtbahnolmlodcdaaGreatDoor

namespace Go.Proofs.YtbahnolmlodcdaaGreatDoor
open Go.RowKit
attribute [local go_sem ↓] Go.wp_at_zero Go.wp_at_succ

/-- Nothing that was there has turned. -/
def Kept (w0 x : World) : Prop := Below w0.heap.size w0 x
section
variable {w0 x y : World}
theorem Kept.refl (w : World) : Kept w w := Below.refl _ _
theorem Kept.below (h : Kept w0 x) (hb : Below x.heap.size x y) : Kept w0 y := Below.trans h (hb.mono (Below.size h))
theorem Kept.drewN (h : Kept w0 x) (n : Nat) : Kept w0 (x.drewN n) := below_drawn h n
theorem Kept.drew (h : Kept w0 x) : Kept w0 x.drew := below_drawn h 1
theorem Kept.alloc (h : Kept w0 x) (o : Obj) : Kept w0 (x.alloc o) := Below.alloc h (Below.size h) o
theorem Kept.app {v : Value} (h : Kept w0 x) (hg : x.grownBy y v.ownBlock) (hv : ∀ k, v.ownBlock = some k → w0.heap.size ≤ k) : Kept w0 y := Below.grown h hg (Below.size h) hv
theorem Kept.rd {k n : Nat} {A : Option Addr} {xs : List Value} (hk : Kept w0 x) (h : Rd w0 w0.heap.size k A n xs) : Rd x x.heap.size k A n xs := (h.below hk).wider (Below.size hk)
theorem Kept.to (h : Kept w0 x) : Below w0.heap.size w0 x := h
theorem Kept.size (h : Kept w0 x) : w0.heap.size ≤ x.heap.size := Below.size h
theorem Kept.own {e : TypeId} {k n : Nat} {v : Value} {xs : List Value} (_ : Kept w0 x) (h : y.ownsRow x.heap.size e k v n xs) (hk : w0.heap.size ≤ x.heap.size) : ∀ g, v.ownBlock = some g → w0.heap.size ≤ g := fun g hg => Nat.le_trans hk (own_block h g hg).1
end

theorem bytesP_n (kind : Int) (l : List Pr) (n : Nat) (hn : l.length = n) (hok : ∀ p ∈ l, prGood p) (A : Option Addr) (cap : Nat) (w : World) (h : Rd w w.heap.size 4 A n (prs l)) (hl : n ≤ 4611686018427387904) :
    Calls Tryz.prog 53 #[.int .i64 kind, .slice A n cap] w fun e w' => e = .returned (.tuple #[.string ⟨(bytesS kind l).1.toArray⟩, .int .i64 (bytesS kind l).2]) ∧ Below w.heap.size w w' := by
  subst hn
  exact bytesP_any kind l (fun p hp => prGood_ok (hok p hp)) A cap w h hl
theorem validP_n (kind : Int) (l : List Pr) (n : Nat) (hn : l.length = n) (hok : ∀ p ∈ l, prGood p) (A : Option Addr) (cap : Nat) (w : World) (h : Rd w w.heap.size 4 A n (prs l)) (hl : n ≤ 4611686018427387904) :
    Calls Tryz.prog 71 #[.int .i64 kind, .slice A n cap] w fun e w' => e = .returned (.int .i64 (bytesS kind l).2) ∧ Below w.heap.size w w' := by
  subst hn
  exact validP_any kind l (fun p hp => prGood_ok (hok p hp)) A cap w h hl
theorem Rd.one4 (w : World) (p : Pr) : Rd (w.alloc (.cells #[.int .i64 p.id, .int .u32 p.n, .string p.text, .string p.value] 104)) (w.heap.size + 1) 4 (some ⟨w.heap.size, 0, none⟩) 1 (prs [p]) := by
  have := Rd.lit4 w #[.int .i64 p.id, .int .u32 p.n, .string p.text, .string p.value] 104 [p] rfl
  simpa using this
end Go.Proofs.YtbahnolmlodcdaaGreatDoor

namespace Go.Proofs.YtbahnolmlodcdaaGreatDoor
open Go.RowKit

theorem flat_total {kind : Int} : ∀ {l : List Pr}, ckL kind l → (l.flatMap propL).length ≤ l.length * 131075
  | [], _ => by simp
  | p :: l, h => by
    have h1 := propL_len (h p (by simp))
    have h2 := flat_total (fun q hq => h q (List.mem_cons_of_mem _ hq))
    rw [List.flatMap_cons, List.length_append, List.length_cons]
    omega
theorem bytesS_size (kind : Int) (l : List Pr) (h : (bytesS kind l).2 = 0) : (l.flatMap propL).length ≤ 131075000 ∧ (bytesS kind l).1.length ≤ 131075004 := by
  have hb := bytesS_bytes kind l h
  obtain ⟨h1, h2, _⟩ := (bytesS_ok kind l).1 h
  have h3 := flat_total h2
  refine ⟨by omega, ?_⟩
  rw [hb]
  have := varF_len 3 (l.flatMap propL).length
  simp only [varL, List.length_append]
  omega
theorem mk_size (l : List UInt8) : (⟨l.toArray⟩ : ByteArray).size = l.length := by show l.toArray.size = _; simp
end Go.Proofs.YtbahnolmlodcdaaGreatDoor

namespace Go.Proofs.YtbahnolmlodcdaaGreatDoor
open Go.RowKit

instance : DecidableEq Pr := fun a b => decidable_of_iff (a.id = b.id ∧ a.n = b.n ∧ a.text = b.text ∧ a.value = b.value) (by cases a; cases b; simp)
theorem pr_eq_iff (a b : Pr) : a = b ↔ a.id = b.id ∧ a.n = b.n ∧ a.text = b.text ∧ a.value = b.value := by cases a; cases b; simp
theorem guard_prop : Tryz.prog.eqGuardType Tryz.prog.depth 104 = false := by kernel_rfl
theorem toList_inj (a b : ByteArray) : a.toList = b.toList ↔ a = b := by
  rw [ByteArray.toList_eq, ByteArray.toList_eq]
  exact ⟨fun h => ls_ext h, fun h => by rw [h]⟩
theorem eql_prop (p q : Pr) (w : World) : (binOp .eql 104 (.agg #[.int .i64 p.id, .int .u32 p.n, .string p.text, .string p.value]) (.agg #[.int .i64 q.id, .int .u32 q.n, .string q.text, .string q.value])).run Tryz.prog w = .ok (.bool (decide (p = q))) w := by
  have u1 := Tryz.underlying3
  have u2 := Tryz.underlying102
  have u3 := Tryz.underlying9
  have hS : Tryz.prog.underlying 104 = some (.struct (Tryz.prog.fieldsOf 104)) := by kernel_rfl
  have hp : Tryz.prog.stoodInHeld 104 = false := by kernel_rfl
  rw [run_eql_struct, show (10000 : Nat) = 9999 + 1 from rfl, run_equalIn_agg w 9999 104 _ _ hS hp]
  simp only [Program.fieldsOf, Tryz.underlying104]
  go_simp
  by_cases h1 : p.id = q.id <;> by_cases h2 : p.n = q.n <;> by_cases h3 : p.text = q.text <;> by_cases h4 : p.value = q.value <;> simp [pr_eq_iff, h1, h2, h3, h4, toList_inj] <;> omega
theorem neq_prop (p q : Pr) (w : World) : (binOp .neq 104 (.agg #[.int .i64 p.id, .int .u32 p.n, .string p.text, .string p.value]) (.agg #[.int .i64 q.id, .int .u32 q.n, .string q.text, .string q.value])).run Tryz.prog w = .ok (.bool (!decide (p = q))) w := by
  have h := eql_prop p q w
  rw [run_eql_struct] at h
  rw [run_neq_struct]
  generalize (Op.equalIn 10000 _ _ _).run Tryz.prog w = r at h ⊢
  cases r with
  | ok b w' => simp [Result.andThen] at h ⊢; obtain ⟨rfl, rfl⟩ := h; simp
  | halt x w' => simp [Result.andThen] at h
set_option maxHeartbeats 1000000 in
set_option maxRecDepth 10000 in
theorem sameKit_any (A A' : Option Addr) (n m c c' : Nat) (l l' : List Pr) (w : World) (e1 : l.length = n) (e2 : l'.length = m) (hl : Rd w w.heap.size 4 A n (prs l)) (hm : Rd w w.heap.size 4 A' m (prs l')) (hn : n ≤ 4611686018427387904) (hn' : m ≤ 4611686018427387904) :
    Calls Tryz.prog 67 #[.slice A n c, .slice A' m c'] w fun e w' => e = .returned (.bool (decide (l = l'))) ∧ Below w.heap.size w w' := by
  have hgt := guard_prop
  by_cases hlen : n = m
  · subst hlen
    have E1 := Lib.hid e1; have E2 := Lib.hid e2; clear e1 e2
    have HL := Lib.hid hl; have HM := Lib.hid hm; clear hl hm
    go_enter Tryz.func67, Tryz.ntmps67
    go_wp2
    go_loopw [5] (fun i wr => ∃ k : Nat, k ≤ n ∧ i = .int .i64 k ∧ (∀ j, j < k → l[j]? = l'[j]?) ∧ Below w.heap.size w wr) (fun i _ => n - (intOf i).toNat)
    case atStart => exact ⟨0, by omega, rfl, fun j hj => by omega, Below.refl _ _⟩
    case round =>
      obtain ⟨k, hk, rfl, hall, hbel⟩ := hrel
      have HA := Lib.hid hall; clear hall
      by_cases hlt : k < n
      · obtain ⟨bA, oA, rfl, hb, c0, c1, c2, c3⟩ := (show Rd w w.heap.size 4 A l.length (prs l) by rw [E1.out]; exact HL.out).below hbel |>.atP (show k < l.length by rw [E1.out]; exact hlt)
        obtain ⟨bA', oA', rfl, hb', d0, d1, d2, d3⟩ := (show Rd w w.heap.size 4 A' l'.length (prs l') by rw [E2.out]; exact HM.out).below hbel |>.atP (show k < l'.length by rw [E2.out]; exact hlt)
        have HZ : Hid (l[k]? = some (l[k]'(by rw [E1.out]; exact hlt))) := Lib.hid (List.getElem?_eq_getElem _)
        have HZ' : Hid (l'[k]? = some (l'[k]'(by rw [E2.out]; exact hlt))) := Lib.hid (List.getElem?_eq_getElem _)
        generalize l[k]'(by rw [E1.out]; exact hlt) = p at *
        generalize l'[k]'(by rw [E2.out]; exact hlt) = q at *
        have b1 : (0 : Int) ≤ (k : Int) := by omega
        have b2 : (k : Int) < (n : Int) := by omega
        have hne := fun W => neq_prop p q W
        by_cases he : p = q
        · subst he
          have hd : decide (p = p) = true := by simp
          rw [hd] at hne
          clear hd
          go_wp2
          go_quiet (fail)
          go_wp2
          go_roundw
          case rel =>
            refine ⟨k + 1, by omega, by go_num, fun j hj => ?_, below_drawn hbel _⟩
            rcases Nat.lt_succ_iff_lt_or_eq.1 hj with h | rfl
            · exact HA.out j h
            · rw [HZ.out, HZ'.out]
          case measure => simp [intOf]; omega
        · have hd : decide (p = q) = false := decide_eq_false he
          rw [hd] at hne
          have HE := Lib.hid he; clear he hd
          go_wp2
          go_quiet (fail)
          go_wp2
          go_ret
          refine ⟨?_, below_drawn hbel _⟩
          have : l ≠ l' := by
            rintro rfl
            have := HZ.out.symm.trans HZ'.out
            exact HE.out (by simpa using this)
          simp [this]
      · go_wp2
        go_ret
        refine ⟨?_, hbel⟩
        have : l = l' := by
          apply List.ext_getElem?
          intro j
          by_cases hj : j < k
          · exact HA.out j hj
          · rw [List.getElem?_eq_none (by have := E1.out; omega), List.getElem?_eq_none (by have := E2.out; omega)]
        simp [this]
  · have h1 : ((n : Int) != (m : Int)) = true := by simpa using (by omega : ¬ (n : Int) = (m : Int))
    have HN := Lib.hid hlen; have E1 := Lib.hid e1; have E2 := Lib.hid e2; clear hlen e1 e2 hl hm
    go_enter Tryz.func67, Tryz.ntmps67
    go_wp2
    go_ret
    refine ⟨?_, Below.refl _ _⟩
    have : l ≠ l' := by
      rintro rfl
      exact HN.out (E1.out.symm.trans E2.out)
    simp [this]

end Go.Proofs.YtbahnolmlodcdaaGreatDoor

namespace Go.Proofs.YtbahnolmlodcdaaGreatDoor
open Go.ChangeShapes Go.WideShapes Go.ChangeAt Go.RowKit

section
variable {H : Type} {enc : TypeId × Value → H} {P : Program} {W W' : World}

theorem trodAll_kept (hl : laidOutB P = true) (hb : Below W.heap.size W W') {sp : Nat → Bool} : ∀ {ts : List TypeId} {vs : List Value} {ds : List (DataW H)} {ps : List MemPlace},
    (∀ t ∈ ts, P.readableRec t = true ∧ t < P.types.size) → DataW.TrodAll enc P W 0 (fun _ => true) true ts vs ds ps → (∀ p ∈ ps, p.block < W.heap.size) → (∀ p ∈ ps, sp p.block = true) →
    DataW.TrodAll enc P W' 0 sp true ts vs ds ps
  | [], [], [], _, _, h, _, _ => h
  | t :: ts, v :: vs, d :: ds, ps, ht, ⟨p, q, h1, h2, e⟩, hlt, hsp => by
    subst e
    refine ⟨p, q, ?_, ?_, rfl⟩
    · obtain ⟨hr, hrow⟩ := ht t (by simp)
      exact WideElems.Trod_stays hl hr hrow h1 (fun x hx => hb.same (hlt x (by simp [hx]))) (fun x hx => hsp x (by simp [hx]))
    · exact trodAll_kept hl hb (fun t' ht' => ht t' (by simp [ht'])) h2 (fun x hx => hlt x (by simp [hx])) (fun x hx => hsp x (by simp [hx]))

theorem law_post {f : Func} {s : ChangeSpec} {fresh handsOn again : Bool} {args : Array Value} {ds : List (DataW H)} {before : List MemPlace} {tb : TypeId} (hl : laidOutB P = true)
    (hts : ∀ t ∈ f.params.toList, P.readableRec t = true ∧ t < P.types.size) (hv : s.vars = []) (hres : f.resultTypes = #[tb]) (htb : P.underlying tb = some .bool)
    (hW : DataW.Whole enc P f.params.toList s.vars false W args.toList ds [] before) (hspec : s.fn H (ds ++ []) = { results := [.lit (.bool true)], args := ds }) (hb : Below W.heap.size W W') :
    s.post enc P f false fresh handsOn again W args (.bool true) W' := by
  have hlt : ∀ p ∈ before, p.block < W.heap.size := fun p hp => hW.lt p hp
  have hW0 := hW
  obtain ⟨p, q, hA, hV, he, hz, _⟩ := hW
  have hq : q = [] := by
    rw [hv] at hV
    exact hV
  subst hq
  rw [List.append_nil] at he
  subst he
  have hargs : ∀ sp : Nat → Bool, (∀ x ∈ before, sp x.block = true) → DataW.TrodAll enc P W' 0 sp true f.params.toList args.toList (s.fn H (ds ++ [])).args before := fun sp hsp => by
    rw [hspec]
    exact trodAll_kept hl hb hts hA hlt hsp
  have hvars : ∀ sp : Nat → Bool, DataW.TrodVars enc P W' sp s.vars (s.fn H (ds ++ [])).vars [] := fun sp => by
    rw [hspec, hv]
    exact rfl
  have hr : ∀ (b : Nat) (sp : Nat → Bool) (hd : Bool), DataW.TrodAll enc P W' b sp hd f.resultTypes.toList ((Value.bool true).resultList f.resultTypes.size) (s.fn H (ds ++ [])).results [] := fun b sp hd => by
    rw [hspec, hres]
    exact trodAll_cons_mk (shut_bool htb _) trodAll_mk0
  have hold : ∀ x ∈ before, (fun b => decide (b < W.heap.size)) x.block = true := fun x hx => by simpa using hlt x hx
  refine ⟨ds, [], before, [], before, [], hW0, hr _ _ _, hargs _ hold, hvars _, World.keptBut_mono (fun x hx => ⟨hx, .inr (by simpa using hx)⟩) (hb.frame (· ∈ before)), fun _ => ?_⟩
  refine ⟨ok_one hres rfl (okWide_bool_mk htb _), _, _, ([] ++ before) ++ [], ⟨[] ++ before, [], trodAll_append (hargs _ (fun _ _ => rfl)) (hr _ _ _), hvars _, rfl, ?_, ?_⟩, ?_⟩
  · intro b off hp
    have hin : MemPlace.cell b off ∈ before := by simpa using hp
    rw [hb.frozen (hlt _ hin)]
    exact hz b off hin
  · intro ha
    cases ha
  · intro x hx _
    simpa using hx
end
theorem all_ok {P : Program} {ts : List TypeId} (h : (ts.all fun t => P.readableRec t && decide (t < P.types.size)) = true) : ∀ t ∈ ts, P.readableRec t = true ∧ t < P.types.size := by
  intro t ht
  have := List.all_eq_true.1 h t ht
  simpa using this
theorem laid_out : laidOutB Tryz.prog = true := by kernel_rfl
theorem godebug_own : ownKnob Tryz.prog.godebug = none := by kernel_rfl

end Go.Proofs.YtbahnolmlodcdaaGreatDoor

