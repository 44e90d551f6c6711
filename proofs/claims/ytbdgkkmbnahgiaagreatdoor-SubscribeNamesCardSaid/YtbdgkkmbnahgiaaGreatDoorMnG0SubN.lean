/- A part of what the laws stand on: SubN, Laid. -/
import Derived.Test.YtbdgkkmbnahgiaaGreatDoorMnG0MSubG
import Derived.OwnWalk
import Derived.Test.YtbdgkkmbnahgiaaGreatDoorCards
import Derived.Test.YtbdgkkmbnahgiaaGreatDoorTie
import Derived.ChangeVars
import Derived.LaidLaws
import Derived.LaidHandle
import Derived.SevenTiedAt
namespace Go.Proofs.YtbdgkkmbnahgiaaGreatDoor
open Go.RowKit
attribute [local go_sem ↓] to_ldPk to_bxPk to_bdPk to_alPk to_stPk
attribute [local go_sem] run_bxPk run_bxPk_agg ld_fresh run_alPk run_bd0 run_bdK run_bdKI run_bdKIC run_bdKC run_bdKICP run_stPk_fresh pkC_0 pkC_1 pkC_2 pkC_3 pkC_4 pkC_5 pkC_6 pkC_7 pkC_8 pkC_9 pkC_10 pkC_11 pkC_12 pkC_13 pkC_14 pkC_15 pkC_16 pkC_17 pkC_18 pkC_19 pkC_20 pkC_21 pkC_22 pkC_23 pkC_24
def fiB : Fi := ⟨⟨#[98]⟩, 1, true, true, 2⟩
def fiS : Fi := ⟨⟨#[36, 115, 104, 97, 114, 101, 47, 103, 47, 97]⟩, 0, true, false, 0⟩
def fiU : Fi := ⟨⟨#[97]⟩, 0, false, false, 0⟩
def fiV : Fi := ⟨⟨#[97]⟩, 1, false, false, 0⟩
def fullP : Pk := { pk0 with kind := 8, id := 1, filters := [fiA, fiB] }
def gotP (c : Int) : Pk := { pk0 with kind := 9, id := 1, codes := [c] }
def unP (f : Fi) : Pk := { pk0 with kind := 10, id := 1, filters := [f] }
def goneP : Pk := { pk0 with kind := 11, id := 1 }
theorem exn_b0 : sbB 5 fullP = (⟨#[0, 1, 0, 0, 3, 97, 47, 35, 2, 0, 1, 98, 45]⟩, 0) := by decide +kernel
theorem exn_b1 : sbB 4 (unP fiU) = (⟨#[0, 1, 0, 1, 97]⟩, 0) := by decide +kernel
theorem exn_b2 : sbB 4 goneP = (⟨#[0, 1]⟩, 0) := by decide +kernel
theorem exn_r0 : sbR 5 8 ⟨#[0, 1, 0, 0, 3, 97, 47, 35, 2, 0, 1, 98, 45]⟩ = (fullP, 0) := by decide +kernel
theorem exn_r1 : sbR 4 8 ⟨#[0, 1, 0, 1, 98, 4]⟩ = (pk0, 7) := by decide +kernel
theorem exn_r2 : sbR 5 8 ⟨#[0, 1, 0, 0, 1, 98, 64]⟩ = (pk0, 7) := by decide +kernel
theorem exn_r3 : sbR 4 8 ⟨#[0, 1]⟩ = (pk0, 2) := by decide +kernel
theorem exn_r4 : sbR 4 8 ⟨#[0, 1, 0, 1, 98]⟩ = (pk0, 3) := by decide +kernel
theorem exn_r5 : sbR 4 8 ⟨#[0, 1, 0, 2, 98, 43, 0]⟩ = (pk0, 10) := by decide +kernel
theorem exn_r6 : sbR 4 8 ⟨#[0, 1, 0, 1, 98, 3]⟩ = (pk0, 2) := by decide +kernel
theorem exn_r7 : sbR 5 8 ⟨#[0, 1, 0, 0, 1, 98, 48]⟩ = (pk0, 2) := by decide +kernel
theorem exn_o : optN fiB = 45 := by decide +kernel
theorem exn_a0 : sbAns 4 (askF 1 fiA) (gotP 2) = true := by decide +kernel
theorem exn_a1 : sbAns 4 fullP (gotP 2) = false := by decide +kernel
theorem exn_a2 : sbAns 4 (gotP 2) (gotP 2) = false := by decide +kernel
theorem exn_a3 : sbAns 4 (unP fiU) goneP = true := by decide +kernel
theorem exn_a4 : sbAns 5 (unP fiU) goneP = false := by decide +kernel
theorem exn_v0 : sbE 5 goneP = 2 := by decide +kernel
theorem exn_v1 : sbE 5 (askF 1 fiS) = 2 := by decide +kernel
theorem exn_v2 : sbE 5 (unP fiV) = 2 := by decide +kernel
theorem exn_v3 : sbE 4 fullP = 2 := by decide +kernel
theorem exn_v4 : sbE 4 (gotP 3) = 2 := by decide +kernel
theorem full_small : (sbS 5 fullP).length ≤ 140737488351232 := by decide +kernel
theorem fl_ok {p : Pk} (h1 : p.will.props = []) (h2 : p.props = []) (h3 : ∀ f ∈ p.filters, f.topic.size ≤ 140737488351232) (h4 : p.codes.length ≤ 140737488351232 ∧ p.filters.length ≤ 140737488351232) (ht : p.topic.size ≤ 140737488351232 ∧ p.payload.size ≤ 140737488351232 ∧ p.client.size ≤ 140737488351232 ∧ p.user.size ≤ 140737488351232 ∧ p.pass.size ≤ 140737488351232 ∧ p.will.topic.size ≤ 140737488351232 ∧ p.will.payload.size ≤ 140737488351232) : PkOk p := by
  refine ⟨?_, ?_, h3, ht, ?_⟩
  · rw [h1]; simp
  · rw [h2]; simp
  · rw [h1, h2]; exact ⟨Nat.zero_le _, h4.1, h4.2, Nat.zero_le _⟩
theorem full_ok : PkOk fullP := fl_ok rfl rfl (by intro f hf; simp [fullP] at hf; rcases hf with rfl | rfl <;> decide) (by decide) (by decide)
theorem sbBody_ex (v : Int) (p : Pk) {r : ByteArray × Int} (hr : sbB v p = r) (h : Hs) (w : World) (ip : PkIn w w.heap.size p h) (ok : PkOk p) (hz : (sbS v p).length ≤ 140737488351232) :
    Calls Tryz.prog 12 #[.int .i64 v, pkV p h] w fun e w' => e = .returned (.tuple #[.string r.1, .int .i64 r.2]) ∧ Below w.heap.size w w' := by
  subst hr
  exact sbBody_any v p h w ip ok hz
theorem sbRead_ex (v k : Int) (s t : ByteArray) {r : Pk × Int} (hr : sbR v k t = r) (hst : s = t) (hs : t.size ≤ 1000) (w : World) :
    Calls Tryz.prog 13 #[.int .i64 v, .int .i64 k, .string s] w (PkOut r w) := by
  subst hst hr
  exact sbRead_any v k s w (by omega)
theorem sbAns_ex (v : Int) (p q : Pk) {b : Bool} (hr : sbAns v p q = b) (h k : Hs) (w : World) (ip : PkIn w w.heap.size p h) (iq : PkIn w w.heap.size q k) (ok : PkOk p) (okq : PkOk q) :
    Calls Tryz.prog 16 #[.int .i64 v, pkV p h, pkV q k] w fun e w' => e = .returned (.bool b) ∧ Below w.heap.size w w' := by
  subst hr
  exact sbAns_any v p q h k w ip iq ok okq
theorem sbValid_ex (v : Int) (p : Pk) {x : Int} (hr : sbE v p = x) (h : Hs) (w : World) (ip : PkIn w w.heap.size p h) (ok : PkOk p) :
    Calls Tryz.prog 17 #[.int .i64 v, pkV p h] w fun e w' => e = .returned (.int .i64 x) ∧ Below w.heap.size w w' := by
  subst hr
  exact sbValid_any v p h w ip ok
theorem optN_ex {x : Int} {f : Fi} (hr : optN f = x) (w : World) :
    Calls Tryz.prog 15 #[.agg #[.string f.topic, .int .i64 f.qos, .bool f.noLocal, .bool f.asPub, .int .i64 f.handling]] w fun e w' => e = .returned (.int .i64 x) ∧ Below w.heap.size w w' := by
  subst hr
  exact optN_any f w
theorem fi_in2 {w : World} {A : Option Addr} {c : Nat} (h : Rd w w.heap.size 5 A 2 (fiC fiA ++ fiC fiB)) (hc : 2 ≤ c) : PkIn w w.heap.size fullP { hs0 with filters := ⟨A, c⟩ } := by
  refine ⟨Rd.nil _ _ _ _, Rd.nil _ _ _ _, ?_, Rd.nil _ _ _ _, Nat.le_refl _, Nat.le_refl _, hc, Nat.le_refl _⟩
  show Rd w w.heap.size 5 A 2 (fis [fiA, fiB])
  rw [show fis [fiA, fiB] = fiC fiA ++ fiC fiB from rfl]
  exact h
/-- A slice of one filter, that a call has made. -/
theorem own_one {w : World} {base q : Nat} {f : Fi} (hb : Bk w q 32 (fiCells f)) (hq : base ≤ q) : w.ownsRow base 32 5 (.slice (some ⟨q, 0, none⟩) 1 1) 1 (fiC f) :=
  ⟨rfl, .inr ⟨q, 1, fiCells f, rfl, hq, hb, Nat.le_refl _, by decide, rfl, rfl⟩⟩
theorem St.addB {w x : World} {l : List (Nat × Pk × Hs)} {g : Nat} {p : Pk} {h : Hs} (s : St w l x) (hg : w.heap.size ≤ g) (hb : Bk x g PkT (pkC p h)) (ip : PkIn x x.heap.size p h) : St w (l ++ [(g, p, h)]) x := by
  refine ⟨s.kept, fun i g' p' h' e => ?_⟩
  rcases Nat.lt_or_ge i l.length with hi | hi
  · rw [List.getElem?_append_left hi] at e
    exact s.pks i g' p' h' e
  · rw [List.getElem?_append_right hi] at e
    obtain rfl | ⟨k, hk⟩ : i = l.length ∨ ∃ k, i = l.length + (k + 1) := by
      rcases Nat.eq_or_lt_of_le hi with h | h
      · exact .inl h.symm
      · exact .inr ⟨i - l.length - 1, by omega⟩
    · simp only [Nat.sub_self, List.getElem?_cons_zero, Option.some.injEq, Prod.mk.injEq] at e
      obtain ⟨rfl, rfl, rfl⟩ := e
      exact ⟨hg, hb, ip⟩
    · subst hk
      rw [show l.length + (k + 1) - l.length = k + 1 by omega] at e
      simp at e
theorem St.oneB {w x : World} {g : Nat} {p : Pk} {h : Hs} (hb : Below w.heap.size w x) (hg : w.heap.size ≤ g) (hB : Bk x g PkT (pkC p h)) (ip : PkIn x x.heap.size p h) : St w [(g, p, h)] x := by
  refine ⟨hb, fun i g' p' h' e => ?_⟩
  cases i with
  | zero =>
    simp only [List.getElem?_cons_zero, Option.some.injEq, Prod.mk.injEq] at e
    obtain ⟨rfl, rfl, rfl⟩ := e
    exact ⟨hg, hB, ip⟩
  | succ i => simp at e
set_option maxHeartbeats 1000000 in
set_option maxRecDepth 10000 in
theorem one11x_any (w : World) : Calls Tryz.prog 11 #[] w fun e w' => ∃ q, e = .returned (pkV (askF 1 fiA) (askH (some ⟨q, 0, none⟩))) ∧ w.heap.size ≤ q ∧ Bk w' q 32 (fiCells fiA) ∧ PkIn w' w'.heap.size (askF 1 fiA) (askH (some ⟨q, 0, none⟩)) ∧ Below w.heap.size w w' := by
  have hf := run_fi
  have hb := fun A w => run_bdKIF 1 fiA A w
  obtain ⟨W, hW, hst, hbk, hin, hbel⟩ := askF_put w 1 fiA
  have HW := Lib.hid hW
  have HBK := Lib.hid hbk
  have HIN := Lib.hid hin
  have HBL := Lib.hid hbel
  have HFB : Hid (Bk (putPk W w.heap.size (askF 1 fiA) (askH (some ⟨w.heap.size + 1, 0, none⟩))) (w.heap.size + 1) 32 (fiCells fiA)) := Lib.hid (by
    have h0 := Bk.fresh (w.alloc (.cells (pkC pk0 hs0) PkT)) 32 (fiCells fiA)
    rw [show (w.alloc (.cells (pkC pk0 hs0) PkT)).heap.size = w.heap.size + 1 by simp, ← hW] at h0
    exact h0.mods (S := fun z => z = w.heap.size) (Mods.of_grown (putPk_mods W w.heap.size (askF 1 fiA) (askH (some ⟨w.heap.size + 1, 0, none⟩))) rfl) (by omega))
  rw [HW.out, show fiCells fiA = #[.string ⟨#[97, 47, 35]⟩, .int .i64 2, .bool false, .bool false, .int .i64 0] from rfl] at hst
  clear hW hbk hin hbel
  go_enter Tryz.func11, Tryz.ntmps11
  go_wp2
  have e2 := HW.out
  rw [show fiCells fiA = #[.string ⟨#[97, 47, 35]⟩, .int .i64 2, .bool false, .bool false, .int .i64 0] from rfl] at e2
  rw [← e2]
  refine bodyPost_ret (results_pk1 rfl _ rfl HBK.out) rfl ?_
  exact ⟨_, rfl, Nat.le_succ _, HFB.out, HIN.out, HBL.out⟩
theorem run_got (c : Int) (A : Option Addr) (w : World) : (bdPk #[(0, .int .i64 9), (4, .int .i64 1), (18, .slice A 1 1)]).run Tryz.prog w = .ok (pkV (gotP c) { hs0 with codes := ⟨A, 1⟩ }) w := by kernel_rfl
theorem run_un (f : Fi) (A : Option Addr) (w : World) : (bdPk #[(0, .int .i64 10), (4, .int .i64 1), (19, .slice A 1 1)]).run Tryz.prog w = .ok (pkV (unP f) (askH A)) w := by kernel_rfl
theorem run_gone (w : World) : (bdPk #[(0, .int .i64 11), (4, .int .i64 1)]).run Tryz.prog w = .ok (pkV goneP hs0) w := by kernel_rfl
theorem run_fi1 (t : ByteArray) (w : World) : (Instr.build 32 #[(0, .string t)]).run Tryz.prog w = .ok (.agg #[.string t, .int .i64 0, .bool false, .bool false, .int .i64 0]) w := by kernel_rfl
theorem run_fi2 (t : ByteArray) (b : Bool) (w : World) : (Instr.build 32 #[(0, .string t), (2, .bool b)]).run Tryz.prog w = .ok (.agg #[.string t, .int .i64 0, .bool b, .bool false, .int .i64 0]) w := by kernel_rfl
theorem got_in {w : World} {B : Nat} {A : Option Addr} {c : Int} (h : Rd w B 1 A 1 (iv [c])) : PkIn w B (gotP c) { hs0 with codes := ⟨A, 1⟩ } :=
  ⟨Rd.nil _ _ _ _, h, Rd.nil _ _ _ _, Rd.nil _ _ _ _, Nat.le_refl _, Nat.le_refl _, Nat.le_refl _, Nat.le_refl _⟩
theorem un_in {w : World} {B : Nat} {A : Option Addr} {f : Fi} (h : Rd w B 5 A 1 (fiC f)) : PkIn w B (unP f) (askH A) := by
  refine ⟨Rd.nil _ _ _ _, Rd.nil _ _ _ _, ?_, Rd.nil _ _ _ _, Nat.le_refl _, Nat.le_refl _, Nat.le_refl _, Nat.le_refl _⟩
  show Rd w B 5 A 1 (fis [f])
  rw [show fis [f] = fiC f from List.append_nil _]
  exact h
theorem gone_in (w : World) (B : Nat) : PkIn w B goneP hs0 := ⟨Rd.nil _ _ _ _, Rd.nil _ _ _ _, Rd.nil _ _ _ _, Rd.nil _ _ _ _, Nat.le_refl _, Nat.le_refl _, Nat.le_refl _, Nat.le_refl _⟩
theorem got_ok (c : Int) : PkOk (gotP c) := fl_ok rfl rfl (by intro f hf; cases hf) ⟨show 1 ≤ 140737488351232 by decide, Nat.zero_le _⟩ ⟨Nat.zero_le _, Nat.zero_le _, Nat.zero_le _, Nat.zero_le _, Nat.zero_le _, Nat.zero_le _, Nat.zero_le _⟩
theorem un_ok {f : Fi} (h : f.topic.size ≤ 140737488351232) : PkOk (unP f) := fl_ok rfl rfl (by
  intro g hg
  obtain rfl : g = f := by simpa [unP] using hg
  exact h) ⟨Nat.zero_le _, show 1 ≤ 140737488351232 by decide⟩ ⟨Nat.zero_le _, Nat.zero_le _, Nat.zero_le _, Nat.zero_le _, Nat.zero_le _, Nat.zero_le _, Nat.zero_le _⟩
theorem gone_ok : PkOk goneP := fl_ok rfl rfl (by intro f hf; cases hf) ⟨Nat.zero_le _, Nat.zero_le _⟩ (by decide)
theorem un_small : (sbS 4 (unP fiU)).length ≤ 140737488351232 := by decide +kernel
theorem gone_small : (sbS 4 goneP).length ≤ 140737488351232 := by decide +kernel
theorem St.push1 {w x : World} {l : List (Nat × Pk × Hs)} {p : Pk} {h : Hs} (s : St w l x) (o : Obj) (ip : PkIn (x.alloc o) (x.alloc o).heap.size p h) : St w (l ++ [(x.heap.size + 1, p, h)]) ((x.alloc o).alloc (.cells (pkC p h) PkT)) := by
  have := (s.alloc o).push ip
  rwa [show (x.alloc o).heap.size = x.heap.size + 1 by simp] at this
theorem st_at1 (x : World) (o : Obj) (q : Pk) (k : Hs) : (stPk (.pointer (some ⟨x.heap.size + 1, 0, none⟩)) (pkV q k)).run Tryz.prog ((x.alloc o).alloc (.cells (pkC pk0 hs0) PkT)) = .ok () ((x.alloc o).alloc (.cells (pkC q k) PkT)) := by
  have := run_stPk_fresh (x.alloc o) pk0 q hs0 k
  rwa [show (x.alloc o).heap.size = x.heap.size + 1 by simp] at this
/-- A packet of one filter, whose filter is another one. -/
theorem St.swap {w x : World} {l : List (Nat × Pk × Hs)} {P : Fi → Pk} {F f : Fi} {A : Option Addr} (hP : ∀ (f g : Fi) (A B : Option Addr), (pkC (P f) (askH A)).setIfInBounds 23 (.slice B 1 1) = pkC (P g) (askH B))
    (hin : ∀ (y : World) (B : Nat) (A : Option Addr) (f : Fi), Rd y B 5 A 1 (fiC f) → PkIn y B (P f) (askH A)) (s : St w l x) :
    St w (l ++ [(x.heap.size, P f, askH (some ⟨x.heap.size + 1, 0, none⟩))]) ((x.alloc (.cells ((pkC (P F) (askH A)).setIfInBounds 23 (.slice (some ⟨x.heap.size + 1, 0, none⟩) 1 1)) PkT)).alloc (.cells (fiCells f) 32)) := by
  rw [hP F f]
  have b1 := ((Below.refl x.heap.size x).alloc (Nat.le_refl _) (.cells (pkC (P f) (askH (some ⟨x.heap.size + 1, 0, none⟩))) PkT))
  have b2 := b1.alloc b1.size (.cells (fiCells f) 32)
  have k1 := (Bk.fresh x PkT (pkC (P f) (askH (some ⟨x.heap.size + 1, 0, none⟩)))).alloc (.cells (fiCells f) 32)
  refine (s.below b2).addB s.kept.size k1 (hin _ _ _ _ ?_)
  have hr := rd_fi1 (x.alloc (.cells (pkC (P f) (askH (some ⟨x.heap.size + 1, 0, none⟩))) PkT)) f
  rw [show (x.alloc (.cells (pkC (P f) (askH (some ⟨x.heap.size + 1, 0, none⟩))) PkT)).heap.size = x.heap.size + 1 by simp] at hr
  exact hr.wider (by simp)
set_option maxHeartbeats 8000000 in
set_option maxRecDepth 10000 in
theorem subscribeNames_any (w : World) : Calls Tryz.prog 3 #[] w fun e w' => e = .returned (.bool true) ∧ Below w.heap.size w w' := by
  go_enter Tryz.func3, Tryz.ntmps3
  go_wp2_with fail
  refine (lives11_any _).mono ?_
  rintro e w1 ⟨rfl, hb⟩
  have S1 := Lib.hid ((St.start w).below hb); clear hb
  go_wp2_with fail
  refine (one11x_any _).mono ?_
  rintro e w2 ⟨q, rfl, hq, hbq, hin, hb⟩
  have T0 := Lib.hid (S1.out.below hb)
  have HQ := Lib.hid (Nat.le_trans S1.out.kept.size hq)
  have K0 := Lib.hid (Bk.fresh w2 PkT (pkC (askF 1 fiA) (askH (some ⟨q, 0, none⟩))))
  have T1 := Lib.hid (T0.out.alloc (.cells (pkC (askF 1 fiA) (askH (some ⟨q, 0, none⟩))) PkT))
  have HO := Lib.hid (own_one (hbq.alloc (.cells (pkC (askF 1 fiA) (askH (some ⟨q, 0, none⟩))) PkT)) HQ.out)
  have HW2 := Lib.hid T0.out.kept.size
  clear hb hq hbq hin
  go_upto_region 4 with fail
  obtain ⟨W1, hW1⟩ : ∃ W1, w2.alloc (.cells (pkC (askF 1 fiA) (askH (some ⟨q, 0, none⟩))) PkT) = W1 := ⟨_, rfl⟩
  obtain ⟨g1, hg1⟩ : ∃ g1, w2.heap.size = g1 := ⟨_, rfl⟩
  rw [hW1] at K0 T1 HO
  rw [hg1] at K0 HW2
  rw [hW1, hg1]
  clear hW1 hg1 T0
  clear w2
  have c23 : W1.cell? ⟨g1, 23, none⟩ = some (.slice (some ⟨q, 0, none⟩) 1 1) := K0.out.cell 23
  have HB1 : Hid (Below w.heap.size w (W1.alloc (.cells #[.string ⟨#[98]⟩, .int .i64 1, .bool true, .bool true, .int .i64 2] 32))) := Lib.hid (T1.out.kept.alloc T1.out.kept.size _)
  have HO1 : Hid ((W1.alloc (.cells #[.string ⟨#[98]⟩, .int .i64 1, .bool true, .bool true, .int .i64 2] 32)).ownsRow w.heap.size 32 5 (.slice (some ⟨q, 0, none⟩) 1 1) 1 (fiC fiA)) := Lib.hid (HO.out.alloc _)
  have K1 := Lib.hid (K0.out.alloc (.cells #[.string ⟨#[98]⟩, .int .i64 1, .bool true, .bool true, .int .i64 2] 32))
  have R1 : Hid (Rd (W1.alloc (.cells #[.string ⟨#[98]⟩, .int .i64 1, .bool true, .bool true, .int .i64 2] 32)) (W1.heap.size + 1) 5 (some ⟨W1.heap.size, 0, none⟩) 1 (fiC fiB)) := Lib.hid (rd_fi1 W1 fiB)
  go_upto_region 5 with (at_builtin; refine wpList_app _ rfl (.tmp 33) (.tmp 35) 27 rfl w.heap.size 32 _ 5 40 Tryz.underlying27 info_filter rfl (by decide) _ 1 (fiC fiA) rfl HO1.out _ _ 1 1 (fiC fiB) rfl R1.out (fiC_one fiB) (by decide) (by decide) HB1.out.size ?_; intro v3 w3 hown3 hg3 hat3; obtain ⟨A2, c2, rfl, hc2, hr2⟩ := own_rd hown3; have k3 := K1.out.app hg3 (own_ne HO1.out K1.out (by decide)); have f23 := k3.free 23; have x23 := k3.cell 23)
  have S2 : Hid (St w [(g1, fullP, { hs0 with filters := ⟨A2, c2⟩ })] (w3.setCell ⟨g1, 23, none⟩ (.slice A2 2 c2))) := Lib.hid (by
    have b3 := below_app HB1.out hg3 HB1.out.size (fun g hg => (own_block HO1.out g hg).1)
    have b4 := b3.setCell (p := ⟨g1, 23, none⟩) HW2.out (.slice A2 2 c2)
    refine St.oneB b4 HW2.out (k3.put 23 (.slice A2 2 c2)) ?_
    refine fi_in2 ?_ hc2
    refine (hr2.grown (mod_set w3 g1 23 (.slice A2 2 c2)) (Nat.le_refl _) fun b o hA _ hbg => ?_).wider (mod_set w3 g1 23 (.slice A2 2 c2)).size
    subst hbg
    exact own_ne hown3 k3 (by decide) (by rw [hA]; rfl))
  have HC2 := Lib.hid hc2
  clear k3 f23 x23 hown3 hg3 hat3 hr2 hc2 c23 K0 T1 HO HB1 HO1 K1 R1 S1
  generalize w3.setCell ⟨g1, 23, none⟩ (.slice A2 2 c2) = X2 at *
  clear w3
  have hl := S2.out.ld 0 rfl
  go_wp2_with fail
  refine (sbBody_ex 5 fullP exn_b0 _ _ (S2.out.into 0 rfl) full_ok full_small).mono ?_
  rintro e x3 ⟨rfl, hb⟩
  have S3 := Lib.hid (S2.out.below hb); clear hb hl
  go_wp2_with fail
  refine (sbRead_ex 5 8 _ _ exn_r0 (by first | rfl | decide +kernel) (by decide) _).mono ?_
  rintro e x4 ⟨kp, rfl, hi, hb⟩
  have S4 := Lib.hid ((S3.out.below hb).push hi)
  clear hi hb
  simp only
  go_wp2_with fail
  refine (sbRead_ex 4 8 _ _ exn_r1 (by first | rfl | decide +kernel) (by decide) _).mono ?_
  rintro e y1 ⟨k1, rfl, hi, hb⟩
  have S5 := Lib.hid ((S4.out.below hb).alloc (.cells (pkC pk0 k1) PkT))
  clear hi hb
  simp only
  go_wp2_with fail
  refine (sbRead_ex 5 8 _ _ exn_r2 (by first | rfl | decide +kernel) (by decide) _).mono ?_
  rintro e y2 ⟨k2, rfl, hi, hb⟩
  have S6 := Lib.hid ((S5.out.below hb).alloc (.cells (pkC pk0 k2) PkT))
  clear hi hb
  simp only
  go_wp2_with fail
  refine (sbRead_ex 4 8 _ _ exn_r3 (by first | rfl | decide +kernel) (by decide) _).mono ?_
  rintro e y3 ⟨k3, rfl, hi, hb⟩
  have S7 := Lib.hid ((S6.out.below hb).alloc (.cells (pkC pk0 k3) PkT))
  clear hi hb
  simp only
  go_wp2_with fail
  refine (sbRead_ex 4 8 _ _ exn_r4 (by first | rfl | decide +kernel) (by decide) _).mono ?_
  rintro e y4 ⟨k4, rfl, hi, hb⟩
  have S8 := Lib.hid ((S7.out.below hb).alloc (.cells (pkC pk0 k4) PkT))
  clear hi hb
  simp only
  go_wp2_with fail
  refine (sbRead_ex 4 8 _ _ exn_r5 (by first | rfl | decide +kernel) (by decide) _).mono ?_
  rintro e y5 ⟨k5, rfl, hi, hb⟩
  have S9 := Lib.hid ((S8.out.below hb).alloc (.cells (pkC pk0 k5) PkT))
  clear hi hb
  simp only
  go_wp2_with fail
  refine (sbRead_ex 4 8 _ _ exn_r6 (by first | rfl | decide +kernel) (by decide) _).mono ?_
  rintro e y6 ⟨k6, rfl, hi, hb⟩
  have S10 := Lib.hid ((S9.out.below hb).alloc (.cells (pkC pk0 k6) PkT))
  clear hi hb
  simp only
  go_wp2_with fail
  refine (sbRead_ex 5 8 _ _ exn_r7 (by first | rfl | decide +kernel) (by decide) _).mono ?_
  rintro e y7 ⟨k7, rfl, hi, hb⟩
  have S11 := Lib.hid ((S10.out.below hb).alloc (.cells (pkC pk0 k7) PkT))
  clear hi hb
  simp only
  have hg2 := fun A W => run_got 2 A W
  have hun := fun A W => run_un fiU A W
  have hgo := run_gone
  have f1 := run_fi1 ⟨#[97]⟩
  have f2 := run_fi2 ⟨#[36, 115, 104, 97, 114, 101, 47, 103, 47, 97]⟩ true
  have f3 := run_fi ⟨#[97]⟩ 1
  go_upto_region 14 with fail
  obtain ⟨X, hX⟩ : ∃ X, y7.alloc (.cells (pkC pk0 k7) PkT) = X := ⟨_, rfl⟩
  rw [hX] at S11 ⊢
  clear hX S4 S5 S6 S7 S8 S9 S10
  have S12 := Lib.hid (S11.out.push1 (.cells #[.int .i64 2] 3) (got_in (c := 2) ((Rd.lit X #[.int .i64 2] 3 rfl (by simp) rfl) : Rd _ _ 1 (some ⟨X.heap.size, 0, none⟩) 1 (iv [2]))))
  have st1 := fun q k => st_at1 X (.cells #[.int .i64 2] 3) q k
  go_upto_region 15 with fail
  clear st1
  obtain ⟨X3, hX⟩ : ∃ Y, (X.alloc (.cells #[.int .i64 2] 3)).alloc (.cells (pkC (gotP 2) { hs0 with codes := ⟨some ⟨X.heap.size, 0, none⟩, 1⟩ }) PkT) = Y := ⟨_, rfl⟩
  obtain ⟨g3, hg3⟩ : ∃ g, X.heap.size + 1 = g := ⟨_, rfl⟩
  rw [hX, hg3] at S12
  rw [hX, hg3]
  clear hX hg3 S11
  have S13 := Lib.hid (S12.out.push1 (.cells #[.string ⟨#[97]⟩, .int .i64 0, .bool false, .bool false, .int .i64 0] 32) (un_in (f := fiU) ((rd_fi1 X3 fiU).wider (by simp))))
  have st1 := fun q k => st_at1 X3 (.cells #[.string ⟨#[97]⟩, .int .i64 0, .bool false, .bool false, .int .i64 0] 32) q k
  go_upto_region 16 with fail
  clear st1
  obtain ⟨X4, hX⟩ : ∃ Y, (X3.alloc (.cells #[.string ⟨#[97]⟩, .int .i64 0, .bool false, .bool false, .int .i64 0] 32)).alloc (.cells (pkC (unP fiU) (askH (some ⟨X3.heap.size, 0, none⟩))) PkT) = Y := ⟨_, rfl⟩
  obtain ⟨g4, hg4⟩ : ∃ g, X3.heap.size + 1 = g := ⟨_, rfl⟩
  obtain ⟨q4, hq4⟩ : ∃ q, X3.heap.size = q := ⟨_, rfl⟩
  rw [hX, hg4, hq4] at S13
  rw [hX, hg4]
  clear hX hg4 hq4 S12
  try clear X3
  have hl := S13.out.ld 3 rfl
  go_wp2_with fail
  refine (sbBody_ex 4 (unP fiU) exn_b1 _ _ (S13.out.into 3 rfl) (un_ok (show 1 ≤ 140737488351232 by decide)) un_small).mono ?_
  rintro e x5 ⟨rfl, hb⟩
  have S14 := Lib.hid (S13.out.below hb); clear hb hl
  have S15 := Lib.hid (S14.out.push (gone_in x5 _))
  go_upto_region 18 with fail
  clear S13 S14
  obtain ⟨X5, hX⟩ : ∃ Y, x5.alloc (.cells (pkC goneP hs0) PkT) = Y := ⟨_, rfl⟩
  obtain ⟨g5, hg5⟩ : ∃ g, x5.heap.size = g := ⟨_, rfl⟩
  rw [hX, hg5] at S15
  rw [hX, hg5]
  clear hX hg5
  try clear x5
  have hl := S15.out.ld 4 rfl
  go_wp2_with fail
  refine (sbBody_ex 4 goneP exn_b2 _ _ (S15.out.into 4 rfl) gone_ok gone_small).mono ?_
  rintro e x6 ⟨rfl, hb⟩
  have S16 := Lib.hid (S15.out.below hb); clear hb hl
  go_wp2_with fail
  refine (one11x_any _).mono ?_
  rintro e x7 ⟨q7, rfl, -, -, -, hb⟩
  have S17 := Lib.hid (S16.out.below hb); clear hb
  have S18 := Lib.hid (St.swap (P := askF 1) (F := fiA) (f := fiS) (A := some ⟨q7, 0, none⟩) (fun _ _ _ _ => rfl) (fun _ _ _ _ h => askF_in 1 h) S17.out)
  rw [show fiCells fiS = #[.string ⟨#[36, 115, 104, 97, 114, 101, 47, 103, 47, 97]⟩, .int .i64 0, .bool true, .bool false, .int .i64 0] from rfl] at S18
  have k23 : ((x7.alloc (.cells (pkC (askF 1 fiA) (askH (some ⟨q7, 0, none⟩))) PkT)).alloc (.cells #[.string ⟨#[36, 115, 104, 97, 114, 101, 47, 103, 47, 97]⟩, .int .i64 0, .bool true, .bool false, .int .i64 0] 32)).frozen? ⟨x7.heap.size, 23, none⟩ = false := ((Bk.fresh x7 PkT (pkC (askF 1 fiA) (askH (some ⟨q7, 0, none⟩)))).alloc _).free 23
  have c23 : ((x7.alloc (.cells (pkC (askF 1 fiA) (askH (some ⟨q7, 0, none⟩))) PkT)).alloc (.cells #[.string ⟨#[36, 115, 104, 97, 114, 101, 47, 103, 47, 97]⟩, .int .i64 0, .bool true, .bool false, .int .i64 0] 32)).cell? ⟨x7.heap.size, 23, none⟩ = some (.slice (some ⟨q7, 0, none⟩) 1 1) := ((Bk.fresh x7 PkT (pkC (askF 1 fiA) (askH (some ⟨q7, 0, none⟩)))).alloc _).cell 23
  go_upto_region 21 with fail
  clear k23 c23
  obtain ⟨X8, hX⟩ : ∃ Y, (x7.alloc (.cells ((pkC (askF 1 fiA) (askH (some ⟨q7, 0, none⟩))).setIfInBounds 23 (.slice (some ⟨x7.heap.size + 1, 0, none⟩) 1 1)) PkT)).alloc (.cells #[.string ⟨#[36, 115, 104, 97, 114, 101, 47, 103, 47, 97]⟩, .int .i64 0, .bool true, .bool false, .int .i64 0] 32) = Y := ⟨_, rfl⟩
  rw [hX] at S18
  rw [hX]
  clear hX S15 S16 S17
  have hl := S18.out.ld 3 rfl
  go_upto_region 22 with fail
  clear hl
  have S19 := Lib.hid (St.swap (P := unP) (F := fiU) (f := fiV) (A := some ⟨q4, 0, none⟩) (fun _ _ _ _ => rfl) (fun _ _ _ _ h => un_in h) S18.out)
  rw [show fiCells fiV = #[.string ⟨#[97]⟩, .int .i64 1, .bool false, .bool false, .int .i64 0] from rfl] at S19
  have k23 : ((X8.alloc (.cells (pkC (unP fiU) (askH (some ⟨q4, 0, none⟩))) PkT)).alloc (.cells #[.string ⟨#[97]⟩, .int .i64 1, .bool false, .bool false, .int .i64 0] 32)).frozen? ⟨X8.heap.size, 23, none⟩ = false := ((Bk.fresh X8 PkT (pkC (unP fiU) (askH (some ⟨q4, 0, none⟩)))).alloc _).free 23
  have c23 : ((X8.alloc (.cells (pkC (unP fiU) (askH (some ⟨q4, 0, none⟩))) PkT)).alloc (.cells #[.string ⟨#[97]⟩, .int .i64 1, .bool false, .bool false, .int .i64 0] 32)).cell? ⟨X8.heap.size, 23, none⟩ = some (.slice (some ⟨q4, 0, none⟩) 1 1) := ((Bk.fresh X8 PkT (pkC (unP fiU) (askH (some ⟨q4, 0, none⟩)))).alloc _).cell 23
  go_upto_region 23 with fail
  clear k23 c23
  obtain ⟨X9, hX9⟩ : ∃ Y, (X8.alloc (.cells ((pkC (unP fiU) (askH (some ⟨q4, 0, none⟩))).setIfInBounds 23 (.slice (some ⟨X8.heap.size + 1, 0, none⟩) 1 1)) PkT)).alloc (.cells #[.string ⟨#[97]⟩, .int .i64 1, .bool false, .bool false, .int .i64 0] 32) = Y := ⟨_, rfl⟩
  rw [hX9] at S19
  rw [hX9]
  clear hX9 S18
  obtain ⟨bf, of', hA, -, -⟩ := ((S19.out.into 0 rfl).filters).atF (i := 1) (show 1 < fullP.filters.length by decide)
  dsimp only at hA
  subst hA
  generalize x4.heap.size = gp at *
  generalize x7.heap.size = gs at *
  generalize X8.heap.size = gb at *
  generalize hhF : ({ hs0 with filters := ⟨some ⟨bf, of', none⟩, c2⟩ } : Hs) = hF at *
  obtain ⟨hG, hhG⟩ : ∃ h : Hs, { hs0 with codes := ⟨some ⟨X.heap.size, 0, none⟩, 1⟩ } = h := ⟨_, rfl⟩
  obtain ⟨hU, hhU⟩ : ∃ h : Hs, askH (some ⟨q4, 0, none⟩) = h := ⟨_, rfl⟩
  obtain ⟨hS, hhS⟩ : ∃ h : Hs, askH (some ⟨gs + 1, 0, none⟩) = h := ⟨_, rfl⟩
  obtain ⟨hB, hhB⟩ : ∃ h : Hs, askH (some ⟨gb + 1, 0, none⟩) = h := ⟨_, rfl⟩
  rw [hhG, hhU, hhS, hhB] at S19
  have S9 : Hid (St w [(g1, fullP, hF), (gp, fullP, kp), (g3, (gotP 2), hG), (g4, (unP fiU), hU), (g5, goneP, hs0), (gs, (askF 1 fiS), hS), (gb, (unP fiV), hB)] X9) := Lib.hid S19.out
  have hFF : hF.filters = ⟨some ⟨bf, of', none⟩, c2⟩ := by rw [← hhF]
  have SN : ∀ x, St w [(g1, fullP, hF), (gp, fullP, kp), (g3, (gotP 2), hG), (g4, (unP fiU), hU), (g5, goneP, hs0), (gs, (askF 1 fiS), hS), (gb, (unP fiV), hB)] x → ((ldPk (.pointer (some ⟨g1, 0, none⟩))).run Tryz.prog x = .ok (pkV fullP hF) x ∧ (ldPk (.pointer (some ⟨gp, 0, none⟩))).run Tryz.prog x = .ok (pkV fullP kp) x ∧ (ldPk (.pointer (some ⟨g3, 0, none⟩))).run Tryz.prog x = .ok (pkV (gotP 2) hG) x ∧ (ldPk (.pointer (some ⟨g4, 0, none⟩))).run Tryz.prog x = .ok (pkV (unP fiU) hU) x ∧ (ldPk (.pointer (some ⟨g5, 0, none⟩))).run Tryz.prog x = .ok (pkV goneP hs0) x ∧ (ldPk (.pointer (some ⟨gs, 0, none⟩))).run Tryz.prog x = .ok (pkV (askF 1 fiS) hS) x ∧ (ldPk (.pointer (some ⟨gb, 0, none⟩))).run Tryz.prog x = .ok (pkV (unP fiV) hB) x ∧ x.cell? ⟨g1, 23, none⟩ = some (.slice (some ⟨bf, of', none⟩) 2 c2) ∧ x.cell? ⟨bf, of' + 5, none⟩ = some (.string ⟨#[98]⟩) ∧ x.cell? ⟨bf, of' + 5 + 1, none⟩ = some (.int .i64 1) ∧ x.cell? ⟨bf, of' + 5 + 2, none⟩ = some (.bool true) ∧ x.cell? ⟨bf, of' + 5 + 3, none⟩ = some (.bool true) ∧ x.cell? ⟨bf, of' + 5 + 4, none⟩ = some (.int .i64 2) ∧ St w [(g1, fullP, hF), (gp, fullP, kp), (g3, (gotP 2), hG), (g4, (unP fiU), hU), (g5, goneP, hs0), (gs, (askF 1 fiS), hS), (gb, (unP fiV), hB)] x) := fun x s => by
    have hf := (s.into 0 rfl).filters
    obtain ⟨b', o', hA', -, e0, e1, e2, e3, e4⟩ := hf.atF (i := 1) (show 1 < fullP.filters.length by decide)
    rw [hFF] at hA'
    simp only [Option.some.injEq, Addr.mk.injEq, and_true] at hA'
    obtain ⟨rfl, rfl⟩ := hA'
    have c23 := (s.cell 0 rfl 23).trans (pkC_23 _ _)
    rw [hFF] at c23
    exact ⟨s.ld 0 rfl, s.ld 1 rfl, s.ld 2 rfl, s.ld 3 rfl, s.ld 4 rfl, s.ld 5 rfl, s.ld 6 rfl, c23, e0, e1, e2, e3, e4, s⟩
  have HSX : Hid (∀ x, Below X9.heap.size X9 x → ((ldPk (.pointer (some ⟨g1, 0, none⟩))).run Tryz.prog x = .ok (pkV fullP hF) x ∧ (ldPk (.pointer (some ⟨gp, 0, none⟩))).run Tryz.prog x = .ok (pkV fullP kp) x ∧ (ldPk (.pointer (some ⟨g3, 0, none⟩))).run Tryz.prog x = .ok (pkV (gotP 2) hG) x ∧ (ldPk (.pointer (some ⟨g4, 0, none⟩))).run Tryz.prog x = .ok (pkV (unP fiU) hU) x ∧ (ldPk (.pointer (some ⟨g5, 0, none⟩))).run Tryz.prog x = .ok (pkV goneP hs0) x ∧ (ldPk (.pointer (some ⟨gs, 0, none⟩))).run Tryz.prog x = .ok (pkV (askF 1 fiS) hS) x ∧ (ldPk (.pointer (some ⟨gb, 0, none⟩))).run Tryz.prog x = .ok (pkV (unP fiV) hB) x ∧ x.cell? ⟨g1, 23, none⟩ = some (.slice (some ⟨bf, of', none⟩) 2 c2) ∧ x.cell? ⟨bf, of' + 5, none⟩ = some (.string ⟨#[98]⟩) ∧ x.cell? ⟨bf, of' + 5 + 1, none⟩ = some (.int .i64 1) ∧ x.cell? ⟨bf, of' + 5 + 2, none⟩ = some (.bool true) ∧ x.cell? ⟨bf, of' + 5 + 3, none⟩ = some (.bool true) ∧ x.cell? ⟨bf, of' + 5 + 4, none⟩ = some (.int .i64 2))) := Lib.hid (fun x hx => by
    obtain ⟨a0, a1, a2, a3, a4, a5, a6, a7, a8, a9, a10, a11, a12, -⟩ := SN x (S9.out.below hx)
    exact ⟨a0, a1, a2, a3, a4, a5, a6, a7, a8, a9, a10, a11, a12⟩)
  have SX : Hid (∀ x, Below X9.heap.size X9 x → St w [(g1, fullP, hF), (gp, fullP, kp), (g3, (gotP 2), hG), (g4, (unP fiU), hU), (g5, goneP, hs0), (gs, (askF 1 fiS), hS), (gb, (unP fiV), hB)] x) := Lib.hid (fun x hx => S9.out.below hx)
  have cS : ∀ x, Below X9.heap.size X9 x → Calls Tryz.prog 14 #[pkV fullP kp, pkV fullP hF] x fun e w' => e = .returned (.bool true) ∧ Below x.heap.size x w' := fun x hx => by
    have := samePk_any fullP fullP kp hF x ((SX.out x hx).into 1 rfl) ((SX.out x hx).into 0 rfl) full_ok.len full_ok.len
    rwa [decide_eq_true rfl] at this
  clear hFF SN S9 S19
  as_aux_lemma =>
    simp only [List.append]
    apply wp_region_G
    · kernel_rfl
    · intro vs
      repeat (apply wpG_fix
              focus (refine Or.inl ⟨rfl, fun x hx => ?_⟩; have hS := HSX.out x hx; go_simp; (try with_reducible rfl); done)
              (try simp only [Act.put]); (try simp only [List.setIfInBounds_toArray]); (try simp only [List.set_cons_succ]); (try simp only [List.set_cons_zero]))
      apply wpG_call (fun x hx _ => cS x hx)
      · rfl
      · intro x hx; have hS := HSX.out x hx; go_simp
      (try simp only [Act.put]); (try simp only [List.setIfInBounds_toArray]); (try simp only [List.set_cons_succ]); (try simp only [List.set_cons_zero])
      repeat (apply wpG_fix
              focus (refine Or.inl ⟨rfl, fun x hx => ?_⟩; have hS := HSX.out x hx; go_simp; (try with_reducible rfl); done)
              (try simp only [Act.put]); (try simp only [List.setIfInBounds_toArray]); (try simp only [List.set_cons_succ]); (try simp only [List.set_cons_zero]))
      apply wpG_call (fun x hx _ => optN_ex exn_o x)
      · rfl
      · intro x hx; have hS := HSX.out x hx; go_simp; exact ⟨rfl, rfl, rfl, rfl, rfl⟩
      (try simp only [Act.put]); (try simp only [List.setIfInBounds_toArray]); (try simp only [List.set_cons_succ]); (try simp only [List.set_cons_zero])
      repeat (apply wpG_fix
              focus (refine Or.inl ⟨rfl, fun x hx => ?_⟩; have hS := HSX.out x hx; go_simp; (try with_reducible rfl); done)
              (try simp only [Act.put]); (try simp only [List.setIfInBounds_toArray]); (try simp only [List.set_cons_succ]); (try simp only [List.set_cons_zero]))
      apply wpG_callR (fun u y => ∃ q, u = pkV (askF 1 fiA) (askH (some ⟨q, 0, none⟩)) ∧ PkIn y y.heap.size (askF 1 fiA) (askH (some ⟨q, 0, none⟩))) (fun u x y h hb => by obtain ⟨q, h1, h2⟩ := h; exact ⟨q, h1, h2.next hb⟩) (fun x hx _ => (one11x_any x).mono fun e y h => by obtain ⟨q, h1, -, -, h2, h3⟩ := h; exact ⟨_, h1, ⟨q, rfl, h2⟩, h3⟩)
      · rfl
      · intro x hx; have hS := HSX.out x hx; go_simp
      (try simp only [Act.put]); (try simp only [List.setIfInBounds_toArray]); (try simp only [List.set_cons_succ]); (try simp only [List.set_cons_zero])
      repeat (apply wpG_fix
              focus (refine Or.inl ⟨rfl, fun x hx => ?_⟩; have hS := HSX.out x hx; go_simp; (try with_reducible rfl); done)
              (try simp only [Act.put]); (try simp only [List.setIfInBounds_toArray]); (try simp only [List.set_cons_succ]); (try simp only [List.set_cons_zero]))
      apply wpG_call (f := 16) (args := #[.int .i64 4, vs 52, pkV (gotP 2) hG]) (v := .bool true) (fun x hx hH => by
        obtain ⟨q, h1, h2⟩ := (show ∃ q, vs 52 = pkV (askF 1 fiA) (askH (some ⟨q, 0, none⟩)) ∧ PkIn x x.heap.size (askF 1 fiA) (askH (some ⟨q, 0, none⟩)) from hH 52 (by kernel_rfl))
        rw [h1]
        exact sbAns_ex 4 _ _ exn_a0 _ _ _ h2 ((SX.out x hx).into 2 rfl) (askF_ok 1 (show 3 ≤ 140737488351232 by decide)) (got_ok 2))
      · rfl
      · intro x hx; have hS := HSX.out x hx; go_simp
      (try simp only [Act.put]); (try simp only [List.setIfInBounds_toArray]); (try simp only [List.set_cons_succ]); (try simp only [List.set_cons_zero])
      repeat (apply wpG_fix
              focus (refine Or.inl ⟨rfl, fun x hx => ?_⟩; have hS := HSX.out x hx; go_simp; (try with_reducible rfl); done)
              (try simp only [Act.put]); (try simp only [List.setIfInBounds_toArray]); (try simp only [List.set_cons_succ]); (try simp only [List.set_cons_zero]))
      apply wpG_call (fun x hx _ => sbAns_ex 4 _ _ exn_a1 _ _ _ ((SX.out x hx).into 0 rfl) ((SX.out x hx).into 2 rfl) full_ok (got_ok 2))
      · rfl
      · intro x hx; have hS := HSX.out x hx; go_simp
      (try simp only [Act.put]); (try simp only [List.setIfInBounds_toArray]); (try simp only [List.set_cons_succ]); (try simp only [List.set_cons_zero])
      repeat (apply wpG_fix
              focus (refine Or.inl ⟨rfl, fun x hx => ?_⟩; have hS := HSX.out x hx; go_simp; (try with_reducible rfl); done)
              (try simp only [Act.put]); (try simp only [List.setIfInBounds_toArray]); (try simp only [List.set_cons_succ]); (try simp only [List.set_cons_zero]))
      apply wpG_call (fun x hx _ => sbAns_ex 4 _ _ exn_a2 _ _ _ ((SX.out x hx).into 2 rfl) ((SX.out x hx).into 2 rfl) (got_ok 2) (got_ok 2))
      · rfl
      · intro x hx; have hS := HSX.out x hx; go_simp
      (try simp only [Act.put]); (try simp only [List.setIfInBounds_toArray]); (try simp only [List.set_cons_succ]); (try simp only [List.set_cons_zero])
      repeat (apply wpG_fix
              focus (refine Or.inl ⟨rfl, fun x hx => ?_⟩; have hS := HSX.out x hx; go_simp; (try with_reducible rfl); done)
              (try simp only [Act.put]); (try simp only [List.setIfInBounds_toArray]); (try simp only [List.set_cons_succ]); (try simp only [List.set_cons_zero]))
      apply wpG_call (fun x hx _ => sbAns_ex 4 _ _ exn_a3 _ _ _ ((SX.out x hx).into 3 rfl) ((SX.out x hx).into 4 rfl) (un_ok (show 1 ≤ 140737488351232 by decide)) gone_ok)
      · rfl
      · intro x hx; have hS := HSX.out x hx; go_simp
      (try simp only [Act.put]); (try simp only [List.setIfInBounds_toArray]); (try simp only [List.set_cons_succ]); (try simp only [List.set_cons_zero])
      repeat (apply wpG_fix
              focus (refine Or.inl ⟨rfl, fun x hx => ?_⟩; have hS := HSX.out x hx; go_simp; (try with_reducible rfl); done)
              (try simp only [Act.put]); (try simp only [List.setIfInBounds_toArray]); (try simp only [List.set_cons_succ]); (try simp only [List.set_cons_zero]))
      apply wpG_call (fun x hx _ => sbAns_ex 5 _ _ exn_a4 _ _ _ ((SX.out x hx).into 3 rfl) ((SX.out x hx).into 4 rfl) (un_ok (show 1 ≤ 140737488351232 by decide)) gone_ok)
      · rfl
      · intro x hx; have hS := HSX.out x hx; go_simp
      (try simp only [Act.put]); (try simp only [List.setIfInBounds_toArray]); (try simp only [List.set_cons_succ]); (try simp only [List.set_cons_zero])
      repeat (apply wpG_fix
              focus (refine Or.inl ⟨rfl, fun x hx => ?_⟩; have hS := HSX.out x hx; go_simp; (try with_reducible rfl); done)
              (try simp only [Act.put]); (try simp only [List.setIfInBounds_toArray]); (try simp only [List.set_cons_succ]); (try simp only [List.set_cons_zero]))
      apply wpG_call (fun x hx _ => sbValid_ex 5 _ exn_v0 _ _ ((SX.out x hx).into 4 rfl) gone_ok)
      · rfl
      · intro x hx; have hS := HSX.out x hx; go_simp
      (try simp only [Act.put]); (try simp only [List.setIfInBounds_toArray]); (try simp only [List.set_cons_succ]); (try simp only [List.set_cons_zero])
      repeat (apply wpG_fix
              focus (refine Or.inl ⟨rfl, fun x hx => ?_⟩; have hS := HSX.out x hx; go_simp; (try with_reducible rfl); done)
              (try simp only [Act.put]); (try simp only [List.setIfInBounds_toArray]); (try simp only [List.set_cons_succ]); (try simp only [List.set_cons_zero]))
      apply wpG_call (fun x hx _ => sbValid_ex 5 _ exn_v1 _ _ ((SX.out x hx).into 5 rfl) (askF_ok 1 (show 10 ≤ 140737488351232 by decide)))
      · rfl
      · intro x hx; have hS := HSX.out x hx; go_simp
      (try simp only [Act.put]); (try simp only [List.setIfInBounds_toArray]); (try simp only [List.set_cons_succ]); (try simp only [List.set_cons_zero])
      repeat (apply wpG_fix
              focus (refine Or.inl ⟨rfl, fun x hx => ?_⟩; have hS := HSX.out x hx; go_simp; (try with_reducible rfl); done)
              (try simp only [Act.put]); (try simp only [List.setIfInBounds_toArray]); (try simp only [List.set_cons_succ]); (try simp only [List.set_cons_zero]))
      apply wpG_call (fun x hx _ => sbValid_ex 5 _ exn_v2 _ _ ((SX.out x hx).into 6 rfl) (un_ok (show 1 ≤ 140737488351232 by decide)))
      · rfl
      · intro x hx; have hS := HSX.out x hx; go_simp
      (try simp only [Act.put]); (try simp only [List.setIfInBounds_toArray]); (try simp only [List.set_cons_succ]); (try simp only [List.set_cons_zero])
      repeat (apply wpG_fix
              focus (refine Or.inl ⟨rfl, fun x hx => ?_⟩; have hS := HSX.out x hx; go_simp; (try with_reducible rfl); done)
              (try simp only [Act.put]); (try simp only [List.setIfInBounds_toArray]); (try simp only [List.set_cons_succ]); (try simp only [List.set_cons_zero]))
      apply wpG_call (fun x hx _ => sbValid_ex 4 _ exn_v3 _ _ ((SX.out x hx).into 0 rfl) full_ok)
      · rfl
      · intro x hx; have hS := HSX.out x hx; go_simp
      (try simp only [Act.put]); (try simp only [List.setIfInBounds_toArray]); (try simp only [List.set_cons_succ]); (try simp only [List.set_cons_zero])
      repeat (apply wpG_fix
              focus (refine Or.inl ⟨rfl, fun x hx => ?_⟩; have hS := HSX.out x hx; go_simp; (try with_reducible rfl); done)
              (try simp only [Act.put]); (try simp only [List.setIfInBounds_toArray]); (try simp only [List.set_cons_succ]); (try simp only [List.set_cons_zero]))
      apply wpG_rel (fun u y => ∃ A, u = .slice A 1 1 ∧ Rd y y.heap.size 1 A 1 (iv [3])) (fun u x y h hb => by obtain ⟨A, h1, h2⟩ := h; exact ⟨A, h1, (h2.below hb).wider hb.size⟩)
      · rfl
      · intro x hx _
        refine ⟨_, _, ?_, ⟨some ⟨x.heap.size, 0, none⟩, rfl, ?_⟩, (Below.refl x.heap.size x).alloc (Nat.le_refl _) (.cells #[.int .i64 3] 3)⟩
        · have hS := HSX.out x hx; go_simp
        · exact Rd.lit x #[.int .i64 3] 3 rfl (by simp) rfl
      (try simp only [Act.put]); (try simp only [List.setIfInBounds_toArray]); (try simp only [List.set_cons_succ]); (try simp only [List.set_cons_zero])
      apply wpG_rel (fun u y => ∃ A, u = pkV (gotP 3) { hs0 with codes := ⟨A, 1⟩ } ∧ Rd y y.heap.size 1 A 1 (iv [3])) (fun u x y h hb => by obtain ⟨A, h1, h2⟩ := h; exact ⟨A, h1, (h2.below hb).wider hb.size⟩)
      · rfl
      · intro x hx hH
        obtain ⟨A, h1, h2⟩ := (show ∃ A, vs 116 = .slice A 1 1 ∧ Rd x x.heap.size 1 A 1 (iv [3]) from hH 116 (by kernel_rfl))
        rw [h1]
        refine ⟨_, _, ?_, ⟨A, rfl, h2⟩, Below.refl x.heap.size x⟩
        go_simp
        rfl
      (try simp only [Act.put]); (try simp only [List.setIfInBounds_toArray]); (try simp only [List.set_cons_succ]); (try simp only [List.set_cons_zero])
      apply wpG_call (f := 17) (args := #[.int .i64 4, vs 117]) (v := .int .i64 2) (fun x hx hH => by
        obtain ⟨A, h1, h2⟩ := (show ∃ A, vs 117 = pkV (gotP 3) { hs0 with codes := ⟨A, 1⟩ } ∧ Rd x x.heap.size 1 A 1 (iv [3]) from hH 117 (by kernel_rfl))
        rw [h1]
        exact sbValid_ex 4 _ exn_v4 _ _ (got_in h2) (got_ok 3))
      · rfl
      · intro x hx; have hS := HSX.out x hx; go_simp
      (try simp only [Act.put]); (try simp only [List.setIfInBounds_toArray]); (try simp only [List.set_cons_succ]); (try simp only [List.set_cons_zero])
      repeat (apply wpG_fix
              focus (refine Or.inl ⟨rfl, fun x hx => ?_⟩; have hS := HSX.out x hx; go_simp; (try with_reducible rfl); done)
              (try simp only [Act.put]); (try simp only [List.setIfInBounds_toArray]); (try simp only [List.set_cons_succ]); (try simp only [List.set_cons_zero]))
      apply wpG_nil
      intro x hx _
      go_wp2
      go_ret
      exact ⟨rfl, (SX.out x hx).kept⟩
    · kernel_rfl

end Go.Proofs.YtbdgkkmbnahgiaaGreatDoor

namespace Go.Proofs.YtbdgkkmbnahgiaaGreatDoor
open Go.ChangeShapes Go.WideShapes Go.ChangeAt Go.RowKit
def layCells (c : Array Value) : Obj → Obj
  | .cells _ t frozen => .cells c t frozen
  | o => o
def firstCells : Array Value := (Go.Pinned.utf8FirstZ.map fun (n : Nat) => Value.int .u8 n).toArray
def rangeCells : Array Value := #[.int .u8 128, .int .u8 191, .int .u8 160, .int .u8 191, .int .u8 128, .int .u8 159, .int .u8 144, .int .u8 191, .int .u8 128, .int .u8 143,
  .int .u8 0, .int .u8 0, .int .u8 0, .int .u8 0, .int .u8 0, .int .u8 0, .int .u8 0, .int .u8 0, .int .u8 0, .int .u8 0, .int .u8 0, .int .u8 0, .int .u8 0, .int .u8 0, .int .u8 0, .int .u8 0, .int .u8 0, .int .u8 0, .int .u8 0, .int .u8 0, .int .u8 0, .int .u8 0]
noncomputable def laidWorld (os : Os) : World :=
  { World.holding Tryz.prog os ⟨#[], #[], []⟩ with heap := ((World.holding Tryz.prog os ⟨#[], #[], []⟩).heap.modify 1 (layCells firstCells)).modify 2 (layCells rangeCells) }
theorem laid_met (os : Os) (args : Array Value) : laidMetH Tryz.prog [("unicode/utf8.acceptRanges", Rows.laid_unicode_utf8_acceptRanges), ("unicode/utf8.first", Rows.laid_unicode_utf8_first)] ((laidWorld os).forCall (fun _ _ => 0) ⟨#[], args, []⟩).memory :=
  laidMetH_of_parts (laidMet_of_run' 8 (by kernel_rfl) (by kernel_rfl)) (by kernel_rfl)
end Go.Proofs.YtbdgkkmbnahgiaaGreatDoor

