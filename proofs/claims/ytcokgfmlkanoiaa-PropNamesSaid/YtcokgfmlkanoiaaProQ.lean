/- The law PropNames: the chapter's examples. -/
import Derived.Test.YtcokgfmlkanoiaaProO
import Derived.Lib.QuietBelow
namespace Go.Proofs.Ytcokgfmlkanoiaa
open Go.RowKit

def bs (l : List UInt8) : ByteArray := ⟨l.toArray⟩
def userP : Pr := ⟨38, 0, ⟨#[97]⟩, ⟨#[98]⟩⟩
def oddP : List Pr := [⟨4, 0, ⟨#[]⟩, ⟨#[]⟩⟩, ⟨17, 0, ⟨#[]⟩, ⟨#[]⟩⟩, ⟨1, 2, ⟨#[]⟩, ⟨#[]⟩⟩, ⟨35, 0, ⟨#[]⟩, ⟨#[]⟩⟩, ⟨11, 0, ⟨#[]⟩, ⟨#[]⟩⟩, ⟨8, 0, ⟨#[97, 47, 35]⟩, ⟨#[]⟩⟩]
theorem odd_check : ∀ p ∈ oddP, checkE (ruleOf p.id) 3 p = 9 := by decide +kernel
theorem ex_twice : (bytesS 3 [⟨35, 1, ⟨#[]⟩, ⟨#[]⟩⟩, ⟨35, 1, ⟨#[]⟩, ⟨#[]⟩⟩]).2 = 9 := by decide +kernel
theorem ex_often : (bytesS 3 [userP, userP, ⟨11, 1, ⟨#[]⟩, ⟨#[]⟩⟩, ⟨11, 2, ⟨#[]⟩, ⟨#[]⟩⟩]).2 = 0 := by decide +kernel
theorem ex_subs : (bytesS 8 [⟨11, 1, ⟨#[]⟩, ⟨#[]⟩⟩, ⟨11, 2, ⟨#[]⟩, ⟨#[]⟩⟩]).2 = 9 := by decide +kernel
theorem ex_lone : (bytesS 15 [⟨22, 0, ⟨#[120]⟩, ⟨#[]⟩⟩]).2 = 9 := by decide +kernel
theorem ex_both : (bytesS 15 [⟨22, 0, ⟨#[120]⟩, ⟨#[]⟩⟩, ⟨21, 0, ⟨#[109]⟩, ⟨#[]⟩⟩]).2 = 0 := by decide +kernel
theorem ex_unused : checkE (ruleOf 1) 3 ⟨1, 0, ⟨#[120]⟩, ⟨#[]⟩⟩ = 2 := by decide +kernel
theorem ex_bad : checkE (ruleOf 3) 3 ⟨3, 0, ⟨#[255]⟩, ⟨#[]⟩⟩ = 6 := by decide +kernel
theorem ex_r1 : readP 3 ⟨#[7, 38, 0, 1, 97, 0, 1, 98, 122, 122]⟩ = ([userP], 8, 0) := by decide +kernel
theorem ex_r2 : readP 3 ⟨#[3, 1, 1]⟩ = ([], 0, 3) := by decide +kernel
theorem ex_r3 : readP 3 ⟨#[1, 1]⟩ = ([], 0, 5) := by decide +kernel
theorem ex_r4 : readP 3 ⟨#[2, 17, 0]⟩ = ([], 0, 9) := by decide +kernel
theorem ex_r5 : readP 3 ⟨#[4, 3, 0, 1, 255]⟩ = ([], 0, 6) := by decide +kernel
theorem ex_r6 : readP 4 ⟨#[0, 122]⟩ = ([], 1, 0) := by decide +kernel
theorem ex_get : getP [userP] 38 = some userP := by decide +kernel
theorem ex_shapes : shapeOf 38 = 7 ∧ shapeOf 4 = 0 ∧ mayP 16 24 = true ∧ mayP 3 24 = false ∧ manyP 3 11 = true ∧ manyP 8 11 = false := by decide +kernel
theorem small_good {l : List Pr} (h : ∀ p ∈ l, p.n < 4294967296 ∧ p.text.size ≤ 1000 ∧ p.value.size ≤ 1000) : ∀ p ∈ l, prGood p := fun p hp => by
  obtain ⟨h1, h2, h3⟩ := h p hp
  exact ⟨h1, by omega, by omega⟩

/-- What stands while the examples are gone through: nothing has turned; block u is the user property. -/
structure NI (w : World) (u : Nat) (x : World) : Prop where
  kept : Kept w x
  user : Bk x u 35 #[.int .i64 38, .int .u32 0, .string ⟨#[97]⟩, .string ⟨#[98]⟩]
section
variable {w x y : World} {u : Nat}
theorem NI.below (h : NI w u x) (hb : Below x.heap.size x y) : NI w u y := ⟨h.kept.below hb, h.user.below hb h.user.lt⟩
theorem NI.alloc (h : NI w u x) (o : Obj) : NI w u (x.alloc o) := ⟨h.kept.alloc o, h.user.alloc o⟩
theorem NI.after (h : NI w u x) {o : Obj} (hb : Below (x.alloc o).heap.size (x.alloc o) y) : NI w u y := (h.alloc o).below hb
end
theorem valid_lit (kind : Int) (l : List Pr) (cs : Array Value) (hx : cs.toList = prs l) (hg : ∀ p ∈ l, prGood p) (hl : l.length ≤ 1000) (n : Nat) (hn : l.length = n) (e : Int) (he : (bytesS kind l).2 = e) (w : World) (g c : Nat) (hgw : w.heap.size = g) :
    Calls Try.prog 36 #[.int .i64 kind, .slice (some ⟨g, 0, none⟩) n c] (w.alloc (.cells cs 35)) fun e' w' => e' = .returned (.int .i64 e) ∧ Below (w.alloc (.cells cs 35)).heap.size (w.alloc (.cells cs 35)) w' := by
  subst hn he hgw
  exact validP_n kind l _ rfl hg _ c _ (Rd.lit4 w cs _ l hx) (by omega)

theorem rd_step {x y : World} {k n : Nat} {A : Option Addr} {xs : List Value} (h : Rd x x.heap.size k A n xs) (hb : Below x.heap.size x y) : Rd y y.heap.size k A n xs := (h.below hb).wider hb.size
theorem read_lit (kind : Int) (s t : ByteArray) {r : List Pr × Nat × Int} (hr : readP kind t = r) (hst : s = t) (hs : t.size ≤ 1000) (w : World) :
    Calls Try.prog 42 #[.int .i64 kind, .string s] w fun e w' => ∃ A c, e = .returned (.tuple #[.slice A r.1.length c, .int .i64 r.2.1, .int .i64 r.2.2]) ∧ Rd w' w'.heap.size 4 A r.1.length (prs r.1) ∧ Below w.heap.size w w' := by
  subst hst
  refine (readP_any kind s w (by omega)).mono ?_
  rintro e w' ⟨A, c, h1, _, h2, h3⟩
  rw [hr] at h1 h2
  exact ⟨A, c, h1, h2, h3⟩
set_option maxHeartbeats 8000000 in
set_option maxRecDepth 100000 in
theorem propNames_any (w : World) : Calls Try.prog 12 #[] w fun e w' => e = .returned (.bool true) ∧ Below w.heap.size w w' := by
  go_enter Try.func12, Try.ntmps12
  go_wp2_with fail
  refine (lives5_any _).mono ?_
  rintro e w1 ⟨rfl, hb⟩
  have K1 := Lib.hid (show Kept w w1 from hb); clear hb
  have N1 : Hid (NI w w1.heap.size (w1.alloc (.cells #[.int .i64 38, .int .u32 0, .string ⟨#[97]⟩, .string ⟨#[98]⟩] 35))) := Lib.hid ⟨K1.out.alloc _, Bk.fresh _ _ _⟩
  have N2 := Lib.hid (N1.out.alloc (.cells #[.int .i64 4, .int .u32 0, .string ⟨#[]⟩, .string ⟨#[]⟩, .int .i64 17, .int .u32 0, .string ⟨#[]⟩, .string ⟨#[]⟩, .int .i64 1, .int .u32 2, .string ⟨#[]⟩, .string ⟨#[]⟩, .int .i64 35, .int .u32 0, .string ⟨#[]⟩, .string ⟨#[]⟩, .int .i64 11, .int .u32 0, .string ⟨#[]⟩, .string ⟨#[]⟩, .int .i64 8, .int .u32 0, .string ⟨#[97, 47, 35]⟩, .string ⟨#[]⟩] 35))
  have R2 : Hid (Rd ((w1.alloc (.cells #[.int .i64 38, .int .u32 0, .string ⟨#[97]⟩, .string ⟨#[98]⟩] 35)).alloc (.cells #[.int .i64 4, .int .u32 0, .string ⟨#[]⟩, .string ⟨#[]⟩, .int .i64 17, .int .u32 0, .string ⟨#[]⟩, .string ⟨#[]⟩, .int .i64 1, .int .u32 2, .string ⟨#[]⟩, .string ⟨#[]⟩, .int .i64 35, .int .u32 0, .string ⟨#[]⟩, .string ⟨#[]⟩, .int .i64 11, .int .u32 0, .string ⟨#[]⟩, .string ⟨#[]⟩, .int .i64 8, .int .u32 0, .string ⟨#[97, 47, 35]⟩, .string ⟨#[]⟩] 35)) ((w1.alloc (.cells #[.int .i64 38, .int .u32 0, .string ⟨#[97]⟩, .string ⟨#[98]⟩] 35)).alloc (.cells #[.int .i64 4, .int .u32 0, .string ⟨#[]⟩, .string ⟨#[]⟩, .int .i64 17, .int .u32 0, .string ⟨#[]⟩, .string ⟨#[]⟩, .int .i64 1, .int .u32 2, .string ⟨#[]⟩, .string ⟨#[]⟩, .int .i64 35, .int .u32 0, .string ⟨#[]⟩, .string ⟨#[]⟩, .int .i64 11, .int .u32 0, .string ⟨#[]⟩, .string ⟨#[]⟩, .int .i64 8, .int .u32 0, .string ⟨#[97, 47, 35]⟩, .string ⟨#[]⟩] 35)).heap.size 4 (some ⟨w1.heap.size + 1, 0, none⟩) 6 (prs oddP)) := Lib.hid (by
    have := Rd.lit4 (w1.alloc (.cells #[.int .i64 38, .int .u32 0, .string ⟨#[97]⟩, .string ⟨#[98]⟩] 35)) #[.int .i64 4, .int .u32 0, .string ⟨#[]⟩, .string ⟨#[]⟩, .int .i64 17, .int .u32 0, .string ⟨#[]⟩, .string ⟨#[]⟩, .int .i64 1, .int .u32 2, .string ⟨#[]⟩, .string ⟨#[]⟩, .int .i64 35, .int .u32 0, .string ⟨#[]⟩, .string ⟨#[]⟩, .int .i64 11, .int .u32 0, .string ⟨#[]⟩, .string ⟨#[]⟩, .int .i64 8, .int .u32 0, .string ⟨#[97, 47, 35]⟩, .string ⟨#[]⟩] 35 oddP rfl
    rw [show oddP.length = 6 from rfl] at this
    simpa using this)
  go_wp2_with fail
  go_loopw [3] (fun i wr => ∃ k : Nat, k ≤ 6 ∧ i = .int .i64 k ∧ NI w w1.heap.size wr ∧ Rd wr wr.heap.size 4 (some ⟨w1.heap.size + 1, 0, none⟩) 6 (prs oddP)) (fun i _ => 6 - (intOf i).toNat)
  case atStart => exact ⟨0, by omega, rfl, N2.out, R2.out⟩
  case round =>
    obtain ⟨k, hk, rfl, hni, hrd⟩ := hrel
    have N3 := Lib.hid hni; have R3 := Lib.hid hrd
    clear hni hrd
    by_cases hlt : k < 6
    · obtain ⟨b, o, he, hb, c0, c1, c2, c3⟩ := (show Rd wr wr.heap.size 4 (some ⟨w1.heap.size + 1, 0, none⟩) oddP.length (prs oddP) from R3.out).atP (show k < oddP.length from hlt)
      cases he
      have hc := odd_check _ (List.getElem_mem (show k < oddP.length from hlt))
      have hok : (oddP[k]'(show k < oddP.length from hlt)).Ok := prGood_ok (small_good (by decide) _ (List.getElem_mem (show k < oddP.length from hlt)))
      generalize oddP[k]'(show k < oddP.length from hlt) = p at *
      obtain ⟨id, n, t, v⟩ := p
      simp only [Nat.zero_add] at c0 c1 c2 c3
      have HC := Lib.hid hc; have HO := Lib.hid hok; clear hc hok
      have b1 : (0 : Int) ≤ (k : Int) := by omega
      have b2 : (k : Int) < 6 := by omega
      go_wp2_with fail
      refine (checkP_any 3 ⟨id, n, t, v⟩ HO.out _).mono ?_
      rintro e w2 ⟨rfl, hb2⟩
      rw [show checkE (ruleOf id) 3 ⟨id, n, t, v⟩ = 9 from HC.out]
      have N4 := Lib.hid (N3.out.below hb2); have R4 := Lib.hid (rd_step R3.out hb2); clear hb2 c0 c1 c2 c3
      go_wp2
      go_roundw
      case rel => exact ⟨k + 1, by omega, by go_num, N4.out, R4.out⟩
      case measure => simp [intOf]; omega
    · obtain rfl : k = 6 := by omega
      clear R2 N2 N1 K1 R3
      go_wp2_with fail
      refine (valid_lit 3 [⟨35, 1, ⟨#[]⟩, ⟨#[]⟩⟩, ⟨35, 1, ⟨#[]⟩, ⟨#[]⟩⟩] _ rfl (small_good (by decide)) (by decide) 2 rfl 9 ex_twice _ _ 2 rfl).mono ?_
      rintro e w2 ⟨rfl, hb⟩
      have N4 := Lib.hid (N3.out.after hb); clear hb N3
      obtain ⟨⟨u0, u1, u2, u3⟩, -⟩ := N4.out.user.four
      go_wp2_with fail
      refine (valid_lit 3 [userP, userP, ⟨11, 1, ⟨#[]⟩, ⟨#[]⟩⟩, ⟨11, 2, ⟨#[]⟩, ⟨#[]⟩⟩] _ rfl (small_good (by decide)) (by decide) 4 rfl 0 ex_often _ _ 4 rfl).mono ?_
      rintro e w3 ⟨rfl, hb⟩
      have N5 := Lib.hid (N4.out.after hb); clear hb N4 u0 u1 u2 u3
      go_wp2_with fail
      refine (valid_lit 8 [⟨11, 1, ⟨#[]⟩, ⟨#[]⟩⟩, ⟨11, 2, ⟨#[]⟩, ⟨#[]⟩⟩] _ rfl (small_good (by decide)) (by decide) 2 rfl 9 ex_subs _ _ 2 rfl).mono ?_
      rintro e w4 ⟨rfl, hb⟩
      have N6 := Lib.hid (N5.out.after hb); clear hb N5
      go_wp2_with fail
      refine (valid_lit 15 [⟨22, 0, ⟨#[120]⟩, ⟨#[]⟩⟩] _ rfl (small_good (by decide)) (by decide) 1 rfl 9 ex_lone _ _ 1 rfl).mono ?_
      rintro e w5 ⟨rfl, hb⟩
      have N7 := Lib.hid (N6.out.after hb); clear hb N6
      go_wp2_with fail
      refine (valid_lit 15 [⟨22, 0, ⟨#[120]⟩, ⟨#[]⟩⟩, ⟨21, 0, ⟨#[109]⟩, ⟨#[]⟩⟩] _ rfl (small_good (by decide)) (by decide) 2 rfl 0 ex_both _ _ 2 rfl).mono ?_
      rintro e w6 ⟨rfl, hb⟩
      have N8 := Lib.hid (N7.out.after hb); clear hb N7
      go_wp2_with fail
      refine (checkP_any 3 ⟨1, 0, ⟨#[120]⟩, ⟨#[]⟩⟩ (by refine ⟨?_, ?_, ?_⟩ <;> decide) _).mono ?_
      rintro e w7 ⟨rfl, hb⟩
      rw [show checkE (ruleOf (⟨1, 0, ⟨#[120]⟩, ⟨#[]⟩⟩ : Pr).id) 3 ⟨1, 0, ⟨#[120]⟩, ⟨#[]⟩⟩ = 2 from ex_unused]
      have N9 := Lib.hid (N8.out.below hb); clear hb N8
      go_wp2_with fail
      refine (checkP_any 3 ⟨3, 0, ⟨#[255]⟩, ⟨#[]⟩⟩ (by refine ⟨?_, ?_, ?_⟩ <;> decide) _).mono ?_
      rintro e w8 ⟨rfl, hb⟩
      rw [show checkE (ruleOf (⟨3, 0, ⟨#[255]⟩, ⟨#[]⟩⟩ : Pr).id) 3 ⟨3, 0, ⟨#[255]⟩, ⟨#[]⟩⟩ = 6 from ex_bad]
      have N10 := Lib.hid (N9.out.below hb); clear hb N9
      go_wp2_with fail
      refine (read_lit 3 _ _ ex_r1 rfl (by decide) _).mono ?_
      rintro e w9 ⟨A0, c0, rfl, hr0, hb⟩
      have N11 := Lib.hid (N10.out.below hb); have RR0 := Lib.hid hr0; clear hb N10 hr0
      simp only
      go_wp2_with fail
      refine (read_lit 3 _ _ ex_r2 rfl (by decide) _).mono ?_
      rintro e w10 ⟨A1, c1, rfl, -, hb⟩
      have N12 := Lib.hid (N11.out.below hb); have RR1 := Lib.hid (rd_step RR0.out hb); clear hb N11 RR0
      simp only
      go_wp2_with fail
      refine (read_lit 3 _ _ ex_r3 rfl (by decide) _).mono ?_
      rintro e w11 ⟨A2, c2, rfl, -, hb⟩
      have N13 := Lib.hid (N12.out.below hb); have RR2 := Lib.hid (rd_step RR1.out hb); clear hb N12 RR1
      simp only
      go_wp2_with fail
      refine (read_lit 3 _ _ ex_r4 rfl (by decide) _).mono ?_
      rintro e w12 ⟨A3, c3, rfl, -, hb⟩
      have N14 := Lib.hid (N13.out.below hb); have RR3 := Lib.hid (rd_step RR2.out hb); clear hb N13 RR2
      simp only
      go_wp2_with fail
      refine (read_lit 3 _ _ ex_r5 rfl (by decide) _).mono ?_
      rintro e w13 ⟨A4, c4, rfl, -, hb⟩
      have N15 := Lib.hid (N14.out.below hb); have RR4 := Lib.hid (rd_step RR3.out hb); clear hb N14 RR3
      simp only
      go_wp2_with fail
      refine (read_lit 4 _ _ ex_r6 rfl (by decide) _).mono ?_
      rintro e w14 ⟨A5, c5, rfl, -, hb⟩
      have N16 := Lib.hid (N15.out.below hb); have RR5 := Lib.hid (rd_step RR4.out hb); clear hb N15 RR4
      simp only
      go_wp2_with fail
      refine (getP_any 38 [userP] A0 c0 _ RR5.out (by decide)).mono ?_
      rintro e w15 ⟨rfl, hb⟩
      rw [show getR [userP] 38 = userP by (unfold getR; rw [ex_get]; rfl), ex_get]
      have N17 := Lib.hid (N16.out.below hb); have RR6 := Lib.hid (rd_step RR5.out hb); clear hb N16 RR5
      simp only [Pr.val, userP, Option.isSome_some]
      have HP := Lib.hid (Bk.fresh w15 35 #[.int .i64 38, .int .u32 0, .string ⟨#[97]⟩, .string ⟨#[98]⟩])
      have N18 := Lib.hid (N17.out.alloc (.cells #[.int .i64 38, .int .u32 0, .string ⟨#[97]⟩, .string ⟨#[98]⟩] 35))
      have RR7 := Lib.hid (rd_step RR6.out ((Below.refl _ _).alloc (Nat.le_refl _) (.cells #[.int .i64 38, .int .u32 0, .string ⟨#[97]⟩, .string ⟨#[98]⟩] 35)))
      obtain ⟨⟨u0, u1, u2, u3⟩, -⟩ := N17.out.user.four
      have hul := N17.out.user.lt
      have hgt := guard_prop
      have hee : ∀ W, (binOp .eql 35 (.agg #[.int .i64 38, .int .u32 0, .string ⟨#[97]⟩, .string ⟨#[98]⟩]) (.agg #[.int .i64 38, .int .u32 0, .string ⟨#[97]⟩, .string ⟨#[98]⟩])).run Try.prog W = .ok (.bool true) W := fun W => by
        have := eql_prop userP userP W
        rw [decide_eq_true rfl] at this
        exact this
      have HEE := Lib.hid hee; clear hee
      go_wp2_with fail
      have RR8 := Lib.hid (rd_step RR7.out ((Below.refl _ _).alloc (Nat.le_refl _) (.cells #[.int .i64 38, .int .u32 0, .string ⟨#[97]⟩, .string ⟨#[98]⟩] 35)))
      have RL : Hid (Rd ((w15.alloc (.cells #[.int .i64 38, .int .u32 0, .string ⟨#[97]⟩, .string ⟨#[98]⟩] 35)).alloc (.cells #[.int .i64 38, .int .u32 0, .string ⟨#[97]⟩, .string ⟨#[98]⟩] 35)) ((w15.alloc (.cells #[.int .i64 38, .int .u32 0, .string ⟨#[97]⟩, .string ⟨#[98]⟩] 35)).alloc (.cells #[.int .i64 38, .int .u32 0, .string ⟨#[97]⟩, .string ⟨#[98]⟩] 35)).heap.size 4 (some ⟨w15.heap.size + 1, 0, none⟩) 1 (prs [userP])) := Lib.hid (by
        have := Rd.lit4 (w15.alloc (.cells #[.int .i64 38, .int .u32 0, .string ⟨#[97]⟩, .string ⟨#[98]⟩] 35)) #[.int .i64 38, .int .u32 0, .string ⟨#[97]⟩, .string ⟨#[98]⟩] 35 [userP] rfl
        rw [show [userP].length = 1 from rfl] at this
        simpa using this)
      refine (sameKit_any A0 _ 1 1 c0 1 [userP] [userP] _ rfl rfl RR8.out RL.out (by decide) (by decide)).mono ?_
      rintro e w16 ⟨rfl, hb⟩
      rw [decide_eq_true rfl]
      have N19 := Lib.hid (N18.out.after hb)
      have HP2 := Lib.hid ((HP.out.alloc (.cells #[.int .i64 38, .int .u32 0, .string ⟨#[97]⟩, .string ⟨#[98]⟩] 35)).below hb (by simp; omega))
      clear hb u0 u1 u2 u3 RR6 RR7 RR8 RL N17 N18 HP
      obtain ⟨⟨u0, u1, u2, u3⟩, -⟩ := N19.out.user.four
      obtain ⟨⟨v0, v1, v2, v3⟩, -⟩ := HP2.out.four
      have hee := HEE.out
      go_wp2_with fail
      refine (shape_any 38 _).mono ?_
      rintro e w17 ⟨rfl, hb⟩
      rw [ex_shapes.1]
      have N20 := Lib.hid (N19.out.below hb); clear hb N19 u0 u1 u2 u3 v0 v1 v2 v3 hee HP2
      go_wp2_with fail
      refine (shape_any 4 _).mono ?_
      rintro e w18 ⟨rfl, hb⟩
      rw [ex_shapes.2.1]
      have N21 := Lib.hid (N20.out.below hb); clear hb N20
      go_wp2_with fail
      refine (mayP_any 16 24 _).mono ?_
      rintro e w19 ⟨rfl, hb⟩
      rw [ex_shapes.2.2.1]
      have N22 := Lib.hid (N21.out.below hb); clear hb N21
      go_wp2_with fail
      refine (mayP_any 3 24 _).mono ?_
      rintro e w20 ⟨rfl, hb⟩
      rw [ex_shapes.2.2.2.1]
      have N23 := Lib.hid (N22.out.below hb); clear hb N22
      go_wp2_with fail
      refine (manyP_any 3 11 _).mono ?_
      rintro e w21 ⟨rfl, hb⟩
      rw [ex_shapes.2.2.2.2.1]
      have N24 := Lib.hid (N23.out.below hb); clear hb N23
      go_wp2_with fail
      refine (manyP_any 8 11 _).mono ?_
      rintro e w22 ⟨rfl, hb⟩
      rw [ex_shapes.2.2.2.2.2]
      have N25 := Lib.hid (N24.out.below hb); clear hb N24
      go_wp2
      go_ret
      exact ⟨rfl, N25.out.kept⟩
end Go.Proofs.Ytcokgfmlkanoiaa
