/-
  The reference's registry, walked: put.
-/
import Derived.Test.YtjbpafkdbfbdlaaGreatRxA

namespace Go.Proofs.YtjbpafkdbfbdlaaGreat
open Go.RowKit Go.Maps Go.WideShapes
/-- A row of topics that is built in a world that has grown. -/
structure PuI (W : World) (out : List Tp) (v : Value) (x : World) : Prop where
  row : x.ownsRow W.heap.size 44 3 v out.length (tpCs out)
  below : Below W.heap.size W x
theorem PuI.start (W : World) : PuI W [] (.slice none 0 0) W := ⟨⟨rfl, .inl ⟨rfl, rfl⟩⟩, Below.refl _ _⟩
theorem PuI.drew {W x : World} {out : List Tp} {v : Value} (h : PuI W out v x) (k : Nat) : PuI W out v (x.drewN k) := ⟨h.row, below_drawn h.below k⟩
theorem PuI.alloc {W x : World} {out : List Tp} {v : Value} (h : PuI W out v x) (o : Obj) : PuI W out v (x.alloc o) := ⟨h.row.alloc o, h.below.alloc h.below.size o⟩
theorem PuI.app {W y z : World} {out : List Tp} {v v' : Value} {t : Tp} (h : PuI W out v y) (ho : z.ownsRow W.heap.size 44 3 v' (out.length + 1) (tpCs out ++ [.int .i64 (t.id : Int), .string t.name, .bool t.fixed])) (hg : y.grownBy z v.ownBlock) : PuI W (out ++ [t]) v' z := by
  refine ⟨?_, below_app h.below hg h.below.size fun g hg => (h.row.lt g hg).1⟩
  rw [tpCs_app, List.length_append]
  exact ho
/-- The state of put's loop. -/
def PuS (W : World) (T : List Tp) (t : Tp) (s5 s6 s7 : Value) (x : World) : Prop :=
  ∃ (k : Nat) (b : Bool) (out : List Tp) (A : Option Addr) (c : Nat), s7 = .int .i64 (k : Int) ∧ s6 = .bool b ∧ s5 = .slice A out.length c ∧ k ≤ T.length ∧ out.length ≤ k + b.toNat ∧ PuI W out (.slice A out.length c) x ∧ out ++ putL' t b (T.drop k) = tpIns t T
set_option maxRecDepth 10000 in
set_option maxHeartbeats 4000000 in
theorem xput_any (A : Option Addr) (cp : Nat) (T : List Tp) (t : Tp) (w : World) (hl : Rd w w.heap.size 3 A T.length (tpCs T)) (hn : T.length ≤ 100000000) :
    Calls Tryz.prog 36 #[.slice A T.length cp, .agg #[.int .i64 (t.id : Int), .string t.name, .bool t.fixed]] w fun e w' => ∃ v, e = .returned v ∧ w'.ownsRow w.heap.size 44 3 v (tpIns t T).length (tpCs (tpIns t T)) ∧ Below w.heap.size w w' := by
  obtain ⟨W, hW⟩ : ∃ W, w.alloc (.cells #[.int .i64 (t.id : Int), .string t.name, .bool t.fixed] 44) = W := ⟨_, rfl⟩
  have hX : Bk W w.heap.size 44 #[.int .i64 (t.id : Int), .string t.name, .bool t.fixed] := by rw [← hW]; exact Bk.fresh w _ _
  have hB : Below w.heap.size w W := by rw [← hW]; exact (Below.refl _ w).alloc (Nat.le_refl _) _
  have HL := Lib.hid ((hl.below hB).wider hB.size)
  have HX := Lib.hid hX
  have HB := Lib.hid hB
  have HW := Lib.hid hW
  have HNT := Lib.hid hn
  have HS : Hid (PuS W T t (.slice none 0 0) (.bool false) (.int .i64 (0 : Nat)) W) := Lib.hid ⟨0, false, [], none, 0, rfl, rfl, rfl, Nat.zero_le _, Nat.zero_le _, PuI.start W, putL'_false⟩
  clear hl hX hB hn
  generalize hN : T.length = n at HL
  have HN := Lib.hid hN
  have hn : (n : Int) ≤ 100000000 := by have := HNT.out; omega
  clear hN
  go_enter Tryz.func36, Tryz.ntmps36
  go_wp2
  clear hW
  go_loopw [5, 6, 7] (fun s5 s6 s7 wr => Hid (PuS W T t s5 s6 s7 wr)) (fun _ _ s7 _ => n - (intOf s7).toNat)
  case atStart => exact HS
  case round =>
    clear HS
    obtain ⟨k, b, out, A5, c5, rfl, rfl, rfl, hk, ho, hI, hp⟩ := hrel.out
    rw [HN.out] at hk
    have b0 : (0 : Int) ≤ (k : Int) := by omega
    have HI := Lib.hid hI
    have HP := Lib.hid hp
    have HO := Lib.hid ho
    have hb1 : Hid (out.length ≤ 100000001) := Lib.hid (by have := HNT.out; have := HN.out; cases b <;> simp at ho <;> omega)
    clear hrel hI hp ho
    by_cases hlt : k < n
    · have hlt' : k < T.length := by rw [HN.out]; exact hlt
      have b1 : (k : Int) < (n : Int) := by omega
      obtain ⟨bA, oA, rfl, hb, e0, e1, e2⟩ := ((show Rd W W.heap.size 3 A T.length (tpCs T) by rw [HN.out]; exact HL.out).below HI.out.below).atP hlt'
      have hbx := (HX.out.below HI.out.below HX.out.lt).three.1
      have hdr := Lib.hid (List.drop_eq_getElem_cons hlt')
      generalize hx : T[k] = x at e0 e1 e2 hdr
      have HXE := Lib.hid hx
      clear hx
      cases b with
      | true =>
        have HP' : Hid (out ++ [x] ++ putL' t true (T.drop (k + 1)) = tpIns t T) := Lib.hid (by rw [← HP.out, hdr.out, putL', if_neg (by simp), Bool.true_or]; simp)
        go_wp2
        go_quiet (fail)
        go_wp2_with (at_builtin; (refine wpList_app _ rfl (.tmp 30) (.tmp 35) 45 rfl W.heap.size 44 _ 3 32 Tryz.underlying45 info_tp rfl (by decide) _ out.length _ rfl ((HI.out.drew _).alloc _).row _ _ 1 1 [.int .i64 (x.id : Int), .string x.name, .bool x.fixed] rfl (Rd.lit _ _ _ rfl (Nat.lt_succ_self _) rfl) (by intro u hu; simp at hu; rcases hu with rfl | rfl | rfl <;> rfl) (by have := hb1.out; unfold maxLen; omega) (by have := hb1.out; omega) ((HI.out.drew _).alloc _).below.size ?_; intro v1 w1 hown1 hg1 hat1; obtain ⟨A1, c1, rfl, -, -⟩ := own_rd hown1))
        exact ⟨Lib.hid ⟨k + 1, true, out ++ [x], A1, c1, by simp, rfl, by simp, by have := HN.out; omega, by have := HO.out; simp at this ⊢; omega, by rw [List.length_append]; exact PuI.app ((HI.out.drew _).alloc _) hown1 hg1, HP'.out⟩, by simp [intOf]; omega⟩
      | false =>
        by_cases htx : t.id < x.id
        · have HP' : Hid (out ++ [t] ++ [x] ++ putL' t true (T.drop (k + 1)) = tpIns t T) := Lib.hid (by rw [← HP.out, hdr.out, putL', if_pos ⟨rfl, htx⟩, decide_eq_true htx, Bool.or_true]; simp)
          have hti : (t.id : Int) < (x.id : Int) := by omega
          clear htx
          go_wp2
          go_quiet (fail)
          go_wp2_with (first | (at_builtin; (refine wpList_app _ rfl (.tmp 26) (.tmp 28) 45 rfl W.heap.size 44 _ 3 32 Tryz.underlying45 info_tp rfl (by decide) _ out.length _ rfl ((HI.out.drew _).alloc _).row _ _ 1 1 [.int .i64 (t.id : Int), .string t.name, .bool t.fixed] rfl (Rd.lit _ _ _ rfl (Nat.lt_succ_self _) rfl) (by intro u hu; simp at hu; rcases hu with rfl | rfl | rfl <;> rfl) (by have := hb1.out; unfold maxLen; omega) (by have := hb1.out; omega) ((HI.out.drew _).alloc _).below.size ?_; intro v1 w1 hown1 hg1 hat1; obtain ⟨A1, c1, rfl, -, -⟩ := own_rd hown1; have HI1 : Hid (PuI W (out ++ [t]) (.slice A1 (out.length + 1) c1) w1) := Lib.hid (PuI.app ((HI.out.drew _).alloc _) hown1 hg1); have HR1 := Lib.hid hown1; have HL1 := Lib.hid ((show Rd W W.heap.size 3 (some ⟨bA, oA, none⟩) T.length (tpCs T) by rw [HN.out]; exact HL.out).below HI1.out.below); obtain ⟨bB, oB, eB, -, f0, f1, f2⟩ := HL1.out.atP hlt'; cases eB; rw [HXE.out] at f0 f1 f2)) | (at_builtin; (refine wpList_app _ rfl (.tmp 30) (.tmp 35) 45 rfl W.heap.size 44 _ 3 32 Tryz.underlying45 info_tp rfl (by decide) _ (out.length + 1) _ rfl (HR1.out.alloc _) _ _ 1 1 [.int .i64 (x.id : Int), .string x.name, .bool x.fixed] rfl (Rd.lit _ _ _ rfl (Nat.lt_succ_self _) rfl) (by intro u hu; simp at hu; rcases hu with rfl | rfl | rfl <;> rfl) (by have := hb1.out; unfold maxLen; omega) (by have := hb1.out; omega) (HI1.out.alloc _).below.size ?_; intro v2 w2 hown2 hg2 hat2; obtain ⟨A2, c2, rfl, -, -⟩ := own_rd hown2)))
          exact ⟨Lib.hid ⟨k + 1, true, out ++ [t] ++ [x], A2, c2, by simp, rfl, by simp, by have := HN.out; omega, by have := HO.out; simp at this ⊢; omega, by rw [List.length_append, List.length_append]; exact PuI.app (HI1.out.alloc _) (by rw [tpCs_app, List.length_append]; exact hown2) hg2, HP'.out⟩, by simp [intOf]; omega⟩
        · have HP' : Hid (out ++ [x] ++ putL' t false (T.drop (k + 1)) = tpIns t T) := Lib.hid (by rw [← HP.out, hdr.out, putL', if_neg (fun h => htx h.2), decide_eq_false htx, Bool.or_false]; simp)
          have hti : ¬ (t.id : Int) < (x.id : Int) := by omega
          clear htx
          go_wp2
          go_quiet (fail)
          go_wp2_with (at_builtin; (refine wpList_app _ rfl (.tmp 30) (.tmp 35) 45 rfl W.heap.size 44 _ 3 32 Tryz.underlying45 info_tp rfl (by decide) _ out.length _ rfl ((HI.out.drew _).alloc _).row _ _ 1 1 [.int .i64 (x.id : Int), .string x.name, .bool x.fixed] rfl (Rd.lit _ _ _ rfl (Nat.lt_succ_self _) rfl) (by intro u hu; simp at hu; rcases hu with rfl | rfl | rfl <;> rfl) (by have := hb1.out; unfold maxLen; omega) (by have := hb1.out; omega) ((HI.out.drew _).alloc _).below.size ?_; intro v1 w1 hown1 hg1 hat1; obtain ⟨A1, c1, rfl, -, -⟩ := own_rd hown1))
          exact ⟨Lib.hid ⟨k + 1, false, out ++ [x], A1, c1, by simp, rfl, by simp, by have := HN.out; omega, by have := HO.out; simp at this ⊢; omega, by rw [List.length_append]; exact PuI.app ((HI.out.drew _).alloc _) hown1 hg1, HP'.out⟩, by simp [intOf]; omega⟩
    · have b2 : ¬ (k : Int) < (n : Int) := by omega
      have hkT : Hid (k = T.length) := Lib.hid (by have := HN.out; omega)
      have hbx := (HX.out.below HI.out.below HX.out.lt).three.1
      cases b with
      | true =>
        have HPt : Hid (out = tpIns t T) := Lib.hid (by rw [← HP.out, hkT.out, List.drop_length]; simp [putL'])
        go_wp2
        go_ret
        rw [← HPt.out]
        exact ⟨_, rfl, own_wider HI.out.row HB.out.size, HB.out.trans (HI.out.below.mono HB.out.size)⟩
      | false =>
        have HPf : Hid (out ++ [t] = tpIns t T) := Lib.hid (by rw [← HP.out, hkT.out, List.drop_length]; simp [putL'])
        go_wp2_with (at_builtin; (refine wpList_app _ rfl (.tmp 39) (.tmp 41) 45 rfl W.heap.size 44 _ 3 32 Tryz.underlying45 info_tp rfl (by decide) _ out.length _ rfl (HI.out.alloc _).row _ _ 1 1 [.int .i64 (t.id : Int), .string t.name, .bool t.fixed] rfl (Rd.lit _ _ _ rfl (Nat.lt_succ_self _) rfl) (by intro u hu; simp at hu; rcases hu with rfl | rfl | rfl <;> rfl) (by have := hb1.out; unfold maxLen; omega) (by have := hb1.out; omega) (HI.out.alloc _).below.size ?_; intro v1 w1 hown1 hg1 hat1; obtain ⟨A1, c1, rfl, -, -⟩ := own_rd hown1))
        go_ret
        rw [← HPf.out, List.length_append]
        have hI1 := PuI.app (HI.out.alloc _) hown1 hg1
        exact ⟨_, rfl, by rw [tpCs_app]; exact own_wider hown1 HB.out.size, HB.out.trans (hI1.below.mono HB.out.size)⟩
end Go.Proofs.YtjbpafkdbfbdlaaGreat
