/-
  The registry, walked: topics compared; what is asked of it: Name, ID, Fixed, Len.
-/
import Derived.Test.YtjbpafkdbfbdlaaRwB
import Derived.Test.YtjbpafkdbfbdlaaRegS
import Derived.Laws.StructEq

namespace Go.Proofs.Ytjbpafkdbfbdlaa
open Go.RowKit Go.Maps Go.WideShapes
instance : DecidableEq Tp := fun a b => decidable_of_iff (a.id = b.id ∧ a.name = b.name ∧ a.fixed = b.fixed) (by cases a; cases b; simp)
theorem tp_eq_iff (a b : Tp) : a = b ↔ a.id = b.id ∧ a.name = b.name ∧ a.fixed = b.fixed := by cases a; cases b; simp
theorem guard_tp : Try.prog.eqGuardType Try.prog.depth 39 = false := by kernel_rfl
theorem tp_toList (a b : ByteArray) : a.toList = b.toList ↔ a = b := by
  rw [ByteArray.toList_eq, ByteArray.toList_eq]
  exact ⟨fun h => nm_ext h, fun h => by rw [h]⟩
theorem eql_tp (p q : Tp) (w : World) : (binOp .eql 39 (.agg #[.int .i64 (p.id : Int), .string p.name, .bool p.fixed]) (.agg #[.int .i64 (q.id : Int), .string q.name, .bool q.fixed])).run Try.prog w = .ok (.bool (decide (p = q))) w := by
  have u1 := Try.underlying3
  have u2 := Try.underlying4
  have u3 := Try.underlying9
  have hS : Try.prog.underlying 39 = some (.struct (Try.prog.fieldsOf 39)) := by kernel_rfl
  have hp : Try.prog.stoodInHeld 39 = false := by kernel_rfl
  rw [run_eql_struct, show (10000 : Nat) = 9999 + 1 from rfl, run_equalIn_agg w 9999 39 _ _ hS hp]
  simp only [Program.fieldsOf, Try.underlying39]
  go_simp
  by_cases h1 : p.id = q.id <;> by_cases h3 : p.name = q.name <;> by_cases h4 : p.fixed = q.fixed <;> simp [tp_eq_iff, h1, h3, h4, tp_toList] <;> omega
theorem neq_tp (p q : Tp) (w : World) : (binOp .neq 39 (.agg #[.int .i64 (p.id : Int), .string p.name, .bool p.fixed]) (.agg #[.int .i64 (q.id : Int), .string q.name, .bool q.fixed])).run Try.prog w = .ok (.bool (!decide (p = q))) w := by
  have h := eql_tp p q w
  rw [run_eql_struct] at h
  rw [run_neq_struct]
  generalize (Op.equalIn 10000 _ _ _).run Try.prog w = r at h ⊢
  cases r with
  | ok b w' => simp [Result.andThen] at h ⊢; obtain ⟨rfl, rfl⟩ := h; simp
  | halt x w' => simp [Result.andThen] at h
theorem field_name (a : Int) (b : ByteArray) (c : Bool) (w : World) : Sem.run Try.prog (Instr.field 39 (.agg #[.int .i64 a, .string b, .bool c]) 1) w = .ok (.string b) w := by kernel_rfl
theorem field_fixed (a : Int) (b : ByteArray) (c : Bool) (w : World) : Sem.run Try.prog (Instr.field 39 (.agg #[.int .i64 a, .string b, .bool c]) 2) w = .ok (.bool c) w := by kernel_rfl
theorem RgSt.drew {w : World} {F : Nat → Prop} {gp K : Nat} {L : Rg} (h : RgSt w F gp L K) (n : Nat) : RgSt (w.drewN n) F gp L K := h.keep (Nat.le_refl _) fun _ _ => rfl
set_option maxRecDepth 10000 in
set_option maxHeartbeats 1000000 in
theorem rname_any {w : World} {F : Nat → Prop} {gp K : Nat} {L : Rg} (h : RgSt w F gp L K) (c : ByteArray) (hc : c.size ≤ maxLen) (i : Int) (hi : (Lit.int .i64 i).wf = true) :
    Calls Try.prog 15 #[.pointer (some ⟨gp, 0, none⟩), .string c, .int .i64 i] w fun e w' => e = .returned (.tuple #[.string (rfName L c i).1, .int .i64 (rfName L c i).2]) ∧ Below w.heap.size w w' := by
  have ho := of_st h c hc
  clear h
  go_enter Try.func15, Try.ntmps15
  go_wp2_with fail
  refine ho.mono ?_
  rintro e w1 ⟨o, rfl, rfl, hx⟩
  rcases hx with ⟨rfl, hL⟩ | ⟨g, Fc, cl, bi, ba, v, D, rfl, hC, ok, hall, hne, hlen, hF⟩
  · have HL : Hid (rfName L c i = (.empty, 11)) := Lib.hid (by unfold rfName; rw [hL]; first | done | rfl)
    clear hL
    go_wp2
    go_ret2
    rw [HL.out]
    exact ⟨rfl, Below.refl _ _⟩
  · have ch := chas_any hC i hi
    have hC' := fun w' (hb : Below w.heap.size w w') => (hC.keep _ _ _ _ hb.size fun i hi => hb.block i (hC.lt i hi))
    cases ht : tpAt cl.all i with
    | none =>
      rw [ht] at ch
      simp only [Option.isSome_none] at ch
      have HX : Hid (rfName L c i = (.empty, 11)) := Lib.hid (by unfold rfName; rw [← hall, ht])
      clear hC hC' ht
      go_wp2_with fail
      refine ch.mono ?_
      rintro e w1 ⟨rfl, hb⟩
      have HB := Lib.hid hb
      clear hb
      go_wp2
      go_ret2
      exact ⟨by rw [HX.out]; first | done | rfl, HB.out⟩
    | some t =>
      rw [ht] at ch
      simp only [Option.isSome_some] at ch
      have HT := Lib.hid ht
      have HX : Hid (rfName L c i = (t.name, 0)) := Lib.hid (by unfold rfName; rw [← hall, ht])
      clear ht
      go_wp2_with fail
      refine ch.mono ?_
      rintro e w1 ⟨rfl, hb⟩
      have hc4 := (hC' w1 hb).blk.client
      have hl := (look_all (hC' w1 hb).all hi).2
      rw [HT.out] at hl
      simp only [Option.getD_some] at hl
      unfold tpV at hl
      have HB := Lib.hid hb
      have hfn := field_name (t.id : Int) t.name t.fixed w1
      clear hb hC hC'
      go_wp2
      go_ret2
      exact ⟨by rw [HX.out]; first | done | rfl, HB.out⟩
theorem rname_nil (w : World) (c : ByteArray) (i : Int) : Calls Try.prog 15 #[.pointer none, .string c, .int .i64 i] w fun e w' => e = .returned (.tuple #[.string .empty, .int .i64 1]) ∧ w = w' := by
  go_enter Try.func15, Try.ntmps15
  go_wp2
  go_ret2
  exact ⟨rfl, rfl⟩
set_option maxRecDepth 10000 in
set_option maxHeartbeats 1000000 in
theorem rid_any {w : World} {F : Nat → Prop} {gp K : Nat} {L : Rg} (h : RgSt w F gp L K) (c n : ByteArray) (hc : c.size ≤ maxLen) (hn : n.size ≤ maxLen) :
    Calls Try.prog 16 #[.pointer (some ⟨gp, 0, none⟩), .string c, .string n] w fun e w' => e = .returned (.tuple #[.int .i64 (rfID L c n).1, .int .i64 (rfID L c n).2]) ∧ w = w' := by
  have ho := of_st h c hc
  clear h
  go_enter Try.func16, Try.ntmps16
  go_wp2_with fail
  refine ho.mono ?_
  rintro e w1 ⟨o, rfl, rfl, hx⟩
  rcases hx with ⟨rfl, hL⟩ | ⟨g, Fc, cl, bi, ba, v, D, rfl, hC, ok, hall, hne, hlen, hF⟩
  · have HL : Hid (rfID L c n = (0, 11)) := Lib.hid (by unfold rfID; rw [hL]; first | done | rfl)
    clear hL
    go_wp2
    go_ret2
    rw [HL.out]
    exact ⟨rfl, rfl⟩
  · have hc4 := hC.blk.client
    have hl := look_ids hC.ids hC.idd hn
    clear hC
    cases ht : tpOf cl.all n with
    | none =>
      rw [ht] at hl
      simp only [Option.getD_none, Option.isSome_none] at hl
      have HX : Hid (rfID L c n = (0, 11)) := Lib.hid (by unfold rfID; rw [← hall, ht])
      clear ht
      go_wp2
      go_ret2
      exact ⟨by rw [HX.out]; first | done | rfl, rfl⟩
    | some t =>
      rw [ht] at hl
      simp only [Option.getD_some, Option.isSome_some] at hl
      have HX : Hid (rfID L c n = ((t.id : Int), 0)) := Lib.hid (by unfold rfID; rw [← hall, ht])
      clear ht
      go_wp2
      go_ret2
      exact ⟨by rw [HX.out]; first | done | rfl, rfl⟩
theorem rid_nil (w : World) (c n : ByteArray) : Calls Try.prog 16 #[.pointer none, .string c, .string n] w fun e w' => e = .returned (.tuple #[.int .i64 0, .int .i64 1]) ∧ w = w' := by
  go_enter Try.func16, Try.ntmps16
  go_wp2
  go_ret2
  exact ⟨rfl, rfl⟩
set_option maxRecDepth 10000 in
theorem rfix_any {w : World} {F : Nat → Prop} {gp K : Nat} {L : Rg} (h : RgSt w F gp L K) (c : ByteArray) (hc : c.size ≤ maxLen) (i : Int) (hi : (Lit.int .i64 i).wf = true) :
    Calls Try.prog 17 #[.pointer (some ⟨gp, 0, none⟩), .string c, .int .i64 i] w fun e w' => e = .returned (.bool (rfFix L c i)) ∧ w = w' := by
  have ho := of_st h c hc
  clear h
  go_enter Try.func17, Try.ntmps17
  go_wp2_with fail
  refine ho.mono ?_
  rintro e w1 ⟨o, rfl, rfl, hx⟩
  rcases hx with ⟨rfl, hL⟩ | ⟨g, Fc, cl, bi, ba, v, D, rfl, hC, ok, hall, hne, hlen, hF⟩
  · have HL : Hid (rfFix L c i = false) := Lib.hid (by unfold rfFix; rw [hL]; first | done | rfl)
    clear hL
    go_wp2
    go_ret
    rw [HL.out]
    exact ⟨rfl, rfl⟩
  · have hc4 := hC.blk.client
    have hl := (look_all hC.all hi).2
    unfold tpV at hl
    have HX : Hid (rfFix L c i = ((tpAt cl.all i).getD tp0).fixed) := Lib.hid (by unfold rfFix; rw [← hall]; cases tpAt cl.all i <;> rfl)
    have hff := field_fixed (((tpAt cl.all i).getD tp0).id : Int) ((tpAt cl.all i).getD tp0).name ((tpAt cl.all i).getD tp0).fixed w
    clear hC hall
    go_wp2
    go_ret
    exact ⟨by rw [HX.out]; first | done | rfl, rfl⟩
theorem rfix_nil (w : World) (c : ByteArray) (i : Int) : Calls Try.prog 17 #[.pointer none, .string c, .int .i64 i] w fun e w' => e = .returned (.bool false) ∧ w = w' := by
  have ho := of_nil w c
  go_enter Try.func17, Try.ntmps17
  go_wp2_with fail
  refine ho.mono ?_
  rintro e w1 ⟨rfl, rfl⟩
  go_wp2
  go_ret
  exact ⟨rfl, rfl⟩
set_option maxRecDepth 10000 in
theorem rlen_any {w : World} {F : Nat → Prop} {gp K : Nat} {L : Rg} (h : RgSt w F gp L K) (c : ByteArray) (hc : c.size ≤ maxLen) :
    Calls Try.prog 11 #[.pointer (some ⟨gp, 0, none⟩), .string c] w fun e w' => e = .returned (.int .i64 ((rgT L c).length : Int)) ∧ w = w' := by
  have ho := of_st h c hc
  clear h
  go_enter Try.func11, Try.ntmps11
  go_wp2_with fail
  refine ho.mono ?_
  rintro e w1 ⟨o, rfl, rfl, hx⟩
  rcases hx with ⟨rfl, hL⟩ | ⟨g, Fc, cl, bi, ba, v, D, rfl, hC, ok, hall, hne, hlen, hF⟩
  · have HL := Lib.hid hL
    clear hL
    go_wp2
    go_ret
    rw [HL.out]
    exact ⟨rfl, rfl⟩
  · have hc4 := hC.blk.client
    have hl := hC.all.len Try.underlying55 3
    rw [tpD_size, hall] at hl
    clear hC
    go_wp2
    go_ret
    exact ⟨rfl, rfl⟩
theorem rlen_nil (w : World) (c : ByteArray) : Calls Try.prog 11 #[.pointer none, .string c] w fun e w' => e = .returned (.int .i64 0) ∧ w = w' := by
  have ho := of_nil w c
  go_enter Try.func11, Try.ntmps11
  go_wp2_with fail
  refine ho.mono ?_
  rintro e w1 ⟨rfl, rfl⟩
  go_wp2
  go_ret
  exact ⟨rfl, rfl⟩
set_option maxRecDepth 10000 in
theorem rnew_any (w : World) : Calls Try.prog 6 #[] w fun e w' => e = .returned (.pointer (some ⟨w.heap.size + 1, 0, none⟩)) ∧ RgSt w' (fun i => w.heap.size ≤ i ∧ i < w.heap.size + 2) (w.heap.size + 1) [] 0 ∧ Below w.heap.size w w' ∧ w'.heap.size = w.heap.size + 2 := by
  have hmm := @run_makeMap Try.prog
  go_enter Try.func6, Try.ntmps6
  go_wp2
  go_ret
  refine ⟨rfl, ⟨w.heap.size, [], ⟨?_, ?_, List.Pairwise.nil, (fun x hx => by cases hx), List.Pairwise.nil, ⟨by omega, by omega⟩, ⟨by omega, by omega⟩, by omega, fun i hi => ?_⟩, rfl, Nat.le_refl _, fun x hx => by cases hx⟩, ?_, ?_⟩
  · have := Bk.fresh (w.alloc (.map #[] 0)) 48 #[.map (some w.heap.size)]
    rw [World.size_alloc] at this
    exact this
  · exact (World.ownsMap_made w _ _ _).alloc _
  · simp only [World.size_alloc]; omega
  · exact ((Below.refl _ w).alloc (Nat.le_refl _) _).alloc (by simp) _
  · simp
end Go.Proofs.Ytjbpafkdbfbdlaa
