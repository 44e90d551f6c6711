/-
  The reference's registry, walked: Len, Name, ID, Fixed, Clients.
-/
import Derived.Test.YtjbpafkdbfbdlaaGreatRxC
import Derived.Test.YtjbpafkdbfbdlaaGreatRwH

namespace Go.Proofs.YtjbpafkdbfbdlaaGreat
open Go.RowKit Go.Maps Go.WideShapes
section
variable {w : World} {F : Nat → Prop} {gr K : Nat} {L : Rg}
set_option maxRecDepth 10000 in
set_option maxHeartbeats 1000000 in
theorem xlen_any (h : RfSt w F gr L K) (c : ByteArray) (hK : K < 100000000) :
    Calls Tryz.prog 28 #[.pointer (some ⟨gr, 0, none⟩), .string c] w fun e w' => e = .returned (.int .i64 ((rgT L c).length : Int)) ∧ Below w.heap.size w w' := by
  have ct := xtop_any h c hK
  clear h
  go_enter Tryz.func28, Tryz.ntmps28
  go_wp2_with fail
  refine ct.mono ?_
  rintro e w1 ⟨v, rfl, ho, hb⟩
  obtain ⟨A, cp, rfl, -, -⟩ := own_rd ho
  go_wp2
  go_ret
  exact ⟨rfl, hb⟩
set_option maxRecDepth 10000 in
set_option maxHeartbeats 1000000 in
theorem xname_any (h : RfSt w F gr L K) (c : ByteArray) (i : Int) (hK : K < 100000000) :
    Calls Tryz.prog 16 #[.pointer (some ⟨gr, 0, none⟩), .string c, .int .i64 i] w fun e w' => e = .returned (.tuple #[.string (rfName L c i).1, .int .i64 (rfName L c i).2]) ∧ Below w.heap.size w w' := by
  have ct := xtop_any h c hK
  have hT : (rgT L c).length ≤ K := h.top_len c
  have HP : Hid (rfName L c i = match tpAt (rgT L c) i with | some t => (t.name, (0 : Int)) | none => (.empty, (11 : Int))) := Lib.hid rfl
  clear h
  generalize rgT L c = T at ct hT HP
  have hn : (T.length : Int) ≤ 100000000 := by omega
  clear hT
  go_enter Tryz.func16, Tryz.ntmps16
  go_wp2_with fail
  refine ct.mono ?_
  rintro e w1 ⟨v, rfl, ho, hb⟩
  obtain ⟨A, cp, rfl, -, hrd⟩ := own_rd ho
  have HRD := Lib.hid hrd
  have HB := Lib.hid hb
  clear ct ho hrd hb
  generalize hN : T.length = n at hn HRD
  have HN := Lib.hid hN
  clear hN
  go_wp2
  go_loopw [9] (fun s wr => ∃ k : Nat, s = .int .i64 (k : Int) ∧ k ≤ n ∧ Hid (tpAt T i = tpAt (T.drop k) i) ∧ w1 = wr) (fun s _ => n - (intOf s).toNat)
  case atStart => exact ⟨0, rfl, Nat.zero_le _, Lib.hid rfl, rfl⟩
  case round =>
    obtain ⟨k, rfl, hk, HK, rfl⟩ := hrel
    have b0 : (0 : Int) ≤ (k : Int) := by omega
    by_cases hlt : k < n
    · have hlt' : k < T.length := by rw [HN.out]; exact hlt
      obtain ⟨bA, oA, rfl, hb, e0, e1, e2⟩ := (show Rd w1 w1.heap.size 3 A T.length (tpCs T) by rw [HN.out]; exact HRD.out).atP hlt'
      have hst := tpAt_drop (a := i) hlt'
      generalize T[k] = x at e0 e1 e2 hst
      have b1 : (k : Int) < (n : Int) := by omega
      by_cases he : (x.id : Int) = i
      · rw [if_pos he] at hst
        have HR : Hid (rfName L c i = (x.name, (0 : Int))) := Lib.hid (by rw [HP.out, HK.out, hst])
        have heb : ((x.id : Int) == i) = true := by simp [he]
        clear hst he hlt'
        go_wp2
        go_ret2
        exact ⟨by rw [HR.out]; rfl, HB.out⟩
      · rw [if_neg he] at hst
        have HK' : Hid (tpAt T i = tpAt (T.drop (k + 1)) i) := Lib.hid (by rw [HK.out, hst])
        have heb : ((x.id : Int) == i) = false := beq_eq_false_iff_ne.2 he
        clear hst he hlt'
        go_wp2
        exact ⟨⟨k + 1, by simp, by omega, HK', trivial⟩, by simp [intOf]; omega⟩
    · have b2 : ¬ (k : Int) < (n : Int) := by omega
      have HR : Hid (rfName L c i = (.empty, (11 : Int))) := Lib.hid (by rw [HP.out, HK.out, List.drop_eq_nil_of_le (by have := HN.out; omega)]; rfl)
      go_wp2
      go_ret2
      exact ⟨by rw [HR.out]; rfl, HB.out⟩
set_option maxRecDepth 10000 in
set_option maxHeartbeats 1000000 in
theorem xid_any (h : RfSt w F gr L K) (c : ByteArray) (m : ByteArray) (hK : K < 100000000) :
    Calls Tryz.prog 18 #[.pointer (some ⟨gr, 0, none⟩), .string c, .string m] w fun e w' => e = .returned (.tuple #[.int .i64 (rfID L c m).1, .int .i64 (rfID L c m).2]) ∧ Below w.heap.size w w' := by
  have ct := xtop_any h c hK
  have hT : (rgT L c).length ≤ K := h.top_len c
  have HP : Hid (rfID L c m = match tpOf (rgT L c) m with | some t => ((t.id : Int), (0 : Int)) | none => ((0 : Int), (11 : Int))) := Lib.hid rfl
  clear h
  generalize rgT L c = T at ct hT HP
  have hn : (T.length : Int) ≤ 100000000 := by omega
  clear hT
  go_enter Tryz.func18, Tryz.ntmps18
  go_wp2_with fail
  refine ct.mono ?_
  rintro e w1 ⟨v, rfl, ho, hb⟩
  obtain ⟨A, cp, rfl, -, hrd⟩ := own_rd ho
  have HRD := Lib.hid hrd
  have HB := Lib.hid hb
  clear ct ho hrd hb
  generalize hN : T.length = n at hn HRD
  have HN := Lib.hid hN
  clear hN
  go_wp2
  go_loopw [9] (fun s wr => ∃ k : Nat, s = .int .i64 (k : Int) ∧ k ≤ n ∧ Hid (tpOf T m = tpOf (T.drop k) m) ∧ w1 = wr) (fun s _ => n - (intOf s).toNat)
  case atStart => exact ⟨0, rfl, Nat.zero_le _, Lib.hid rfl, rfl⟩
  case round =>
    obtain ⟨k, rfl, hk, HK, rfl⟩ := hrel
    have b0 : (0 : Int) ≤ (k : Int) := by omega
    by_cases hlt : k < n
    · have hlt' : k < T.length := by rw [HN.out]; exact hlt
      obtain ⟨bA, oA, rfl, hb, e0, e1, e2⟩ := (show Rd w1 w1.heap.size 3 A T.length (tpCs T) by rw [HN.out]; exact HRD.out).atP hlt'
      have hst := tpOf_drop (n := m) hlt'
      generalize T[k] = x at e0 e1 e2 hst
      have b1 : (k : Int) < (n : Int) := by omega
      by_cases he : x.name = m
      · rw [if_pos he] at hst
        have HR : Hid (rfID L c m = ((x.id : Int), (0 : Int))) := Lib.hid (by rw [HP.out, HK.out, hst])
        have heb : (x.name.toList == m.toList) = true := by simp [he]
        clear hst he hlt'
        go_wp2
        go_ret2
        exact ⟨by rw [HR.out]; rfl, HB.out⟩
      · rw [if_neg he] at hst
        have HK' : Hid (tpOf T m = tpOf (T.drop (k + 1)) m) := Lib.hid (by rw [HK.out, hst])
        have heb : (x.name.toList == m.toList) = false := by simp [tp_toList, he]
        clear hst he hlt'
        go_wp2
        exact ⟨⟨k + 1, by simp, by omega, HK', trivial⟩, by simp [intOf]; omega⟩
    · have b2 : ¬ (k : Int) < (n : Int) := by omega
      have HR : Hid (rfID L c m = ((0 : Int), (11 : Int))) := Lib.hid (by rw [HP.out, HK.out, List.drop_eq_nil_of_le (by have := HN.out; omega)]; rfl)
      go_wp2
      go_ret2
      exact ⟨by rw [HR.out]; rfl, HB.out⟩
set_option maxRecDepth 10000 in
set_option maxHeartbeats 1000000 in
theorem xfix_any (h : RfSt w F gr L K) (c : ByteArray) (i : Int) (hK : K < 100000000) :
    Calls Tryz.prog 20 #[.pointer (some ⟨gr, 0, none⟩), .string c, .int .i64 i] w fun e w' => e = .returned (.bool (rfFix L c i)) ∧ Below w.heap.size w w' := by
  have ct := xtop_any h c hK
  have hT : (rgT L c).length ≤ K := h.top_len c
  have HP : Hid (rfFix L c i = match tpAt (rgT L c) i with | some t => t.fixed | none => false) := Lib.hid rfl
  clear h
  generalize rgT L c = T at ct hT HP
  have hn : (T.length : Int) ≤ 100000000 := by omega
  clear hT
  go_enter Tryz.func20, Tryz.ntmps20
  go_wp2_with fail
  refine ct.mono ?_
  rintro e w1 ⟨v, rfl, ho, hb⟩
  obtain ⟨A, cp, rfl, -, hrd⟩ := own_rd ho
  have HRD := Lib.hid hrd
  have HB := Lib.hid hb
  clear ct ho hrd hb
  generalize hN : T.length = n at hn HRD
  have HN := Lib.hid hN
  clear hN
  go_wp2
  go_loopw [8] (fun s wr => ∃ k : Nat, s = .int .i64 (k : Int) ∧ k ≤ n ∧ Hid (tpAt T i = tpAt (T.drop k) i) ∧ w1 = wr) (fun s _ => n - (intOf s).toNat)
  case atStart => exact ⟨0, rfl, Nat.zero_le _, Lib.hid rfl, rfl⟩
  case round =>
    obtain ⟨k, rfl, hk, HK, rfl⟩ := hrel
    have b0 : (0 : Int) ≤ (k : Int) := by omega
    by_cases hlt : k < n
    · have hlt' : k < T.length := by rw [HN.out]; exact hlt
      obtain ⟨bA, oA, rfl, hb, e0, e1, e2⟩ := (show Rd w1 w1.heap.size 3 A T.length (tpCs T) by rw [HN.out]; exact HRD.out).atP hlt'
      have hst := tpAt_drop (a := i) hlt'
      generalize T[k] = x at e0 e1 e2 hst
      have b1 : (k : Int) < (n : Int) := by omega
      by_cases he : (x.id : Int) = i
      · rw [if_pos he] at hst
        have HR : Hid (rfFix L c i = x.fixed) := Lib.hid (by rw [HP.out, HK.out, hst])
        have heb : ((x.id : Int) == i) = true := by simp [he]
        clear hst he hlt'
        go_wp2
        go_ret
        exact ⟨by rw [HR.out]; rfl, HB.out⟩
      · rw [if_neg he] at hst
        have HK' : Hid (tpAt T i = tpAt (T.drop (k + 1)) i) := Lib.hid (by rw [HK.out, hst])
        have heb : ((x.id : Int) == i) = false := beq_eq_false_iff_ne.2 he
        clear hst he hlt'
        go_wp2
        exact ⟨⟨k + 1, by simp, by omega, HK', trivial⟩, by simp [intOf]; omega⟩
    · have b2 : ¬ (k : Int) < (n : Int) := by omega
      have HR : Hid (rfFix L c i = false) := Lib.hid (by rw [HP.out, HK.out, List.drop_eq_nil_of_le (by have := HN.out; omega)]; rfl)
      go_wp2
      go_ret
      exact ⟨by rw [HR.out]; rfl, HB.out⟩
end
/-- A row of names that is built in a world that has grown. -/
structure NaI (W : World) (out : List ByteArray) (v : Value) (x : World) : Prop where
  row : x.ownsRow W.heap.size 9 1 v out.length (nmV out)
  below : Below W.heap.size W x
theorem NaI.start (W : World) : NaI W [] (.slice none 0 0) W := ⟨⟨rfl, .inl ⟨rfl, rfl⟩⟩, Below.refl _ _⟩
theorem NaI.alloc {W x : World} {out : List ByteArray} {v : Value} (h : NaI W out v x) (o : Obj) : NaI W out v (x.alloc o) := ⟨h.row.alloc o, h.below.alloc h.below.size o⟩
theorem NaI.app {W y z : World} {out : List ByteArray} {v v' : Value} {x : ByteArray} (h : NaI W out v y) (ho : z.ownsRow W.heap.size 9 1 v' (out.length + 1) (nmV out ++ [.string x])) (hg : y.grownBy z v.ownBlock) : NaI W (out ++ [x]) v' z := by
  refine ⟨?_, below_app h.below hg h.below.size fun g hg => (h.row.lt g hg).1⟩
  rw [List.length_append]
  have : nmV (out ++ [x]) = nmV out ++ [.string x] := by simp [nmV]
  rw [this]
  exact ho
theorem info_str : (Tryz.prog.info? 9).map (fun i => (i.zero, i.size, i.bytes)) = some (some (.string .empty), 1, 16) := by kernel_rfl
/-- The state of the loop over the entries. -/
def NaS (W : World) (N : List ByteArray) (s3 s4 : Value) (x : World) : Prop :=
  ∃ (k : Nat) (A : Option Addr) (cp : Nat), s4 = .int .i64 (k : Int) ∧ s3 = .slice A k cp ∧ k ≤ N.length ∧ NaI W (N.take k) (.slice A k cp) x
set_option maxRecDepth 10000 in
set_option maxHeartbeats 4000000 in
theorem xcli_any {w : World} {F : Nat → Prop} {gr K : Nat} {L : Rg} (h : RfSt w F gr L K) (hK : K < 1000000) :
    Calls Tryz.prog 26 #[.pointer (some ⟨gr, 0, none⟩)] w fun e w' => ∃ v, e = .returned v ∧ w'.ownsRow w.heap.size 9 1 v L.length (nmV (kvNames L)) ∧ Below w.heap.size w w' := by
  obtain ⟨v, E, hI, rfl, hE, hB⟩ := h
  obtain ⟨A0, cp0, rfl, -, hrd⟩ := own_rd hI.row
  have hgr : gr < w.heap.size := hI.blk.lt
  have HBK := Lib.hid hI.blk
  have HRD := Lib.hid hrd
  obtain ⟨N, hN⟩ : ∃ N, kvNames (rfOf E) = N := ⟨_, rfl⟩
  have hNE : N = E.map (·.1) := by rw [← hN]; simp [kvNames, rfOf, kvMap, Function.comp_def]
  have hNl : N.length = E.length := by rw [hNE]; simp
  have hL : (rfOf E).length = N.length := by rw [hNl]; simp [rfOf, kvMap]
  have HNE := Lib.hid hNE
  have hn : (E.length : Int) ≤ 1000000 := by omega
  have HS : Hid (NaS w N (.slice none 0 0) (.int .i64 (0 : Nat)) w) := Lib.hid ⟨0, none, 0, rfl, rfl, Nat.zero_le _, NaI.start w⟩
  rw [hN, hL]
  clear hI hrd hN hNE hL hE hB
  generalize hEn : E.length = n at hn HBK hNl HRD
  have HN := Lib.hid hEn
  have HNL := Lib.hid hNl
  clear hEn hNl
  go_enter Tryz.func26, Tryz.ntmps26
  go_wp2
  go_loopw [3, 4] (fun s3 s4 wr => Hid (NaS w N s3 s4 wr)) (fun _ s4 _ => n - (intOf s4).toNat)
  case atStart => exact HS
  case round =>
    clear HS
    obtain ⟨k, A5, c5, rfl, rfl, hk, hI⟩ := hrel.out
    rw [HNL.out] at hk
    have b0 : (0 : Int) ≤ (k : Int) := by omega
    have HI := Lib.hid hI
    have hkl : (N.take k).length = k := by rw [List.length_take]; have := HNL.out; omega
    have HKL := Lib.hid hkl
    have hgc := (HBK.out.below HI.out.below hgr).one.1
    clear hrel hI hkl
    by_cases hlt : k < n
    · have hlt' : k < E.length := by rw [HN.out]; exact hlt
      have b1 : (k : Int) < (n : Int) := by omega
      obtain ⟨bA, oA, rfl, hb, e0, e1⟩ := ((show Rd w w.heap.size 2 A0 E.length (enCs E) by rw [HN.out]; exact HRD.out).below HI.out.below).atE hlt'
      have hNk : N.take (k + 1) = N.take k ++ [E[k].1] := by
        rw [List.take_succ_eq_append_getElem (by rw [HNL.out]; exact hlt)]
        simp [HNE.out]
      have HNK := Lib.hid hNk
      have HR : Hid (wr.ownsRow w.heap.size 9 1 (.slice A5 k c5) k (nmV (N.take k))) := Lib.hid (by have := HI.out.row; rw [HKL.out] at this; exact this)
      clear hNk
      generalize E[k] = x at e0 e1 HNK
      obtain ⟨nm, AE, cap2, T⟩ := x
      clear hlt'
      go_wp2_with (at_builtin; go_loud (refine wpList_app _ rfl (.tmp 14) (.tmp 23) 48 rfl w.heap.size 9 _ 1 16 Tryz.underlying48 info_str rfl (by decide) _ k _ rfl (HR.out.alloc _) _ _ 1 1 [.string nm] rfl (Rd.lit _ _ _ rfl (Nat.lt_succ_self _) rfl) (by intro u hu; simp at hu; subst hu; rfl) (by unfold maxLen; omega) (by omega) (HI.out.alloc _).below.size ?_); intro v1 w1 hown1 hg1 hat1; obtain ⟨A1, c1, rfl, -, -⟩ := own_rd hown1)
      exact ⟨Lib.hid ⟨k + 1, A1, c1, by simp, rfl, by have := HNL.out; omega, by rw [HNK.out]; exact NaI.app (HI.out.alloc _) (by rw [HKL.out]; exact hown1) hg1⟩, by simp [intOf]; omega⟩
    · have b2 : ¬ (k : Int) < (n : Int) := by omega
      have hkT : Hid (N.take k = N) := Lib.hid (List.take_of_length_le (by have := HNL.out; omega))
      have HR := HI.out.row
      rw [hkT.out] at HR
      have HR' := Lib.hid HR
      clear HR
      go_wp2
      go_ret
      exact ⟨_, rfl, HR'.out, HI.out.below⟩
end Go.Proofs.YtjbpafkdbfbdlaaGreat
