/-
  The reference's registry, walked: set.
-/
import Derived.Test.YtjbpafkdbfbdlaaGreatRxB

namespace Go.Proofs.YtjbpafkdbfbdlaaGreat
open Go.RowKit Go.Maps Go.WideShapes
theorem bb_lessX : ∀ a b : List UInt8, bytesBefore a b = Op.bytesLess a b
  | [], [] => rfl
  | [], _ :: _ => rfl
  | _ :: _, [] => rfl
  | a :: x, b :: y => by rw [bytesBefore, Op.bytesLess, bb_lessX x y]
theorem nmLt_less (a b : ByteArray) : nmLt a b = Op.bytesLess a.toList b.toList := by
  unfold nmLt
  rw [bb_lessX, ByteArray.toList_eq, ByteArray.toList_eq]
/-- What a call of the reference leaves. -/
def RfTo (w : World) (B : Nat) (F : Nat → Prop) (gr : Nat) (L' : Rg) (K' : Nat) (w' : World) : Prop :=
  ∃ F', RfSt w' F' gr L' K' ∧ (∀ i, F' i → F i ∨ B ≤ i) ∧ Mods F w w'
theorem RfSt.to {w w' : World} {F : Nat → Prop} {gr B K K' : Nat} {L : Rg} (h : RfSt w F gr L K) (hb : Below w.heap.size w w') (hK : K ≤ K') : RfTo w B F gr L K' w' := ⟨F, (h.below hb).more hK, fun _ hi => .inl hi, Mods.of_below hb⟩
theorem RfTo.front {w w1 w' : World} {F : Nat → Prop} {gr B K : Nat} {L : Rg} (hb : Below w.heap.size w w1) (h : RfTo w1 B F gr L K w') : RfTo w B F gr L K w' := by
  obtain ⟨F', a, b, c⟩ := h
  exact ⟨F', a, b, (Mods.of_below hb).trans c⟩
/-- A row of topics does not lie in a block that holds a slice. -/
theorem Rd.ne_slice {w : World} {gr : Nat} {tF : TypeId} {A' : Option Addr} {n' c' : Nat} {l : List Tp} {A : Option Addr} {B : Nat} (h : Rd w B 3 A l.length (tpCs l)) (hb : Bk w gr tF #[.slice A' n' c']) (hne : l ≠ []) (a : Addr) (ha : A = some a) : a.block ≠ gr := by
  obtain ⟨b, o, e, -, h1, -⟩ := h.atP (i := 0) (List.length_pos_iff.2 hne)
  rw [e] at ha
  cases ha
  rintro rfl
  rw [hb.cell] at h1
  match o with
  | 0 => simp at h1
  | o + 1 => simp at h1
theorem Rd.keepT {w w' : World} {gr : Nat} {tF : TypeId} {A' : Option Addr} {n' c' : Nat} {l : List Tp} {A : Option Addr} (h : Rd w w.heap.size 3 A l.length (tpCs l)) (hb : Bk w gr tF #[.slice A' n' c']) (hm : Mods (fun i => i = gr) w w') : Rd w' w'.heap.size 3 A l.length (tpCs l) := by
  refine ⟨h.1, ?_⟩
  rcases h.2 with h2 | ⟨b, o, e, hlt, hc⟩
  · exact .inl h2
  · by_cases hl : l = []
    · left; rw [hl]; rfl
    · refine .inr ⟨b, o, e, Nat.lt_of_lt_of_le hlt hm.size, fun j u hu => ?_⟩
      rw [← hc j u hu]
      exact World.cell?_of_block (hm.block b hlt (h.ne_slice hb hl ⟨b, o, none⟩ e))
/-- A row of entries that is built in a world that has grown. -/
structure SeI (W : World) (out : List (ByteArray × Tl)) (v : Value) (x : World) : Prop where
  row : x.ownsRow W.heap.size 81 2 v out.length (enCs out)
  below : Below W.heap.size W x
theorem SeI.start (W : World) : SeI W [] (.slice none 0 0) W := ⟨⟨rfl, .inl ⟨rfl, rfl⟩⟩, Below.refl _ _⟩
theorem SeI.alloc {W x : World} {out : List (ByteArray × Tl)} {v : Value} (h : SeI W out v x) (o : Obj) : SeI W out v (x.alloc o) := ⟨h.row.alloc o, h.below.alloc h.below.size o⟩
theorem SeI.app {W y z : World} {out : List (ByteArray × Tl)} {v v' : Value} {x : ByteArray × Tl} (h : SeI W out v y) (ho : z.ownsRow W.heap.size 81 2 v' (out.length + 1) (enCs out ++ [.string x.1, .slice x.2.A x.2.l.length x.2.cap])) (hg : y.grownBy z v.ownBlock) : SeI W (out ++ [x]) v' z := by
  refine ⟨?_, below_app h.below hg h.below.size fun g hg => (h.row.lt g hg).1⟩
  rw [enCs_app, List.length_append]
  exact ho
/-- What set leaves in the row. -/
def setF (c : ByteArray) (X : Tl) (E : List (ByteArray × Tl)) : List (ByteArray × Tl) := if X.l = [] then kvDel c E else kvPut c X E
theorem setF_of (c : ByteArray) (X : Tl) (E : List (ByteArray × Tl)) : setL c X (decide (X.l = [])) E = setF c X E := by
  unfold setF
  by_cases h : X.l = []
  · rw [if_pos h, decide_eq_true h, setL_true]
  · rw [if_neg h, decide_eq_false h, setL_false]
theorem rfOf_set (c : ByteArray) (X : Tl) (E : List (ByteArray × Tl)) : rfOf (setF c X E) = rgSet (rfOf E) c X.l := by
  unfold setF rgSet rfOf
  by_cases h : X.l = []
  · rw [if_pos h, if_pos h, kvMap_del]
  · rw [if_neg h, if_neg h, kvMap_put]
theorem setF_mem {c : ByteArray} {X : Tl} {E : List (ByteArray × Tl)} {x : ByteArray × Tl} (h : x ∈ setF c X E) : x = (c, X) ∨ x ∈ E := by
  unfold setF at h
  split at h
  · exact .inr (mem_kvDel.1 h).1
  · exact (mem_kvPut.1 h).imp id (·.1)
/-- The state of set's loop. -/
def SeS (W : World) (E : List (ByteArray × Tl)) (c : ByteArray) (X : Tl) (s6 s7 s8 : Value) (x : World) : Prop :=
  ∃ (k : Nat) (b : Bool) (out : List (ByteArray × Tl)) (A : Option Addr) (cp : Nat), s8 = .int .i64 (k : Int) ∧ s7 = .bool b ∧ s6 = .slice A out.length cp ∧ k ≤ E.length ∧ out.length ≤ k + b.toNat ∧ SeI W out (.slice A out.length cp) x ∧ out ++ setL c X b (E.drop k) = setF c X E
/-- What set leaves. -/
theorem xset_end {w wr : World} {F : Nat → Prop} {gr K B cp0 n0 : Nat} {A0 A : Option Addr} {E : List (ByteArray × Tl)} {c : ByteArray} {X : Tl} {cp : Nat}
    (hI : RfIn 81 55 w F gr (.slice A0 n0 cp0) E) (hEK : ∀ x ∈ E, x.2.l.length ≤ K) (hX : Rd w w.heap.size 3 X.A X.l.length (tpCs X.l)) (hXc : X.l.length ≤ X.cap) (hB : B ≤ w.heap.size) (hA : ∀ a, X.A = some a → B ≤ a.block) (hXK : X.l.length ≤ K + 1)
    (hS : SeI w (setF c X E) (.slice A (setF c X E).length cp) wr) (hlen : (setF c X E).length ≤ K + 1) : RfTo w B F gr (rgSet (rfOf E) c X.l) (K + 1) (wr.setCell ⟨gr, 0, none⟩ (.slice A (setF c X E).length cp)) := by
  have hbk : Bk wr gr 55 #[.slice A0 n0 cp0] := hI.blk.below hS.below hI.blk.lt
  have hm1 : Mods (fun i => i = gr) w wr := Mods.of_below hS.below
  have hm : Mods (fun i => i = gr) w (wr.setCell ⟨gr, 0, none⟩ (.slice A (setF c X E).length cp)) := hm1.set gr 0 (.inl rfl) _
  have hsz : (wr.setCell ⟨gr, 0, none⟩ (.slice A (setF c X E).length cp)).heap.size = wr.heap.size := by simp [World.setCell]
  refine ⟨fun i => F i ∨ (B ≤ i ∧ i < wr.heap.size), ⟨.slice A (setF c X E).length cp, setF c X E, ⟨?_, ?_, fun x hx => ?_, .inl hI.fg, fun k hk => ?_, fun i hi => ?_⟩, (rfOf_set c X E).symm, hlen, fun x hx => ?_⟩, fun i hi => hi.imp id (·.1), hm.mono fun i _ e => by rw [e]; exact hI.fg⟩
  · exact hbk.upd 0 _ rfl
  · refine own_wider (own_mods (S := fun i => i = gr) hS.row (Mods.set (S := fun i => i = gr) (Mods.refl wr) gr 0 (.inl rfl) _) fun g hg e => ?_) (Nat.zero_le _)
    have h1 := (hS.row.lt g hg).1
    have h2 := hI.blk.lt
    omega
  · rcases setF_mem hx with rfl | hx
    · refine ⟨hX.keepT hI.blk hm, hXc, fun hne a ha => .inr ⟨hA a ha, ?_⟩⟩
      obtain ⟨b, o, e, hlt, -⟩ := hX.atP (i := 0) (List.length_pos_iff.2 hne)
      have e : X.A = some ⟨b, o, none⟩ := e
      rw [ha] at e
      cases e
      exact Nat.lt_of_lt_of_le hlt hS.below.size
    · obtain ⟨h1, h2, h3⟩ := hI.each x hx
      exact ⟨h1.keepT hI.blk hm, h2, fun hne a ha => .inl (h3 hne a ha)⟩
  · have h1 := hS.row.lt k hk
    have h2 := hI.blk.lt
    exact ⟨.inr ⟨Nat.le_trans hB h1.1, h1.2⟩, by omega⟩
  · rw [hsz]
    rcases hi with hi | hi
    · exact Nat.lt_of_lt_of_le (hI.lt i hi) hS.below.size
    · exact hi.2
  · rcases setF_mem hx with rfl | hx
    · exact hXK
    · exact Nat.le_succ_of_le (hEK x hx)
theorem Bk.app2 {w w' : World} {g : Nat} {t : TypeId} {cs : Array Value} {v : Value} (h : Bk w g t cs) (hg : w.grownBy w' v.ownBlock) (hv : ∀ k, v.ownBlock = some k → k < g) : Bk w' g t cs :=
  h.app hg fun e => Nat.lt_irrefl _ (hv _ e)
set_option maxRecDepth 10000 in
set_option maxHeartbeats 4000000 in
theorem xset_any {w : World} {F : Nat → Prop} {gr K B : Nat} {L : Rg} (h : RfSt w F gr L K) (c : ByteArray) (A : Option Addr) (cp : Nat) (l : List Tp) (hl : Rd w w.heap.size 3 A l.length (tpCs l)) (hcp : l.length ≤ cp) (hB : B ≤ w.heap.size) (hA : ∀ a, A = some a → B ≤ a.block) (hlK : l.length ≤ K + 1) (hK : K < 1000000) :
    Calls Tryz.prog 35 #[.pointer (some ⟨gr, 0, none⟩), .string c, .slice A l.length cp] w fun e w' => e = .returned (.tuple #[]) ∧ RfTo w B F gr (rgSet L c l) (K + 1) w' := by
  obtain ⟨v, E, hI, rfl, hE, hEB⟩ := h
  obtain ⟨A0, cp0, rfl, -, hrd⟩ := own_rd hI.row
  have HEND := Lib.hid fun wr (A' : Option Addr) (cp' : Nat) => xset_end (wr := wr) (A := A') (cp := cp') (c := c) (X := ⟨A, cp, l⟩) hI hEB hl hcp hB hA hlK
  have hgr : gr < w.heap.size := hI.blk.lt
  have HBK := Lib.hid hI.blk
  have HRD := Lib.hid hrd
  have HS : Hid (SeS w E c ⟨A, cp, l⟩ (.slice none 0 0) (.bool (decide (l = []))) (.int .i64 (0 : Nat)) w) := Lib.hid ⟨0, _, [], none, 0, rfl, rfl, rfl, Nat.zero_le _, Nat.zero_le _, SeI.start w, setF_of c ⟨A, cp, l⟩ E⟩
  have hl0 : ((l.length : Int) == 0) = decide (l = []) := by cases l <;> simp <;> omega
  have hlb : (l.length : Int) ≤ 1000001 := by omega
  have hll : 0 ≤ (l.length : Int) := by omega
  have HE := Lib.hid hE
  have HKK := Lib.hid hK
  generalize hb0 : decide (l = []) = b0 at HS hl0
  clear hI hl hcp hB hA hlK hE hEB hrd hK hb0
  generalize hN : E.length = n at HRD HBK
  have HN := Lib.hid hN
  have hn : (n : Int) ≤ 1000000 := by have := HKK.out; have := HE.out; omega
  clear hN
  generalize hz : l.length = z at hl0 hlb hll
  have HZ := Lib.hid hz
  clear hz
  go_enter Tryz.func35, Tryz.ntmps35
  go_wp2
  go_loopw [6, 7, 8] (fun s6 s7 s8 wr => Hid (SeS w E c ⟨A, cp, l⟩ s6 s7 s8 wr)) (fun _ _ s8 _ => n - (intOf s8).toNat)
  case atStart => exact HS
  case round =>
    clear HS
    obtain ⟨k, b, out, A5, c5, rfl, rfl, rfl, hk, ho, hI, hp⟩ := hrel.out
    rw [HN.out] at hk
    have b0' : (0 : Int) ≤ (k : Int) := by omega
    have hb1 : Hid (out.length ≤ 1000001) := Lib.hid (by have := HKK.out; have := HE.out; have := HN.out; cases b <;> simp at ho <;> omega)
    have HI := Lib.hid hI
    have HP := Lib.hid hp
    have HO := Lib.hid ho
    have hgc := (HBK.out.below HI.out.below hgr).one.1
    clear hrel hI hp ho
    by_cases hlt : k < n
    · have hlt' : k < E.length := by rw [HN.out]; exact hlt
      have b1 : (k : Int) < (n : Int) := by omega
      obtain ⟨bA, oA, rfl, hb, e0, e1⟩ := ((show Rd w w.heap.size 2 A0 E.length (enCs E) by rw [HN.out]; exact HRD.out).below HI.out.below).atE hlt'
      have hdr := Lib.hid (List.drop_eq_getElem_cons hlt')
      generalize E[k] = x at e0 e1 hdr
      obtain ⟨nm, AE, cap2, T⟩ := x
      have hX2 := Bk.fresh wr 81 #[.string nm, .slice AE T.length cap2]
      have HI2 := Lib.hid (HI.out.alloc (.cells #[.string nm, .slice AE T.length cap2] 81))
      have HIL : Hid (∀ q, (Value.slice A5 out.length c5).ownBlock = some q → q < wr.heap.size) := Lib.hid fun q hq => (HI.out.row.lt q hq).2
      generalize hW2 : wr.alloc (.cells #[.string nm, .slice AE T.length cap2] 81) = W2 at hX2 HI2
      have hx2 := hX2.two.1
      have HX2 := Lib.hid hX2
      clear hX2
      by_cases hnn : nm = c
      · subst hnn
        have hless : Op.bytesLess nm.toList nm.toList = false := by rw [← nmLt_less]; exact nmLt_irrefl nm
        have HP' : Hid (out ++ setL nm ⟨A, cp, l⟩ b (E.drop (k + 1)) = setF nm ⟨A, cp, l⟩ E) := Lib.hid (by rw [← HP.out, hdr.out, setL, if_neg (fun h => by rw [nmLt_irrefl] at h; cases h.2), if_pos rfl, nmLt_irrefl, Bool.or_false]; rfl)
        cases b with
        | true =>
          go_wp2
          exact ⟨Lib.hid ⟨k + 1, true, out, A5, c5, by simp, rfl, by simp, by have := HN.out; omega, by have := HO.out; simp at this ⊢; omega, HI2.out, HP'.out⟩, by simp [intOf]; omega⟩
        | false =>
          go_wp2
          exact ⟨Lib.hid ⟨k + 1, false, out, A5, c5, by simp, rfl, by simp, by have := HN.out; omega, by have := HO.out; simp at this ⊢; omega, HI2.out, HP'.out⟩, by simp [intOf]; omega⟩
      · have hnl : ¬ nm.toList = c.toList := fun h => hnn ((tp_toList _ _).1 h)
        have hnb : (nm.toList == c.toList) = false := by simp [hnl]
        have HNN := Lib.hid hnn
        clear hnl hnn
        cases b with
        | true =>
          have HP' : Hid (out ++ [(nm, ⟨AE, cap2, T⟩)] ++ setL c ⟨A, cp, l⟩ true (E.drop (k + 1)) = setF c ⟨A, cp, l⟩ E) := Lib.hid (by rw [← HP.out, hdr.out, setL, if_neg (by simp), if_neg HNN.out, Bool.true_or]; simp)
          go_wp2_with (at_builtin; (refine wpList_app _ rfl (.tmp 47) (.tmp 49) 53 rfl w.heap.size 81 _ 2 40 Tryz.underlying53 info_en rfl (by decide) _ out.length _ rfl (HI2.out.alloc _).row _ _ 1 1 [.string nm, .slice AE T.length cap2] rfl (Rd.lit _ _ _ rfl (Nat.lt_succ_self _) rfl) (by intro u hu; simp at hu; rcases hu with rfl | rfl <;> rfl) (by have := hb1.out; unfold maxLen; omega) (by have := hb1.out; omega) (HI2.out.alloc _).below.size ?_); intro v1 w1 hown1 hg1 hat1; obtain ⟨A1, c1, rfl, -, -⟩ := own_rd hown1)
          exact ⟨Lib.hid ⟨k + 1, true, out ++ [(nm, ⟨AE, cap2, T⟩)], A1, c1, by simp, rfl, by simp, by have := HN.out; omega, by have := HO.out; simp at this ⊢; omega, by rw [List.length_append]; exact SeI.app (HI2.out.alloc _) hown1 hg1, HP'.out⟩, by simp [intOf]; omega⟩
        | false =>
          cases hlt2 : nmLt c nm with
          | true =>
            have hless : Op.bytesLess c.toList nm.toList = true := by rw [← nmLt_less]; exact hlt2
            have HP' : Hid (out ++ [(c, ⟨A, cp, l⟩)] ++ [(nm, ⟨AE, cap2, T⟩)] ++ setL c ⟨A, cp, l⟩ true (E.drop (k + 1)) = setF c ⟨A, cp, l⟩ E) := Lib.hid (by rw [← HP.out, hdr.out, setL, if_pos ⟨rfl, hlt2⟩, if_neg HNN.out, hlt2, Bool.or_true]; simp)
            clear hlt2
            go_wp2_with (first | (at_builtin; (refine wpList_app _ rfl (.tmp 37) (.tmp 41) 53 rfl w.heap.size 81 _ 2 40 Tryz.underlying53 info_en rfl (by decide) _ out.length _ rfl (HI2.out.alloc _).row _ _ 1 1 [.string c, .slice A z cp] rfl (Rd.lit _ _ _ rfl (Nat.lt_succ_self _) rfl) (by intro u hu; simp at hu; rcases hu with rfl | rfl <;> rfl) (by have := hb1.out; unfold maxLen; omega) (by have := hb1.out; omega) (HI2.out.alloc _).below.size ?_); intro v1 w1 hown1 hg1 hat1; obtain ⟨A1, c1, rfl, -, -⟩ := own_rd hown1; have HI1 : Hid (SeI w (out ++ [(c, ⟨A, cp, l⟩)]) (.slice A1 (out.length + 1) c1) w1) := Lib.hid (SeI.app (HI2.out.alloc _) (by rw [← HZ.out] at hown1; exact hown1) hg1); have HR1 := Lib.hid hown1; have HXE := Lib.hid (Bk.app2 (HX2.out.alloc _) hg1 HIL.out); have hxe := HXE.out.two.1) | (at_builtin; (refine wpList_app _ rfl (.tmp 47) (.tmp 49) 53 rfl w.heap.size 81 _ 2 40 Tryz.underlying53 info_en rfl (by decide) _ (out.length + 1) _ rfl (HR1.out.alloc _) _ _ 1 1 [.string nm, .slice AE T.length cap2] rfl (Rd.lit _ _ _ rfl (Nat.lt_succ_self _) rfl) (by intro u hu; simp at hu; rcases hu with rfl | rfl <;> rfl) (by have := hb1.out; unfold maxLen; omega) (by have := hb1.out; omega) (HI1.out.alloc _).below.size ?_); intro v2 w2 hown2 hg2 hat2; obtain ⟨A2, c2, rfl, -, -⟩ := own_rd hown2))
            exact ⟨Lib.hid ⟨k + 1, true, out ++ [(c, ⟨A, cp, l⟩)] ++ [(nm, ⟨AE, cap2, T⟩)], A2, c2, by simp, rfl, by simp, by have := HN.out; omega, by have := HO.out; simp at this ⊢; omega, by rw [List.length_append, List.length_append]; exact SeI.app (HI1.out.alloc _) (by rw [enCs_app, List.length_append]; rw [← HZ.out] at hown2; exact hown2) hg2, HP'.out⟩, by simp [intOf]; omega⟩
          | false =>
            have hless : Op.bytesLess c.toList nm.toList = false := by rw [← nmLt_less]; exact hlt2
            have HP' : Hid (out ++ [(nm, ⟨AE, cap2, T⟩)] ++ setL c ⟨A, cp, l⟩ false (E.drop (k + 1)) = setF c ⟨A, cp, l⟩ E) := Lib.hid (by rw [← HP.out, hdr.out, setL, if_neg (fun h => by rw [hlt2] at h; cases h.2), if_neg HNN.out, hlt2, Bool.or_false]; simp)
            clear hlt2
            go_wp2_with (at_builtin; (refine wpList_app _ rfl (.tmp 47) (.tmp 49) 53 rfl w.heap.size 81 _ 2 40 Tryz.underlying53 info_en rfl (by decide) _ out.length _ rfl (HI2.out.alloc _).row _ _ 1 1 [.string nm, .slice AE T.length cap2] rfl (Rd.lit _ _ _ rfl (Nat.lt_succ_self _) rfl) (by intro u hu; simp at hu; rcases hu with rfl | rfl <;> rfl) (by have := hb1.out; unfold maxLen; omega) (by have := hb1.out; omega) (HI2.out.alloc _).below.size ?_); intro v1 w1 hown1 hg1 hat1; obtain ⟨A1, c1, rfl, -, -⟩ := own_rd hown1)
            exact ⟨Lib.hid ⟨k + 1, false, out ++ [(nm, ⟨AE, cap2, T⟩)], A1, c1, by simp, rfl, by simp, by have := HN.out; omega, by have := HO.out; simp at this ⊢; omega, by rw [List.length_append]; exact SeI.app (HI2.out.alloc _) hown1 hg1, HP'.out⟩, by simp [intOf]; omega⟩
    · have b2 : ¬ (k : Int) < (n : Int) := by omega
      have hkT : Hid (k = E.length) := Lib.hid (by have := HN.out; omega)
      have hfz := (HBK.out.below HI.out.below hgr).free 0
      cases b with
      | true =>
        have HPt : Hid (out = setF c ⟨A, cp, l⟩ E) := Lib.hid (by rw [← HP.out, hkT.out, List.drop_length]; simp [setL])
        go_wp2
        refine bodyPost_end (results_none rfl _ _ _) rfl ?_
        have hlen : out.length ≤ K + 1 := by have := HO.out; have := HE.out; have := hkT.out; simp at *; omega
        have he := HEND.out wr A5 c5
        rw [← HPt.out] at he
        exact ⟨rfl, he HI.out hlen⟩
      | false =>
        have HPf : Hid (out ++ [(c, ⟨A, cp, l⟩)] = setF c ⟨A, cp, l⟩ E) := Lib.hid (by rw [← HP.out, hkT.out, List.drop_length]; simp [setL])
        go_wp2_with (at_builtin; (refine wpList_app _ rfl (.tmp 53) (.tmp 57) 53 rfl w.heap.size 81 _ 2 40 Tryz.underlying53 info_en rfl (by decide) _ out.length _ rfl (HI.out.alloc _).row _ _ 1 1 [.string c, .slice A z cp] rfl (Rd.lit _ _ _ rfl (Nat.lt_succ_self _) rfl) (by intro u hu; simp at hu; rcases hu with rfl | rfl <;> rfl) (by have := hb1.out; unfold maxLen; omega) (by have := hb1.out; omega) (HI.out.alloc _).below.size ?_); intro v1 w1 hown1 hg1 hat1; obtain ⟨A1, c1, rfl, -, -⟩ := own_rd hown1; have HI1 : Hid (SeI w (out ++ [(c, ⟨A, cp, l⟩)]) (.slice A1 (out.length + 1) c1) w1) := Lib.hid (SeI.app (HI.out.alloc _) (by rw [← HZ.out] at hown1; exact hown1) hg1); have hgc1 := (HBK.out.below HI1.out.below hgr).one.1; have hfz1 := (HBK.out.below HI1.out.below hgr).free 0)
        refine bodyPost_end (results_none rfl _ _ _) rfl ?_
        have hlen : (out ++ [(c, (⟨A, cp, l⟩ : Tl))]).length ≤ K + 1 := by have := HO.out; have := HE.out; have := hkT.out; rw [List.length_append]; simp at *; omega
        have he := HEND.out w1 A1 c1
        rw [← HPf.out] at he
        have he := he (by rw [List.length_append]; exact HI1.out) hlen
        rw [List.length_append] at he
        exact ⟨rfl, he⟩
end Go.Proofs.YtjbpafkdbfbdlaaGreat
