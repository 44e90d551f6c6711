/- prop.list: the properties that bytes are. -/
import Derived.Test.YtcokgfmlkanoiaaLisA
import Derived.Test.YtcokgfmlkanoiaaProL
namespace Go.Proofs.Ytcokgfmlkanoiaa
open Go.RowKit

def idAt (t : ByteArray) (a : Nat) : Nat := ((ls t).getD a 0).toNat
/-- What the list's reading goes on to from a place, with what has been counted and read. -/
def listGo (kind : Int) (t : ByteArray) : Nat → Nat → (Nat → Nat) → List Pr → List Pr × Int
  | 0, _, _, _ => ([], 9)
  | m + 1, a, f, out =>
    if t.size ≤ a then (if loneB f = true then ([], 9) else (out, 0))
    else if hasR (ruleOf (idAt t a)) kind = false then ([], 9)
    else if (valS (ruleOf (idAt t a)).shape t (a + 1)).err ≠ 0 then ([], (valS (ruleOf (idAt t a)).shape t (a + 1)).err)
    else if checkE (ruleOf (idAt t a)) kind ⟨idAt t a, (valS (ruleOf (idAt t a)).shape t (a + 1)).n, (valS (ruleOf (idAt t a)).shape t (a + 1)).text, (valS (ruleOf (idAt t a)).shape t (a + 1)).value⟩ ≠ 0 then
      ([], checkE (ruleOf (idAt t a)) kind ⟨idAt t a, (valS (ruleOf (idAt t a)).shape t (a + 1)).n, (valS (ruleOf (idAt t a)).shape t (a + 1)).text, (valS (ruleOf (idAt t a)).shape t (a + 1)).value⟩)
    else if againB f kind (idAt t a) = true then ([], 9)
    else if out.length = 1000 then ([], 4)
    else listGo kind t m (valS (ruleOf (idAt t a)).shape t (a + 1)).at_ (upd f (idAt t a) (f (idAt t a) + 1)) (out ++ [⟨idAt t a, (valS (ruleOf (idAt t a)).shape t (a + 1)).n, (valS (ruleOf (idAt t a)).shape t (a + 1)).text, (valS (ruleOf (idAt t a)).shape t (a + 1)).value⟩])
def listS (kind : Int) (t : ByteArray) : List Pr × Int := listGo kind t (t.size + 1) 0 (fun _ => 0) []

/-- A value's numbers and texts are small; its place is not before. -/
theorem needS_at {t : ByteArray} {a : Nat} (h : a ≤ t.size) (e n : Int) : a ≤ (needS t a e n).2.1 ∧ (needS t a e n).2.1 ≤ t.size := by
  unfold needS
  split
  · split
    · rename_i h1
      simp only [hasC, Bool.and_eq_true, decide_eq_true_iff] at h1
      simp only; omega
    · exact ⟨Nat.le_refl _, h⟩
  · exact ⟨Nat.le_refl _, h⟩
theorem dataS_at {t : ByteArray} {a : Nat} (h : a ≤ t.size) (e : Int) : a ≤ (dataS t a e).2.1 ∧ (dataS t a e).2.1 ≤ t.size := by
  have h1 := needS_at h e 2
  have h2 := needS_at h1.2 (needS t a e 2).2.2 (getL (ls (needS t a e 2).1))
  unfold dataS
  omega
theorem needS_len (t : ByteArray) (a : Nat) (e n : Int) : (needS t a e n).1.size ≤ t.size := by
  unfold needS
  split
  · split
    · show (t.extract a (a + n.toNat)).size ≤ _
      rw [ByteArray.size_extract]; omega
    · exact Nat.zero_le _
  · exact Nat.zero_le _
theorem valS_at {t : ByteArray} {a : Nat} (h : a ≤ t.size) (sh : Nat) : a ≤ (valS sh t a).at_ ∧ (valS sh t a).at_ ≤ t.size := by
  unfold valS
  split
  · exact needS_at h _ _
  · split
    · exact needS_at h _ _
    · split
      · exact needS_at h _ _
      · split
        · have := readV_size ((ls t).drop a)
          rw [List.length_drop, ls_len] at this
          unfold varS
          split
          · simp only; omega
          · exact ⟨Nat.le_refl _, h⟩
        · split
          · exact dataS_at h _
          · split
            · exact dataS_at h _
            · have h1 := dataS_at h 0
              have h2 := dataS_at h1.2 (writS t a 0).2.2
              unfold pairS writS at *
              simp only at *
              omega
theorem valS_ok {t : ByteArray} {a : Nat} (ht : t.size ≤ 140737488351232) (sh : Nat) : (valS sh t a).n < 4294967296 ∧ (valS sh t a).text.size ≤ 140737488351232 ∧ (valS sh t a).value.size ≤ 140737488351232 := by
  have hn : ∀ k : Nat, k ≤ 4 → getL (ls (needS t a 0 k).1) < 4294967296 := fun k hk => getL_four _ k (by rw [ls_len]; exact needS_size t a 0 k k (by omega)) hk
  have hd : ∀ (b : Nat) (e : Int), (dataS t b e).1.size ≤ 140737488351232 := fun b e => by
    unfold dataS
    exact Nat.le_trans (needS_len _ _ _ _) ht
  unfold valS
  split
  · exact ⟨hn 1 (by omega), by simp [ByteArray.size], by simp [ByteArray.size]⟩
  · split
    · exact ⟨hn 2 (by omega), by simp [ByteArray.size], by simp [ByteArray.size]⟩
    · split
      · exact ⟨hn 4 (by omega), by simp [ByteArray.size], by simp [ByteArray.size]⟩
      · split
        · refine ⟨?_, by simp [ByteArray.size], by simp [ByteArray.size]⟩
          have := readV_lt ((ls t).drop a)
          unfold varS
          split <;> (simp only; omega)
        · split
          · exact ⟨by simp, hd _ _, by simp [ByteArray.size]⟩
          · split
            · exact ⟨by simp, hd _ _, by simp [ByteArray.size]⟩
            · exact ⟨by simp, hd _ _, hd _ _⟩

/-- The place of a cursor. -/
def posOf (w : World) (gc : Nat) : Nat := match w.cell? ⟨gc, 1, none⟩ with | some v => (intOf v).toNat | none => 0
theorem posOf_cur {w : World} {gc a : Nat} {t : ByteArray} {e : Int} (h : Cur w gc t a e) : posOf w gc = a := by
  unfold posOf
  rw [h.cells.1.2.1]
  simp [intOf]

/-- What stands while list runs. -/
structure LInv (w0 : World) (r1 r2 g gs gc B0 : Nat) (t : ByteArray) (f : Nat → Nat) (a : Nat) (e : Int) (p : Pr) (w : World) : Prop where
  kept : Kept w0 w
  tab : Tab w r1
  rd : IMap .i64 w r2 rdTab
  seen : Bk w g ST (seenC f)
  src : Src w gs gc t a e p
  base : B0 ≤ w.heap.size
  nums : r1 < B0 ∧ r2 < B0 ∧ g < B0 ∧ gs < B0 ∧ gc < B0 ∧ w0.heap.size ≤ g ∧ w0.heap.size ≤ gs ∧ w0.heap.size ≤ gc ∧ g ≠ gs ∧ g ≠ gc ∧ r1 ≠ gs ∧ r1 ≠ gc ∧ r2 ≠ gs ∧ r2 ≠ gc ∧ r1 ≠ g ∧ r2 ≠ g ∧ w0.heap.size ≤ B0
section
variable {w0 w w' : World} {r1 r2 g gs gc B0 a : Nat} {t : ByteArray} {f : Nat → Nat} {e : Int} {p : Pr}
theorem LInv.below (h : LInv w0 r1 r2 g gs gc B0 t f a e p w) (hb : Below w.heap.size w w') : LInv w0 r1 r2 g gs gc B0 t f a e p w' :=
  ⟨h.kept.below hb, h.tab.below hb h.tab.lt, h.rd.below hb h.rd.lt, h.seen.below hb h.seen.lt, h.src.below hb, Nat.le_trans h.base hb.size, h.nums⟩
theorem LInv.alloc (h : LInv w0 r1 r2 g gs gc B0 t f a e p w) (o : Obj) : LInv w0 r1 r2 g gs gc B0 t f a e p (w.alloc o) := h.below ((Below.refl _ _).alloc (Nat.le_refl _) o)
theorem LInv.mods {a' : Nat} {e' : Int} {p' : Pr} (h : LInv w0 r1 r2 g gs gc B0 t f a e p w) (hm : Mods (two gs gc) w w') (hs : Src w' gs gc t a' e' p') : LInv w0 r1 r2 g gs gc B0 t f a' e' p' w' := by
  have hn := h.nums
  refine ⟨hm.below h.kept (by have := h.base; omega) (fun i hi => by rcases hi with rfl | rfl <;> omega), ?_, h.rd.mods hm (by rintro (x | x) <;> omega), h.seen.mods hm (by rintro (x | x) <;> omega), hs, Nat.le_trans h.base hm.size, hn⟩
  exact (hm.block r1 h.tab.lt (by rintro (x | x) <;> omega)).trans h.tab
theorem LInv.again {f' : Nat → Nat} (h : LInv w0 r1 r2 g gs gc B0 t f a e p w) (hm : w.grownBy w' (some g)) (hs : Bk w' g ST (seenC f')) : LInv w0 r1 r2 g gs gc B0 t f' a e p w' := by
  have hn := h.nums
  have hb : ∀ i, i < w.heap.size → i ≠ g → w'.heap[i]? = w.heap[i]? := fun i hi hne => hm.block i hi (fun x => hne (by cases x; rfl))
  refine ⟨Below.grown h.kept hm (by have := h.base; omega) (fun k hk => by cases hk; omega), (hb r1 h.tab.lt (by omega)).trans h.tab, (hb r2 h.rd.lt (by omega)).trans h.rd, hs, ⟨(hb gs h.src.1.lt (by omega)).trans h.src.1, (hb gc h.src.2.lt (by omega)).trans h.src.2.1, h.src.2.2⟩, Nat.le_trans h.base hm.size, hn⟩
theorem LInv.app {v : Value} (h : LInv w0 r1 r2 g gs gc B0 t f a e p w) (hg : w.grownBy w' v.ownBlock) (hv : ∀ k, v.ownBlock = some k → B0 ≤ k) : LInv w0 r1 r2 g gs gc B0 t f a e p w' := by
  have hn := h.nums
  have hb : ∀ i, i < w.heap.size → i < B0 → w'.heap[i]? = w.heap[i]? := fun i hi hne => hg.block i hi (fun x => by have := hv i x.symm; omega)
  refine ⟨h.kept.app hg (fun k hk => by have := hv k hk; omega), (hb r1 h.tab.lt (by omega)).trans h.tab, (hb r2 h.rd.lt (by omega)).trans h.rd, (hb g h.seen.lt (by omega)).trans h.seen, ⟨(hb gs h.src.1.lt (by omega)).trans h.src.1, (hb gc h.src.2.lt (by omega)).trans h.src.2.1, h.src.2.2⟩, Nat.le_trans h.base hg.size, hn⟩
end
/-- Four cells of the source, written at once. -/
theorem Src.put {w : World} {gs gc a : Nat} {t : ByteArray} {e : Int} {p : Pr} (h : Src w gs gc t a e p) (q : Pr) :
    Src ((((w.setCell ⟨gs, 1, none⟩ (.int .i64 q.id)).setCell ⟨gs, 2, none⟩ (.int .u32 q.n)).setCell ⟨gs, 3, none⟩ (.string q.text)).setCell ⟨gs, 4, none⟩ (.string q.value)) gs gc t a e q := by
  have h1 := h.set 1 (.int .i64 q.id) { p with id := q.id } rfl
  have h2 := h1.set 2 (.int .u32 q.n) { p with id := q.id, n := q.n } rfl
  have h3 := h2.set 3 (.string q.text) { q with value := p.value } rfl
  exact h3.set 4 (.string q.value) q rfl
theorem put_mods (w : World) (gs gc : Nat) (a b c d : Value) : Mods (two gs gc) w ((((w.setCell ⟨gs, 1, none⟩ a).setCell ⟨gs, 2, none⟩ b).setCell ⟨gs, 3, none⟩ c).setCell ⟨gs, 4, none⟩ d) :=
  ((((Mods.refl w).set gs 1 (.inl (.inl rfl)) a).set gs 2 (.inl (.inl rfl)) b).set gs 3 (.inl (.inl rfl)) c).set gs 4 (.inl (.inl rfl)) d
theorem num_one (t : ByteArray) (a : Nat) (h : a < t.size) : numS t a 0 1 = idAt t a ∧ (takeS t a 0 1).2 = (a + 1, 0) := by
  have hh : hasC t a 1 = true := by simp [hasC]; omega
  have e : takeS t a 0 1 = (t.extract a (a + 1), a + 1, 0) := by unfold takeS; rw [if_pos rfl, if_pos hh]; rfl
  refine ⟨?_, by rw [e]⟩
  unfold numS idAt
  rw [e]
  have : ls (t.extract a (a + 1)) = [(ls t)[a]'(by rw [ls_len]; exact h)] := by
    unfold ls
    rw [Lib.extract_data]
    apply List.ext_getElem?
    intro i
    cases i with
    | zero => simp [List.getElem?_take, List.getElem?_drop]
    | succ i => simp [List.getElem?_take]
  rw [this]
  simp [getL, List.getD, List.getElem?_eq_getElem (show a < (ls t).length by rw [ls_len]; exact h)]
end Go.Proofs.Ytcokgfmlkanoiaa
