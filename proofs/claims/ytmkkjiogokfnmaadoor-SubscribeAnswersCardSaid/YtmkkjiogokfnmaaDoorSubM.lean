/- A slice of bytes that the call has made, by a conversion of a string too: its cells read, may be written; append onto it. -/
import Derived.Test.YtmkkjiogokfnmaaDoorMTai
import Derived.Lib.ConvBytes
import Derived.Lib.AppendStr
import Derived.Laws.IdiomCopy
import Derived.Deep.MidRow
namespace Go.Proofs.YtmkkjiogokfnmaaDoor
open Go.RowKit

/-- The slice value v is the call's own, of the bytes l. -/
def OB (w : World) (base : Nat) (v : Value) (l : List UInt8) : Prop :=
  ∃ g cap, v = .slice (some ⟨g, 0, none⟩) l.length cap ∧ base ≤ g ∧ g < w.heap.size ∧ l.length ≤ cap ∧ w.there g 0 cap ∧ w.rangeAt g 0 (bys l)
section
variable {w w' : World} {base : Nat} {v : Value} {l : List UInt8}
theorem range_app {w : World} {g o : Nat} {a b : List Value} (ha : w.rangeAt g o a) (hb : w.rangeAt g (o + a.length) b) : w.rangeAt g o (a ++ b) := by
  intro j u hu
  by_cases hj : j < a.length
  · rw [List.getElem?_append_left hj] at hu
    exact ha j u hu
  · rw [List.getElem?_append_right (by omega)] at hu
    have := hb _ u hu
    rwa [show o + a.length + (j - a.length) = o + j by omega] at this
theorem bys_app (a b : List UInt8) : bys (a ++ b) = bys a ++ bys b := by simp [bys]
theorem OB.below (h : OB w base v l) (hb : Below w.heap.size w w') : OB w' base v l := by
  obtain ⟨g, cap, hv, h1, h2, h3, h4, h5⟩ := h
  refine ⟨g, cap, hv, h1, Nat.lt_of_lt_of_le h2 hb.size, h3, fun j hj => ?_, fun j u hu => ?_⟩
  · rw [hb.cell (p := ⟨g, 0 + j, none⟩) h2, hb.frozen (p := ⟨g, 0 + j, none⟩) h2]; exact h4 j hj
  · rw [hb.cell (p := ⟨g, 0 + j, none⟩) h2]; exact h5 j u hu
theorem OB.drewN (h : OB w base v l) (n : Nat) : OB (w.drewN n) base v l := h
theorem OB.rd (h : OB w base v l) : ∃ A c, v = .slice A l.length c ∧ Rd w w.heap.size 1 A l.length (bys l) := by
  obtain ⟨g, cap, hv, h1, h2, h3, h4, h5⟩ := h
  refine ⟨_, cap, hv, by rw [bys_len, Nat.mul_one], .inr ⟨g, 0, rfl, h2, fun j u hu => ?_⟩⟩
  exact h5 j u hu
theorem OB.block (h : OB w base v l) : ∀ g, v.ownBlock = some g → base ≤ g ∧ g < w.heap.size := by
  obtain ⟨g, cap, rfl, h1, h2, h3, h4, h5⟩ := h
  intro k hk
  simp [Value.ownBlock] at hk
  subst hk
  exact ⟨h1, h2⟩
theorem grown_cells (g : Nat) : ∀ (vs : List Value) (o : Nat) (w : World), w.grownBy (w.setCells g o vs) (some g)
  | [], _, w => World.grownBy.refl w _
  | v :: r, o, w => by
    rw [World.setCells]
    exact (mod_set w g o v).trans (grown_cells g r (o + 1) _)
theorem there_alloc (w : World) (cs : Array Value) (t : TypeId) (n : Nat) (hn : n ≤ cs.size) : (w.alloc (.cells cs t)).there w.heap.size 0 n := by
  intro j hj
  have hb := Bk.fresh w t cs
  rw [Nat.zero_add, hb.cell, hb.free]
  exact ⟨by rw [Array.getElem?_eq_getElem (by omega)]; rfl, rfl⟩
theorem range_alloc (w : World) (cs : Array Value) (t : TypeId) (xs : List Value) (h : ∀ (j : Nat) (u : Value), xs[j]? = some u → cs[j]? = some u) : (w.alloc (.cells cs t)).rangeAt w.heap.size 0 xs := by
  intro j u hu
  have hb := Bk.fresh w t cs
  rw [Nat.zero_add, hb.cell]
  exact h j u hu
end
section
variable {P : Program} (w : World) {base : Nat} {v : Value} {l : List UInt8}
theorem strCells_bys (s : ByteArray) : Lib.strCells s = bys (ls s) := by
  simp [Lib.strCells, bys, ls]
/-- What an append that finds room leaves. -/
theorem ob_room {g cap : Nat} (h1 : base ≤ g) (h2 : g < w.heap.size) (h4 : w.there g 0 cap) (h5 : w.rangeAt g 0 (bys l)) (m : List UInt8) (hr : l.length + m.length ≤ cap) :
    OB (w.setCells g l.length (bys m)) base (.slice (some ⟨g, 0, none⟩) (l.length + m.length) cap) (l ++ m) := by
  refine ⟨g, cap, by rw [List.length_append], h1, Nat.lt_of_lt_of_le h2 (grown_cells g (bys m) l.length w).size, by rw [List.length_append]; exact hr, World.there_setCells h4 g _ _, ?_⟩
  rw [bys_app]
  refine range_app (World.rangeAt_setCells_apart h5 g _ _ (.inr (.inl (by rw [bys_len]; omega)))) ?_
  rw [bys_len, Nat.zero_add]
  refine World.rangeAt_setCells_same w g _ _ fun j hj => ?_
  have := h4 (l.length + j) (by rw [bys_len] at hj; omega)
  rwa [Nat.zero_add] at this
/-- What an append that makes a new row leaves. -/
theorem ob_grow (e : TypeId) (m : List UInt8) (c : Nat) (hb : base ≤ w.heap.size) (hc : l.length + m.length ≤ c) :
    OB (w.drew.alloc (.cells ((bys l).toArray ++ (bys m).toArray ++ Builtin.zeroCells (Value.int .u8 0).cells (c - (l.length + m.length))) e)) base (.slice (some ⟨w.heap.size, 0, none⟩) (l.length + m.length) c) (l ++ m) := by
  have hz : ((bys l).toArray ++ (bys m).toArray ++ Builtin.zeroCells (Value.int .u8 0).cells (c - (l.length + m.length))).size = c := by
    have hz1 : (Value.int IntKind.u8 0).cells.size = 1 := rfl
    simp only [Array.size_append, List.size_toArray, size_zeroCells, hz1, bys_len]
    omega
  refine ⟨w.heap.size, c, by rw [List.length_append], hb, by simp, by rw [List.length_append]; exact hc, ?_, ?_⟩
  · exact there_alloc w.drew _ _ _ (by rw [hz]; exact Nat.le_refl _)
  · refine range_alloc w.drew _ _ _ fun j u hu => ?_
    rw [bys_app] at hu
    have hj := (List.getElem?_eq_some_iff.1 hu).1
    have e1 : (bys l).toArray ++ (bys m).toArray = (bys l ++ bys m).toArray := by simp
    rw [e1, Array.getElem?_append_left (by rw [List.size_toArray]; exact hj), List.getElem?_toArray]
    exact hu
theorem run_obS (t u ty e : TypeId) (ht : P.underlying t = some (.slice e)) (hu : P.underlying u = some .string) (hinfo : (P.info? e).map (fun i => (i.zero, i.size, i.bytes)) = some (some (.int .u8 0), 1, 1))
    (hown : OB w base v l) (hbase : base ≤ w.heap.size) (s : ByteArray) (hbytes : l.length + s.size ≤ 140737488355328) :
    ∃ v' w', (Builtin.append_ #[t, u] ty #[v, .string s]).run P w = .ok v' w' ∧ OB w' base v' (l ++ ls s) ∧ w.grownBy w' v.ownBlock := by
  obtain ⟨i, hi, hz, hsize, hby⟩ := info_parts hinfo
  obtain ⟨g, cap, rfl, h1, h2, h3, h4, h5⟩ := hown
  by_cases hroom : l.length + s.size ≤ cap
  · have hf := Lib.run_firstCells_string (P := P) w 1 s
    have hst := run_storeCells_cells (P := P) g l.length (Lib.strCells s) 0 w (fun j hj => by
        rw [strCells_bys, bys_len, ls_len] at hj
        have := (h4 (l.length + j) (by omega)).1
        rwa [Nat.zero_add] at this) (fun j hj => by
        rw [strCells_bys, bys_len, ls_len] at hj
        have := (h4 (l.length + j) (by omega)).2
        rwa [Nat.zero_add] at this) (Lib.strCells_oneCell s)
    rw [Nat.add_zero] at hst
    refine ⟨.slice (some ⟨g, 0, none⟩) (l.length + s.size) cap, _, ?_, ?_, grown_cells g (bys (ls s)) l.length w⟩
    · rw [← strCells_bys]
      simp [Builtin.append_, run_underlying ht, run_underlying hu, sizeOf, typeInfo, hi, hsize, Builtin.lenOf, hroom, hf, Addr.add_lit, hst]
    · have := ob_room w h1 h2 h4 h5 (ls s) (by rw [ls_len]; exact hroom)
      rwa [ls_len] at this
  · have hr := Lib.run_append_grow_string (P := P) w t u ty e i (.int .u8 0) ht hu hi hz ⟨g, 0, none⟩ l.length cap (bys l) (by rw [hsize, bys_len, Nat.mul_one]) (fun j u hj => by rw [Addr.add_lit]; exact h5 j u hj) s (by omega) (by omega) (by rw [hby]; exact growslice_fits (by omega) (by omega))
    rw [strCells_bys] at hr
    refine ⟨_, _, hr, ?_, ⟨rfl, rfl, rfl, by simp, fun k hk _ => Below.heap_alloc w.drew _ k hk⟩⟩
    have := ob_grow (base := base) (l := l) w e (ls s) (grownCap w (l.length + s.size) cap e) hbase (by rw [ls_len]; exact grownCap_ge w (l.length + s.size) cap e)
    rw [ls_len] at this
    exact this
theorem run_obB (t ty e : TypeId) (ht : P.underlying t = some (.slice e)) (hinfo : (P.info? e).map (fun i => (i.zero, i.size, i.bytes)) = some (some (.int .u8 0), 1, 1))
    (hown : OB w base v l) (hbase : base ≤ w.heap.size) (a : Addr) (c : Nat) (m : List UInt8) (hnews : ∀ j u, (bys m)[j]? = some u → w.cell? (a.add j) = some u) (hbytes : l.length + m.length ≤ 140737488355328) :
    ∃ v' w', (Builtin.append_ #[t, t] ty #[v, .slice (some a) m.length c]).run P w = .ok v' w' ∧ OB w' base v' (l ++ m) ∧ w.grownBy w' v.ownBlock := by
  obtain ⟨i, hi, hz, hsize, hby⟩ := info_parts hinfo
  obtain ⟨g, cap, rfl, h1, h2, h3, h4, h5⟩ := hown
  by_cases hroom : l.length + m.length ≤ cap
  · have hf := run_firstCells_some (P := P) w i.size m.length a m.length c (bys m) (by rw [hsize, bys_len, Nat.mul_one]) hnews
    rw [hsize] at hf
    have hst := run_storeCells_cells (P := P) g l.length (bys m) 0 w (fun j hj => by
        rw [bys_len] at hj
        have := (h4 (l.length + j) (by omega)).1
        rwa [Nat.zero_add] at this) (fun j hj => by
        rw [bys_len] at hj
        have := (h4 (l.length + j) (by omega)).2
        rwa [Nat.zero_add] at this) (bys_one m)
    rw [Nat.add_zero] at hst
    refine ⟨.slice (some ⟨g, 0, none⟩) (l.length + m.length) cap, _, ?_, ob_room w h1 h2 h4 h5 m hroom, grown_cells g (bys m) l.length w⟩
    simp [Builtin.append_, run_underlying ht, sizeOf, typeInfo, hi, hsize, Builtin.lenOf, hroom, hf, Addr.add_lit, hst]
  · have hr := run_append_grow (P := P) w t ty e i (.int .u8 0) ht hi hz ⟨g, 0, none⟩ l.length cap (bys l) (by rw [hsize, bys_len, Nat.mul_one]) (fun j u hj => by rw [Addr.add_lit]; exact h5 j u hj) a m.length c (bys m) (by rw [hsize, bys_len, Nat.mul_one]) hnews (by omega) (by omega) (by rw [hby]; exact growslice_fits (by omega) (by omega))
    exact ⟨_, _, hr, ob_grow (base := base) (l := l) w e m (grownCap w (l.length + m.length) cap e) hbase (grownCap_ge w (l.length + m.length) cap e), ⟨rfl, rfl, rfl, by simp, fun k hk _ => Below.heap_alloc w.drew _ k hk⟩⟩
/-- The operations, for the walk. -/
theorem wpList_obS {ops : Array Oper} {rest : List Oper} {o : Oper} {a : Act} {Q : Exit → Act → World → Prop} (hgd : o.guard = none) (sl x : Operand) (t u : TypeId)
    (ho : o.op = .call { callee := .builtin .append, args := #[sl, x], argTypes := #[t, u] }) (base : Nat) (e : TypeId) (ht : P.underlying t = some (.slice e)) (hu : P.underlying u = some .string)
    (hinfo : (P.info? e).map (fun i => (i.zero, i.size, i.bytes)) = some (some (.int .u8 0), 1, 1))
    (v : Value) (l : List UInt8) (hs : a.eval sl = v) (hown : OB w base v l) (s : ByteArray) (hx : a.eval x = .string s) (hbytes : l.length + s.size ≤ 140737488355328) (hbase : base ≤ w.heap.size)
    (h : ∀ v' w', OB w' base v' (l ++ ls s) → w.grownBy w' v.ownBlock → wpList P ops Q rest (a.put o.dst v') w') : wpList P ops Q (o :: rest) a w := by
  refine wpList_plain hgd fun K hK => ?_
  obtain ⟨v', w', hr, h2, h3⟩ := run_obS (P := P) w t u o.type e ht hu hinfo hown hbase s hbytes
  unfold Oper.wp execOp
  simp only [ho, resolve, invoke, builtin, Sem.run_bind, Sem.run_pure, Result.andThen_ok, List.map_toArray, List.map_cons, List.map_nil, hs, hx, hr]
  exact hK _ _ (h v' w' h2 h3)
theorem wpList_obB {ops : Array Oper} {rest : List Oper} {o : Oper} {a : Act} {Q : Exit → Act → World → Prop} (hgd : o.guard = none) (sl x : Operand) (t : TypeId)
    (ho : o.op = .call { callee := .builtin .append, args := #[sl, x], argTypes := #[t, t] }) (base : Nat) (e : TypeId) (ht : P.underlying t = some (.slice e))
    (hinfo : (P.info? e).map (fun i => (i.zero, i.size, i.bytes)) = some (some (.int .u8 0), 1, 1))
    (v : Value) (l : List UInt8) (hs : a.eval sl = v) (hown : OB w base v l) (ad : Addr) (c : Nat) (m : List UInt8) (hx : a.eval x = .slice (some ad) m.length c) (hnews : ∀ j u, (bys m)[j]? = some u → w.cell? (ad.add j) = some u)
    (hbytes : l.length + m.length ≤ 140737488355328) (hbase : base ≤ w.heap.size)
    (h : ∀ v' w', OB w' base v' (l ++ m) → w.grownBy w' v.ownBlock → wpList P ops Q rest (a.put o.dst v') w') : wpList P ops Q (o :: rest) a w := by
  refine wpList_plain hgd fun K hK => ?_
  obtain ⟨v', w', hr, h2, h3⟩ := run_obB (P := P) w t o.type e ht hinfo hown hbase ad c m hnews hbytes
  unfold Oper.wp execOp
  simp only [ho, resolve, invoke, builtin, Sem.run_bind, Sem.run_pure, Result.andThen_ok, List.map_toArray, List.map_cons, List.map_nil, hs, hx, hr]
  exact hK _ _ (h v' w' h2 h3)
theorem rd_news {w : World} {B n : Nat} {ad : Addr} {xs : List Value} (hr : Rd w B 1 (some ad) n xs) : ∀ (j : Nat) (u : Value), xs[j]? = some u → w.cell? (ad.add j) = some u := by
  rcases hr.2 with h0 | ⟨b, o, h, _, hc⟩
  · subst h0
    intro j u hu
    simp at hu
  · cases h
    intro j u hu
    rw [Addr.add_lit]
    exact hc j u hu
theorem wpList_obR {ops : Array Oper} {rest : List Oper} {o : Oper} {a : Act} {Q : Exit → Act → World → Prop} (hgd : o.guard = none) (sl x : Operand) (t : TypeId)
    (ho : o.op = .call { callee := .builtin .append, args := #[sl, x], argTypes := #[t, t] }) (base : Nat) (e : TypeId) (ht : P.underlying t = some (.slice e))
    (hinfo : (P.info? e).map (fun i => (i.zero, i.size, i.bytes)) = some (some (.int .u8 0), 1, 1))
    (v : Value) (l : List UInt8) (hs : a.eval sl = v) (hown : OB w base v l) (B : Nat) (ad : Addr) (c : Nat) (m : List UInt8) (hx : a.eval x = .slice (some ad) m.length c) (hr : Rd w B 1 (some ad) m.length (bys m))
    (hbytes : l.length + m.length ≤ 140737488355328) (hbase : base ≤ w.heap.size)
    (h : ∀ v' w', OB w' base v' (l ++ m) → w.grownBy w' v.ownBlock → wpList P ops Q rest (a.put o.dst v') w') : wpList P ops Q (o :: rest) a w :=
  wpList_obB w hgd sl x t ho base e ht hinfo v l hs hown ad c m hx (rd_news hr) hbytes hbase h
theorem OB.alloc {w : World} {base : Nat} {v : Value} {l : List UInt8} (h : OB w base v l) (o : Obj) : OB (w.alloc o) base v l := h.below ((Below.refl _ _).alloc (Nat.le_refl _) o)
/-- []byte(s), as an operation. -/
theorem ob_conv (src dst e : TypeId) (s : ByteArray) {d : TypeDesc} (hs : P.underlying src = some d) (hd : P.underlying dst = some (.slice e)) (he : P.underlying e = some (.int .u8)) :
    ∃ v w', (convert src dst (.string s)).run P w = .ok v w' ∧ OB w' w.heap.size v (ls s) ∧ Below w.heap.size w w' := by
  refine ⟨_, _, Lib.run_convert_string_bytes w src dst e s hs hd he, ?_, ?_⟩
  · have hnew := Lib.bytesWorld_at_new w e s
    have hge := grownCap_ge w s.size 0 e
    have hsz : (Lib.bytesCells w e s).size = grownCap w s.size 0 e := by
      simp [Lib.bytesCells]
      have : s.data.size = s.size := rfl
      omega
    refine ⟨w.heap.size, grownCap w s.size 0 e, by rw [ls_len], Nat.le_refl _, by rw [Lib.bytesWorld_size]; omega, by rw [ls_len]; exact hge, fun j hj => ?_, fun j u hu => ?_⟩
    · rw [Nat.zero_add, cell_of_row _ _ _ _ _ _ hnew]
      refine ⟨by rw [Array.getElem?_eq_getElem (by omega)]; rfl, ?_⟩
      simp only [World.frozen?, hnew, Bool.and_eq_false_iff, decide_eq_false_iff_not]
      left
      omega
    · rw [Nat.zero_add, cell_of_row _ _ _ _ _ _ hnew]
      have hj := (List.getElem?_eq_some_iff.1 hu).1
      rw [bys_len, ls_len] at hj
      unfold Lib.bytesCells
      rw [Array.getElem?_append_left (by rw [Array.size_map]; exact hj), Array.getElem?_map]
      unfold bys at hu
      rw [List.getElem?_map] at hu
      rw [← hu, show (ls s)[j]? = s.data[j]? from Array.getElem?_toList]
  · exact ⟨rfl, rfl, rfl, by rw [Lib.bytesWorld_size]; omega, fun k hk => Lib.bytesWorld_at_old w e s k hk⟩
end
end Go.Proofs.YtmkkjiogokfnmaaDoor
