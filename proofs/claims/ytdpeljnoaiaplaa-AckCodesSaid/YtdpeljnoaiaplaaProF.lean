/- A list of properties' bytes: what they are, and the walk of prop.Bytes. -/
import Derived.Test.YtdpeljnoaiaplaaProE
import Derived.Deep.AppendLies
namespace Go.Proofs.Ytdpeljnoaiaplaa
open Go.RowKit
attribute [local go_sem ↓] Go.wp_at_zero Go.wp_at_succ

def prC (p : Pr) : List Value := [.int .i64 p.id, .int .u32 p.n, .string p.text, .string p.value]
def prs (l : List Pr) : List Value := l.flatMap prC
theorem prs_len (l : List Pr) : (prs l).length = l.length * 4 := by
  induction l with
  | nil => rfl
  | cons p l ih => simp only [prs, List.flatMap_cons, List.length_append, List.length_cons]; rw [show (List.flatMap prC l).length = l.length * 4 from ih]; simp [prC]; omega
theorem prs_at : ∀ (l : List Pr) (i j : Nat) (h : i < l.length), j < 4 → (prs l)[i * 4 + j]? = (prC l[i])[j]?
  | p :: l, 0, j, _, hj => by
    simp only [prs, List.flatMap_cons, List.getElem_cons_zero]
    rw [Nat.zero_mul, Nat.zero_add, List.getElem?_append_left (by simp [prC]; omega)]
  | p :: l, i + 1, j, h, hj => by
    have h' : i < l.length := by simpa using h
    have ih := prs_at l i j h' hj
    simp only [prs, List.flatMap_cons, List.getElem_cons_succ]
    rw [List.getElem?_append_right (by simp [prC]; omega)]
    rw [← ih]
    congr 1
    simp [prC]; omega
theorem Rd.atP {w : World} {B : Nat} {A : Option Addr} {l : List Pr} (h : Rd w B 4 A l.length (prs l)) {i : Nat} (hi : i < l.length) : ∃ b o, A = some ⟨b, o, none⟩ ∧ b < B ∧
    w.cell? ⟨b, o + i * 4, none⟩ = some (.int .i64 l[i].id) ∧ w.cell? ⟨b, o + i * 4 + 1, none⟩ = some (.int .u32 l[i].n) ∧ w.cell? ⟨b, o + i * 4 + 2, none⟩ = some (.string l[i].text) ∧ w.cell? ⟨b, o + i * 4 + 3, none⟩ = some (.string l[i].value) := by
  rcases h.2 with h0 | ⟨b, o, rfl, hb, hc⟩
  · have := prs_len l
    rw [h0] at this
    simp at this
    omega
  · refine ⟨b, o, rfl, hb, ?_, ?_, ?_, ?_⟩
    · exact hc (i * 4 + 0) _ (prs_at l i 0 hi (by omega))
    · rw [Nat.add_assoc]; exact hc (i * 4 + 1) _ (prs_at l i 1 hi (by omega))
    · rw [Nat.add_assoc]; exact hc (i * 4 + 2) _ (prs_at l i 2 hi (by omega))
    · rw [Nat.add_assoc]; exact hc (i * 4 + 3) _ (prs_at l i 3 hi (by omega))

def propL (p : Pr) : List UInt8 := UInt8.ofNat p.id.toNat :: ls (valueS (shapeOf p.id) p)
def loneB (f : Nat → Nat) : Bool := decide (0 < f 22) && (f 21 == 0)
def bytesGo (kind : Int) : List Pr → (Nat → Nat) → List UInt8 → List UInt8 × Int
  | [], f, out => if loneB f = true then ([], 9) else (varL out.length ++ out, 0)
  | p :: l, f, out =>
    if checkE (ruleOf p.id) kind p ≠ 0 then ([], checkE (ruleOf p.id) kind p)
    else if againB f kind p.id.toNat = true then ([], 9)
    else bytesGo kind l (upd f p.id.toNat (f p.id.toNat + 1)) (out ++ propL p)
def bytesS (kind : Int) (l : List Pr) : List UInt8 × Int := if 1000 < l.length then ([], 4) else bytesGo kind l (fun _ => 0) []

/-- What stands while Bytes runs: nothing of the caller's has turned; the rules; what has been counted; own slices lie from block B0 on. -/
def Inv (w0 : World) (r g B0 : Nat) (f : Nat → Nat) (w : World) : Prop := Below w0.heap.size w0 w ∧ Tab w r ∧ Bk w g ST (seenC f) ∧ B0 ≤ w.heap.size ∧ r < B0 ∧ g < B0 ∧ w0.heap.size ≤ B0
section
variable {w0 w w' : World} {r g B0 : Nat} {f : Nat → Nat}
theorem Inv.alloc (h : Inv w0 r g B0 f w) (o : Obj) : Inv w0 r g B0 f (w.alloc o) := by
  obtain ⟨h1, h2, h3, h4, h5, h6, h7⟩ := h
  exact ⟨h1.alloc (by omega) o, h2.alloc o, h3.alloc o, by simp; omega, h5, h6, h7⟩
theorem Inv.drewN (h : Inv w0 r g B0 f w) (n : Nat) : Inv w0 r g B0 f (w.drewN n) := ⟨below_drawn h.1 n, h.2.1, h.2.2.1, h.2.2.2⟩
theorem Inv.below (h : Inv w0 r g B0 f w) (hb : Below w.heap.size w w') : Inv w0 r g B0 f w' := by
  obtain ⟨h1, h2, h3, h4, h5, h6, h7⟩ := h
  exact ⟨h1.trans (hb.mono h1.size), h2.below hb h2.lt, h3.below hb h3.lt, Nat.le_trans h4 hb.size, h5, h6, h7⟩
theorem Inv.set (h : Inv w0 r g B0 f w) {k i : Nat} (hk : B0 ≤ k) (u : Value) : Inv w0 r g B0 f (w.setCell ⟨k, i, none⟩ u) := by
  obtain ⟨h1, h2, h3, h4, h5, h6, h7⟩ := h
  exact ⟨h1.setCell (by show w0.heap.size ≤ k; omega) u, h2.other (by show r ≠ k; omega) u, h3.other (by show g ≠ k; omega) u, by simpa using h4, h5, h6, h7⟩
theorem Inv.four (h : Inv w0 r g B0 f w) {k : Nat} (hk : B0 ≤ k) (a b c d : Value) : Inv w0 r g B0 f ((((w.setCell ⟨k, 0, none⟩ a).setCell ⟨k, 1, none⟩ b).setCell ⟨k, 2, none⟩ c).setCell ⟨k, 3, none⟩ d) := (((h.set hk a).set hk b).set hk c).set hk d
theorem Inv.app {v : Value} (h : Inv w0 r g B0 f w) (hg : w.grownBy w' v.ownBlock) (hv : ∀ k, v.ownBlock = some k → B0 ≤ k) : Inv w0 r g B0 f w' := by
  obtain ⟨h1, h2, h3, h4, h5, h6, h7⟩ := h
  exact ⟨h1.grown hg (by omega) (fun k hk => by have := hv k hk; omega), (hg.block r h2.lt (fun e => by have := hv _ e.symm; omega)).trans h2,
    (hg.block g h3.lt (fun e => by have := hv _ e.symm; omega)).trans h3, by have := hg.size; omega, h5, h6, h7⟩
theorem Inv.again {f' : Nat → Nat} (h : Inv w0 r g B0 f w) (hm : w.grownBy w' (some g)) (hrg : r ≠ g) (hwg : w0.heap.size ≤ g) (hs : Bk w' g ST (seenC f')) : Inv w0 r g B0 f' w' := by
  obtain ⟨h1, h2, h3, h4, h5, h6, h7⟩ := h
  exact ⟨h1.grown hm (by omega) (fun k hk => by cases hk; exact hwg), (hm.block r h2.lt (fun e => hrg (by cases e; rfl))).trans h2, hs, by have := hm.size; omega, h5, h6, h7⟩
end

section
variable {P : Program} {w : World}
theorem step_app {ops : Array Oper} {o : Oper} {a : Act} {K : Act → World → Prop} {Q : Exit → Act → World → Prop} {E : Prop} (hgd : o.guard = none) (s x : Operand) (t : TypeId)
    (ho : o.op = .call { callee := .builtin .append, args := #[s, x], argTypes := #[t, t] })
    (base : Nat) (e : TypeId) (z : Value) (size bytes : Nat) (ht : P.underlying t = some (.slice e)) (hinfo : (P.info? e).map (fun i => (i.zero, i.size, i.bytes)) = some (some z, size, bytes))
    (hzs : z.cells.size = size) (hsz : 0 < size) (v : Value) (n : Nat) (xs : List Value) (hs : a.eval s = v) (hown : w.ownsRow base e size v n xs)
    (B : Nat) (A : Option Addr) (m c : Nat) (news : List Value) (hx : a.eval x = .slice A m c) (hr : Rd w B size A m news) (h1 : ∀ u ∈ news, u.oneCell' = true)
    (h63 : n + m ≤ maxLen) (hbytes : (n + m) * bytes ≤ 140737488355328) (hbase : base ≤ w.heap.size)
    (h : ∀ v' w', w'.ownsRow base e size v' (n + m) (xs ++ news) → w.grownBy w' v.ownBlock → (v'.ownBlock = v.ownBlock ∨ v'.ownBlock = some w.heap.size) → K (a.put o.dst v') w') :
    if Region.wanted o (yielded ops a.tmps) = true then Oper.wp P o a w K Q else E := by
  have hw : Region.wanted o (yielded ops a.tmps) = true := by simp [Region.wanted, hgd]
  rw [if_pos hw]
  exact wp_app w s x t ho base e z size bytes ht hinfo hzs hsz v n xs hs hown B A m c news hx hr h1 h63 hbytes hbase h
theorem step_appS {ops : Array Oper} {o : Oper} {a : Act} {K : Act → World → Prop} {Q : Exit → Act → World → Prop} {E : Prop} (hgd : o.guard = none) (sl x : Operand) (t u : TypeId)
    (ho : o.op = .call { callee := .builtin .append, args := #[sl, x], argTypes := #[t, u] })
    (base : Nat) (e : TypeId) (ht : P.underlying t = some (.slice e)) (hu : P.underlying u = some .string) (hinfo : (P.info? e).map (fun i => (i.zero, i.size, i.bytes)) = some (some (.int .u8 0), 1, 1))
    (v : Value) (n : Nat) (xs : List Value) (hs : a.eval sl = v) (hown : w.ownsRow base e 1 v n xs) (s : ByteArray) (hx : a.eval x = .string s)
    (h63 : n + s.size ≤ maxLen) (hbytes : n + s.size ≤ 140737488355328) (hbase : base ≤ w.heap.size)
    (h : ∀ v' w', w'.ownsRow base e 1 v' (n + s.size) (xs ++ bys (ls s)) → w.grownBy w' v.ownBlock → K (a.put o.dst v') w') :
    if Region.wanted o (yielded ops a.tmps) = true then Oper.wp P o a w K Q else E := by
  have hw : Region.wanted o (yielded ops a.tmps) = true := by simp [Region.wanted, hgd]
  rw [if_pos hw]
  obtain ⟨i, hi, hz, hsize, hby⟩ := info_parts hinfo
  obtain ⟨v', w', hr, h2, h3, h4⟩ := Lib.run_append_own_string (P := P) w base t u o.type e i ht hu hi hz hsize hby v n xs hown s h63 hbytes hbase
  unfold Oper.wp execOp
  simp only [ho, resolve, invoke, builtin, Sem.run_bind, Sem.run_pure, Result.andThen_ok, List.map_toArray, List.map_cons, List.map_nil, hs, hx, hr]
  exact h v' w' h2 h3
end
end Go.Proofs.Ytdpeljnoaiaplaa
