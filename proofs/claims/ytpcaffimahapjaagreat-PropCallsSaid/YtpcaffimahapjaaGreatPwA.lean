/- A packet's block, kept whole in the walk while its fields are stored. -/
import Derived.Test.YtpcaffimahapjaaGreatMAck
import Derived.Test.YtpcaffimahapjaaGreatMLis
namespace Go.Proofs.YtpcaffimahapjaaGreat
open Go.RowKit

def stF (t : TypeId) (a v : Value) : Sem Unit := Instr.storeAt t a v
theorem to_stF (t : TypeId) (a v : Value) : Instr.storeAt t a v = stF t a v := rfl
theorem run_stF {P : Program} {w : World} {g i : Nat} {t : TypeId} {v : Value} (hi : (P.info? t).map (·.size) = some 1) (hv : v.cells = #[v]) (h1 : v.oneCell' = true) (ht : w.there g i 1) : (stF t (.pointer (some ⟨g, i, none⟩)) v).run P w = .ok () (w.setCell ⟨g, i, none⟩ v) := by
  have e : Instr.storeAt t (.pointer (some ⟨g, i, none⟩)) v = Instr.storeAt t (.pointer (some ⟨g, i, none⟩)) (.agg #[v]) := by
    unfold Instr.storeAt storeVar
    rw [hv]
    rfl
  unfold stF
  rw [e, run_storeAt_mid w g i t #[v] ht hi (by simpa using h1)]
  rfl
/-- Block g is a packet's block of these cells. -/
def pw (W : World) (g : Nat) (cs : Array Value) : World := { W with heap := W.heap.setIfInBounds g (.cells cs PkT (0, 0)) }
section
variable (W : World) (g : Nat) (cs : Array Value)
theorem pw_size : (pw W g cs).heap.size = W.heap.size := by simp [pw]
theorem pw_bk (hg : g < W.heap.size) : Bk (pw W g cs) g PkT cs := by
  unfold Bk pw
  simp [hg]
theorem pw_drew : (pw W g cs).drew = pw W.drew g cs := rfl
theorem pw_self (hb : Bk W g PkT cs) : pw W g cs = W := by
  have hh : W.heap.setIfInBounds g (.cells cs PkT (0, 0)) = W.heap := by
    apply Array.ext_getElem?
    intro k
    by_cases hk : k = g
    · subst hk
      have := hb
      unfold Bk at this
      rw [this]
      simp [hb.lt]
    · rw [Array.getElem?_setIfInBounds_ne (fun e => hk e.symm)]
  unfold pw
  rw [hh]
theorem pw_other {k : Nat} (hk : k ≠ g) : (pw W g cs).heap[k]? = W.heap[k]? := by
  unfold pw
  exact Array.getElem?_setIfInBounds_ne (fun e => hk e.symm)
theorem pw_grown : W.grownBy (pw W g cs) (some g) := ⟨rfl, rfl, rfl, by rw [pw_size]; exact Nat.le_refl _, fun k _ hk => pw_other W g cs (fun e => hk (by rw [e]))⟩
theorem pw_below {w : World} (h : Below w.heap.size w W) (hg : w.heap.size ≤ g) : Below w.heap.size w (pw W g cs) := below_mod h (pw_grown W g cs) h.size hg
theorem pw_put (i : Nat) (u : Value) (hg : g < W.heap.size) : (pw W g cs).setCell ⟨g, i, none⟩ u = pw W g (cs.setIfInBounds i u) := by
  have hh : (W.heap.setIfInBounds g (.cells cs PkT (0, 0))).modify g (fun
      | .cells c elem frozen => .cells (if (none : Option Unit).isSome then c else c.setIfInBounds i u) elem frozen
      | o => o) = W.heap.setIfInBounds g (.cells (cs.setIfInBounds i u) PkT (0, 0)) := by
    apply Array.ext_getElem?
    intro k
    rw [Array.getElem?_modify]
    by_cases hk : g = k
    · subst hk
      simp [hg]
    · rw [if_neg hk, Array.getElem?_setIfInBounds_ne hk, Array.getElem?_setIfInBounds_ne hk]
  unfold World.setCell pw
  exact congrArg (fun x => { W with heap := x }) hh
theorem pw_there (i k : Nat) (hg : g < W.heap.size) (hi : i + k ≤ cs.size) : (pw W g cs).there g i k := fun j hj => by
  rw [(pw_bk W g cs hg).cell, (pw_bk W g cs hg).free]
  refine ⟨?_, rfl⟩
  rw [Array.getElem?_eq_getElem (by omega)]
  rfl
theorem pw_store {P : Program} {t : TypeId} {v : Value} {i : Nat} {ds : Array Value} (hi : (P.info? t).map (·.size) = some 1) (hv : v.cells = #[v]) (h1 : v.oneCell' = true) (hlt : i < cs.size) (he : cs.setIfInBounds i v = ds) (hg : g < W.heap.size) :
    (stF t (.pointer (some ⟨g, i, none⟩)) v).run P (pw W g cs) = .ok () (pw W g ds) := by
  subst he
  rw [run_stF hi hv h1 (pw_there W g cs i 1 hg (by omega)), pw_put W g cs i v hg]
theorem ld_pw (p : Pk) (h : Hs) (hg : g < W.heap.size) : (ldPk (.pointer (some ⟨g, 0, none⟩))).run Tryz.prog (pw W g (pkC p h)) = .ok (pkV p h) (pw W g (pkC p h)) := ld_bk (pw_bk W g (pkC p h) hg)
theorem pw_at (p : Pk) (h : Hs) (hg : g < W.heap.size) (i : Nat) : (pw W g (pkC p h)).cell? ⟨g, i, none⟩ = (pkC p h)[i]? := (pw_bk W g (pkC p h) hg).cell i
theorem pw_free (hg : g < W.heap.size) (i : Nat) : (pw W g cs).frozen? ⟨g, i, none⟩ = false := (pw_bk W g cs hg).free i
end
theorem info_i : (Tryz.prog.info? 3).map (·.size) = some 1 := by kernel_rfl
theorem info_b : (Tryz.prog.info? 4).map (·.size) = some 1 := by kernel_rfl
theorem info_s : (Tryz.prog.info? 9).map (·.size) = some 1 := by kernel_rfl
theorem info_lc : (Tryz.prog.info? 44).map (·.size) = some 1 := by kernel_rfl
theorem info_lf : (Tryz.prog.info? 45).map (·.size) = some 1 := by kernel_rfl
theorem info_lp : (Tryz.prog.info? 25).map (·.size) = some 1 := by kernel_rfl
section
variable (W : World) (g : Nat) (p : Pk) (h : Hs)
theorem pw_st0 (x : Int) (hg : g < W.heap.size) : (stF 3 (.pointer (some ⟨g, 0, none⟩)) (.int .i64 x)).run Tryz.prog (pw W g (pkC p h)) = .ok () (pw W g (pkC { p with kind := x } h)) := pw_store W g _ info_i rfl rfl (by rw [pkC_size]; decide) rfl hg
theorem pw_dst0 (x : Int) (hg : g < W.heap.size) : (stF 3 (.pointer (some ⟨g, 0, none⟩)) (.int .i64 x)).run Tryz.prog (pw W g (pkC p h)).drew = .ok () (pw W g (pkC { p with kind := x } h)).drew := pw_st0 W.drew g p h x hg
theorem pw_st1 (x : Bool) (hg : g < W.heap.size) : (stF 4 (.pointer (some ⟨g, 1, none⟩)) (.bool x)).run Tryz.prog (pw W g (pkC p h)) = .ok () (pw W g (pkC { p with dup := x } h)) := pw_store W g _ info_b rfl rfl (by rw [pkC_size]; decide) rfl hg
theorem pw_dst1 (x : Bool) (hg : g < W.heap.size) : (stF 4 (.pointer (some ⟨g, 1, none⟩)) (.bool x)).run Tryz.prog (pw W g (pkC p h)).drew = .ok () (pw W g (pkC { p with dup := x } h)).drew := pw_st1 W.drew g p h x hg
theorem pw_st2 (x : Bool) (hg : g < W.heap.size) : (stF 4 (.pointer (some ⟨g, 2, none⟩)) (.bool x)).run Tryz.prog (pw W g (pkC p h)) = .ok () (pw W g (pkC { p with retain := x } h)) := pw_store W g _ info_b rfl rfl (by rw [pkC_size]; decide) rfl hg
theorem pw_dst2 (x : Bool) (hg : g < W.heap.size) : (stF 4 (.pointer (some ⟨g, 2, none⟩)) (.bool x)).run Tryz.prog (pw W g (pkC p h)).drew = .ok () (pw W g (pkC { p with retain := x } h)).drew := pw_st2 W.drew g p h x hg
theorem pw_st3 (x : Int) (hg : g < W.heap.size) : (stF 3 (.pointer (some ⟨g, 3, none⟩)) (.int .i64 x)).run Tryz.prog (pw W g (pkC p h)) = .ok () (pw W g (pkC { p with qos := x } h)) := pw_store W g _ info_i rfl rfl (by rw [pkC_size]; decide) rfl hg
theorem pw_dst3 (x : Int) (hg : g < W.heap.size) : (stF 3 (.pointer (some ⟨g, 3, none⟩)) (.int .i64 x)).run Tryz.prog (pw W g (pkC p h)).drew = .ok () (pw W g (pkC { p with qos := x } h)).drew := pw_st3 W.drew g p h x hg
theorem pw_st4 (x : Int) (hg : g < W.heap.size) : (stF 3 (.pointer (some ⟨g, 4, none⟩)) (.int .i64 x)).run Tryz.prog (pw W g (pkC p h)) = .ok () (pw W g (pkC { p with id := x } h)) := pw_store W g _ info_i rfl rfl (by rw [pkC_size]; decide) rfl hg
theorem pw_dst4 (x : Int) (hg : g < W.heap.size) : (stF 3 (.pointer (some ⟨g, 4, none⟩)) (.int .i64 x)).run Tryz.prog (pw W g (pkC p h)).drew = .ok () (pw W g (pkC { p with id := x } h)).drew := pw_st4 W.drew g p h x hg
theorem pw_st5 (x : ByteArray) (hg : g < W.heap.size) : (stF 9 (.pointer (some ⟨g, 5, none⟩)) (.string x)).run Tryz.prog (pw W g (pkC p h)) = .ok () (pw W g (pkC { p with topic := x } h)) := pw_store W g _ info_s rfl rfl (by rw [pkC_size]; decide) rfl hg
theorem pw_dst5 (x : ByteArray) (hg : g < W.heap.size) : (stF 9 (.pointer (some ⟨g, 5, none⟩)) (.string x)).run Tryz.prog (pw W g (pkC p h)).drew = .ok () (pw W g (pkC { p with topic := x } h)).drew := pw_st5 W.drew g p h x hg
theorem pw_st6 (x : ByteArray) (hg : g < W.heap.size) : (stF 9 (.pointer (some ⟨g, 6, none⟩)) (.string x)).run Tryz.prog (pw W g (pkC p h)) = .ok () (pw W g (pkC { p with payload := x } h)) := pw_store W g _ info_s rfl rfl (by rw [pkC_size]; decide) rfl hg
theorem pw_dst6 (x : ByteArray) (hg : g < W.heap.size) : (stF 9 (.pointer (some ⟨g, 6, none⟩)) (.string x)).run Tryz.prog (pw W g (pkC p h)).drew = .ok () (pw W g (pkC { p with payload := x } h)).drew := pw_st6 W.drew g p h x hg
theorem pw_st7 (x : Bool) (hg : g < W.heap.size) : (stF 4 (.pointer (some ⟨g, 7, none⟩)) (.bool x)).run Tryz.prog (pw W g (pkC p h)) = .ok () (pw W g (pkC { p with clean := x } h)) := pw_store W g _ info_b rfl rfl (by rw [pkC_size]; decide) rfl hg
theorem pw_dst7 (x : Bool) (hg : g < W.heap.size) : (stF 4 (.pointer (some ⟨g, 7, none⟩)) (.bool x)).run Tryz.prog (pw W g (pkC p h)).drew = .ok () (pw W g (pkC { p with clean := x } h)).drew := pw_st7 W.drew g p h x hg
theorem pw_st8 (x : Int) (hg : g < W.heap.size) : (stF 3 (.pointer (some ⟨g, 8, none⟩)) (.int .i64 x)).run Tryz.prog (pw W g (pkC p h)) = .ok () (pw W g (pkC { p with alive := x } h)) := pw_store W g _ info_i rfl rfl (by rw [pkC_size]; decide) rfl hg
theorem pw_dst8 (x : Int) (hg : g < W.heap.size) : (stF 3 (.pointer (some ⟨g, 8, none⟩)) (.int .i64 x)).run Tryz.prog (pw W g (pkC p h)).drew = .ok () (pw W g (pkC { p with alive := x } h)).drew := pw_st8 W.drew g p h x hg
theorem pw_st9 (x : ByteArray) (hg : g < W.heap.size) : (stF 9 (.pointer (some ⟨g, 9, none⟩)) (.string x)).run Tryz.prog (pw W g (pkC p h)) = .ok () (pw W g (pkC { p with client := x } h)) := pw_store W g _ info_s rfl rfl (by rw [pkC_size]; decide) rfl hg
theorem pw_dst9 (x : ByteArray) (hg : g < W.heap.size) : (stF 9 (.pointer (some ⟨g, 9, none⟩)) (.string x)).run Tryz.prog (pw W g (pkC p h)).drew = .ok () (pw W g (pkC { p with client := x } h)).drew := pw_st9 W.drew g p h x hg
theorem pw_st10 (x : Bool) (hg : g < W.heap.size) : (stF 4 (.pointer (some ⟨g, 10, none⟩)) (.bool x)).run Tryz.prog (pw W g (pkC p h)) = .ok () (pw W g (pkC { p with hasUser := x } h)) := pw_store W g _ info_b rfl rfl (by rw [pkC_size]; decide) rfl hg
theorem pw_dst10 (x : Bool) (hg : g < W.heap.size) : (stF 4 (.pointer (some ⟨g, 10, none⟩)) (.bool x)).run Tryz.prog (pw W g (pkC p h)).drew = .ok () (pw W g (pkC { p with hasUser := x } h)).drew := pw_st10 W.drew g p h x hg
theorem pw_st11 (x : ByteArray) (hg : g < W.heap.size) : (stF 9 (.pointer (some ⟨g, 11, none⟩)) (.string x)).run Tryz.prog (pw W g (pkC p h)) = .ok () (pw W g (pkC { p with user := x } h)) := pw_store W g _ info_s rfl rfl (by rw [pkC_size]; decide) rfl hg
theorem pw_dst11 (x : ByteArray) (hg : g < W.heap.size) : (stF 9 (.pointer (some ⟨g, 11, none⟩)) (.string x)).run Tryz.prog (pw W g (pkC p h)).drew = .ok () (pw W g (pkC { p with user := x } h)).drew := pw_st11 W.drew g p h x hg
theorem pw_st12 (x : Bool) (hg : g < W.heap.size) : (stF 4 (.pointer (some ⟨g, 12, none⟩)) (.bool x)).run Tryz.prog (pw W g (pkC p h)) = .ok () (pw W g (pkC { p with hasPass := x } h)) := pw_store W g _ info_b rfl rfl (by rw [pkC_size]; decide) rfl hg
theorem pw_dst12 (x : Bool) (hg : g < W.heap.size) : (stF 4 (.pointer (some ⟨g, 12, none⟩)) (.bool x)).run Tryz.prog (pw W g (pkC p h)).drew = .ok () (pw W g (pkC { p with hasPass := x } h)).drew := pw_st12 W.drew g p h x hg
theorem pw_st13 (x : ByteArray) (hg : g < W.heap.size) : (stF 9 (.pointer (some ⟨g, 13, none⟩)) (.string x)).run Tryz.prog (pw W g (pkC p h)) = .ok () (pw W g (pkC { p with pass := x } h)) := pw_store W g _ info_s rfl rfl (by rw [pkC_size]; decide) rfl hg
theorem pw_dst13 (x : ByteArray) (hg : g < W.heap.size) : (stF 9 (.pointer (some ⟨g, 13, none⟩)) (.string x)).run Tryz.prog (pw W g (pkC p h)).drew = .ok () (pw W g (pkC { p with pass := x } h)).drew := pw_st13 W.drew g p h x hg
theorem pw_st14 (x : Bool) (hg : g < W.heap.size) : (stF 4 (.pointer (some ⟨g, 14, none⟩)) (.bool x)).run Tryz.prog (pw W g (pkC p h)) = .ok () (pw W g (pkC { p with hasWill := x } h)) := pw_store W g _ info_b rfl rfl (by rw [pkC_size]; decide) rfl hg
theorem pw_dst14 (x : Bool) (hg : g < W.heap.size) : (stF 4 (.pointer (some ⟨g, 14, none⟩)) (.bool x)).run Tryz.prog (pw W g (pkC p h)).drew = .ok () (pw W g (pkC { p with hasWill := x } h)).drew := pw_st14 W.drew g p h x hg
theorem pw_st15 (x : ByteArray) (hg : g < W.heap.size) : (stF 9 (.pointer (some ⟨g, 15, none⟩)) (.string x)).run Tryz.prog (pw W g (pkC p h)) = .ok () (pw W g (pkC { p with will := { p.will with topic := x } } h)) := pw_store W g _ info_s rfl rfl (by rw [pkC_size]; decide) rfl hg
theorem pw_dst15 (x : ByteArray) (hg : g < W.heap.size) : (stF 9 (.pointer (some ⟨g, 15, none⟩)) (.string x)).run Tryz.prog (pw W g (pkC p h)).drew = .ok () (pw W g (pkC { p with will := { p.will with topic := x } } h)).drew := pw_st15 W.drew g p h x hg
theorem pw_st16 (x : ByteArray) (hg : g < W.heap.size) : (stF 9 (.pointer (some ⟨g, 16, none⟩)) (.string x)).run Tryz.prog (pw W g (pkC p h)) = .ok () (pw W g (pkC { p with will := { p.will with payload := x } } h)) := pw_store W g _ info_s rfl rfl (by rw [pkC_size]; decide) rfl hg
theorem pw_dst16 (x : ByteArray) (hg : g < W.heap.size) : (stF 9 (.pointer (some ⟨g, 16, none⟩)) (.string x)).run Tryz.prog (pw W g (pkC p h)).drew = .ok () (pw W g (pkC { p with will := { p.will with payload := x } } h)).drew := pw_st16 W.drew g p h x hg
theorem pw_st17 (x : Int) (hg : g < W.heap.size) : (stF 3 (.pointer (some ⟨g, 17, none⟩)) (.int .i64 x)).run Tryz.prog (pw W g (pkC p h)) = .ok () (pw W g (pkC { p with will := { p.will with qos := x } } h)) := pw_store W g _ info_i rfl rfl (by rw [pkC_size]; decide) rfl hg
theorem pw_dst17 (x : Int) (hg : g < W.heap.size) : (stF 3 (.pointer (some ⟨g, 17, none⟩)) (.int .i64 x)).run Tryz.prog (pw W g (pkC p h)).drew = .ok () (pw W g (pkC { p with will := { p.will with qos := x } } h)).drew := pw_st17 W.drew g p h x hg
theorem pw_st18 (x : Bool) (hg : g < W.heap.size) : (stF 4 (.pointer (some ⟨g, 18, none⟩)) (.bool x)).run Tryz.prog (pw W g (pkC p h)) = .ok () (pw W g (pkC { p with will := { p.will with retain := x } } h)) := pw_store W g _ info_b rfl rfl (by rw [pkC_size]; decide) rfl hg
theorem pw_dst18 (x : Bool) (hg : g < W.heap.size) : (stF 4 (.pointer (some ⟨g, 18, none⟩)) (.bool x)).run Tryz.prog (pw W g (pkC p h)).drew = .ok () (pw W g (pkC { p with will := { p.will with retain := x } } h)).drew := pw_st18 W.drew g p h x hg
theorem pw_st20 (x : Bool) (hg : g < W.heap.size) : (stF 4 (.pointer (some ⟨g, 20, none⟩)) (.bool x)).run Tryz.prog (pw W g (pkC p h)) = .ok () (pw W g (pkC { p with session := x } h)) := pw_store W g _ info_b rfl rfl (by rw [pkC_size]; decide) rfl hg
theorem pw_dst20 (x : Bool) (hg : g < W.heap.size) : (stF 4 (.pointer (some ⟨g, 20, none⟩)) (.bool x)).run Tryz.prog (pw W g (pkC p h)).drew = .ok () (pw W g (pkC { p with session := x } h)).drew := pw_st20 W.drew g p h x hg
theorem pw_st21 (x : Int) (hg : g < W.heap.size) : (stF 3 (.pointer (some ⟨g, 21, none⟩)) (.int .i64 x)).run Tryz.prog (pw W g (pkC p h)) = .ok () (pw W g (pkC { p with code := x } h)) := pw_store W g _ info_i rfl rfl (by rw [pkC_size]; decide) rfl hg
theorem pw_dst21 (x : Int) (hg : g < W.heap.size) : (stF 3 (.pointer (some ⟨g, 21, none⟩)) (.int .i64 x)).run Tryz.prog (pw W g (pkC p h)).drew = .ok () (pw W g (pkC { p with code := x } h)).drew := pw_st21 W.drew g p h x hg
theorem pw_st22 (l : List Int) (A : Option Addr) (n : Nat) (hg : g < W.heap.size) : (stF 44 (.pointer (some ⟨g, 22, none⟩)) (.slice A l.length n)).run Tryz.prog (pw W g (pkC p h)) = .ok () (pw W g (pkC { p with codes := l } { h with codes := ⟨A, n⟩ })) := pw_store W g _ info_lc rfl rfl (by rw [pkC_size]; decide) rfl hg
theorem pw_nil22 (hg : g < W.heap.size) : (stF 44 (.pointer (some ⟨g, 22, none⟩)) (.slice none 0 0)).run Tryz.prog (pw W g (pkC p h)) = .ok () (pw W g (pkC { p with codes := [] } { h with codes := hd0 })) := pw_store W g _ info_lc rfl rfl (by rw [pkC_size]; decide) rfl hg
theorem pw_st23 (l : List Fi) (A : Option Addr) (n : Nat) (hg : g < W.heap.size) : (stF 45 (.pointer (some ⟨g, 23, none⟩)) (.slice A l.length n)).run Tryz.prog (pw W g (pkC p h)) = .ok () (pw W g (pkC { p with filters := l } { h with filters := ⟨A, n⟩ })) := pw_store W g _ info_lf rfl rfl (by rw [pkC_size]; decide) rfl hg
theorem pw_nil23 (hg : g < W.heap.size) : (stF 45 (.pointer (some ⟨g, 23, none⟩)) (.slice none 0 0)).run Tryz.prog (pw W g (pkC p h)) = .ok () (pw W g (pkC { p with filters := [] } { h with filters := hd0 })) := pw_store W g _ info_lf rfl rfl (by rw [pkC_size]; decide) rfl hg
theorem pw_st24 (l : List Pr) (A : Option Addr) (n : Nat) (hg : g < W.heap.size) : (stF 25 (.pointer (some ⟨g, 24, none⟩)) (.slice A l.length n)).run Tryz.prog (pw W g (pkC p h)) = .ok () (pw W g (pkC { p with props := l } { h with props := ⟨A, n⟩ })) := pw_store W g _ info_lp rfl rfl (by rw [pkC_size]; decide) rfl hg
theorem pw_nil24 (hg : g < W.heap.size) : (stF 25 (.pointer (some ⟨g, 24, none⟩)) (.slice none 0 0)).run Tryz.prog (pw W g (pkC p h)) = .ok () (pw W g (pkC { p with props := [] } { h with props := hd0 })) := pw_store W g _ info_lp rfl rfl (by rw [pkC_size]; decide) rfl hg
theorem pw_stwp (l : List Pr) (A : Option Addr) (n : Nat) (hg : g < W.heap.size) : (stF 25 (.pointer (some ⟨g, 19, none⟩)) (.slice A l.length n)).run Tryz.prog (pw W g (pkC p h)) = .ok () (pw W g (pkC { p with will := { p.will with props := l } } { h with wp := ⟨A, n⟩ })) := pw_store W g _ info_lp rfl rfl (by rw [pkC_size]; decide) rfl hg
def ldWl (v : Value) : Sem Value := Instr.loadAt WlT v
def stWl (a v : Value) : Sem Unit := Instr.storeAt WlT a v
theorem to_ldWl (v : Value) : Instr.loadAt WlT v = ldWl v := rfl
theorem to_stWl (a v : Value) : Instr.storeAt WlT a v = stWl a v := rfl
end
theorem info_wl : (Tryz.prog.info? WlT).map (·.size) = some 5 := by kernel_rfl
theorem wlC_one (x : Wl) (k : Hd) : (wlC x k).all (·.oneCell') = true := by simp [wlC, Value.oneCell']
/-- A will loaded out of a packet. -/
theorem ld_wl {w : World} {g : Nat} {p : Pk} {h : Hs} (hb : Bk w g PkT (pkC p h)) : (ldWl (.pointer (some ⟨g, 15, none⟩))).run Tryz.prog w = .ok (wlV p.will h.wp) w := by
  unfold ldWl
  have hc : w.rangeAt g 15 (wlC p.will h.wp).toList := fun j v hv => by
    rw [hb.cell]
    rcases j with _ | _ | _ | _ | _ | j
    · exact hv
    · exact hv
    · exact hv
    · exact hv
    · exact hv
    · simp [wlC] at hv
  exact run_loadAt_mid w g 15 WlT (wlC p.will h.wp).toList _ hc Tryz.underlying43 rfl (by rw [Array.length_toList]; exact info_wl)
theorem pw_puts (W : World) (g : Nat) (hg : g < W.heap.size) : ∀ (vs : List Value) (o : Nat) (cs : Array Value), (pw W g cs).setCells g o vs = pw W g (putA cs o vs)
  | [], _, _ => rfl
  | v :: vs, o, cs => by rw [World.setCells, pw_put W g cs o v hg, pw_puts W g hg vs (o + 1) _, putA]
/-- A whole will stored into a packet. -/
theorem pw_stwl (W : World) (g : Nat) (p : Pk) (h : Hs) (x : Wl) (k : Hd) (hg : g < W.heap.size) : (stWl (.pointer (some ⟨g, 15, none⟩)) (wlV x k)).run Tryz.prog (pw W g (pkC p h)) = .ok () (pw W g (pkC { p with will := x } { h with wp := k })) := by
  unfold stWl
  refine (run_storeAt_mid (pw W g (pkC p h)) g 15 WlT (wlC x k) (pw_there W g _ 15 5 hg (by rw [pkC_size]; decide)) info_wl (wlC_one x k)).trans ?_
  rw [pw_puts W g hg, show putA (pkC p h) 15 (wlC x k).toList = pkC { p with will := x } { h with wp := k } from rfl]
theorem pw_dstwl (W : World) (g : Nat) (p : Pk) (h : Hs) (x : Wl) (k : Hd) (hg : g < W.heap.size) : (stWl (.pointer (some ⟨g, 15, none⟩)) (wlV x k)).run Tryz.prog (pw W g (pkC p h)).drew = .ok () (pw W g (pkC { p with will := x } { h with wp := k })).drew := pw_stwl W.drew g p h x k hg
theorem pw_stwl0 (W : World) (g : Nat) (p : Pk) (h : Hs) (hg : g < W.heap.size) : (stWl (.pointer (some ⟨g, 15, none⟩)) (.agg #[.string ⟨#[]⟩, .string ⟨#[]⟩, .int .i64 0, .bool false, .slice none 0 0])).run Tryz.prog (pw W g (pkC p h)) = .ok () (pw W g (pkC { p with will := wl0 } { h with wp := hd0 })) := pw_stwl W g p h wl0 hd0 hg
theorem run_bdWl0 (w : World) : (Instr.build WlT #[]).run Tryz.prog w = .ok (wlV wl0 hd0) w := by kernel_rfl
end Go.Proofs.YtpcaffimahapjaaGreat
