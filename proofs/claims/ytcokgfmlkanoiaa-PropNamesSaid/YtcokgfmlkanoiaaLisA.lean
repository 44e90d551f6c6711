/- prop's readers: a map of functions; how a value is read, by its shape. -/
import Derived.Test.YtcokgfmlkanoiaaSrcB
namespace Go.Proofs.Ytcokgfmlkanoiaa
open Go.RowKit

def rdF (sh : Nat) : FuncId :=
  if sh = 1 then 87 else if sh = 2 then 88 else if sh = 3 then 89 else if sh = 4 then 90
  else if sh = 5 then 91 else if sh = 6 then 92 else 93
def fnV (f : FuncId) : Value := .func (.func f) #[] #[]
def rdTab : List (Int × Value) := [(1, fnV 87), (2, fnV 88), (3, fnV 89), (4, fnV 90), (5, fnV 91), (6, fnV 92), (7, fnV 93)]
theorem lookI_rd (sh : Nat) (h1 : 1 ≤ sh) (h7 : sh ≤ 7) : lookI rdTab sh = some (fnV (rdF sh)) := by
  obtain rfl | rfl | rfl | rfl | rfl | rfl | rfl : sh = 1 ∨ sh = 2 ∨ sh = 3 ∨ sh = 4 ∨ sh = 5 ∨ sh = 6 ∨ sh = 7 := by omega
  all_goals rfl

set_option maxHeartbeats 1000000 in
set_option maxRecDepth 10000 in
theorem readers_any (w : World) : Calls Try.prog 77 #[] w fun e w' => e = .returned (.map (some w.heap.size)) ∧ IMap .i64 w' w.heap.size rdTab ∧ Below w.heap.size w w' := by
  have hmm := @run_makeMap Try.prog
  have HT := Lib.hid (IMap.made w .i64)
  have HB := Lib.hid ((Below.refl w.heap.size w).alloc (Nat.le_refl _) (.map #[] 0))
  go_enter Try.func77, Try.ntmps77
  go_wp2_with (refine wpList_mput _ rfl _ _ _ 92 rfl 3 100 (by kernel_rfl) (by kernel_rfl) w.heap.size _ rfl HT.out _ _ rfl rfl rfl ?_; intro w1 hT hg; have hb := HB.out.grown hg (HB.out.size) (fun k hk => by cases hk; exact Nat.le_refl _); clear HT HB hg; have HT := Lib.hid hT; have HB := Lib.hid hb; clear hT hb)
  exact bodyPost_ret (v := .map (some w.heap.size)) (by simp [results, Try.results77, go_sem]) rfl ⟨rfl, HT.out, HB.out⟩

theorem run_enter {P : Program} {f : FuncId} {fn : Func} {c : Code} (hf : P.funcs[f]? = some fn) (hname : (fn.name == "runtime.NumGoroutine") = false) (hb : fn.body = some c) (args : Array Value) (w : World) :
    (callFunc f args).run P w = .ok (.enter f args) w := by
  have h1 : fn.name ≠ "runtime.NumGoroutine" := by simpa using hname
  simp [callFunc, hf, h1, hb]
theorem enter_rd (sh : Nat) (h1 : 1 ≤ sh) (h7 : sh ≤ 7) (args : Array Value) (w : World) : (callFunc (rdF sh) args).run Try.prog w = .ok (.enter (rdF sh) args) w := by
  obtain rfl | rfl | rfl | rfl | rfl | rfl | rfl : sh = 1 ∨ sh = 2 ∨ sh = 3 ∨ sh = 4 ∨ sh = 5 ∨ sh = 6 ∨ sh = 7 := by omega
  · exact run_enter Try.func87 (by kernel_rfl) rfl args w
  · exact run_enter Try.func88 (by kernel_rfl) rfl args w
  · exact run_enter Try.func89 (by kernel_rfl) rfl args w
  · exact run_enter Try.func90 (by kernel_rfl) rfl args w
  · exact run_enter Try.func91 (by kernel_rfl) rfl args w
  · exact run_enter Try.func92 (by kernel_rfl) rfl args w
  · exact run_enter Try.func93 (by kernel_rfl) rfl args w

/-- A value that is read: the number, the texts, the place, the error. -/
structure VRead where
  n : Nat
  text : ByteArray
  value : ByteArray
  at_ : Nat
  err : Int
def valS (sh : Nat) (t : ByteArray) (a : Nat) : VRead :=
  if sh = 1 then ⟨getL (ls (needS t a 0 1).1), ⟨#[]⟩, ⟨#[]⟩, (needS t a 0 1).2.1, (needS t a 0 1).2.2⟩
  else if sh = 2 then ⟨getL (ls (needS t a 0 2).1), ⟨#[]⟩, ⟨#[]⟩, (needS t a 0 2).2.1, (needS t a 0 2).2.2⟩
  else if sh = 3 then ⟨getL (ls (needS t a 0 4).1), ⟨#[]⟩, ⟨#[]⟩, (needS t a 0 4).2.1, (needS t a 0 4).2.2⟩
  else if sh = 4 then ⟨(varS t a).1, ⟨#[]⟩, ⟨#[]⟩, (varS t a).2.1, (varS t a).2.2⟩
  else if sh = 5 then ⟨0, (writS t a 0).1, ⟨#[]⟩, (writS t a 0).2.1, (writS t a 0).2.2⟩
  else if sh = 6 then ⟨0, (dataS t a 0).1, ⟨#[]⟩, (dataS t a 0).2.1, (dataS t a 0).2.2⟩
  else ⟨0, (pairS t a 0).1.1, (pairS t a 0).1.2, (pairS t a 0).2.1, (pairS t a 0).2.2⟩
theorem val_src (sh : Nat) (h1 : 1 ≤ sh) (h7 : sh ≤ 7) (gs gc a : Nat) (t : ByteArray) (id : Int) (w : World) (h : Src w gs gc t a 0 ⟨id, 0, ⟨#[]⟩, ⟨#[]⟩⟩) :
    Calls Try.prog (rdF sh) #[.pointer (some ⟨gs, 0, none⟩)] w (SrcOut gs gc t (valS sh t a).at_ (valS sh t a).err ⟨id, (valS sh t a).n, (valS sh t a).text, (valS sh t a).value⟩ w) := by
  obtain rfl | rfl | rfl | rfl | rfl | rfl | rfl : sh = 1 ∨ sh = 2 ∨ sh = 3 ∨ sh = 4 ∨ sh = 5 ∨ sh = 6 ∨ sh = 7 := by omega
  · exact one_src gs gc a t 0 _ w h
  · exact two_src gs gc a t 0 _ w h
  · exact four_src gs gc a t 0 _ w h
  · exact vary_src gs gc a t _ w h
  · exact text_src gs gc a t 0 _ w h
  · exact binary_src gs gc a t 0 _ w h
  · exact pair_src gs gc a t 0 _ w h
end Go.Proofs.Ytcokgfmlkanoiaa
