/- strings.Join: its contract of the shelf, the table laid; connect.put, data, tail. -/
import Derived.Test.YtdpeljnoaiaplaaCntC
import Derived.Shelf.Strings.OnBuilder
namespace Go.Proofs.Ytdpeljnoaiaplaa
open Go.RowKit Go.Shelf
def lays156_ren : Ren := ⟨fun | 156 => 104 | 165 => 130 | 166 => 131 | 169 => 132 | 240 => 139 | 241 => 140 | 276 => 148 | 277 => 149 | n => n, fun | 0 => 0 | 3 => 3 | 4 => 4 | 5 => 5 | 9 => 9 | 20 => 20 | 31 => 116 | 37 => 42 | 70 => 143 | 72 => 145 | 75 => 148 | 76 => 149 | 80 => 126 | 127 => 157 | 164 => 176 | n => n, fun n => n⟩
theorem lays156 : Lays.n156 Try.prog lays156_ren where
  mixed := by kernel_rfl
  f156 := Try.func104.trans (congrArg some (by kernel_rfl))
  f165 := Try.func130.trans (congrArg some (by kernel_rfl))
  f166 := Try.func131.trans (congrArg some (by kernel_rfl))
  f169 := Try.func132.trans (congrArg some (by kernel_rfl))
  f240 := Try.func139.trans (congrArg some (by kernel_rfl))
  f241 := Try.func140.trans (congrArg some (by kernel_rfl))
  f276 := Try.func148.trans (congrArg some (by kernel_rfl))
  f277 := Try.func149.trans (congrArg some (by kernel_rfl))
  t0 := Try.underlying0
  a0 := Try.isAgg0
  z0 := Try.sizeOf0
  v0 := Try.zeroValue0
  t3 := Try.underlying3
  a3 := Try.isAgg3
  z3 := Try.sizeOf3
  v3 := Try.zeroValue3
  t4 := Try.underlying4
  a4 := Try.isAgg4
  z4 := Try.sizeOf4
  v4 := Try.zeroValue4
  t9 := Try.underlying9
  a9 := Try.isAgg9
  z9 := Try.sizeOf9
  v9 := Try.zeroValue9
  t20 := Try.underlying20
  a20 := Try.isAgg20
  z20 := Try.sizeOf20
  v20 := Try.zeroValue20
  t31 := Try.underlying116
  a31 := Try.isAgg116
  z31 := Try.sizeOf116
  v31 := Try.zeroValue116
  t37 := Try.underlying42
  a37 := Try.isAgg42
  z37 := Try.sizeOf42
  v37 := Try.zeroValue42
  t70 := Try.underlying143
  a70 := Try.isAgg143
  z70 := Try.sizeOf143
  v70 := Try.zeroValue143
  t72 := Try.underlying145
  a72 := Try.isAgg145
  z72 := Try.sizeOf145
  v72 := Try.zeroValue145
  t75 := Try.underlying148
  a75 := Try.isAgg148
  z75 := Try.sizeOf148
  v75 := Try.zeroValue148
  t76 := Try.underlying149
  a76 := Try.isAgg149
  z76 := Try.sizeOf149
  v76 := Try.zeroValue149
  t127 := Try.underlying157
  a127 := Try.isAgg157
  z127 := Try.sizeOf157
  v127 := Try.zeroValue157
  t164 := Try.underlying176
  a164 := Try.isAgg176
  z164 := Try.sizeOf176
  v164 := Try.zeroValue176
theorem extra156 : Builder.Extra Try.prog lays156_ren where
  sizeBuilder := by kernel_rfl
  liesBuilder := by kernel_rfl
  t5 := Try.underlying5
  a5 := Try.isAgg5
  z5 := Try.sizeOf5
  v5 := Try.zeroValue5
  infoByte := by kernel_rfl
  cellsByte := by kernel_rfl
  sizeByte := by kernel_rfl
  neB5 := by decide +kernel
/-- Texts, one behind the other. -/
def catL : List ByteArray → ByteArray
  | [] => ⟨#[]⟩
  | x :: l => x ++ catL l
theorem join_flat (l : List (List UInt8)) : Lib.join l [] = l.flatten := by
  cases l with
  | nil => rfl
  | cons x r =>
    rw [Lib.join_cons]
    simp [Lib.joinTail]
theorem cat_ls : ∀ (l : List ByteArray), ls (catL l) = (l.map (·.data.toList)).flatten
  | [] => rfl
  | x :: l => by
    rw [catL, ls_app, cat_ls l]
    rfl
theorem join_cat (l : List ByteArray) : (⟨(Lib.join (l.map (·.data.toList)) (⟨#[]⟩ : ByteArray).data.toList).toArray⟩ : ByteArray) = catL l := by
  apply ls_ext
  rw [ls_mk, cat_ls]
  exact join_flat _
theorem cat_size : ∀ (l : List ByteArray), (Lib.join (l.map (·.data.toList)) (⟨#[]⟩ : ByteArray).data.toList).length = (catL l).size := fun l => by
  rw [← ls_len, ← join_cat, ls_mk]
set_option maxHeartbeats 400000 in
set_option maxRecDepth 10000 in
theorem put8_any (xs : List ByteArray) (n c bk o : Nat) (hn : xs.length = n) (w : World) (hcells : ∀ (j : Nat) x, xs[j]? = some x → w.cell? ⟨bk, o + j, none⟩ = some (.string x)) (hbk : bk < w.heap.size) (hN : n ≤ 1000) (hcap : n ≤ c) (hlen : (catL xs).size ≤ 140737488355328) :
    Calls Try.prog 63 #[.slice (some ⟨bk, o, none⟩) n c] w fun e w' => e = .returned (.string (catL xs)) ∧ Below w.heap.size w w' := by
  subst hn
  have HJ := Lib.hid (Any.strings_Join lays156 extra156 bk o c xs ⟨#[]⟩ w hcells hbk (by omega) hcap (by rw [cat_size]; exact hlen))
  rw [join_cat] at HJ
  clear hcells hN hcap hlen
  go_enter Try.func63, Try.ntmps63
  go_wp2_with fail
  refine (HJ.out).mono ?_
  rintro e w1 ⟨rfl, hb⟩
  have HB := Lib.hid hb; clear hb
  go_wp2
  go_ret
  exact ⟨rfl, HB.out⟩
/-- Properties' bytes, of V5. -/
def tail8 (v k : Int) (l : List Pr) : ByteArray := if v = 4 then ⟨#[]⟩ else ⟨(bytesS k l).1.toArray⟩
set_option maxHeartbeats 400000 in
set_option maxRecDepth 10000 in
theorem tail8_any (v k : Int) (l : List Pr) (n : Nat) (hn : l.length = n) (hok : ∀ p ∈ l, prGood p) (A : Option Addr) (c : Nat) (w : World) (h : Rd w w.heap.size 4 A n (prs l)) (hl : n ≤ 4611686018427387904) :
    Calls Try.prog 62 #[.int .i64 v, .int .i64 k, .slice A n c] w fun e w' => e = .returned (.string (tail8 v k l)) ∧ Below w.heap.size w w' := by
  subst hn
  by_cases h4 : v = 4
  · have e4 : (v == 4) = true := beq_iff_eq.2 h4
    have HX : Hid (tail8 v k l = ⟨#[]⟩) := Lib.hid (if_pos h4)
    clear h4 h hok
    go_enter Try.func62, Try.ntmps62
    go_wp2
    go_ret
    exact ⟨by rw [HX.out]; rfl, Below.refl _ _⟩
  · have e4 : (v == 4) = false := beq_eq_false_iff_ne.2 h4
    have HX : Hid (tail8 v k l = ⟨(bytesS k l).1.toArray⟩) := Lib.hid (if_neg h4)
    clear h4
    go_enter Try.func62, Try.ntmps62
    go_wp2_with fail
    refine (bytesP_n k l _ rfl hok A c _ h hl).mono ?_
    rintro e w1 ⟨rfl, hb⟩
    have HB := Lib.hid hb; clear hb
    go_wp2
    go_ret
    exact ⟨by rw [HX.out]; rfl, HB.out⟩
end Go.Proofs.Ytdpeljnoaiaplaa
