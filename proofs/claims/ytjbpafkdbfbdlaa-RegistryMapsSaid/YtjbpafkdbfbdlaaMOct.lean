/-
  Walks of octet: Put, Get.
  Walks of octet: Get, and the cursor.
  Walks of octet: what moves the cursor.
-/
import Derived.Test.YtjbpafkdbfbdlaaProg
import Derived.Test.YtjbpafkdbfbdlaaMKit
import Derived.Deep.OwnRows
import Derived.Lib.Strings

namespace Go.Proofs.Ytjbpafkdbfbdlaa
open Go.RowKit

theorem info_byte : (Try.prog.info? 5).map (fun i => (i.zero, i.size, i.bytes)) = some (some (.int .u8 0), 1, 1) := by kernel_rfl
/-- The lowest k bytes of n, the highest first. -/
def putL (n k : Nat) : List UInt8 := (List.range k).map fun j => if k - 1 - j < 8 then UInt8.ofNat (n / 2 ^ (8 * (k - 1 - j))) else 0
theorem putL_len (n k : Nat) : (putL n k).length = k := by simp [putL]
def putAt (n k i j : Nat) : Value := if k - 1 - j < i then .int .u8 ((if k - 1 - j < 8 then UInt8.ofNat (n / 2 ^ (8 * (k - 1 - j))) else 0 : UInt8).toNat : Int) else .int .u8 0

theorem Rd.of_row {w : World} {g n : Nat} {t : TypeId} {f : Nat → Value} (h : w.rowIs g t n f) (l : List UInt8) (hl : l.length = n) (hf : ∀ i (hi : i < l.length), f i = .int .u8 (l[i].toNat : Int)) : Rd w w.heap.size 1 (some ⟨g, 0, none⟩) n (bys l) := by
  refine ⟨by simp [bys, hl], .inr ⟨g, 0, rfl, h.lt, fun j u hu => ?_⟩⟩
  have hj : j < l.length := by
    rcases Nat.lt_or_ge j l.length with h | h
    · exact h
    · rw [List.getElem?_eq_none (by simpa [bys] using h)] at hu; cases hu
  rw [Nat.zero_add, h.cell (by omega), hf j hj]
  simpa [bys, hj] using hu

/-- The number that bytes are. -/
def getL (l : List UInt8) : Nat := l.foldl (fun n b => n * 256 + b.toNat) 0
theorem getL_snoc (l : List UInt8) (b : UInt8) : getL (l ++ [b]) = getL l * 256 + b.toNat := by simp [getL]
theorem getL_aux : ∀ (l : List UInt8) (n : Nat), l.foldl (fun n b => n * 256 + b.toNat) n < (n + 1) * 256 ^ l.length
  | [], n => by simp
  | b :: l, n => by
    have h := getL_aux l (n * 256 + b.toNat)
    have hb := b.toNat_lt
    simp only [List.foldl_cons, List.length_cons, Nat.pow_succ]
    refine Nat.lt_of_lt_of_le h ?_
    rw [Nat.mul_comm (256 ^ l.length) 256, ← Nat.mul_assoc]
    exact Nat.mul_le_mul_right _ (by omega)
theorem getL_lt (l : List UInt8) : getL l < 256 ^ l.length := by
  have := getL_aux l 0
  simpa [getL] using this
theorem or_low (n : Nat) (b : UInt8) (h : n < 72057594037927936) : bits BinOp.or IntKind.u64 (IntKind.u64.wrap ((n : Int) * 256)) (b.toNat : Int) = ((n * 256 + b.toNat : Nat) : Int) := by
  have hb := b.toNat_lt
  have e : IntKind.u64.wrap ((n : Int) * 256) = ((n * 256 : Nat) : Int) := by rw [IntKind.wrap_u64]; omega
  rw [e, u64_or_nat _ _ (by omega) (by omega)]
  have : n * 256 ||| b.toNat = n * 256 + b.toNat := by
    have := Nat.two_pow_add_eq_or_of_lt (i := 8) (b := b.toNat) (by omega) n
    rw [show n * 256 = 2 ^ 8 * n by omega, this]
  rw [this]

end Go.Proofs.Ytjbpafkdbfbdlaa

namespace Go.Proofs.Ytjbpafkdbfbdlaa
open Go.RowKit

/-- The bytes of a text. -/
def ls (s : ByteArray) : List UInt8 := s.data.toList
theorem ls_len (s : ByteArray) : (ls s).length = s.size := Array.length_toList
theorem ls_at (s : ByteArray) (i : Nat) (h : i < s.size) : (ls s)[i]'(by rw [ls_len]; exact h) = s[i] := by
  simp [ls]; rfl
theorem ls_ext {s t : ByteArray} (h : ls s = ls t) : s = t := by
  cases s; cases t
  congr 1
  exact Array.ext' h
theorem ls_mk (l : List UInt8) : ls ⟨l.toArray⟩ = l := by simp [ls]
theorem mk_ls (s : ByteArray) : (⟨(ls s).toArray⟩ : ByteArray) = s := by cases s; simp [ls]
theorem ls_take_succ (s : ByteArray) (i : Nat) (h : i < s.size) : (ls s).take (i + 1) = (ls s).take i ++ [s[i]] := by
  rw [List.take_succ_eq_append_getElem (by rw [ls_len]; exact h), ls_at s i h]

theorem wrap_byte (b : UInt8) : IntKind.u64.wrap (b.toNat : Int) = (b.toNat : Int) := by
  have := b.toNat_lt
  rw [IntKind.wrap_u64]; omega

/-! ### The cursor: the block of its three cells -/
def curC (t : ByteArray) (at_ : Nat) (e : Int) : Array Value := #[.string t, .int .i64 at_, .int .i64 e]
/-- So many bytes are left. -/
def hasC (t : ByteArray) (a : Nat) (n : Int) : Bool := decide (0 ≤ n) && decide (n ≤ (t.size : Int) - a)
end Go.Proofs.Ytjbpafkdbfbdlaa

namespace Go.Proofs.Ytjbpafkdbfbdlaa
open Go.RowKit

/-- What a taking answers, the place and the error behind it. -/
def takeS (t : ByteArray) (a : Nat) (e n : Int) : ByteArray × Nat × Int :=
  if e = 0 then (if hasC t a n = true then (t.extract a (a + n.toNat), a + n.toNat, 0) else (⟨#[]⟩, a, 3)) else (⟨#[]⟩, a, e)
theorem takeS_le {t : ByteArray} {a : Nat} (h : a ≤ t.size) (e n : Int) : (takeS t a e n).2.1 ≤ t.size := by
  unfold takeS
  split
  · split
    · rename_i h1
      simp only [hasC, Bool.and_eq_true, decide_eq_true_iff] at h1
      show a + n.toNat ≤ t.size
      omega
    · exact h
  · exact h
theorem Bk.upd {w : World} {g : Nat} {t : TypeId} {cs : Array Value} (h : Bk w g t cs) (i : Nat) (u : Value) {cs' : Array Value} (e : cs.setIfInBounds i u = cs') : Bk (w.setCell ⟨g, i, none⟩ u) g t cs' := by
  subst e; exact h.put i u
theorem mod_set (w : World) (g i : Nat) (u : Value) : w.grownBy (w.setCell ⟨g, i, none⟩ u) (some g) :=
  ⟨rfl, rfl, rfl, by simp [World.setCell], fun k _ hk => Below.heap_setCell _ _ _ _ (fun e => hk (by rw [e]))⟩
theorem mod_refl (w : World) (g : Nat) : w.grownBy w (some g) := World.grownBy.refl w _
theorem mod_below {w w' : World} (h : Below w.heap.size w w') (g : Option Nat) : w.grownBy w' g := ⟨h.os, h.tape, h.output, h.size, fun k hk _ => h.block k hk⟩
theorem mod_drawn {w w' : World} {g : Option Nat} (h : w.grownBy w' g) (n : Nat) : w.grownBy (w'.drewN n) g := ⟨h.os, h.tape, h.output, h.size, h.block⟩
theorem below_mod {B g : Nat} {a w w' : World} (h : Below B a w) (hm : w.grownBy w' (some g)) (hB : B ≤ w.heap.size) (hg : B ≤ g) : Below B a w' :=
  h.grown hm hB (fun k hk => by cases hk; exact hg)
theorem takeS_size {t : ByteArray} {a : Nat} (_h : a ≤ t.size) (e n : Int) (k : Nat) (hn : n ≤ k) : (takeS t a e n).1.size ≤ k := by
  unfold takeS
  split
  · split
    · show (t.extract a (a + n.toNat)).size ≤ k
      rw [ByteArray.size_extract]
      omega
    · exact Nat.zero_le _
  · exact Nat.zero_le _

/-- What a number's reading answers. -/
def numS (t : ByteArray) (a : Nat) (e n : Int) : Nat := getL (ls (takeS t a e n).1)
end Go.Proofs.Ytjbpafkdbfbdlaa
