/- subscribe: a packet's body, what is read: plain. -/
import Derived.Test.YtngnaenbnmajdaaGreatDoorSubA
import Derived.Test.YtngnaenbnmajdaaGreatDoorMCnr
namespace Go.Proofs.YtngnaenbnmajdaaGreatDoor
open Go.RowKit

/-- The byte of a filter's options. -/
def optN (f : Fi) : Int := f.qos % 4 + f.handling % 4 * 16 + bitN f.noLocal 4 + bitN f.asPub 8
theorem optN_lt (f : Fi) : 0 ≤ optN f ∧ optN f < 64 := by
  have h : ∀ b n, 0 ≤ n → 0 ≤ bitN b n ∧ bitN b n ≤ n := fun b n hn => by unfold bitN; split <;> omega
  have h1 := h f.noLocal 4 (by decide); have h2 := h f.asPub 8 (by decide)
  unfold optN
  omega
def fiL (k : Int) (f : Fi) : List UInt8 := ls (framedS f.topic) ++ (if k = 8 then [UInt8.ofNat (optN f).toNat] else [])
def cdL (l : List Int) : List UInt8 := l.map fun c => UInt8.ofNat c.toNat
def sbHead (v : Int) (p : Pk) : List UInt8 := putL p.id.toNat 2 ++ tailL8 v p.kind p.props
def sbS (v : Int) (p : Pk) : List UInt8 := sbHead v p ++ p.filters.flatMap (fiL p.kind) ++ cdL p.codes
def sbB (v : Int) (p : Pk) : ByteArray × Int := if sbE v p = 0 then (⟨(sbS v p).toArray⟩, 0) else (⟨#[]⟩, sbE v p)

/-- Bits that a filter's options can't have. -/
def optBad (v : Int) (n : Nat) : Bool := decide (63 < n) || (decide (v = 4) && decide (3 < n))
def fiOf (t : ByteArray) (n : Nat) : Fi := ⟨t, ((n % 4 : Nat) : Int), decide (n / 4 % 2 = 1), decide (n / 8 % 2 = 1), ((n / 16 % 4 : Nat) : Int)⟩
/-- A filter's options, read. -/
def opR (v : Int) (t : ByteArray) (a : Nat) (e : Int) : Nat × Nat × Int :=
  (numS t a e 1, (takeS t a e 1).2.1, if optBad v (numS t a e 1) = true then failE (takeS t a e 1).2.2 7 else (takeS t a e 1).2.2)
/-- A filter, read. -/
def fiR (v k : Int) (t : ByteArray) (a : Nat) : Fi × Nat × Int :=
  if k = 8 then (fiOf (rtC t a 0).1 (opR v t (rtC t a 0).2.1 (rtC t a 0).2.2).1, (opR v t (rtC t a 0).2.1 (rtC t a 0).2.2).2.1, (opR v t (rtC t a 0).2.1 (rtC t a 0).2.2).2.2)
  else (⟨(rtC t a 0).1, 0, false, false, 0⟩, (rtC t a 0).2.1, (rtC t a 0).2.2)
/-- Filters, or codes, as long as there are bytes. -/
def lsR (v k : Int) (t : ByteArray) : Nat → Nat → Int → List Fi → List Int → List Fi × List Int × Nat × Int
  | 0, a, e, fi, cd => (fi, cd, a, e)
  | n + 1, a, e, fi, cd =>
    if e ≠ 0 ∨ t.size ≤ a then (fi, cd, a, e)
    else if sbAsk k = true then lsR v k t n (fiR v k t a).2.1 (fiR v k t a).2.2 (fi ++ [(fiR v k t a).1]) cd
    else lsR v k t n (a + 1) 0 fi (cd ++ [((numS t a 0 1 : Nat) : Int)])
def sbPr (v k : Int) (s : ByteArray) : List Pr × Nat × Int := prpC v k s (takeS s 0 0 2).2.1 (takeS s 0 0 2).2.2
def sbLs (v k : Int) (s : ByteArray) : List Fi × List Int × Nat × Int := lsR v k s (s.size + 1) (sbPr v k s).2.1 (sbPr v k s).2.2 [] []
def sbPk (k : Int) (i : Nat) (l : List Pr) (fi : List Fi) (cd : List Int) : Pk := { pk0 with kind := k, id := (i : Int), props := l, filters := fi, codes := cd }
def sbFull (v k : Int) (s : ByteArray) : Pk := sbPk k (numS s 0 0 2) (sbPr v k s).1 (sbLs v k s).1 (sbLs v k s).2.1
def sbR (v k : Int) (s : ByteArray) : Pk × Int :=
  if sbKnown v k = false then (pk0, 2)
  else if (sbLs v k s).2.2.2 ≠ 0 then (pk0, (sbLs v k s).2.2.2)
  else if sbE v (sbFull v k s) ≠ 0 then (pk0, sbE v (sbFull v k s)) else (sbFull v k s, 0)
end Go.Proofs.YtngnaenbnmajdaaGreatDoor
