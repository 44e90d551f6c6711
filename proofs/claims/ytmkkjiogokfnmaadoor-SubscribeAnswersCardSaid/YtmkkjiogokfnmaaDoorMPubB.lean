/-
  ustring: the walks of ReadBinary, Read.
  publish: the walk of Read.
  ustring: a text is read back, whatever follows (plain).
  publish: what is wrong does not hang on the payload; a packet's flags are good (plain).
  publish: what is written is read back, whatever payload follows (plain).
  publish: what Read takes Body writes (plain).
-/
import Derived.Test.YtmkkjiogokfnmaaDoorMTai
import Derived.Test.YtmkkjiogokfnmaaDoorMPubA
import Derived.Deep.DeepCutAuto
import Derived.Test.YtmkkjiogokfnmaaDoorMLis

namespace Go.Proofs.YtmkkjiogokfnmaaDoor
open Go.RowKit
/-- Data that bytes begin with. -/
def readB (s : ByteArray) : ByteArray × Nat × Int :=
  if s.size < 2 then (⟨#[]⟩, 0, 3) else if s.size < 2 + numS s 0 0 2 then (⟨#[]⟩, 0, 3) else (s.extract 2 (2 + numS s 0 0 2), 2 + numS s 0 0 2, 0)
def readU (s : ByteArray) : ByteArray × Nat × Int := if (readB s).2.2 = 0 ∧ validB (readB s).1 = false then (⟨#[]⟩, 0, 6) else readB s
end Go.Proofs.YtmkkjiogokfnmaaDoor

namespace Go.Proofs.YtmkkjiogokfnmaaDoor
open Go.RowKit
attribute [local go_sem ↓] to_ldPk to_bxPk to_bdPk to_alPk to_stPk
attribute [local go_sem] run_bxPk run_bxPk_agg ld_fresh run_alPk run_bd0 run_bdK run_bdKI run_bdKIC run_bdKC run_bdKICP run_stPk_fresh pkC_0 pkC_1 pkC_2 pkC_3 pkC_4 pkC_5 pkC_6 pkC_7 pkC_8 pkC_9 pkC_10 pkC_11 pkC_12 pkC_13 pkC_14 pkC_15 pkC_16 pkC_17 pkC_18 pkC_19 pkC_20 pkC_21 pkC_22 pkC_23 pkC_24
def rdPub (f : Int) (t : ByteArray) (i : Int) (l : List Pr) (y : ByteArray) : Pk := { pk0 with kind := 3, dup := decide (8 ≤ f), retain := decide (f % 2 = 1), qos := f / 2 % 4, id := i, topic := t, payload := y, props := l }
def hsP (A : Option Addr) (n : Nat) : Hs := { hs0 with props := ⟨A, n⟩ }
theorem run_bdPub (f : Int) (t : ByteArray) (w : World) : (bdPk #[(0, .int .i64 3), (1, .bool (decide (8 ≤ f))), (3, .int .i64 (f / 2 % 4)), (2, .bool (decide (f % 2 = 1))), (5, .string t)]).run Tryd.prog w = .ok (pkV (rdPub f t 0 [] ⟨#[]⟩) (hsP none 0)) w := by kernel_rfl
theorem rdPub_qos (f : Int) (t : ByteArray) (i : Int) (l : List Pr) (y : ByteArray) : (rdPub f t i l y).qos = f / 2 % 4 := rfl
def pubAt (f : Int) (s : ByteArray) : Nat := if f / 2 % 4 ≠ 0 then (readU s).2.1 + 2 else (readU s).2.1
def pubId (f : Int) (s : ByteArray) : Int := if f / 2 % 4 ≠ 0 then ((getL (ls (s.extract (readU s).2.1 ((readU s).2.1 + 2))) : Nat) : Int) else (0 : Int)
def pubPr (v : Int) (f : Int) (s : ByteArray) : List Pr × Nat × Int := if v = 5 then readP 3 (s.extract (pubAt f s) s.size) else ([], 0, 0)
def pubFull (v f : Int) (s : ByteArray) : Pk := rdPub f (readU s).1 (pubId f s) (pubPr v f s).1 (s.extract (pubAt f s + (pubPr v f s).2.1) s.size)
def pubR (v f : Int) (s : ByteArray) : Pk × Int :=
  if hdKnown v = false then (pk0, 2) else if hdCheck3 v f ≠ 0 then (pk0, 7) else if (readU s).2.2 ≠ 0 then (pk0, (readU s).2.2)
  else if f / 2 % 4 ≠ 0 ∧ s.size < (readU s).2.1 + 2 then (pk0, 3) else if (pubPr v f s).2.2 ≠ 0 then (pk0, (pubPr v f s).2.2)
  else if pubE v (pubFull v f s) ≠ 0 then (pk0, pubE v (pubFull v f s)) else (pubFull v f s, 0)
theorem rdPub_flags : ∀ f : Fin 16, (bits BinOp.and IntKind.i64 (f.1 : Int) 8 != 0) = decide (8 ≤ (f.1 : Int)) ∧ bits BinOp.and IntKind.i64 ((f.1 : Int) / 2) 3 = (f.1 : Int) / 2 % 4 ∧ (bits BinOp.and IntKind.i64 (f.1 : Int) 1 != 0) = decide ((f.1 : Int) % 2 = 1) := by decide +kernel
/-- What stands while a PUBLISH is read: the result's block, the empty packet's, the packet's. -/
structure PR (w : World) (g : Nat) (f : Int) (t : ByteArray) (i : Int) (l : List Pr) (y : ByteArray) (A : Option Addr) (n : Nat) (x : World) : Prop where
  kept : Below w.heap.size w x
  res : Bk x w.heap.size PkT (pkC pk0 hs0)
  zero : Bk x (w.heap.size + 1) PkT (pkC pk0 hs0)
  pk : Bk x g PkT (pkC (rdPub f t i l y) (hsP A n))
  rd : Rd x x.heap.size 4 A l.length (prs l)
  cap : l.length ≤ n
  base : w.heap.size + 1 < g
section
variable {w x y : World} {g : Nat} {f i : Int} {t u : ByteArray} {l : List Pr} {A : Option Addr} {n : Nat}
theorem PR.below (h : PR w g f t i l u A n x) (hb : Below x.heap.size x y) : PR w g f t i l u A n y :=
  ⟨h.kept.trans (hb.mono h.kept.size), h.res.below hb h.res.lt, h.zero.below hb h.zero.lt, h.pk.below hb h.pk.lt, (h.rd.below hb).wider hb.size, h.cap, h.base⟩
theorem PR.set (h : PR w g f t i l u A n x) (k : Nat) (v : Value) {i' : Int} {u' : ByteArray} (he : (pkC (rdPub f t i l u) (hsP A n)).setIfInBounds k v = pkC (rdPub f t i' l u') (hsP A n)) : PR w g f t i' l u' A n (x.setCell ⟨g, k, none⟩ v) :=
  ⟨below_mod h.kept (mod_set x g k v) h.kept.size (by have := h.base; omega), h.res.other (by have := h.base; simp; omega) _, h.zero.other (by have := h.base; simp; omega) _, h.pk.upd k v he, (h.rd.other h.pk (pk_no32 _ _) (mod_set x g k v) (Nat.le_refl _)).wider (mod_set x g k v).size, h.cap, h.base⟩
theorem PR.put (h : PR w g f t i l u A n x) {l' : List Pr} {A' : Option Addr} {n' : Nat} (hr : Rd x x.heap.size 4 A' l'.length (prs l')) (hn : l'.length ≤ n') : PR w g f t i l' u A' n' (x.setCell ⟨g, 24, none⟩ (.slice A' l'.length n')) :=
  ⟨below_mod h.kept (mod_set x g 24 _) h.kept.size (by have := h.base; omega), h.res.other (by have := h.base; simp; omega) _, h.zero.other (by have := h.base; simp; omega) _, h.pk.upd 24 _ rfl, (hr.other h.pk (pk_no32 _ _) (mod_set x g 24 _) (Nat.le_refl _)).wider (mod_set x g 24 _).size, hn, h.base⟩
theorem PR.into (h : PR w g f t i l u A n x) : PkIn x x.heap.size (rdPub f t i l u) (hsP A n) := ⟨Rd.nil _ _ _ _, Rd.nil _ _ _ _, Rd.nil _ _ _ _, h.rd, Nat.zero_le _, Nat.zero_le _, Nat.zero_le _, h.cap⟩
theorem PR.none (h : PR w g f t i l u A n x) : Below w.heap.size w (putPk x w.heap.size pk0 hs0) ∧ Bk (putPk x w.heap.size pk0 hs0) w.heap.size PkT (pkC pk0 hs0) := ⟨below_put h.kept h.kept.size (Nat.le_refl _) _ _, put_bk h.res _ _⟩
theorem PR.some (h : PR w g f t i l u A n x) : Below w.heap.size w (putPk x w.heap.size (rdPub f t i l u) (hsP A n)) ∧ Bk (putPk x w.heap.size (rdPub f t i l u) (hsP A n)) w.heap.size PkT (pkC (rdPub f t i l u) (hsP A n)) ∧
    PkIn (putPk x w.heap.size (rdPub f t i l u) (hsP A n)) (putPk x w.heap.size (rdPub f t i l u) (hsP A n)).heap.size (rdPub f t i l u) (hsP A n) :=
  ⟨below_put h.kept h.kept.size (Nat.le_refl _) _ _, put_bk h.res _ _, Rd.nil _ _ _ _, Rd.nil _ _ _ _, Rd.nil _ _ _ _, (h.rd.other h.res (pk_no32 _ _) (putPk_mods _ _ _ _) (Nat.le_refl _)).wider (putPk_mods _ _ _ _).size, Nat.zero_le _, Nat.zero_le _, Nat.zero_le _, h.cap⟩
end
attribute [local go_sem] run_bdPub rdPub_qos
end Go.Proofs.YtmkkjiogokfnmaaDoor

namespace Go.Proofs.YtmkkjiogokfnmaaDoor
open Go.RowKit
theorem ls_framed (t r : ByteArray) : ls (framedS t ++ r) = putL t.size 2 ++ (ls t ++ ls r) := by
  unfold framedS
  rw [ls_app, ls_app, ls_mk, List.append_assoc]
theorem framed_size (t r : ByteArray) : (framedS t ++ r).size = 2 + t.size + r.size := by
  rw [← ls_len, ls_framed, List.length_append, List.length_append, putL_len, ls_len, ls_len]; omega
/-- A text is read back from its bytes, whatever follows. -/
theorem readU_framed (t r : ByteArray) (h : t.size < 65536) (hv : validB t = true) : readU (framedS t ++ r) = (t, 2 + t.size, 0) := by
  have hz := framed_size t r
  have hn : numS (framedS t ++ r) 0 0 2 = t.size := by
    unfold numS
    rw [show (2 : Int) = ((2 : Nat) : Int) from rfl, take_yes (by omega), extract_ls, ls_framed, List.drop_zero, List.take_append_of_le_length (by rw [putL_len]; exact Nat.le_refl 2), List.take_of_length_le (by rw [putL_len]; exact Nat.le_refl 2), get_put2 _ h]
  have hx : (framedS t ++ r).extract 2 (2 + t.size) = t := ls_ext (by
    rw [extract_ls, ls_framed, List.drop_append_of_le_length (by rw [putL_len]; exact Nat.le_refl 2), List.drop_of_length_le (by rw [putL_len]; exact Nat.le_refl 2), List.nil_append, List.take_append_of_le_length (by rw [ls_len]; exact Nat.le_refl _), List.take_of_length_le (by rw [ls_len]; exact Nat.le_refl _)])
  have hb : readB (framedS t ++ r) = (t, 2 + t.size, 0) := by
    unfold readB
    rw [hn, hx, if_neg (by omega), if_neg (by omega)]
  unfold readU
  rw [hb]
  simp [hv]
/-- What is read stands in front. -/
theorem readU_back {s t : ByteArray} {n : Nat} (h : readU s = (t, n, 0)) : s = framedS t ++ s.extract n s.size ∧ t.size < 65536 ∧ validB t = true ∧ n = 2 + t.size ∧ n ≤ s.size := by
  have hb : readB s = (t, n, 0) ∧ validB t = true := by
    unfold readU at h
    by_cases hc : (readB s).2.2 = 0 ∧ validB (readB s).1 = false
    · rw [if_pos hc] at h; cases h
    · rw [if_neg hc] at h
      refine ⟨h, ?_⟩
      cases hv : validB t
      · exact absurd ⟨by rw [h], by rw [h]; exact hv⟩ hc
      · rfl
  obtain ⟨hb, hv⟩ := hb
  unfold readB at hb
  by_cases h1 : s.size < 2
  · rw [if_pos h1] at hb; cases hb
  rw [if_neg h1] at hb
  by_cases h2 : s.size < 2 + numS s 0 0 2
  · rw [if_pos h2] at hb; cases hb
  rw [if_neg h2] at hb
  simp only [Prod.mk.injEq] at hb
  obtain ⟨hx, rfl, -⟩ := hb
  have hnum : numS s 0 0 2 = getL ((ls s).take 2) := by
    unfold numS
    rw [show (2 : Int) = ((2 : Nat) : Int) from rfl, take_yes (by omega), extract_ls, List.drop_zero]
  have hl2 : ((ls s).take 2).length = 2 := by rw [List.length_take, ls_len]; omega
  have hlt : numS s 0 0 2 < 65536 := by
    rw [hnum]
    have := getL_lt ((ls s).take 2)
    rw [hl2] at this
    exact this
  have htz : t.size = numS s 0 0 2 := by rw [← hx, ByteArray.size_extract]; omega
  refine ⟨ls_ext ?_, by omega, hv, by omega, by omega⟩
  rw [ls_framed, rest_ls, htz, hnum, put_get2 _ hl2, ← hx, extract_ls, ← hnum, ← List.append_assoc]
  have e1 : List.drop (2 + numS s 0 0 2) (ls s) = List.drop (numS s 0 0 2) (List.drop 2 (ls s)) := by rw [List.drop_drop]
  rw [e1, List.append_assoc, List.take_append_drop, List.take_append_drop]
end Go.Proofs.YtmkkjiogokfnmaaDoor

namespace Go.Proofs.YtmkkjiogokfnmaaDoor
open Go.RowKit
theorem pubE_pay (v : Int) (p : Pk) (y : ByteArray) : pubE v { p with payload := y } = pubE v p := by
  have hF : pubF v { p with payload := y } = pubF v p := by
    unfold pubF
    refine decide_eq_decide.2 ⟨fun h => ⟨?_, h.2⟩, fun h => ⟨?_, h.2⟩⟩
    · exact congrArg (fun q : Pk => { q with payload := p.payload }) h.1
    · exact congrArg (fun q : Pk => { q with payload := y }) h.1
  have hL : ∀ j, pubL v { p with payload := y } j = pubL v p j := by
    intro j
    unfold pubL
    rw [hF]
    rfl
  unfold pubE
  simp only [hL]
theorem flags_good {p : Pk} (h : badQ p = false) : hdFlag3 (flagsP p) = true ∧ decide (8 ≤ flagsP p) = p.dup ∧ flagsP p / 2 % 4 = p.qos ∧ decide (flagsP p % 2 = 1) = p.retain := by
  have hb := of_decide_eq_false h
  unfold hdFlag3 flagsP
  obtain h0 | h1 | h2 : p.qos = 0 ∨ p.qos = 1 ∨ p.qos = 2 := by omega
  · rw [h0] at hb ⊢
    cases hd : p.dup
    · cases p.retain <;> decide
    · exact absurd (.inr (.inr ⟨rfl, hd⟩)) hb
  · rw [h1]
    cases p.dup <;> cases p.retain <;> decide
  · rw [h2]
    cases p.dup <;> cases p.retain <;> decide
end Go.Proofs.YtmkkjiogokfnmaaDoor

namespace Go.Proofs.YtmkkjiogokfnmaaDoor
open Go.RowKit
theorem drop_two {l r : List UInt8} {n : Nat} (h : l.length = n) : (l ++ r).drop n = r := by
  rw [← h, List.drop_left]
theorem pubS2_ls (v : Int) (p : Pk) (y : ByteArray) : ls (pubS2 v p ++ y) = (putL p.topic.size 2 ++ ls p.topic) ++ ((if p.qos ≠ 0 then putL p.id.toNat 2 else []) ++ ((if v = 5 then (bytesS p.kind p.props).1 else []) ++ ls y)) := by
  unfold pubS2 pubS1 framedS
  by_cases h5 : v = 5 <;> by_cases h0 : p.qos ≠ 0
  · rw [if_pos h5, if_pos h0, if_pos h0, if_pos h5]; simp only [ls_app, ls_mk, List.append_assoc]
  · rw [if_pos h5, if_neg h0, if_neg h0, if_pos h5]; simp only [ls_app, ls_mk, List.append_assoc, List.nil_append]
  · rw [if_neg h5, if_pos h0, if_pos h0, if_neg h5]; simp only [ls_app, ls_mk, List.append_assoc, List.nil_append]
  · rw [if_neg h5, if_neg h0, if_neg h0, if_neg h5]; simp only [ls_app, ls_mk, List.append_assoc, List.nil_append]
theorem pubS2_framed (v : Int) (p : Pk) (y : ByteArray) : pubS2 v p ++ y = framedS p.topic ++ ⟨((if p.qos ≠ 0 then putL p.id.toNat 2 else []) ++ ((if v = 5 then (bytesS p.kind p.props).1 else []) ++ ls y)).toArray⟩ := ls_ext (by
  rw [pubS2_ls]
  generalize (if p.qos ≠ 0 then putL p.id.toNat 2 else []) ++ ((if v = 5 then (bytesS p.kind p.props).1 else []) ++ ls y) = C
  rw [ls_framed, ls_mk C, List.append_assoc])
theorem pubR_body {v : Int} {p : Pk} (x : pubE v p = 0) (hn : ∀ q ∈ p.props, q.n < 4294967296) (y : ByteArray) : pubR v (flagsP p) (pubS2 v p ++ y) = ({ p with payload := y }, 0) := by
  have g := pubE_good x
  obtain ⟨f1, f2, f3, f4⟩ := flags_good g.flags
  have hts : p.topic.size < 65536 := by
    have := g.topic
    unfold validB at this
    simp only [Bool.and_eq_true, decide_eq_true_eq] at this
    omega
  have hU : readU (pubS2 v p ++ y) = (p.topic, 2 + p.topic.size, 0) := by rw [pubS2_framed]; exact readU_framed _ _ hts g.topic
  have hk : hdKnown v = true := decide_eq_true g.k
  have hl := pubS2_ls v p y
  have hA : (putL p.topic.size 2 ++ ls p.topic).length = 2 + p.topic.size := by rw [List.length_append, putL_len, ls_len]
  have hsz : (pubS2 v p ++ y).size = 2 + p.topic.size + ((if p.qos ≠ 0 then putL p.id.toNat 2 else []).length + ((if v = 5 then (bytesS p.kind p.props).1 else []).length + y.size)) := by
    rw [← ls_len, hl, List.length_append, hA, List.length_append, List.length_append, ls_len]
  have hAt : pubAt (flagsP p) (pubS2 v p ++ y) = 2 + p.topic.size + (if p.qos ≠ 0 then putL p.id.toNat 2 else []).length := by
    unfold pubAt
    rw [hU, f3]
    by_cases h0 : p.qos ≠ 0
    · rw [if_pos h0, if_pos h0, putL_len]
    · rw [if_neg h0, if_neg h0]; rfl
  have hI : pubId (flagsP p) (pubS2 v p ++ y) = p.id := by
    unfold pubId
    rw [hU, f3]
    by_cases h0 : p.qos ≠ 0
    · have := g.id1 h0
      rw [if_pos h0, extract_ls, hl, drop_two hA, if_pos h0, List.take_append_of_le_length (by rw [putL_len]; exact Nat.le_refl 2), List.take_of_length_le (by rw [putL_len]; exact Nat.le_refl 2), get_put2 _ (by omega)]
      omega
    · rw [if_neg h0]
      exact (g.id0 (Decidable.not_not.1 h0)).symm
  have hdrop : (ls (pubS2 v p ++ y)).drop (pubAt (flagsP p) (pubS2 v p ++ y)) = (if v = 5 then (bytesS p.kind p.props).1 else []) ++ ls y := by
    rw [hAt, ← List.drop_drop, hl, drop_two hA, drop_two rfl]
  have hP : pubPr v (flagsP p) (pubS2 v p ++ y) = (p.props, (if v = 5 then (bytesS p.kind p.props).1 else []).length, 0) := by
    unfold pubPr
    by_cases h5 : v = 5
    · rw [if_pos h5] at hdrop ⊢
      rw [if_pos h5]
      rw [g.kind] at hdrop ⊢
      exact readP_front g.bytes hn (rest := ls y) (by rw [rest_ls]; exact hdrop)
    · rw [if_neg h5, if_neg h5, g.old (g.k.resolve_right h5)]; rfl
  have hY : (pubS2 v p ++ y).extract (pubAt (flagsP p) (pubS2 v p ++ y) + (if v = 5 then (bytesS p.kind p.props).1 else []).length) (pubS2 v p ++ y).size = y := ls_ext (by
    rw [rest_ls, ← List.drop_drop, hdrop, drop_two rfl])
  have hFull : pubFull v (flagsP p) (pubS2 v p ++ y) = { p with payload := y } := by
    unfold pubFull
    rw [hU, hI, hP]
    simp only
    rw [hY]
    unfold rdPub
    rw [f2, f3, f4]
    have e := congrArg (fun q : Pk => { q with payload := y }) g.same
    refine Eq.trans ?_ e.symm
    unfold pubQ
    rw [g.kind]
  have hE : pubE v (pubFull v (flagsP p) (pubS2 v p ++ y)) = 0 := by rw [hFull, pubE_pay]; exact x
  unfold pubR
  rw [if_neg (fun z => by rw [hk] at z; cases z), if_neg (fun z => z (by unfold hdCheck3; rw [if_neg (fun z => by rw [hk] at z; cases z), if_neg (fun z => by rw [f1] at z; cases z)])), hU, if_neg (fun z => z rfl), f3, if_neg, hP, if_neg (fun z => z rfl), hE, if_neg (fun z => z rfl), hFull]
  rintro ⟨h0, h⟩
  rw [hsz, if_pos h0, putL_len] at h
  simp only at h
  omega
end Go.Proofs.YtmkkjiogokfnmaaDoor

namespace Go.Proofs.YtmkkjiogokfnmaaDoor
open Go.RowKit
theorem pubR_ok {v f : Int} {s : ByteArray} {q : Pk} (h : pubR v f s = (q, 0)) : hdKnown v = true ∧ hdCheck3 v f = 0 ∧ (readU s).2.2 = 0 ∧ ¬ (f / 2 % 4 ≠ 0 ∧ s.size < (readU s).2.1 + 2) ∧ (pubPr v f s).2.2 = 0 ∧ pubE v (pubFull v f s) = 0 ∧ q = pubFull v f s := by
  unfold pubR at h
  by_cases h1 : hdKnown v = false
  · rw [if_pos h1] at h; cases h
  rw [if_neg h1] at h
  by_cases h2 : hdCheck3 v f ≠ 0
  · rw [if_pos h2] at h; cases h
  rw [if_neg h2] at h
  by_cases h3 : (readU s).2.2 ≠ 0
  · rw [if_pos h3] at h; exact absurd (congrArg Prod.snd h) h3
  rw [if_neg h3] at h
  by_cases h4 : f / 2 % 4 ≠ 0 ∧ s.size < (readU s).2.1 + 2
  · rw [if_pos h4] at h; cases h
  rw [if_neg h4] at h
  by_cases h5 : (pubPr v f s).2.2 ≠ 0
  · rw [if_pos h5] at h; exact absurd (congrArg Prod.snd h) h5
  rw [if_neg h5] at h
  by_cases h6 : pubE v (pubFull v f s) ≠ 0
  · rw [if_pos h6] at h; exact absurd (congrArg Prod.snd h) h6
  rw [if_neg h6] at h
  exact ⟨by simpa using h1, Decidable.not_not.1 h2, Decidable.not_not.1 h3, h4, Decidable.not_not.1 h5, Decidable.not_not.1 h6, (congrArg Prod.fst h).symm⟩
theorem pubR_none {v f : Int} {s : ByteArray} (h : (pubR v f s).2 ≠ 0) : (pubR v f s).1 = pk0 := by
  unfold pubR at h ⊢
  repeat' split
  all_goals first
    | rfl
    | (exfalso; simp_all)
theorem rdPub_back {v f : Int} (hk : hdKnown v = true) (hc : hdCheck3 v f = 0) (t : ByteArray) (i : Int) (l : List Pr) (y : ByteArray) : flagsP (rdPub f t i l y) = f := by
  have h2 : hdFlag3 f = true := by
    unfold hdCheck3 at hc
    rw [if_neg (fun x => by rw [hk] at x; cases x)] at hc
    cases hh : hdFlag3 f
    · rw [hh, if_pos rfl] at hc; exact absurd hc (by decide)
    · rfl
  have := of_decide_eq_true h2
  show 2 * (f / 2 % 4) + (if decide (f % 2 = 1) = true then 1 else 0) + (if decide (8 ≤ f) = true then 8 else 0) = f
  clear h2 hc hk
  obtain rfl | rfl | rfl | rfl | rfl | rfl | rfl | rfl | rfl | rfl := this
  all_goals decide
theorem pubR_back {v f : Int} {s : ByteArray} {q : Pk} (h : pubR v f s = (q, 0)) : pubE v q = 0 ∧ pubS2 v q ++ q.payload = s ∧ flagsP q = f := by
  obtain ⟨hk, hc, hu, hs, hp, he, rfl⟩ := pubR_ok h
  refine ⟨he, ?_, rdPub_back hk hc _ _ _ _⟩
  have hR : readU s = ((readU s).1, (readU s).2.1, 0) := by rw [← hu]
  obtain ⟨hs1, htz, hv, hn, hle⟩ := readU_back hR
  have hls : ls s = (putL (readU s).1.size 2 ++ ls (readU s).1) ++ (ls s).drop (readU s).2.1 := by
    have := congrArg ls hs1
    rw [ls_framed, rest_ls, ← List.append_assoc] at this
    exact this
  have hD : (ls s).drop (readU s).2.1 = (if f / 2 % 4 ≠ 0 then putL (pubId f s).toNat 2 else []) ++ (ls s).drop (pubAt f s) := by
    unfold pubId pubAt
    by_cases h0 : f / 2 % 4 ≠ 0
    · rw [if_pos h0, if_pos h0, if_pos h0, Int.toNat_natCast, extract_ls, put_get2 _ (by
        rw [List.length_take, List.length_drop, ls_len]
        have : ¬ s.size < (readU s).2.1 + 2 := fun z => hs ⟨h0, z⟩
        omega), ← List.drop_drop, List.take_append_drop]
    · rw [if_neg h0, if_neg h0]; rfl
  have hP : (ls s).drop (pubAt f s) = (if v = 5 then (bytesS 3 (pubPr v f s).1).1 else []) ++ (ls s).drop (pubAt f s + (pubPr v f s).2.1) := by
    unfold pubPr at hp ⊢
    by_cases h5 : v = 5
    · rw [if_pos h5] at hp ⊢
      rw [if_pos h5]
      have hb := (readP_back (kind := 3) (s := s.extract (pubAt f s) s.size) (l := (readP 3 (s.extract (pubAt f s) s.size)).1) (n := (readP 3 (s.extract (pubAt f s) s.size)).2.1) (by rw [← hp])).2.1
      rw [hb, rest_ls, ← List.drop_drop, List.take_append_drop]
    · rw [if_neg h5, if_neg h5]; rfl
  refine ls_ext ?_
  rw [pubS2_ls]
  show (putL (readU s).1.size 2 ++ ls (readU s).1) ++ ((if f / 2 % 4 ≠ 0 then putL (pubId f s).toNat 2 else []) ++ ((if v = 5 then (bytesS 3 (pubPr v f s).1).1 else []) ++ ls (s.extract (pubAt f s + (pubPr v f s).2.1) s.size))) = ls s
  rw [rest_ls, ← hP, ← hD, ← hls]
end Go.Proofs.YtmkkjiogokfnmaaDoor
