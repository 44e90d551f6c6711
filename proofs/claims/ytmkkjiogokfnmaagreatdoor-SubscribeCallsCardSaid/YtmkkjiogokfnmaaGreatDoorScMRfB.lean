/-
  Reference 05: body, Valid, Bytes, Same.
  Reference 05: Valid, Bytes.
  Reference 05: text, next.
  Reference 05: next.
  Reference 05: Read, the plain part.
  Reference 05: Read.
-/
import Derived.Test.YtmkkjiogokfnmaaGreatDoorScMRfA
import Derived.Deep.RegionHeld3
import Derived.Test.YtmkkjiogokfnmaaGreatDoorScMLis
import Derived.Deep.RegionLaw
namespace Go.Proofs.YtmkkjiogokfnmaaGreatDoor
open Go.RowKit
theorem conv_one0 {P : Program} (src dst e : TypeId) (hs : P.underlying src = some (.slice e)) (he : P.underlying e = some (.int .u8)) (hd : P.underlying dst = some .string) (W : World) (a : UInt8) :
    (convert src dst (.slice (some ⟨W.heap.size, 0, none⟩) 1 1)).run P (W.alloc (.cells #[.int .u8 (a.toNat : Int)] e)) = .ok (.string ⟨#[a]⟩) (W.alloc (.cells #[.int .u8 (a.toNat : Int)] e)) := by
  have h := Rd.lit W #[.int .u8 (a.toNat : Int)] e (xs := bys [a]) rfl (Nat.lt_succ_self _) rfl
  exact conv_rd src dst e hs he hd 1 h
theorem conv_one1 {P : Program} (src dst e : TypeId) (hs : P.underlying src = some (.slice e)) (he : P.underlying e = some (.int .u8)) (hd : P.underlying dst = some .string) (W : World) (a : UInt8) :
    (convert src dst (.slice (some ⟨W.heap.size, 0, none⟩) 1 1)).run P (W.alloc (.cells #[.int .u8 (a.toNat : Int)] e)).drew = .ok (.string ⟨#[a]⟩) (W.alloc (.cells #[.int .u8 (a.toNat : Int)] e)).drew := by
  have h := (Rd.lit W #[.int .u8 (a.toNat : Int)] e (xs := bys [a]) rfl (Nat.lt_succ_self _) rfl).drewN 1
  exact conv_rd src dst e hs he hd 1 h
theorem conv_aft {P : Program} (src dst e : TypeId) (hs : P.underlying src = some (.slice e)) (he : P.underlying e = some (.int .u8)) (hd : P.underlying dst = some .string) {W z : World} {a : UInt8}
    (hb : Below (W.alloc (.cells #[.int .u8 (a.toNat : Int)] e)).drew.heap.size (W.alloc (.cells #[.int .u8 (a.toNat : Int)] e)).drew z) :
    (convert src dst (.slice (some ⟨W.heap.size, 0, none⟩) 1 1)).run P z = .ok (.string ⟨#[a]⟩) z := by
  have h := ((Rd.lit W #[.int .u8 (a.toNat : Int)] e (xs := bys [a]) rfl (Nat.lt_succ_self _) rfl).drewN 1).below (hb.mono (by simp [World.drew]))
  exact conv_rd src dst e hs he hd 1 h
theorem PB.b0 {w x z : World} (h : Below w.heap.size w x) (hb : Below x.drew.heap.size x.drew z) : Below w.heap.size w z := (below_drawn h 1).trans (hb.mono (below_drawn h 1).size)
theorem PB.b1 {w x z : World} {ob : Obj} (h : Below w.heap.size w x) (hb : Below (x.alloc ob).drew.heap.size (x.alloc ob).drew z) : Below w.heap.size w z := PB.b0 (h.alloc h.size ob) hb
theorem PB.b2 {w x z : World} {ob : Obj} (h : Below w.heap.size w x) (hb : Below (x.drew.alloc ob).heap.size (x.drew.alloc ob) z) : Below w.heap.size w z := ((below_drawn h 1).alloc (below_drawn h 1).size ob).trans (hb.mono ((below_drawn h 1).alloc (below_drawn h 1).size ob).size)
theorem byte_id {id : Int} (h : 0 ≤ id ∧ id < 64) : id = ((UInt8.ofNat id.toNat).toNat : Int) := by
  rw [UInt8.toNat_ofNat']
  omega
/-- One element's cells, and the memory that was. -/
abbrev PB (w : World) (b o : Nat) (p : Pr) (x : World) : Prop := Below w.heap.size w x ∧ x.cell? ⟨b, o, none⟩ = some (.int .i64 p.id) ∧ x.cell? ⟨b, o + 1, none⟩ = some (.int .u32 p.n) ∧ x.cell? ⟨b, o + 2, none⟩ = some (.string p.text) ∧ x.cell? ⟨b, o + 3, none⟩ = some (.string p.value)
theorem PB.of {w x : World} {b o n k : Nat} {l : List Pr} {p : Pr} (h : Rd w w.heap.size 4 (some ⟨b, o, none⟩) n (prs l)) (hn : l.length = n) (hp : l[k]? = some p) (hx : Below w.heap.size w x) : PB w b (o + k * 4) p x := by
  subst hn
  obtain ⟨hk, rfl⟩ := List.getElem?_eq_some_iff.1 hp
  obtain ⟨b', o', he, -, c0, c1, c2, c3⟩ := (h.below hx).atP hk
  cases he
  exact ⟨hx, c0, c1, c2, c3⟩
theorem PB.then {w x y : World} {b o : Nat} {p : Pr} (h : PB w b o p x) (hb : Below x.heap.size x y) : Below w.heap.size w y := h.1.trans (hb.mono h.1.size)
set_option maxHeartbeats 2000000 in
set_option maxRecDepth 10000 in
theorem refBody_any (kind : Int) (l : List Pr) (n : Nat) (hn : l.length = n) (hck : ckL kind l) (hg : ∀ p ∈ l, prGood p) (hm : n ≤ 1000) (A : Option Addr) (c : Nat) (w : World) (h : Rd w w.heap.size 4 A n (prs l)) :
    Calls Tryz.prog 187 #[.slice A n c] w fun e w' => e = .returned (.string ⟨(l.flatMap propL).toArray⟩) ∧ Below w.heap.size w w' := by
  have H := Lib.hid h; have HN := Lib.hid hn; have HC := Lib.hid hck; have HG := Lib.hid hg
  clear h hn hck hg
  have hcv := conv_one0 (P := Tryz.prog) 64 9 5 Tryz.underlying64 Tryz.underlying5 Tryz.underlying9
  have hcv1 := conv_one1 (P := Tryz.prog) 64 9 5 Tryz.underlying64 Tryz.underlying5 Tryz.underlying9
  go_enter Tryz.func187, Tryz.ntmps187
  go_wp2
  go_loopw [3, 4] (fun s i wr => ∃ k : Nat, k ≤ n ∧ i = .int .i64 k ∧ s = .string ⟨((l.take k).flatMap propL).toArray⟩ ∧ Below w.heap.size w wr) (fun _ i _ => n - (intOf i).toNat)
  case atStart => exact ⟨0, by omega, rfl, rfl, Below.refl _ _⟩
  case round =>
    obtain ⟨k, hk, rfl, rfl, hbel⟩ := hrel
    have HB := Lib.hid hbel; clear hbel
    by_cases hlt : k < n
    · have hlt' : k < l.length := by rw [HN.out]; exact hlt
      have hnn := HN.out
      obtain ⟨b, o, hA, -, -, -, -, -⟩ := Rd.atP (A := A) (show Rd w w.heap.size 4 A l.length (prs l) by rw [HN.out]; exact H.out) hlt'
      subst hA
      have HPk : Hid (l[k]? = some l[k]) := Lib.hid (List.getElem?_eq_getElem hlt')
      have hmem : l[k] ∈ l := List.getElem_mem hlt'
      have hok := check_ok (HC.out _ hmem)
      have hpg := HG.out _ hmem
      have hpl := propL_len (HC.out _ hmem)
      have htk : (l.take (k + 1)).flatMap propL = (l.take k).flatMap propL ++ propL l[k] := by
        rw [List.take_succ_eq_append_getElem hlt', List.flatMap_append]; simp
      have htl : ((l.take k).flatMap propL).length ≤ k * 131075 := by
        have := flat_total (l := l.take k) (fun p hp => HC.out p (List.mem_of_mem_take hp))
        exact Nat.le_trans this (Nat.mul_le_mul_right _ (List.length_take_le _ _))
      clear hmem hnn
      have HTK := Lib.hid htk; clear htk
      generalize l[k] = p at *
      obtain ⟨id, m, t, v⟩ := p
      simp only at hok hpg hpl HPk HTK
      obtain ⟨c8, rfl⟩ : ∃ c8 : UInt8, id = (c8.toNat : Int) := ⟨UInt8.ofNat id.toNat, byte_id hok.1⟩
      obtain ⟨sh, hsh⟩ : ∃ sh, shapeOf (c8.toNat : Int) = sh := ⟨_, rfl⟩
      rw [hsh] at hok
      obtain ⟨VV, hVV⟩ : ∃ VV, valueS sh ⟨(c8.toNat : Int), m, t, v⟩ = VV := ⟨_, rfl⟩
      have hpe : propL ⟨(c8.toNat : Int), m, t, v⟩ = c8 :: ls VV := by
        unfold propL
        simp only
        rw [hsh, hVV, Int.toNat_natCast]
        simp
      rw [hpe] at hpl HTK
      have HSH := Lib.hid hsh; have HVV := Lib.hid hVV; have HOK := Lib.hid hok; have HPG := Lib.hid hpg
      clear hsh hVV hok hpg hpe
      have hvl : VV.size ≤ 131074 := by rw [List.length_cons, ls_len] at hpl; omega
      clear hpl
      obtain ⟨S, hS⟩ : ∃ S : ByteArray, ⟨((l.take k).flatMap propL).toArray⟩ = S := ⟨_, rfl⟩
      have hSz : S.size ≤ 131075000 := by rw [← hS, mk_size]; omega
      have HS2 : Hid ((⟨((l.take (k + 1)).flatMap propL).toArray⟩ : ByteArray) = S ++ ⟨#[c8]⟩ ++ VV) := Lib.hid (by
        rw [HTK.out, ← hS]
        refine ls_ext ?_
        rw [ls_mk, ls_app, ls_app, ls_mk]
        simp [ls])
      rw [hS]
      clear hS htl
      have hw8 : IntKind.u8.wrap (c8.toNat : Int) = (c8.toNat : Int) := by rw [IntKind.wrap_u8]; have := c8.toNat_lt; omega
      have b1 : (0 : Int) ≤ (k : Int) := by omega
      have b2 : (k : Int) < (n : Int) := by omega
      have hs1 : ¬ (9223372036854775807 < S.size + 1) := by omega
      have hs2 : ¬ (9223372036854775807 < S.size + 1 + VV.size) := by omega
      obtain ⟨-, c0, c1, c2, c3⟩ := PB.of H.out HN.out HPk.out HB.out
      simp only at c0 c1 c2 c3
      obtain ⟨-, g0, g1, g2, g3⟩ := PB.of H.out HN.out HPk.out (HB.out.alloc HB.out.size (.cells #[.int .u8 (c8.toNat : Int)] 5))
      simp only at g0 g1 g2 g3
      have hcv8 := fun W => hcv W c8
      have hcv9 := fun W => hcv1 W c8
      have HLT := Lib.hid hlt; have HK := Lib.hid hk
      clear hcv hcv1 hlt' hvl hSz hk hlt
      go_wp2_with fail
      go_region_law ((go_simp; go_at_call 241; refine (refValue_any sh ⟨(c8.toNat : Int), m, t, v⟩ HSH.out HOK.out.2.1 HOK.out.2.2.1 HPG.out.1 HOK.out.2.2.2.1 HOK.out.2.2.2.2.1 HOK.out.2.2.2.2.2 _).mono ?_; rintro e w4 ⟨rfl, hbv⟩; rw [HVV.out]; have hb4 : Below w.heap.size w w4 := (by first | exact PB.b0 HB.out hbv | exact PB.b1 HB.out hbv | exact PB.b2 HB.out hbv); obtain ⟨-, e0, e1, e2, e3⟩ := PB.of H.out HN.out HPk.out hb4; simp only at e0 e1 e2 e3; try (have hcz := conv_aft 64 9 5 Tryz.underlying64 Tryz.underlying5 Tryz.underlying9 hbv)))
      all_goals
        go_wp2
        go_roundw
        case rel => exact ⟨k + 1, HLT.out, by go_num, by rw [HS2.out], by first | exact hb4 | exact hb4.alloc hb4.size _⟩
        case measure => have := HLT.out; simp [intOf]; omega
    · obtain rfl : k = n := by omega
      have HT : Hid (l.take k = l) := Lib.hid (List.take_of_length_le (by rw [HN.out]; exact Nat.le_refl _))
      rw [HT.out]
      go_wp2
      go_ret
      exact ⟨rfl, HB.out⟩
end Go.Proofs.YtmkkjiogokfnmaaGreatDoor

namespace Go.Proofs.YtmkkjiogokfnmaaGreatDoor
open Go.RowKit
theorem go_err (kind : Int) : ∀ (l : List Pr) (f : Nat → Nat) (o o' : List UInt8), (bytesGo kind l f o).2 = (bytesGo kind l f o').2
  | [], f, o, o' => by rw [bytesGo, bytesGo]; split <;> rfl
  | p :: l, f, o, o' => by
    rw [bytesGo, bytesGo]
    split
    · rfl
    · split
      · rfl
      · exact go_err kind l _ _ _
def cntF (l : List Pr) : Nat → Nat := fun j => cnt j l
theorem cntF_snoc (l : List Pr) (p : Pr) : upd (cntF l) p.id.toNat (cntF l p.id.toNat + 1) = cntF (l ++ [p]) := by
  funext j
  unfold upd cntF
  rw [cnt_append, cnt_cons]
  by_cases h : j = p.id.toNat
  · subst h; simp [cnt]
  · rw [if_neg h, if_neg (fun x => h x.symm)]; simp [cnt]
theorem getP_cnt {kind : Int} {l : List Pr} {p : Pr} (hl : ckL kind l) (hp : 0 ≤ p.id) : (getP l p.id).isSome = decide (1 ≤ cnt p.id.toNat l) := by
  rw [Bool.eq_iff_iff, decide_eq_true_eq]
  unfold getP
  rw [List.find?_isSome]
  constructor
  · rintro ⟨q, hq, he⟩
    exact cnt_pos.2 ⟨q, hq, by rw [show q.id = p.id by simpa using he]⟩
  · intro h
    obtain ⟨q, hq, he⟩ := cnt_pos.1 h
    have := (check_ok (hl q hq)).1.1
    exact ⟨q, hq, by simp; omega⟩
theorem tw_again {kind : Int} {l : List Pr} {p : Pr} (hl : ckL kind l) (hp : checkE (ruleOf p.id) kind p = 0) : twB kind l p.id = againB (cntF l) kind p.id.toNat := by
  unfold twB
  rw [getP_cnt hl (check_ok hp).1.1, many_of_often hp]
  unfold againB cntF
  congr 1
  exact decide_eq_decide.2 (by omega)
theorem lone_cnt (l : List Pr) : loneL l = loneB (cntF l) := by
  have h : ∀ k : Nat, 0 < k → (getP l (k : Int)).isSome = decide (0 < cnt k l) := by
    intro k hk
    rw [Bool.eq_iff_iff, decide_eq_true_eq]
    unfold getP
    rw [List.find?_isSome]
    constructor
    · rintro ⟨q, hq, he⟩
      have : q.id = (k : Int) := by simpa using he
      exact cnt_pos.2 ⟨q, hq, by omega⟩
    · intro h
      obtain ⟨q, hq, he⟩ := cnt_pos.1 h
      exact ⟨q, hq, by simp; omega⟩
  unfold loneL loneB cntF
  rw [show (22 : Int) = ((22 : Nat) : Int) from rfl, show (21 : Int) = ((21 : Nat) : Int) from rfl, h 22 (by omega), h 21 (by omega)]
  congr 1
  by_cases h0 : cnt 21 l = 0
  · simp [h0]
  · have : 0 < cnt 21 l := by omega
    simp [this, h0]
/-- How far the reference's round has come. -/
structure VAt (kind : Int) (l : List Pr) (k : Nat) : Prop where
  ck : ckL kind (l.take k)
  eq : (bytesS kind l).2 = (bytesGo kind (l.drop k) (cntF (l.take k)) []).2
theorem VAt.start {kind : Int} {l : List Pr} (hl : l.length ≤ 1000) : VAt kind l 0 := by
  refine ⟨by simp [ckL], ?_⟩
  unfold bytesS
  rw [if_neg (by omega)]
  rfl
theorem VAt.bad {kind : Int} {l : List Pr} {k : Nat} {p : Pr} (v : VAt kind l k) (hp : l[k]? = some p) (hc : checkE (ruleOf p.id) kind p ≠ 0) : (bytesS kind l).2 = checkE (ruleOf p.id) kind p := by
  obtain ⟨hk, rfl⟩ := List.getElem?_eq_some_iff.1 hp
  rw [v.eq, List.drop_eq_getElem_cons hk, bytesGo, if_pos hc]
theorem VAt.twice {kind : Int} {l : List Pr} {k : Nat} {p : Pr} (v : VAt kind l k) (hp : l[k]? = some p) (hc : checkE (ruleOf p.id) kind p = 0) (ht : twB kind (l.take k) p.id = true) : (bytesS kind l).2 = 9 := by
  rw [tw_again v.ck hc] at ht
  obtain ⟨hk, rfl⟩ := List.getElem?_eq_some_iff.1 hp
  rw [v.eq, List.drop_eq_getElem_cons hk, bytesGo, if_neg (by simpa using hc), if_pos ht]
theorem VAt.next {kind : Int} {l : List Pr} {k : Nat} {p : Pr} (v : VAt kind l k) (hp : l[k]? = some p) (hc : checkE (ruleOf p.id) kind p = 0) (ht : twB kind (l.take k) p.id = false) : VAt kind l (k + 1) := by
  rw [tw_again v.ck hc] at ht
  obtain ⟨hk, rfl⟩ := List.getElem?_eq_some_iff.1 hp
  have htk : l.take (k + 1) = l.take k ++ [l[k]] := List.take_succ_eq_append_getElem hk
  refine ⟨?_, ?_⟩
  · rw [htk]
    refine ckL_append.2 ⟨v.ck, ?_⟩
    intro q hq
    rw [List.mem_singleton.1 hq]
    exact hc
  · rw [v.eq, List.drop_eq_getElem_cons hk, bytesGo, if_neg (by simpa using hc), if_neg (by rw [ht]; simp), cntF_snoc, ← htk]
    exact go_err kind _ _ _ _
theorem VAt.done {kind : Int} {l : List Pr} (v : VAt kind l l.length) : ckL kind l ∧ (bytesS kind l).2 = if loneL l = true then 9 else 0 := by
  have h1 := v.ck
  have h2 := v.eq
  rw [List.take_length] at h1 h2
  refine ⟨h1, ?_⟩
  rw [h2, List.drop_length, bytesGo, lone_cnt]
  split <;> rfl
set_option maxHeartbeats 4000000 in
set_option maxRecDepth 10000 in
theorem refValidP_any (kind : Int) (l : List Pr) (n : Nat) (hn : l.length = n) (hg : ∀ p ∈ l, prGood p) (A : Option Addr) (c : Nat) (w : World) (h : Rd w w.heap.size 4 A n (prs l)) (hl : n ≤ 4611686018427387904) (hc : n ≤ c) :
    Calls Tryz.prog 135 #[.int .i64 kind, .slice A n c] w fun e w' => e = .returned (.int .i64 (bytesS kind l).2) ∧ Below w.heap.size w w' := by
  by_cases hbig : 1000 < n
  · have HX : Hid ((bytesS kind l).2 = 4) := Lib.hid (by unfold bytesS; rw [if_pos (by omega)])
    have d1 : decide ((1000 : Int) < (n : Int)) = true := decide_eq_true (by omega)
    clear hbig
    go_enter Tryz.func135, Tryz.ntmps135
    go_wp2
    go_ret
    exact ⟨by rw [HX.out]; rfl, Below.refl _ _⟩
  have d1 : decide ((1000 : Int) < (n : Int)) = false := decide_eq_false (by omega)
  have hn1 : n ≤ 1000 := by omega
  have H := Lib.hid h; have HN := Lib.hid hn; have HG := Lib.hid hg; have HC := Lib.hid hc
  have V0 := Lib.hid (VAt.start (kind := kind) (show l.length ≤ 1000 by omega))
  clear h hn hg hc hbig hl
  go_enter Tryz.func135, Tryz.ntmps135
  go_wp2
  go_loopw [5] (fun i wr => ∃ k : Nat, k ≤ n ∧ i = .int .i64 k ∧ VAt kind l k ∧ Below w.heap.size w wr) (fun i _ => n - (intOf i).toNat)
  case atStart => exact ⟨0, by omega, rfl, V0.out, Below.refl _ _⟩
  case round =>
    obtain ⟨k, hk, rfl, hv, hbel⟩ := hrel
    have HB := Lib.hid hbel; have HV := Lib.hid hv; clear hbel hv
    by_cases hlt : k < n
    · have hlt' : k < l.length := by rw [HN.out]; exact hlt
      obtain ⟨b, o, hA, -, -, -, -, -⟩ := Rd.atP (A := A) (show Rd w w.heap.size 4 A l.length (prs l) by rw [HN.out]; exact H.out) hlt'
      subst hA
      have HPk : Hid (l[k]? = some l[k]) := Lib.hid (List.getElem?_eq_getElem hlt')
      have HPG := Lib.hid (HG.out _ (List.getElem_mem hlt'))
      generalize l[k] = p at *
      obtain ⟨id, m, t, v⟩ := p
      obtain ⟨-, c0, c1, c2, c3⟩ := PB.of H.out HN.out HPk.out HB.out
      simp only at c0 c1 c2 c3
      have b1 : (0 : Int) ≤ (k : Int) := by omega
      have b2 : (k : Int) < (n : Int) := by omega
      have HLT := Lib.hid hlt
      clear hlt' hk
      by_cases hck : checkE (ruleOf id) kind ⟨id, m, t, v⟩ = 0
      rotate_left
      · have HX := Lib.hid (HV.out.bad HPk.out hck)
        generalize hE : checkE (ruleOf id) kind ⟨id, m, t, v⟩ = E at *
        have HE := Lib.hid hE
        have e0 : (E != 0) = true := bne_iff_ne.2 hck
        clear hck hE
        go_wp2_with fail
        refine (refCheckP_any kind ⟨id, m, t, v⟩ (prGood_ok HPG.out) _).mono ?_
        rintro e w1 ⟨rfl, hb⟩
        rw [HE.out]
        have HB1 := Lib.hid (HB.out.trans (hb.mono HB.out.size)); clear hb
        go_wp2
        go_ret
        exact ⟨by rw [HX.out]; (try dsimp only); rfl, HB1.out⟩
      have HCK := Lib.hid hck
      clear hck
      go_wp2_with fail
      refine (refCheckP_any kind ⟨id, m, t, v⟩ (prGood_ok HPG.out) _).mono ?_
      rintro e w1 ⟨rfl, hb⟩
      rw [HCK.out]
      have HB1 := Lib.hid (HB.out.trans (hb.mono HB.out.size)); clear hb c0 c1 c2 c3
      obtain ⟨-, c0, c1, c2, c3⟩ := PB.of H.out HN.out HPk.out HB1.out
      simp only at c0 c1 c2 c3
      have S1 := fun W => run_to (P := Tryz.prog) Tryz.underlying23 size_prop (some ⟨b, o, none⟩) n c k (by have := HC.out; omega) W
      have c0' := fun n' => (show (w1.drewN n').cell? ⟨b, o + k * 4, none⟩ = some (.int .i64 id) from c0)
      have HTW : ∀ d os, Calls Tryz.prog 193 #[.int .i64 kind, .slice (some ⟨b, o, none⟩) k c, .int .i64 id] (Sort.grow (redrawn w1 d) os) fun e w'' => e = .returned (.bool (twB kind (l.take k) id)) ∧ ∃ p : Regrown, w'' = Sort.grow (redrawn w1 p.d) p.os :=
        regrown (fun x hx => refTwice_any kind id (l.take k) k (by rw [List.length_take, HN.out]; have := HLT.out; omega) (some ⟨b, o, none⟩) c x
          (by
            have h1 := ((H.out.below HB1.out).wider HB1.out.size).below hx
            have h2 := (h1.wider hx.size).cut_to (k := k) (by have := HLT.out; omega)
            rw [prs_take] at h2
            exact h2) (by have := HLT.out; omega))
      have k0 := cell_regrown c0
      have HBQ := Lib.hid (fun d os => HB1.out.trans ((below_regrown w1 d os).mono HB1.out.size))
      cases htw : twB kind (l.take k) id
      · have HVN := Lib.hid (HV.out.next HPk.out HCK.out htw)
        rw [htw] at HTW
        clear htw c0 c1 c2 c3 c0'
        go_wp2_with fail
        refine wp_region_quiet_below (by kernel_rfl) (by kernel_rfl) ?_
        repeat (go_big_quiet_step (first | with_reducible exact HTW _ _))
        refine wpQuiet_nil ?_
        intro _ hw'
        obtain ⟨⟨dq, osq⟩, hw''⟩ := hw'
        subst hw''
        have KF := Lib.hid (HBQ.out dq osq)
        clear HTW k0 HBQ S1
        generalize Sort.grow (redrawn _ dq) osq = wq at *
        go_wp2
        go_roundw
        case rel => exact ⟨k + 1, HLT.out, by go_num, HVN.out, KF.out⟩
        case measure => have := HLT.out; simp [intOf]; omega
      · have HX := Lib.hid (HV.out.twice HPk.out HCK.out htw)
        rw [htw] at HTW
        clear htw c0 c1 c2 c3 c0'
        go_wp2_with fail
        refine wp_region_quiet_below (by kernel_rfl) (by kernel_rfl) ?_
        repeat (go_big_quiet_step (first | with_reducible exact HTW _ _))
        refine wpQuiet_nil ?_
        intro _ hw'
        obtain ⟨⟨dq, osq⟩, hw''⟩ := hw'
        subst hw''
        have KF := Lib.hid (HBQ.out dq osq)
        clear HTW k0 HBQ S1
        generalize Sort.grow (redrawn _ dq) osq = wq at *
        go_wp2
        go_ret
        exact ⟨by rw [HX.out]; rfl, KF.out⟩
    · obtain rfl : k = n := by omega
      have hd := (show VAt kind l l.length by rw [HN.out]; exact HV.out).done
      have HCL := Lib.hid hd.1
      have HXX := Lib.hid hd.2
      have HR := Lib.hid ((H.out.below HB.out).wider HB.out.size)
      clear hd
      cases hlo : loneL l
      · have HX : Hid ((bytesS kind l).2 = 0) := Lib.hid (by rw [HXX.out, hlo]; rfl)
        have HLO := Lib.hid hlo; clear hlo
        have hz : ((⟨(l.flatMap propL).toArray⟩ : ByteArray).size : Int) ≤ 268435455 := by rw [mk_size]; have := (bytesS_size kind l HX.out).1; omega
        have dz : decide ((268435455 : Int) < ((⟨(l.flatMap propL).toArray⟩ : ByteArray).size : Int)) = false := decide_eq_false (by omega)
        go_wp2_with fail
        refine (refLone_any l k HN.out A c _ HR.out (by omega)).mono ?_
        rintro e w1 ⟨rfl, hb⟩
        rw [HLO.out]
        have HB1 := Lib.hid (HB.out.trans (hb.mono HB.out.size)); have HR1 := Lib.hid ((HR.out.below hb).wider hb.size); clear hb
        go_wp2_with fail
        refine (refBody_any kind l k HN.out HCL.out HG.out hn1 A c _ HR1.out).mono ?_
        rintro e w2 ⟨rfl, hb⟩
        have HB2 := Lib.hid (HB1.out.trans (hb.mono HB1.out.size)); clear hb
        generalize (⟨(l.flatMap propL).toArray⟩ : ByteArray) = Z at *
        go_wp2
        go_ret
        exact ⟨by rw [HX.out]; rfl, HB2.out⟩
      · have HX : Hid ((bytesS kind l).2 = 9) := Lib.hid (by rw [HXX.out, hlo]; rfl)
        have HLO := Lib.hid hlo; clear hlo
        go_wp2_with fail
        refine (refLone_any l k HN.out A c _ HR.out (by omega)).mono ?_
        rintro e w1 ⟨rfl, hb⟩
        rw [HLO.out]
        have HB1 := Lib.hid (HB.out.trans (hb.mono HB.out.size)); clear hb
        go_wp2
        go_ret
        exact ⟨by rw [HX.out]; rfl, HB1.out⟩
set_option maxHeartbeats 2000000 in
set_option maxRecDepth 10000 in
theorem refBytesP_any (kind : Int) (l : List Pr) (n : Nat) (hn : l.length = n) (hg : ∀ p ∈ l, prGood p) (A : Option Addr) (c : Nat) (w : World) (h : Rd w w.heap.size 4 A n (prs l)) (hl : n ≤ 4611686018427387904) (hc : n ≤ c) :
    Calls Tryz.prog 124 #[.int .i64 kind, .slice A n c] w fun e w' => e = .returned (.tuple #[.string ⟨(bytesS kind l).1.toArray⟩, .int .i64 (bytesS kind l).2]) ∧ Below w.heap.size w w' := by
  have H := Lib.hid h; have HN := Lib.hid hn; have HG := Lib.hid hg; have HC := Lib.hid hc
  clear h hn hg hc
  by_cases hE : (bytesS kind l).2 = 0
  rotate_left
  · have hb := bytesS_bad kind l hE
    have HX : Hid (bytesS kind l = ([], (bytesS kind l).2)) := Lib.hid (by rw [← hb])
    generalize (bytesS kind l).2 = E at *
    have HE := Lib.hid hE
    have e0 : (E != 0) = true := bne_iff_ne.2 hE
    clear hE hb
    go_enter Tryz.func124, Tryz.ntmps124
    go_wp2_with fail
    refine (refValidP_any kind l n HN.out HG.out A c _ H.out hl HC.out).mono ?_
    rintro e w1 ⟨rfl, hb⟩
    rw [HX.out]
    have HB := Lib.hid hb; clear hb
    simp only
    go_wp2
    go_ret2
    exact ⟨by rw [HX.out]; rfl, HB.out⟩
  have HE := Lib.hid hE
  have hb := bytesS_bytes kind l hE
  have hs := (bytesS_size kind l hE).1
  have hok := (bytesS_ok kind l).1 hE
  have HCL := Lib.hid hok.2.1
  have HN1 : Hid (n ≤ 1000) := Lib.hid (by rw [← HN.out]; exact hok.1)
  have HB0 := Lib.hid hb
  have HV : Hid ((varL (l.flatMap propL).length).length ≤ 4) := Lib.hid (by rw [varL_len]; split; omega; split; omega; split; omega; omega)
  obtain ⟨Z, hZ⟩ : ∃ Z : ByteArray, ⟨(l.flatMap propL).toArray⟩ = Z := ⟨_, rfl⟩
  have hzs : Z.size ≤ 131075000 := by rw [← hZ, mk_size]; exact hs
  have hzl : (l.flatMap propL).length = Z.size := by rw [← hZ, mk_size]
  have HZ := Lib.hid hZ
  have HX : Hid ((⟨(bytesS kind l).1.toArray⟩ : ByteArray) = ⟨(varL Z.size).toArray⟩ ++ Z) := Lib.hid (by rw [hb, ← hzl, ← hZ]; exact mk_cat _ _)
  rw [hzl] at HV
  clear hE hb hs hok hZ hzl
  obtain ⟨V, hV⟩ : ∃ V : ByteArray, ⟨(varL Z.size).toArray⟩ = V := ⟨_, rfl⟩
  have HVS : Hid (V.size ≤ 4) := Lib.hid (by rw [← hV, mk_size]; exact HV.out)
  have HVV := Lib.hid hV
  rw [hV] at HX
  have hsum : ¬ (9223372036854775807 < V.size + Z.size) := by have := HVS.out; omega
  clear hV
  go_enter Tryz.func124, Tryz.ntmps124
  go_wp2_with fail
  refine (refValidP_any kind l n HN.out HG.out A c _ H.out hl HC.out).mono ?_
  rintro e w1 ⟨rfl, hb⟩
  rw [HE.out]
  have HB := Lib.hid hb; have HR := Lib.hid ((H.out.below hb).wider hb.size); clear hb
  go_wp2_with fail
  refine (refBody_any kind l n HN.out HCL.out HG.out HN1.out A c _ HR.out).mono ?_
  rintro e w2 ⟨rfl, hb⟩
  rw [HZ.out]
  have HB1 := Lib.hid (HB.out.trans (hb.mono HB.out.size)); clear hb
  go_wp2_with fail
  refine (ref2Bytes_any Z.size _ (by omega)).mono ?_
  rintro e w3 ⟨rfl, hb⟩
  rw [HVV.out]
  have HB2 := Lib.hid (HB1.out.trans (hb.mono HB1.out.size)); clear hb
  go_wp2
  go_ret2
  exact ⟨by rw [HX.out, HE.out]; rfl, HB2.out⟩
end Go.Proofs.YtmkkjiogokfnmaaGreatDoor

namespace Go.Proofs.YtmkkjiogokfnmaaGreatDoor
open Go.RowKit
attribute [local go_sem] row_f0 row_f1
/-- What text tells of s behind a place. -/
def txS (s : ByteArray) (a sh : Nat) : ByteArray × Nat × Int :=
  if (dataS s a 0).2.2 ≠ 0 then (⟨#[]⟩, 0, 5) else if sh ≠ 6 ∧ validB (dataS s a 0).1 = false then (⟨#[]⟩, 0, 6) else ((dataS s a 0).1, (dataS s a 0).2.1, 0)
theorem need_no {t : ByteArray} {a k : Nat} (h : ¬ a + k ≤ t.size) : needS t a 0 k = (⟨#[]⟩, a, 5) := by
  have hh : hasC t a k = false := by simp [hasC]; omega
  unfold needS
  rw [if_pos rfl, hh]
  rfl
theorem ex_ex {t : ByteArray} {a i j : Nat} (hj : a + j ≤ t.size) : (t.extract a t.size).extract i j = t.extract (a + i) (a + j) := by
  refine ls_ext ?_
  have e1 : ∀ (s : ByteArray) (i j : Nat), ls (s.extract i j) = (ls s).extract i j := fun s i j => by
    unfold ls
    simp [ByteArray.data_extract]
  rw [e1, e1, e1]
  simp only [List.extract_eq_take_drop, List.drop_take, List.drop_drop, List.take_take]
  congr 1
  rw [Nat.min_def]
  split <;> omega
/-- Binary data read behind a place are those that the cursor finds. -/
theorem readB_data {s : ByteArray} {a : Nat} (ha : a ≤ s.size) : ((dataS s a 0).2.2 ≠ 0 ∧ (readB (s.extract a s.size)).2.2 ≠ 0) ∨
    ((dataS s a 0).2.2 = 0 ∧ readB (s.extract a s.size) = ((dataS s a 0).1, (readB (s.extract a s.size)).2.1, 0) ∧ (dataS s a 0).2.1 = a + (readB (s.extract a s.size)).2.1 ∧ (dataS s a 0).2.1 ≤ s.size) := by
  have hz : (s.extract a s.size).size = s.size - a := by rw [ByteArray.size_extract]; omega
  by_cases h2 : a + 2 ≤ s.size
  · have e1 : needS s a 0 (2 : Nat) = (s.extract a (a + 2), a + 2, 0) := needS_yes h2
    have e2 : numS (s.extract a s.size) 0 0 2 = getL (ls (s.extract a (a + 2))) := by
      unfold numS
      have : takeS (s.extract a s.size) 0 0 (2 : Nat) = ((s.extract a s.size).extract 0 (0 + 2), 0 + 2, 0) := take_yes (by omega)
      rw [show ((2 : Nat) : Int) = 2 from rfl] at this
      rw [this, ex_ex (by omega)]
      show getL (ls (s.extract (a + 0) (a + (0 + 2)))) = _
      rw [Nat.add_zero, Nat.zero_add]
    have e3 : dataS s a 0 = needS s (a + 2) 0 (getL (ls (s.extract a (a + 2))) : Nat) := by
      unfold dataS
      rw [show ((2 : Nat) : Int) = 2 from rfl] at e1
      rw [e1]
    generalize hg : getL (ls (s.extract a (a + 2))) = g at *
    by_cases h3 : a + 2 + g ≤ s.size
    · right
      rw [e3, needS_yes h3]
      have : readB (s.extract a s.size) = (s.extract (a + 2) (a + (2 + g)), 2 + g, 0) := by
        unfold readB
        rw [e2, if_neg (by omega), if_neg (by omega), ex_ex (by omega)]
      rw [this]
      exact ⟨rfl, by rw [show a + (2 + g) = a + 2 + g by omega], by simp only; omega, by simp only; omega⟩
    · left
      rw [e3, need_no h3]
      refine ⟨by show (5 : Int) ≠ 0; decide, ?_⟩
      unfold readB
      rw [e2, if_neg (by omega), if_pos (by omega)]
      decide
  · left
    have e1 : needS s a 0 (2 : Nat) = (⟨#[]⟩, a, 5) := need_no h2
    have e3 : dataS s a 0 = (⟨#[]⟩, a, 5) := by
      unfold dataS
      rw [show ((2 : Nat) : Int) = 2 from rfl] at e1
      rw [e1]
      rfl
    rw [e3]
    refine ⟨by show (5 : Int) ≠ 0; decide, ?_⟩
    unfold readB
    rw [if_pos (by omega)]
    decide
theorem data_five (t : ByteArray) (a : Nat) : (dataS t a 0).2.2 = 0 ∨ (dataS t a 0).2.2 = 5 := by
  have h : ∀ (b : Nat) (e n : Int), e = 0 ∨ e = 5 → (needS t b e n).2.2 = 0 ∨ (needS t b e n).2.2 = 5 := by
    intro b e n he
    unfold needS
    split
    · split
      · exact .inl rfl
      · exact .inr rfl
    · exact he
  exact h _ _ _ (h _ _ _ (.inl rfl))
set_option maxHeartbeats 1000000 in
set_option maxRecDepth 10000 in
theorem refTx_any (s : ByteArray) (a : Nat) (A : Int) (hA : A = (a : Int)) (sh : Nat) (w : World) (ha : a ≤ s.size) (hs : s.size ≤ 4611686018427387904) :
    Calls Tryz.prog 244 #[.string s, .int .i64 A, .int .i64 sh] w fun e w' => e = .returned (.tuple #[.string (txS s a sh).1, .int .i64 (txS s a sh).2.1, .int .i64 (txS s a sh).2.2]) ∧ w = w' := by
  subst hA
  have HXX : Hid (txS s a sh = if (dataS s a 0).2.2 ≠ 0 then (⟨#[]⟩, 0, 5) else if sh ≠ 6 ∧ validB (dataS s a 0).1 = false then (⟨#[]⟩, 0, 6) else ((dataS s a 0).1, (dataS s a 0).2.1, 0)) := Lib.hid rfl
  have hz : (s.extract a s.size).size ≤ 4611686018427387904 := by rw [ByteArray.size_extract]; omega
  have i1 : (0 : Int) ≤ (a : Int) := by omega
  have i2 : (a : Int) ≤ (s.size : Int) := by omega
  have hr := readB_data ha
  obtain ⟨Z, hZ⟩ : ∃ Z, s.extract a s.size = Z := ⟨_, rfl⟩
  rw [hZ] at hz hr
  have HZ := Lib.hid hz; have HZE := Lib.hid hZ
  have hcut : s.extract a s.size = Z := hZ
  clear hz hZ
  obtain ⟨T, N, F, hR⟩ : ∃ T N F, readB Z = (T, N, F) := ⟨_, _, _, rfl⟩
  rw [hR] at hr
  have HR := Lib.hid hR; clear hR
  rcases hr with ⟨h1, h2⟩ | ⟨h1, h2, h3, h4⟩
  · have HX : Hid (txS s a sh = (⟨#[]⟩, 0, 5)) := Lib.hid (by rw [HXX.out, if_pos h1])
    have e0 : (F != 0) = true := bne_iff_ne.2 h2
    clear h1 h2
    go_enter Tryz.func244, Tryz.ntmps244
    go_wp2_with fail
    refine (refReadB_any Z _ HZ.out).mono ?_
    rintro e w1 ⟨rfl, rfl⟩
    rw [HR.out]
    simp only
    go_wp2
    go_ret3
    exact ⟨by rw [HX.out]; rfl, rfl⟩
  obtain ⟨rfl, rfl⟩ : T = (dataS s a 0).1 ∧ F = 0 := by cases h2; exact ⟨rfl, rfl⟩
  have hX1 : txS s a sh = if sh ≠ 6 ∧ validB (dataS s a 0).1 = false then (⟨#[]⟩, 0, 6) else ((dataS s a 0).1, a + N, 0) := by rw [HXX.out, if_neg (by simpa using h1)]; simp only at h3; rw [h3]
  have HT : Hid ((dataS s a 0).1.size ≤ 4611686018427387904) := Lib.hid (by
    have := (dataS_back ha h1).1
    omega)
  have hN : a + N ≤ s.size := by simp only at h3; omega
  have HX1 := Lib.hid hX1
  have w1 : IntKind.i64.wrap ((a : Int) + (N : Int)) = (a : Int) + (N : Int) := by rw [IntKind.wrap_i64]; omega
  clear h1 h2 h3 h4 hX1 HXX
  generalize (dataS s a 0).1 = T at *
  by_cases h6 : sh = 6
  · have HX : Hid (txS s a sh = (T, a + N, 0)) := Lib.hid (by rw [HX1.out, if_neg (fun x => x.1 h6)])
    have e6 : ((sh : Int) != 6) = false := by simp; omega
    clear h6
    go_enter Tryz.func244, Tryz.ntmps244
    go_wp2_with fail
    refine (refReadB_any Z _ HZ.out).mono ?_
    rintro e w1 ⟨rfl, rfl⟩
    rw [HR.out]
    simp only
    go_wp2
    go_ret3
    exact ⟨by rw [HX.out]; rfl, rfl⟩
  have e6 : ((sh : Int) != 6) = true := bne_iff_ne.2 (by omega)
  cases hv : validB T
  · have HX : Hid (txS s a sh = (⟨#[]⟩, 0, 6)) := Lib.hid (by rw [HX1.out, if_pos ⟨h6, hv⟩])
    have HV := Lib.hid hv; clear hv h6
    go_enter Tryz.func244, Tryz.ntmps244
    go_wp2_with fail
    refine (refReadB_any Z _ HZ.out).mono ?_
    rintro e w1 ⟨rfl, rfl⟩
    rw [HR.out]
    simp only
    go_wp2_with fail
    refine (refValid_any T _ HT.out).mono ?_
    rintro e w1 ⟨rfl, rfl⟩
    rw [HV.out]
    go_wp2
    go_ret3
    exact ⟨by rw [HX.out]; rfl, rfl⟩
  · have HX : Hid (txS s a sh = (T, a + N, 0)) := Lib.hid (by rw [HX1.out, if_neg (fun x => by rw [hv] at x; cases x.2)])
    have HV := Lib.hid hv; clear hv h6
    go_enter Tryz.func244, Tryz.ntmps244
    go_wp2_with fail
    refine (refReadB_any Z _ HZ.out).mono ?_
    rintro e w1 ⟨rfl, rfl⟩
    rw [HR.out]
    simp only
    go_wp2_with fail
    refine (refValid_any T _ HT.out).mono ?_
    rintro e w1 ⟨rfl, rfl⟩
    rw [HV.out]
    go_wp2
    go_ret3
    exact ⟨by rw [HX.out]; rfl, rfl⟩
end Go.Proofs.YtmkkjiogokfnmaaGreatDoor

namespace Go.Proofs.YtmkkjiogokfnmaaGreatDoor
open Go.RowKit
attribute [local go_sem] row_f0 row_f1
abbrev PrT : TypeId := 87
def NextOut (s : ByteArray) (sh : Nat) (id : Int) (w : World) (e : Ending) (w' : World) : Prop :=
  ∃ (P : Pr) (k : Int), e = .returned (.tuple #[P.val, .int .i64 k, .int .i64 (valS sh s 1).err]) ∧ ((valS sh s 1).err = 0 → P = ⟨id, (valS sh s 1).n, (valS sh s 1).text, (valS sh s 1).value⟩ ∧ k = (valS sh s 1).at_) ∧ Below w.heap.size w w'
theorem nextOut_ok {s : ByteArray} {sh n k : Nat} {id : Int} {t v : ByteArray} {w w' : World} (hv : valS sh s 1 = ⟨n, t, v, k, 0⟩) (hb : Below w.heap.size w w') : NextOut s sh id w (.returned (.tuple #[.agg #[.int .i64 id, .int .u32 n, .string t, .string v], .int .i64 k, .int .i64 0])) w' := by
  refine ⟨⟨id, n, t, v⟩, k, ?_, ?_, hb⟩
  · rw [hv]; rfl
  · intro _; rw [hv]; exact ⟨rfl, rfl⟩
theorem nextOut_bad {s : ByteArray} {sh n : Nat} {id k E : Int} {t v : ByteArray} {w w' : World} (hv : (valS sh s 1).err = E) (hE : E ≠ 0) (hb : Below w.heap.size w w') : NextOut s sh id w (.returned (.tuple #[.agg #[.int .i64 id, .int .u32 n, .string t, .string v], .int .i64 k, .int .i64 E])) w' := by
  refine ⟨⟨id, n, t, v⟩, k, ?_, ?_, hb⟩
  · rw [hv]; rfl
  · intro h; rw [hv] at h; exact absurd h hE
theorem results_nx {fn : Func} {p q r : Tmp} (hr : fn.results = #[.cell p PrT, .tmp q, .tmp r]) (tmps : Array Value) {w : World} {g : Nat} {a b c d : Value} (hp : tmps.getD p undef = .pointer (some ⟨g, 0, none⟩)) (hb : Bk w g PrT #[a, b, c, d]) :
    (results fn tmps).run Tryz.prog w = .ok (.tuple #[.agg #[a, b, c, d], tmps.getD q undef, tmps.getD r undef]) w := by
  obtain ⟨⟨c0, c1, c2, c3⟩, -⟩ := hb.four
  rw [Array.getD_eq_getD_getElem?] at hp
  simp only [results, hr]
  simp [hp, go_sem, c0, c1, c2, c3]
theorem wr_tx {s : ByteArray} {a sh : Nat} (h6 : sh ≠ 6) : (writS s a 0).2.2 = (txS s a sh).2.2 ∧ ((txS s a sh).2.2 = 0 → writS s a 0 = ((txS s a sh).1, (txS s a sh).2.1, 0)) := by
  unfold writS txS
  rcases data_five s a with h | h
  · cases hv : validB (dataS s a 0).1
    · simp [h, h6]
    · simp [h]
  · simp [h]
theorem da_tx {s : ByteArray} {a : Nat} : (dataS s a 0).2.2 = (txS s a 6).2.2 ∧ ((txS s a 6).2.2 = 0 → dataS s a 0 = ((txS s a 6).1, (txS s a 6).2.1, 0)) := by
  unfold txS
  rcases data_five s a with h | h
  · rw [if_neg (by simpa using h), if_neg (fun x => x.1 rfl)]
    exact ⟨h, fun _ => Prod.ext rfl (Prod.ext rfl h)⟩
  · rw [if_pos (by rw [h]; decide)]
    exact ⟨h, fun x => by cases x⟩
theorem tx_at {s : ByteArray} {a sh : Nat} (ha : a ≤ s.size) (h : (txS s a sh).2.2 = 0) : (txS s a sh).2.1 ≤ s.size := by
  have hd : (dataS s a 0).2.2 = 0 ∧ (txS s a sh).2.1 = (dataS s a 0).2.1 := by
    unfold txS at h ⊢
    by_cases h0 : (dataS s a 0).2.2 = 0
    · rw [if_neg (by simpa using h0)] at h ⊢
      by_cases h1 : sh ≠ 6 ∧ validB (dataS s a 0).1 = false
      · rw [if_pos h1] at h; cases h
      · rw [if_neg h1]; exact ⟨h0, rfl⟩
    · rw [if_pos h0] at h; cases h
  rcases readB_data ha with ⟨h1, -⟩ | ⟨-, -, -, h4⟩
  · exact absurd hd.1 h1
  · rw [hd.2]; exact h4
set_option maxHeartbeats 4000000 in
set_option maxRecDepth 10000 in
theorem next_1 (s : ByteArray) (b0 : UInt8) (h : 0 < s.size) (hb0 : s[0] = b0) (hsh : shapeOf (b0.toNat : Int) = 1) (w : World) (hs : s.size ≤ 4611686018427387904) :
    Calls Tryz.prog 191 #[.string s] w (NextOut s 1 (b0.toNat : Int) w) := by
  have h0 : (0 : Int) < (s.size : Int) := by omega
  obtain ⟨sh', ki, le, mo, hR⟩ : ∃ sh ki le mo, ruleOf (b0.toNat : Int) = ⟨sh, ki, le, mo⟩ := ⟨_, _, _, _, rfl⟩
  have hs' : sh' = 1 := by
    have : (ruleOf (b0.toNat : Int)).shape = 1 := hsh
    rw [hR] at this
    exact this
  subst hs'
  have HR := Lib.hid hR
  clear hsh hR
  have hw0 : IntKind.i64.wrap (b0.toNat : Int) = (b0.toNat : Int) := by rw [IntKind.wrap_i64]; have := b0.toNat_lt; omega
  have R0 := Lib.hid ((Bk.fresh w PrT #[.int .i64 0, .int .u32 0, .string ⟨#[]⟩, .string ⟨#[]⟩]).alloc (.cells #[.int .i64 (b0.toNat : Int), .int .u32 0, .string ⟨#[]⟩, .string ⟨#[]⟩] PrT))
  have P0 := Lib.hid (Bk.fresh (w.alloc (.cells #[.int .i64 0, .int .u32 0, .string ⟨#[]⟩, .string ⟨#[]⟩] PrT)) PrT #[.int .i64 (b0.toNat : Int), .int .u32 0, .string ⟨#[]⟩, .string ⟨#[]⟩])
  rw [heap_alloc_sz] at P0
  have B0 := Lib.hid (((Below.refl w.heap.size w).alloc (Nat.le_refl _) (.cells #[.int .i64 0, .int .u32 0, .string ⟨#[]⟩, .string ⟨#[]⟩] PrT)).alloc (by simp) (.cells #[.int .i64 (b0.toNat : Int), .int .u32 0, .string ⟨#[]⟩, .string ⟨#[]⟩] PrT))
  by_cases hsz : 1 + 1 ≤ s.size
  rotate_left
  · have HV : Hid ((valS 1 s 1).err = 5) := Lib.hid (by
      have e : needS s 1 0 (1 : Nat) = (⟨#[]⟩, 1, 5) := need_no hsz
      show (needS s 1 0 1).2.2 = 5
      rw [show (1 : Int) = ((1 : Nat) : Int) from rfl, e])
    have w0 : IntKind.i64.wrap ((s.size : Int) - 1) = (s.size : Int) - 1 := by rw [IntKind.wrap_i64]; omega
    have d0 : decide ((s.size : Int) - 1 < 1) = true := decide_eq_true (by omega)
    clear hsz
    go_enter Tryz.func191, Tryz.ntmps191
    go_wp2_with fail
    refine (look_any (b0.toNat : Int) _).mono ?_
    rintro e w1 ⟨A, c, rfl, -, hb⟩
    unfold rowV
    rw [HR.out]
    have R1 := Lib.hid (R0.out.below hb R0.out.lt); have P1 := Lib.hid (P0.out.below hb P0.out.lt); have B1 := Lib.hid (B0.out.trans (hb.mono B0.out.size)); clear hb
    obtain ⟨⟨r0, r1, r2, r3⟩, s0, s1, s2, s3⟩ := R1.out.four
    obtain ⟨⟨c0, c1, c2, c3⟩, f0, f1, f2, f3⟩ := P1.out.four
    have R2 := Lib.hid (R1.out.alloc (.cells #[.int .i64 0, .int .i64 1, .int .i64 2, .int .i64 4] 3))
    have B2 := Lib.hid (B1.out.alloc B1.out.size (.cells #[.int .i64 0, .int .i64 1, .int .i64 2, .int .i64 4] 3))
    have P2 := Lib.hid (P1.out.alloc (.cells #[.int .i64 0, .int .i64 1, .int .i64 2, .int .i64 4] 3))
    obtain ⟨⟨e0, e1, e2, e3⟩, k0, k1, k2, k3⟩ := P2.out.four
    obtain ⟨⟨t0, t1, t2, t3⟩, u0, u1, u2, u3⟩ := R2.out.four
    go_wp2
    refine bodyPost_ret (results_nx rfl _ rfl R2.out.put_four) rfl ?_
    exact nextOut_bad (n := 0) HV.out (by decide) (below_four B2.out (Nat.le_refl _) _ _ _ _)
  · have HV : Hid (valS 1 s 1 = ⟨getL (ls (s.extract 1 2)), ⟨#[]⟩, ⟨#[]⟩, 2, 0⟩) := Lib.hid (by
      have e : needS s 1 0 (1 : Nat) = (s.extract 1 (1 + 1), 1 + 1, 0) := needS_yes hsz
      show (⟨getL (ls (needS s 1 0 1).1), ⟨#[]⟩, ⟨#[]⟩, (needS s 1 0 1).2.1, (needS s 1 0 1).2.2⟩ : VRead) = _
      rw [show (1 : Int) = ((1 : Nat) : Int) from rfl, e])
    have w0 : IntKind.i64.wrap ((s.size : Int) - 1) = (s.size : Int) - 1 := by rw [IntKind.wrap_i64]; omega
    have d0 : decide ((s.size : Int) - 1 < 1) = false := decide_eq_false (by omega)
    have i3 : (2 : Int) ≤ (s.size : Int) := by omega
    have HZ : Hid ((s.extract 1 2).size ≤ 8) := Lib.hid (by rw [ByteArray.size_extract]; omega)
    have HG : Hid (getL (ls (s.extract 1 2)) < 4294967296) := Lib.hid (by
      have h1 := getL_lt (ls (s.extract 1 2))
      rw [ls_len, ByteArray.size_extract, show min 2 s.size - 1 = 1 by omega] at h1
      omega)
    clear hsz
    go_enter Tryz.func191, Tryz.ntmps191
    go_wp2_with fail
    refine (look_any (b0.toNat : Int) _).mono ?_
    rintro e w1 ⟨A, c, rfl, -, hb⟩
    unfold rowV
    rw [HR.out]
    have R1 := Lib.hid (R0.out.below hb R0.out.lt); have P1 := Lib.hid (P0.out.below hb P0.out.lt); have B1 := Lib.hid (B0.out.trans (hb.mono B0.out.size)); clear hb
    obtain ⟨⟨r0, r1, r2, r3⟩, s0, s1, s2, s3⟩ := R1.out.four
    obtain ⟨⟨c0, c1, c2, c3⟩, f0, f1, f2, f3⟩ := P1.out.four
    have R2 := Lib.hid (R1.out.alloc (.cells #[.int .i64 0, .int .i64 1, .int .i64 2, .int .i64 4] 3))
    have P2 := Lib.hid (P1.out.alloc (.cells #[.int .i64 0, .int .i64 1, .int .i64 2, .int .i64 4] 3))
    have B2 := Lib.hid (B1.out.alloc B1.out.size (.cells #[.int .i64 0, .int .i64 1, .int .i64 2, .int .i64 4] 3))
    obtain ⟨⟨e0, e1, e2, e3⟩, k0, k1, k2, k3⟩ := P2.out.four
    obtain ⟨⟨t0, t1, t2, t3⟩, u0, u1, u2, u3⟩ := R2.out.four
    go_wp2_with fail
    refine (refGet_any _ _ HZ.out).mono ?_
    rintro e w2 ⟨rfl, rfl⟩
    generalize getL (ls (s.extract 1 2)) = G at *
    have hwG : IntKind.u32.wrap (G : Int) = (G : Int) := by rw [IntKind.wrap_u32]; have := HG.out; omega
    have R3 := Lib.hid (R2.out.other (p := ⟨w.heap.size + 1, 1, none⟩) (by simp) (.int .u32 (G : Int)))
    have B3 := Lib.hid (B2.out.setCell (show w.heap.size ≤ (⟨w.heap.size + 1, 1, none⟩ : Addr).block by simp) (.int .u32 (G : Int)))
    go_wp2
    refine bodyPost_ret (results_nx rfl _ rfl R3.out.put_four) rfl ?_
    exact nextOut_ok HV.out (below_four B3.out (Nat.le_refl _) _ _ _ _)
set_option maxHeartbeats 4000000 in
set_option maxRecDepth 10000 in
theorem next_2 (s : ByteArray) (b0 : UInt8) (h : 0 < s.size) (hb0 : s[0] = b0) (hsh : shapeOf (b0.toNat : Int) = 2) (w : World) (hs : s.size ≤ 4611686018427387904) :
    Calls Tryz.prog 191 #[.string s] w (NextOut s 2 (b0.toNat : Int) w) := by
  have h0 : (0 : Int) < (s.size : Int) := by omega
  obtain ⟨sh', ki, le, mo, hR⟩ : ∃ sh ki le mo, ruleOf (b0.toNat : Int) = ⟨sh, ki, le, mo⟩ := ⟨_, _, _, _, rfl⟩
  have hs' : sh' = 2 := by
    have : (ruleOf (b0.toNat : Int)).shape = 2 := hsh
    rw [hR] at this
    exact this
  subst hs'
  have HR := Lib.hid hR
  clear hsh hR
  have hw0 : IntKind.i64.wrap (b0.toNat : Int) = (b0.toNat : Int) := by rw [IntKind.wrap_i64]; have := b0.toNat_lt; omega
  have R0 := Lib.hid ((Bk.fresh w PrT #[.int .i64 0, .int .u32 0, .string ⟨#[]⟩, .string ⟨#[]⟩]).alloc (.cells #[.int .i64 (b0.toNat : Int), .int .u32 0, .string ⟨#[]⟩, .string ⟨#[]⟩] PrT))
  have P0 := Lib.hid (Bk.fresh (w.alloc (.cells #[.int .i64 0, .int .u32 0, .string ⟨#[]⟩, .string ⟨#[]⟩] PrT)) PrT #[.int .i64 (b0.toNat : Int), .int .u32 0, .string ⟨#[]⟩, .string ⟨#[]⟩])
  rw [heap_alloc_sz] at P0
  have B0 := Lib.hid (((Below.refl w.heap.size w).alloc (Nat.le_refl _) (.cells #[.int .i64 0, .int .u32 0, .string ⟨#[]⟩, .string ⟨#[]⟩] PrT)).alloc (by simp) (.cells #[.int .i64 (b0.toNat : Int), .int .u32 0, .string ⟨#[]⟩, .string ⟨#[]⟩] PrT))
  by_cases hsz : 1 + 2 ≤ s.size
  rotate_left
  · have HV : Hid ((valS 2 s 1).err = 5) := Lib.hid (by
      have e : needS s 1 0 (2 : Nat) = (⟨#[]⟩, 1, 5) := need_no hsz
      show (needS s 1 0 2).2.2 = 5
      rw [show (2 : Int) = ((2 : Nat) : Int) from rfl, e])
    have w0 : IntKind.i64.wrap ((s.size : Int) - 1) = (s.size : Int) - 1 := by rw [IntKind.wrap_i64]; omega
    have d0 : decide ((s.size : Int) - 1 < 2) = true := decide_eq_true (by omega)
    clear hsz
    go_enter Tryz.func191, Tryz.ntmps191
    go_wp2_with fail
    refine (look_any (b0.toNat : Int) _).mono ?_
    rintro e w1 ⟨A, c, rfl, -, hb⟩
    unfold rowV
    rw [HR.out]
    have R1 := Lib.hid (R0.out.below hb R0.out.lt); have P1 := Lib.hid (P0.out.below hb P0.out.lt); have B1 := Lib.hid (B0.out.trans (hb.mono B0.out.size)); clear hb
    obtain ⟨⟨r0, r1, r2, r3⟩, s0, s1, s2, s3⟩ := R1.out.four
    obtain ⟨⟨c0, c1, c2, c3⟩, f0, f1, f2, f3⟩ := P1.out.four
    have R2 := Lib.hid (R1.out.alloc (.cells #[.int .i64 0, .int .i64 1, .int .i64 2, .int .i64 4] 3))
    have B2 := Lib.hid (B1.out.alloc B1.out.size (.cells #[.int .i64 0, .int .i64 1, .int .i64 2, .int .i64 4] 3))
    have P2 := Lib.hid (P1.out.alloc (.cells #[.int .i64 0, .int .i64 1, .int .i64 2, .int .i64 4] 3))
    obtain ⟨⟨e0, e1, e2, e3⟩, k0, k1, k2, k3⟩ := P2.out.four
    obtain ⟨⟨t0, t1, t2, t3⟩, u0, u1, u2, u3⟩ := R2.out.four
    go_wp2
    refine bodyPost_ret (results_nx rfl _ rfl R2.out.put_four) rfl ?_
    exact nextOut_bad (n := 0) HV.out (by decide) (below_four B2.out (Nat.le_refl _) _ _ _ _)
  · have HV : Hid (valS 2 s 1 = ⟨getL (ls (s.extract 1 3)), ⟨#[]⟩, ⟨#[]⟩, 3, 0⟩) := Lib.hid (by
      have e : needS s 1 0 (2 : Nat) = (s.extract 1 (1 + 2), 1 + 2, 0) := needS_yes hsz
      show (⟨getL (ls (needS s 1 0 2).1), ⟨#[]⟩, ⟨#[]⟩, (needS s 1 0 2).2.1, (needS s 1 0 2).2.2⟩ : VRead) = _
      rw [show (2 : Int) = ((2 : Nat) : Int) from rfl, e])
    have w0 : IntKind.i64.wrap ((s.size : Int) - 1) = (s.size : Int) - 1 := by rw [IntKind.wrap_i64]; omega
    have d0 : decide ((s.size : Int) - 1 < 2) = false := decide_eq_false (by omega)
    have i3 : (3 : Int) ≤ (s.size : Int) := by omega
    have HZ : Hid ((s.extract 1 3).size ≤ 8) := Lib.hid (by rw [ByteArray.size_extract]; omega)
    have HG : Hid (getL (ls (s.extract 1 3)) < 4294967296) := Lib.hid (by
      have h1 := getL_lt (ls (s.extract 1 3))
      rw [ls_len, ByteArray.size_extract, show min 3 s.size - 1 = 2 by omega] at h1
      omega)
    clear hsz
    go_enter Tryz.func191, Tryz.ntmps191
    go_wp2_with fail
    refine (look_any (b0.toNat : Int) _).mono ?_
    rintro e w1 ⟨A, c, rfl, -, hb⟩
    unfold rowV
    rw [HR.out]
    have R1 := Lib.hid (R0.out.below hb R0.out.lt); have P1 := Lib.hid (P0.out.below hb P0.out.lt); have B1 := Lib.hid (B0.out.trans (hb.mono B0.out.size)); clear hb
    obtain ⟨⟨r0, r1, r2, r3⟩, s0, s1, s2, s3⟩ := R1.out.four
    obtain ⟨⟨c0, c1, c2, c3⟩, f0, f1, f2, f3⟩ := P1.out.four
    have R2 := Lib.hid (R1.out.alloc (.cells #[.int .i64 0, .int .i64 1, .int .i64 2, .int .i64 4] 3))
    have P2 := Lib.hid (P1.out.alloc (.cells #[.int .i64 0, .int .i64 1, .int .i64 2, .int .i64 4] 3))
    have B2 := Lib.hid (B1.out.alloc B1.out.size (.cells #[.int .i64 0, .int .i64 1, .int .i64 2, .int .i64 4] 3))
    obtain ⟨⟨e0, e1, e2, e3⟩, k0, k1, k2, k3⟩ := P2.out.four
    obtain ⟨⟨t0, t1, t2, t3⟩, u0, u1, u2, u3⟩ := R2.out.four
    go_wp2_with fail
    refine (refGet_any _ _ HZ.out).mono ?_
    rintro e w2 ⟨rfl, rfl⟩
    generalize getL (ls (s.extract 1 3)) = G at *
    have hwG : IntKind.u32.wrap (G : Int) = (G : Int) := by rw [IntKind.wrap_u32]; have := HG.out; omega
    have R3 := Lib.hid (R2.out.other (p := ⟨w.heap.size + 1, 1, none⟩) (by simp) (.int .u32 (G : Int)))
    have B3 := Lib.hid (B2.out.setCell (show w.heap.size ≤ (⟨w.heap.size + 1, 1, none⟩ : Addr).block by simp) (.int .u32 (G : Int)))
    go_wp2
    refine bodyPost_ret (results_nx rfl _ rfl R3.out.put_four) rfl ?_
    exact nextOut_ok HV.out (below_four B3.out (Nat.le_refl _) _ _ _ _)
set_option maxHeartbeats 4000000 in
set_option maxRecDepth 10000 in
theorem next_3 (s : ByteArray) (b0 : UInt8) (h : 0 < s.size) (hb0 : s[0] = b0) (hsh : shapeOf (b0.toNat : Int) = 3) (w : World) (hs : s.size ≤ 4611686018427387904) :
    Calls Tryz.prog 191 #[.string s] w (NextOut s 3 (b0.toNat : Int) w) := by
  have h0 : (0 : Int) < (s.size : Int) := by omega
  obtain ⟨sh', ki, le, mo, hR⟩ : ∃ sh ki le mo, ruleOf (b0.toNat : Int) = ⟨sh, ki, le, mo⟩ := ⟨_, _, _, _, rfl⟩
  have hs' : sh' = 3 := by
    have : (ruleOf (b0.toNat : Int)).shape = 3 := hsh
    rw [hR] at this
    exact this
  subst hs'
  have HR := Lib.hid hR
  clear hsh hR
  have hw0 : IntKind.i64.wrap (b0.toNat : Int) = (b0.toNat : Int) := by rw [IntKind.wrap_i64]; have := b0.toNat_lt; omega
  have R0 := Lib.hid ((Bk.fresh w PrT #[.int .i64 0, .int .u32 0, .string ⟨#[]⟩, .string ⟨#[]⟩]).alloc (.cells #[.int .i64 (b0.toNat : Int), .int .u32 0, .string ⟨#[]⟩, .string ⟨#[]⟩] PrT))
  have P0 := Lib.hid (Bk.fresh (w.alloc (.cells #[.int .i64 0, .int .u32 0, .string ⟨#[]⟩, .string ⟨#[]⟩] PrT)) PrT #[.int .i64 (b0.toNat : Int), .int .u32 0, .string ⟨#[]⟩, .string ⟨#[]⟩])
  rw [heap_alloc_sz] at P0
  have B0 := Lib.hid (((Below.refl w.heap.size w).alloc (Nat.le_refl _) (.cells #[.int .i64 0, .int .u32 0, .string ⟨#[]⟩, .string ⟨#[]⟩] PrT)).alloc (by simp) (.cells #[.int .i64 (b0.toNat : Int), .int .u32 0, .string ⟨#[]⟩, .string ⟨#[]⟩] PrT))
  by_cases hsz : 1 + 4 ≤ s.size
  rotate_left
  · have HV : Hid ((valS 3 s 1).err = 5) := Lib.hid (by
      have e : needS s 1 0 (4 : Nat) = (⟨#[]⟩, 1, 5) := need_no hsz
      show (needS s 1 0 4).2.2 = 5
      rw [show (4 : Int) = ((4 : Nat) : Int) from rfl, e])
    have w0 : IntKind.i64.wrap ((s.size : Int) - 1) = (s.size : Int) - 1 := by rw [IntKind.wrap_i64]; omega
    have d0 : decide ((s.size : Int) - 1 < 4) = true := decide_eq_true (by omega)
    clear hsz
    go_enter Tryz.func191, Tryz.ntmps191
    go_wp2_with fail
    refine (look_any (b0.toNat : Int) _).mono ?_
    rintro e w1 ⟨A, c, rfl, -, hb⟩
    unfold rowV
    rw [HR.out]
    have R1 := Lib.hid (R0.out.below hb R0.out.lt); have P1 := Lib.hid (P0.out.below hb P0.out.lt); have B1 := Lib.hid (B0.out.trans (hb.mono B0.out.size)); clear hb
    obtain ⟨⟨r0, r1, r2, r3⟩, s0, s1, s2, s3⟩ := R1.out.four
    obtain ⟨⟨c0, c1, c2, c3⟩, f0, f1, f2, f3⟩ := P1.out.four
    have R2 := Lib.hid (R1.out.alloc (.cells #[.int .i64 0, .int .i64 1, .int .i64 2, .int .i64 4] 3))
    have B2 := Lib.hid (B1.out.alloc B1.out.size (.cells #[.int .i64 0, .int .i64 1, .int .i64 2, .int .i64 4] 3))
    have P2 := Lib.hid (P1.out.alloc (.cells #[.int .i64 0, .int .i64 1, .int .i64 2, .int .i64 4] 3))
    obtain ⟨⟨e0, e1, e2, e3⟩, k0, k1, k2, k3⟩ := P2.out.four
    obtain ⟨⟨t0, t1, t2, t3⟩, u0, u1, u2, u3⟩ := R2.out.four
    go_wp2
    refine bodyPost_ret (results_nx rfl _ rfl R2.out.put_four) rfl ?_
    exact nextOut_bad (n := 0) HV.out (by decide) (below_four B2.out (Nat.le_refl _) _ _ _ _)
  · have HV : Hid (valS 3 s 1 = ⟨getL (ls (s.extract 1 5)), ⟨#[]⟩, ⟨#[]⟩, 5, 0⟩) := Lib.hid (by
      have e : needS s 1 0 (4 : Nat) = (s.extract 1 (1 + 4), 1 + 4, 0) := needS_yes hsz
      show (⟨getL (ls (needS s 1 0 4).1), ⟨#[]⟩, ⟨#[]⟩, (needS s 1 0 4).2.1, (needS s 1 0 4).2.2⟩ : VRead) = _
      rw [show (4 : Int) = ((4 : Nat) : Int) from rfl, e])
    have w0 : IntKind.i64.wrap ((s.size : Int) - 1) = (s.size : Int) - 1 := by rw [IntKind.wrap_i64]; omega
    have d0 : decide ((s.size : Int) - 1 < 4) = false := decide_eq_false (by omega)
    have i3 : (5 : Int) ≤ (s.size : Int) := by omega
    have HZ : Hid ((s.extract 1 5).size ≤ 8) := Lib.hid (by rw [ByteArray.size_extract]; omega)
    have HG : Hid (getL (ls (s.extract 1 5)) < 4294967296) := Lib.hid (by
      have h1 := getL_lt (ls (s.extract 1 5))
      rw [ls_len, ByteArray.size_extract, show min 5 s.size - 1 = 4 by omega] at h1
      omega)
    clear hsz
    go_enter Tryz.func191, Tryz.ntmps191
    go_wp2_with fail
    refine (look_any (b0.toNat : Int) _).mono ?_
    rintro e w1 ⟨A, c, rfl, -, hb⟩
    unfold rowV
    rw [HR.out]
    have R1 := Lib.hid (R0.out.below hb R0.out.lt); have P1 := Lib.hid (P0.out.below hb P0.out.lt); have B1 := Lib.hid (B0.out.trans (hb.mono B0.out.size)); clear hb
    obtain ⟨⟨r0, r1, r2, r3⟩, s0, s1, s2, s3⟩ := R1.out.four
    obtain ⟨⟨c0, c1, c2, c3⟩, f0, f1, f2, f3⟩ := P1.out.four
    have R2 := Lib.hid (R1.out.alloc (.cells #[.int .i64 0, .int .i64 1, .int .i64 2, .int .i64 4] 3))
    have P2 := Lib.hid (P1.out.alloc (.cells #[.int .i64 0, .int .i64 1, .int .i64 2, .int .i64 4] 3))
    have B2 := Lib.hid (B1.out.alloc B1.out.size (.cells #[.int .i64 0, .int .i64 1, .int .i64 2, .int .i64 4] 3))
    obtain ⟨⟨e0, e1, e2, e3⟩, k0, k1, k2, k3⟩ := P2.out.four
    obtain ⟨⟨t0, t1, t2, t3⟩, u0, u1, u2, u3⟩ := R2.out.four
    go_wp2_with fail
    refine (refGet_any _ _ HZ.out).mono ?_
    rintro e w2 ⟨rfl, rfl⟩
    generalize getL (ls (s.extract 1 5)) = G at *
    have hwG : IntKind.u32.wrap (G : Int) = (G : Int) := by rw [IntKind.wrap_u32]; have := HG.out; omega
    have R3 := Lib.hid (R2.out.other (p := ⟨w.heap.size + 1, 1, none⟩) (by simp) (.int .u32 (G : Int)))
    have B3 := Lib.hid (B2.out.setCell (show w.heap.size ≤ (⟨w.heap.size + 1, 1, none⟩ : Addr).block by simp) (.int .u32 (G : Int)))
    go_wp2
    refine bodyPost_ret (results_nx rfl _ rfl R3.out.put_four) rfl ?_
    exact nextOut_ok HV.out (below_four B3.out (Nat.le_refl _) _ _ _ _)
set_option maxHeartbeats 4000000 in
set_option maxRecDepth 10000 in
theorem next_4 (s : ByteArray) (b0 : UInt8) (h : 0 < s.size) (hb0 : s[0] = b0) (hsh : shapeOf (b0.toNat : Int) = 4) (w : World) (hs : s.size ≤ 4611686018427387904) :
    Calls Tryz.prog 191 #[.string s] w (NextOut s 4 (b0.toNat : Int) w) := by
  have h0 : (0 : Int) < (s.size : Int) := by omega
  obtain ⟨sh', ki, le, mo, hR⟩ : ∃ sh ki le mo, ruleOf (b0.toNat : Int) = ⟨sh, ki, le, mo⟩ := ⟨_, _, _, _, rfl⟩
  have hs' : sh' = 4 := by
    have : (ruleOf (b0.toNat : Int)).shape = 4 := hsh
    rw [hR] at this
    exact this
  subst hs'
  have HR := Lib.hid hR
  clear hsh hR
  have hw0 : IntKind.i64.wrap (b0.toNat : Int) = (b0.toNat : Int) := by rw [IntKind.wrap_i64]; have := b0.toNat_lt; omega
  have R0 := Lib.hid ((Bk.fresh w PrT #[.int .i64 0, .int .u32 0, .string ⟨#[]⟩, .string ⟨#[]⟩]).alloc (.cells #[.int .i64 (b0.toNat : Int), .int .u32 0, .string ⟨#[]⟩, .string ⟨#[]⟩] PrT))
  have P0 := Lib.hid (Bk.fresh (w.alloc (.cells #[.int .i64 0, .int .u32 0, .string ⟨#[]⟩, .string ⟨#[]⟩] PrT)) PrT #[.int .i64 (b0.toNat : Int), .int .u32 0, .string ⟨#[]⟩, .string ⟨#[]⟩])
  rw [heap_alloc_sz] at P0
  have B0 := Lib.hid (((Below.refl w.heap.size w).alloc (Nat.le_refl _) (.cells #[.int .i64 0, .int .u32 0, .string ⟨#[]⟩, .string ⟨#[]⟩] PrT)).alloc (by simp) (.cells #[.int .i64 (b0.toNat : Int), .int .u32 0, .string ⟨#[]⟩, .string ⟨#[]⟩] PrT))
  have i2 : (1 : Int) ≤ (s.size : Int) := by omega
  have HL : Hid (ls (s.extract 1 s.size) = (ls s).drop 1) := Lib.hid (rest_ls s 1)
  have HZ : Hid ((s.extract 1 s.size).size ≤ 4611686018427387904) := Lib.hid (by rw [ByteArray.size_extract]; omega)
  have HLE : Hid ((s.extract 1 s.size).size + 1 = s.size) := Lib.hid (by rw [ByteArray.size_extract]; omega)
  have HVV : Hid (valS 4 s 1 = ⟨(varS s 1).1, ⟨#[]⟩, ⟨#[]⟩, (varS s 1).2.1, (varS s 1).2.2⟩) := Lib.hid rfl
  have HVR : Hid (varS s 1 = if (readV (ls (s.extract 1 s.size))).2.2 = 0 then ((readV (ls (s.extract 1 s.size))).1, 1 + (readV (ls (s.extract 1 s.size))).2.1, 0) else ((readV (ls (s.extract 1 s.size))).1, 1, 5)) := Lib.hid (by rw [HL.out]; rfl)
  have HBK : Hid (∀ n k, readV (ls (s.extract 1 s.size)) = (n, k, 0) → n ≤ 268435455 ∧ k ≤ 4) := Lib.hid (fun n k hr => by
    obtain ⟨-, h2, h3⟩ := readV_back hr
    refine ⟨h3, ?_⟩
    rw [h2, varL_len]
    split; omega; split; omega; split; omega; omega)
  obtain ⟨N, K, F, hRV⟩ : ∃ N K F, readV (ls (s.extract 1 s.size)) = (N, K, F) := ⟨_, _, _, rfl⟩
  rw [hRV] at HVR HBK
  have HRV := Lib.hid hRV
  clear hRV
  by_cases hF : F = 0
  rotate_left
  · have HV : Hid ((valS 4 s 1).err = 5) := Lib.hid (by rw [HVV.out, HVR.out, if_neg hF])
    have e0 : (F != 0) = true := bne_iff_ne.2 hF
    clear hF
    go_enter Tryz.func191, Tryz.ntmps191
    go_wp2_with fail
    refine (look_any (b0.toNat : Int) _).mono ?_
    rintro e w1 ⟨A, c, rfl, -, hb⟩
    unfold rowV
    rw [HR.out]
    have R1 := Lib.hid (R0.out.below hb R0.out.lt); have P1 := Lib.hid (P0.out.below hb P0.out.lt); have B1 := Lib.hid (B0.out.trans (hb.mono B0.out.size)); clear hb
    obtain ⟨⟨r0, r1, r2, r3⟩, s0, s1, s2, s3⟩ := R1.out.four
    obtain ⟨⟨c0, c1, c2, c3⟩, f0, f1, f2, f3⟩ := P1.out.four
    go_wp2_with fail
    refine (ref2Read_any _ _ HZ.out).mono ?_
    rintro e w2 ⟨rfl, rfl⟩
    rw [HRV.out]
    simp only
    go_wp2
    refine bodyPost_ret (results_nx rfl _ rfl R1.out.put_four) rfl ?_
    exact nextOut_bad (n := 0) HV.out (by decide) (below_four B1.out (Nat.le_refl _) _ _ _ _)
  · subst hF
    have HV : Hid (valS 4 s 1 = ⟨N, ⟨#[]⟩, ⟨#[]⟩, 1 + K, 0⟩) := Lib.hid (by rw [HVV.out, HVR.out, if_pos rfl])
    have hNK := HBK.out N K rfl
    have hwG : IntKind.u32.wrap (N : Int) = (N : Int) := by rw [IntKind.wrap_u32]; omega
    have hwK : IntKind.i64.wrap (1 + (K : Int)) = 1 + (K : Int) := by rw [IntKind.wrap_i64]; omega
    have HK : Hid (((1 + K : Nat) : Int) = 1 + (K : Int)) := Lib.hid (by omega)
    clear hNK
    go_enter Tryz.func191, Tryz.ntmps191
    go_wp2_with fail
    refine (look_any (b0.toNat : Int) _).mono ?_
    rintro e w1 ⟨A, c, rfl, -, hb⟩
    unfold rowV
    rw [HR.out]
    have R1 := Lib.hid (R0.out.below hb R0.out.lt); have P1 := Lib.hid (P0.out.below hb P0.out.lt); have B1 := Lib.hid (B0.out.trans (hb.mono B0.out.size)); clear hb
    obtain ⟨⟨r0, r1, r2, r3⟩, s0, s1, s2, s3⟩ := R1.out.four
    obtain ⟨⟨c0, c1, c2, c3⟩, f0, f1, f2, f3⟩ := P1.out.four
    go_wp2_with fail
    refine (ref2Read_any _ _ HZ.out).mono ?_
    rintro e w2 ⟨rfl, rfl⟩
    rw [HRV.out]
    simp only
    have R3 := Lib.hid (R1.out.other (p := ⟨w.heap.size + 1, 1, none⟩) (by simp) (.int .u32 (N : Int)))
    have B3 := Lib.hid (B1.out.setCell (show w.heap.size ≤ (⟨w.heap.size + 1, 1, none⟩ : Addr).block by simp) (.int .u32 (N : Int)))
    go_wp2
    refine bodyPost_ret (results_nx rfl _ rfl R3.out.put_four) rfl ?_
    have hfin := nextOut_ok (id := (b0.toNat : Int)) HV.out (below_four B3.out (Nat.le_refl _) (.int .i64 (b0.toNat : Int)) (.int .u32 (N : Int)) (.string ⟨#[]⟩) (.string ⟨#[]⟩))
    rw [HK.out] at hfin
    exact hfin
set_option maxHeartbeats 4000000 in
set_option maxRecDepth 10000 in
theorem next_5 (s : ByteArray) (b0 : UInt8) (h : 0 < s.size) (hb0 : s[0] = b0) (hsh : shapeOf (b0.toNat : Int) = 5) (w : World) (hs : s.size ≤ 4611686018427387904) :
    Calls Tryz.prog 191 #[.string s] w (NextOut s 5 (b0.toNat : Int) w) := by
  have h0 : (0 : Int) < (s.size : Int) := by omega
  obtain ⟨sh', ki, le, mo, hR⟩ : ∃ sh ki le mo, ruleOf (b0.toNat : Int) = ⟨sh, ki, le, mo⟩ := ⟨_, _, _, _, rfl⟩
  have hs' : sh' = 5 := by
    have : (ruleOf (b0.toNat : Int)).shape = 5 := hsh
    rw [hR] at this
    exact this
  subst hs'
  have HR := Lib.hid hR
  clear hsh hR
  have hw0 : IntKind.i64.wrap (b0.toNat : Int) = (b0.toNat : Int) := by rw [IntKind.wrap_i64]; have := b0.toNat_lt; omega
  have R0 := Lib.hid ((Bk.fresh w PrT #[.int .i64 0, .int .u32 0, .string ⟨#[]⟩, .string ⟨#[]⟩]).alloc (.cells #[.int .i64 (b0.toNat : Int), .int .u32 0, .string ⟨#[]⟩, .string ⟨#[]⟩] PrT))
  have P0 := Lib.hid (Bk.fresh (w.alloc (.cells #[.int .i64 0, .int .u32 0, .string ⟨#[]⟩, .string ⟨#[]⟩] PrT)) PrT #[.int .i64 (b0.toNat : Int), .int .u32 0, .string ⟨#[]⟩, .string ⟨#[]⟩])
  rw [heap_alloc_sz] at P0
  have B0 := Lib.hid (((Below.refl w.heap.size w).alloc (Nat.le_refl _) (.cells #[.int .i64 0, .int .u32 0, .string ⟨#[]⟩, .string ⟨#[]⟩] PrT)).alloc (by simp) (.cells #[.int .i64 (b0.toNat : Int), .int .u32 0, .string ⟨#[]⟩, .string ⟨#[]⟩] PrT))
  have HA : Hid (1 ≤ s.size) := Lib.hid h
  have HAT : Hid ((txS s 1 5).2.2 = 0 → (txS s 1 5).2.1 ≤ s.size) := Lib.hid (tx_at (sh := 5) h)
  have HVV : Hid ((valS 5 s 1).err = (txS s 1 5).2.2 ∧ ((txS s 1 5).2.2 = 0 → valS 5 s 1 = ⟨0, (txS s 1 5).1, ⟨#[]⟩, (txS s 1 5).2.1, 0⟩)) := Lib.hid (by
    have hh := wr_tx (s := s) (a := 1) (sh := 5) (by decide)
    refine ⟨hh.1, fun h0 => ?_⟩
    show (⟨0, (writS s 1 0).1, ⟨#[]⟩, (writS s 1 0).2.1, (writS s 1 0).2.2⟩ : VRead) = _
    rw [hh.2 h0])
  obtain ⟨T, N, F, hTX⟩ : ∃ T N F, txS s 1 5 = (T, N, F) := ⟨_, _, _, rfl⟩
  rw [hTX] at HVV HAT
  have HTX := Lib.hid hTX; clear hTX
  by_cases hF : F = 0
  rotate_left
  · have HV : Hid ((valS 5 s 1).err = F) := Lib.hid HVV.out.1
    have e0 : (F == 0) = false := beq_eq_false_iff_ne.2 hF
    have HF := Lib.hid hF
    clear hF
    go_enter Tryz.func191, Tryz.ntmps191
    go_wp2_with fail
    refine (look_any (b0.toNat : Int) _).mono ?_
    rintro e w1 ⟨A, c, rfl, -, hb⟩
    unfold rowV
    rw [HR.out]
    have R1 := Lib.hid (R0.out.below hb R0.out.lt); have P1 := Lib.hid (P0.out.below hb P0.out.lt); have B1 := Lib.hid (B0.out.trans (hb.mono B0.out.size)); clear hb
    obtain ⟨⟨r0, r1, r2, r3⟩, s0, s1, s2, s3⟩ := R1.out.four
    obtain ⟨⟨c0, c1, c2, c3⟩, f0, f1, f2, f3⟩ := P1.out.four
    go_wp2_with fail
    refine (refTx_any s 1 1 rfl 5 _ HA.out hs).mono ?_
    rintro e w2 ⟨rfl, rfl⟩
    rw [HTX.out]
    simp only
    have R3 := Lib.hid (R1.out.other (p := ⟨w.heap.size + 1, 2, none⟩) (by simp) (.string T))
    have B3 := Lib.hid (B1.out.setCell (show w.heap.size ≤ (⟨w.heap.size + 1, 2, none⟩ : Addr).block by simp) (.string T))
    go_wp2
    refine bodyPost_ret (results_nx rfl _ rfl R3.out.put_four) rfl ?_
    exact nextOut_bad (n := 0) HV.out HF.out (below_four B3.out (Nat.le_refl _) _ _ _ _)
  · subst hF
    have HV : Hid (valS 5 s 1 = ⟨0, T, ⟨#[]⟩, N, 0⟩) := Lib.hid (HVV.out.2 rfl)
    go_enter Tryz.func191, Tryz.ntmps191
    go_wp2_with fail
    refine (look_any (b0.toNat : Int) _).mono ?_
    rintro e w1 ⟨A, c, rfl, -, hb⟩
    unfold rowV
    rw [HR.out]
    have R1 := Lib.hid (R0.out.below hb R0.out.lt); have P1 := Lib.hid (P0.out.below hb P0.out.lt); have B1 := Lib.hid (B0.out.trans (hb.mono B0.out.size)); clear hb
    obtain ⟨⟨r0, r1, r2, r3⟩, s0, s1, s2, s3⟩ := R1.out.four
    obtain ⟨⟨c0, c1, c2, c3⟩, f0, f1, f2, f3⟩ := P1.out.four
    go_wp2_with fail
    refine (refTx_any s 1 1 rfl 5 _ HA.out hs).mono ?_
    rintro e w2 ⟨rfl, rfl⟩
    rw [HTX.out]
    simp only
    have R3 := Lib.hid (R1.out.other (p := ⟨w.heap.size + 1, 2, none⟩) (by simp) (.string T))
    have B3 := Lib.hid (B1.out.setCell (show w.heap.size ≤ (⟨w.heap.size + 1, 2, none⟩ : Addr).block by simp) (.string T))
    go_wp2
    refine bodyPost_ret (results_nx rfl _ rfl R3.out.put_four) rfl ?_
    exact nextOut_ok HV.out (below_four B3.out (Nat.le_refl _) _ _ _ _)
set_option maxHeartbeats 4000000 in
set_option maxRecDepth 10000 in
theorem next_6 (s : ByteArray) (b0 : UInt8) (h : 0 < s.size) (hb0 : s[0] = b0) (hsh : shapeOf (b0.toNat : Int) = 6) (w : World) (hs : s.size ≤ 4611686018427387904) :
    Calls Tryz.prog 191 #[.string s] w (NextOut s 6 (b0.toNat : Int) w) := by
  have h0 : (0 : Int) < (s.size : Int) := by omega
  obtain ⟨sh', ki, le, mo, hR⟩ : ∃ sh ki le mo, ruleOf (b0.toNat : Int) = ⟨sh, ki, le, mo⟩ := ⟨_, _, _, _, rfl⟩
  have hs' : sh' = 6 := by
    have : (ruleOf (b0.toNat : Int)).shape = 6 := hsh
    rw [hR] at this
    exact this
  subst hs'
  have HR := Lib.hid hR
  clear hsh hR
  have hw0 : IntKind.i64.wrap (b0.toNat : Int) = (b0.toNat : Int) := by rw [IntKind.wrap_i64]; have := b0.toNat_lt; omega
  have R0 := Lib.hid ((Bk.fresh w PrT #[.int .i64 0, .int .u32 0, .string ⟨#[]⟩, .string ⟨#[]⟩]).alloc (.cells #[.int .i64 (b0.toNat : Int), .int .u32 0, .string ⟨#[]⟩, .string ⟨#[]⟩] PrT))
  have P0 := Lib.hid (Bk.fresh (w.alloc (.cells #[.int .i64 0, .int .u32 0, .string ⟨#[]⟩, .string ⟨#[]⟩] PrT)) PrT #[.int .i64 (b0.toNat : Int), .int .u32 0, .string ⟨#[]⟩, .string ⟨#[]⟩])
  rw [heap_alloc_sz] at P0
  have B0 := Lib.hid (((Below.refl w.heap.size w).alloc (Nat.le_refl _) (.cells #[.int .i64 0, .int .u32 0, .string ⟨#[]⟩, .string ⟨#[]⟩] PrT)).alloc (by simp) (.cells #[.int .i64 (b0.toNat : Int), .int .u32 0, .string ⟨#[]⟩, .string ⟨#[]⟩] PrT))
  have HA : Hid (1 ≤ s.size) := Lib.hid h
  have HAT : Hid ((txS s 1 6).2.2 = 0 → (txS s 1 6).2.1 ≤ s.size) := Lib.hid (tx_at (sh := 6) h)
  have HVV : Hid ((valS 6 s 1).err = (txS s 1 6).2.2 ∧ ((txS s 1 6).2.2 = 0 → valS 6 s 1 = ⟨0, (txS s 1 6).1, ⟨#[]⟩, (txS s 1 6).2.1, 0⟩)) := Lib.hid (by
    have hh := da_tx (s := s) (a := 1)
    refine ⟨hh.1, fun h0 => ?_⟩
    show (⟨0, (dataS s 1 0).1, ⟨#[]⟩, (dataS s 1 0).2.1, (dataS s 1 0).2.2⟩ : VRead) = _
    rw [hh.2 h0])
  obtain ⟨T, N, F, hTX⟩ : ∃ T N F, txS s 1 6 = (T, N, F) := ⟨_, _, _, rfl⟩
  rw [hTX] at HVV HAT
  have HTX := Lib.hid hTX; clear hTX
  by_cases hF : F = 0
  rotate_left
  · have HV : Hid ((valS 6 s 1).err = F) := Lib.hid HVV.out.1
    have e0 : (F == 0) = false := beq_eq_false_iff_ne.2 hF
    have HF := Lib.hid hF
    clear hF
    go_enter Tryz.func191, Tryz.ntmps191
    go_wp2_with fail
    refine (look_any (b0.toNat : Int) _).mono ?_
    rintro e w1 ⟨A, c, rfl, -, hb⟩
    unfold rowV
    rw [HR.out]
    have R1 := Lib.hid (R0.out.below hb R0.out.lt); have P1 := Lib.hid (P0.out.below hb P0.out.lt); have B1 := Lib.hid (B0.out.trans (hb.mono B0.out.size)); clear hb
    obtain ⟨⟨r0, r1, r2, r3⟩, s0, s1, s2, s3⟩ := R1.out.four
    obtain ⟨⟨c0, c1, c2, c3⟩, f0, f1, f2, f3⟩ := P1.out.four
    go_wp2_with fail
    refine (refTx_any s 1 1 rfl 6 _ HA.out hs).mono ?_
    rintro e w2 ⟨rfl, rfl⟩
    rw [HTX.out]
    simp only
    have R3 := Lib.hid (R1.out.other (p := ⟨w.heap.size + 1, 2, none⟩) (by simp) (.string T))
    have B3 := Lib.hid (B1.out.setCell (show w.heap.size ≤ (⟨w.heap.size + 1, 2, none⟩ : Addr).block by simp) (.string T))
    go_wp2
    refine bodyPost_ret (results_nx rfl _ rfl R3.out.put_four) rfl ?_
    exact nextOut_bad (n := 0) HV.out HF.out (below_four B3.out (Nat.le_refl _) _ _ _ _)
  · subst hF
    have HV : Hid (valS 6 s 1 = ⟨0, T, ⟨#[]⟩, N, 0⟩) := Lib.hid (HVV.out.2 rfl)
    go_enter Tryz.func191, Tryz.ntmps191
    go_wp2_with fail
    refine (look_any (b0.toNat : Int) _).mono ?_
    rintro e w1 ⟨A, c, rfl, -, hb⟩
    unfold rowV
    rw [HR.out]
    have R1 := Lib.hid (R0.out.below hb R0.out.lt); have P1 := Lib.hid (P0.out.below hb P0.out.lt); have B1 := Lib.hid (B0.out.trans (hb.mono B0.out.size)); clear hb
    obtain ⟨⟨r0, r1, r2, r3⟩, s0, s1, s2, s3⟩ := R1.out.four
    obtain ⟨⟨c0, c1, c2, c3⟩, f0, f1, f2, f3⟩ := P1.out.four
    go_wp2_with fail
    refine (refTx_any s 1 1 rfl 6 _ HA.out hs).mono ?_
    rintro e w2 ⟨rfl, rfl⟩
    rw [HTX.out]
    simp only
    have R3 := Lib.hid (R1.out.other (p := ⟨w.heap.size + 1, 2, none⟩) (by simp) (.string T))
    have B3 := Lib.hid (B1.out.setCell (show w.heap.size ≤ (⟨w.heap.size + 1, 2, none⟩ : Addr).block by simp) (.string T))
    go_wp2
    refine bodyPost_ret (results_nx rfl _ rfl R3.out.put_four) rfl ?_
    exact nextOut_ok HV.out (below_four B3.out (Nat.le_refl _) _ _ _ _)
set_option maxHeartbeats 4000000 in
set_option maxRecDepth 10000 in
theorem next_7 (s : ByteArray) (b0 : UInt8) (h : 0 < s.size) (hb0 : s[0] = b0) (hsh : shapeOf (b0.toNat : Int) = 7) (w : World) (hs : s.size ≤ 4611686018427387904) :
    Calls Tryz.prog 191 #[.string s] w (NextOut s 7 (b0.toNat : Int) w) := by
  have h0 : (0 : Int) < (s.size : Int) := by omega
  obtain ⟨sh', ki, le, mo, hR⟩ : ∃ sh ki le mo, ruleOf (b0.toNat : Int) = ⟨sh, ki, le, mo⟩ := ⟨_, _, _, _, rfl⟩
  have hs' : sh' = 7 := by
    have : (ruleOf (b0.toNat : Int)).shape = 7 := hsh
    rw [hR] at this
    exact this
  subst hs'
  have HR := Lib.hid hR
  clear hsh hR
  have hw0 : IntKind.i64.wrap (b0.toNat : Int) = (b0.toNat : Int) := by rw [IntKind.wrap_i64]; have := b0.toNat_lt; omega
  have R0 := Lib.hid ((Bk.fresh w PrT #[.int .i64 0, .int .u32 0, .string ⟨#[]⟩, .string ⟨#[]⟩]).alloc (.cells #[.int .i64 (b0.toNat : Int), .int .u32 0, .string ⟨#[]⟩, .string ⟨#[]⟩] PrT))
  have P0 := Lib.hid (Bk.fresh (w.alloc (.cells #[.int .i64 0, .int .u32 0, .string ⟨#[]⟩, .string ⟨#[]⟩] PrT)) PrT #[.int .i64 (b0.toNat : Int), .int .u32 0, .string ⟨#[]⟩, .string ⟨#[]⟩])
  rw [heap_alloc_sz] at P0
  have B0 := Lib.hid (((Below.refl w.heap.size w).alloc (Nat.le_refl _) (.cells #[.int .i64 0, .int .u32 0, .string ⟨#[]⟩, .string ⟨#[]⟩] PrT)).alloc (by simp) (.cells #[.int .i64 (b0.toNat : Int), .int .u32 0, .string ⟨#[]⟩, .string ⟨#[]⟩] PrT))
  have HA : Hid (1 ≤ s.size) := Lib.hid h
  have HAT : Hid ((txS s 1 7).2.2 = 0 → (txS s 1 7).2.1 ≤ s.size) := Lib.hid (tx_at (sh := 7) h)
  have HVV : Hid ((valS 7 s 1).err = (if (txS s 1 7).2.2 = 0 then (txS s (txS s 1 7).2.1 7).2.2 else (txS s 1 7).2.2) ∧ ((txS s 1 7).2.2 = 0 → (txS s (txS s 1 7).2.1 7).2.2 = 0 → valS 7 s 1 = ⟨0, (txS s 1 7).1, (txS s (txS s 1 7).2.1 7).1, (txS s (txS s 1 7).2.1 7).2.1, 0⟩)) := Lib.hid (by
    have hh := wr_tx (s := s) (a := 1) (sh := 7) (by decide)
    have hk := wr_tx (s := s) (a := (txS s 1 7).2.1) (sh := 7) (by decide)
    refine ⟨?_, fun h0 h1 => ?_⟩
    · show (writS s (writS s 1 0).2.1 (writS s 1 0).2.2).2.2 = _
      by_cases h0 : (txS s 1 7).2.2 = 0
      · rw [if_pos h0, hh.2 h0]; exact hk.1
      · rw [if_neg h0, writS_err (by rw [hh.1]; exact h0), hh.1]
    · show (⟨0, (writS s 1 0).1, (writS s (writS s 1 0).2.1 (writS s 1 0).2.2).1, (writS s (writS s 1 0).2.1 (writS s 1 0).2.2).2.1, (writS s (writS s 1 0).2.1 (writS s 1 0).2.2).2.2⟩ : VRead) = _
      rw [hh.2 h0]
      simp only
      rw [hk.2 h1])
  obtain ⟨T, N, F, hTX⟩ : ∃ T N F, txS s 1 7 = (T, N, F) := ⟨_, _, _, rfl⟩
  rw [hTX] at HVV HAT
  simp only at HVV HAT
  have HTX := Lib.hid hTX; clear hTX
  by_cases hF : F = 0
  rotate_left
  · have HV : Hid ((valS 7 s 1).err = F) := Lib.hid (by rw [HVV.out.1, if_neg hF])
    have e0 : (F == 0) = false := beq_eq_false_iff_ne.2 hF
    have HF := Lib.hid hF
    clear hF
    go_enter Tryz.func191, Tryz.ntmps191
    go_wp2_with fail
    refine (look_any (b0.toNat : Int) _).mono ?_
    rintro e w1 ⟨A, c, rfl, -, hb⟩
    unfold rowV
    rw [HR.out]
    have R1 := Lib.hid (R0.out.below hb R0.out.lt); have P1 := Lib.hid (P0.out.below hb P0.out.lt); have B1 := Lib.hid (B0.out.trans (hb.mono B0.out.size)); clear hb
    obtain ⟨⟨r0, r1, r2, r3⟩, s0, s1, s2, s3⟩ := R1.out.four
    obtain ⟨⟨c0, c1, c2, c3⟩, f0, f1, f2, f3⟩ := P1.out.four
    go_wp2_with fail
    refine (refTx_any s 1 1 rfl 7 _ HA.out hs).mono ?_
    rintro e w2 ⟨rfl, rfl⟩
    rw [HTX.out]
    simp only
    have R3 := Lib.hid (R1.out.other (p := ⟨w.heap.size + 1, 2, none⟩) (by simp) (.string T))
    have B3 := Lib.hid (B1.out.setCell (show w.heap.size ≤ (⟨w.heap.size + 1, 2, none⟩ : Addr).block by simp) (.string T))
    go_wp2
    refine bodyPost_ret (results_nx rfl _ rfl R3.out.put_four) rfl ?_
    exact nextOut_bad (n := 0) HV.out HF.out (below_four B3.out (Nat.le_refl _) _ _ _ _)
  subst hF
  have HNL : Hid (N ≤ s.size) := Lib.hid (HAT.out rfl)
  have HVW := Lib.hid (And.intro (HVV.out.1.trans (if_pos rfl)) (HVV.out.2 rfl))
  obtain ⟨T2, N2, F2, hTX2⟩ : ∃ T N' F, txS s N 7 = (T, N', F) := ⟨_, _, _, rfl⟩
  rw [hTX2] at HVW
  simp only at HVW
  have HTX2 := Lib.hid hTX2; clear hTX2 HVV HAT
  have HVE := Lib.hid HVW.out.1
  have R3 : ∀ x, Bk x w.heap.size PrT #[.int .i64 0, .int .u32 0, .string ⟨#[]⟩, .string ⟨#[]⟩] → Bk ((x.setCell ⟨w.heap.size + 1, 2, none⟩ (.string T)).setCell ⟨w.heap.size + 1, 3, none⟩ (.string T2)) w.heap.size PrT #[.int .i64 0, .int .u32 0, .string ⟨#[]⟩, .string ⟨#[]⟩] := fun x hx => (hx.other (p := ⟨w.heap.size + 1, 2, none⟩) (by simp) _).other (p := ⟨w.heap.size + 1, 3, none⟩) (by simp) _
  have B3 : ∀ x, Below w.heap.size w x → Below w.heap.size w ((x.setCell ⟨w.heap.size + 1, 2, none⟩ (.string T)).setCell ⟨w.heap.size + 1, 3, none⟩ (.string T2)) := fun x hx => (hx.setCell (show w.heap.size ≤ (⟨w.heap.size + 1, 2, none⟩ : Addr).block by simp) _).setCell (show w.heap.size ≤ (⟨w.heap.size + 1, 3, none⟩ : Addr).block by simp) _
  have HR3 := Lib.hid R3; have HB3 := Lib.hid B3
  clear R3 B3
  go_enter Tryz.func191, Tryz.ntmps191
  go_wp2_with fail
  refine (look_any (b0.toNat : Int) _).mono ?_
  rintro e w1 ⟨A, c, rfl, -, hb⟩
  unfold rowV
  rw [HR.out]
  have R1 := Lib.hid (R0.out.below hb R0.out.lt); have P1 := Lib.hid (P0.out.below hb P0.out.lt); have B1 := Lib.hid (B0.out.trans (hb.mono B0.out.size)); clear hb
  obtain ⟨⟨r0, r1, r2, r3⟩, s0, s1, s2, s3⟩ := R1.out.four
  obtain ⟨⟨c0, c1, c2, c3⟩, f0, f1, f2, f3⟩ := P1.out.four
  go_wp2_with fail
  refine (refTx_any s 1 1 rfl 7 _ HA.out hs).mono ?_
  rintro e w2 ⟨rfl, rfl⟩
  rw [HTX.out]
  simp only
  go_wp2_with fail
  refine (refTx_any s N N rfl 7 _ HNL.out hs).mono ?_
  rintro e w2 ⟨rfl, rfl⟩
  rw [HTX2.out]
  simp only
  have R4 := Lib.hid (HR3.out _ R1.out)
  have B4 := Lib.hid (HB3.out _ B1.out)
  go_wp2
  refine bodyPost_ret (results_nx rfl _ rfl R4.out.put_four) rfl ?_
  by_cases hF : F2 = 0
  · subst hF
    exact nextOut_ok (HVW.out.2 rfl) (below_four B4.out (Nat.le_refl _) _ _ _ _)
  · exact nextOut_bad (n := 0) HVE.out hF (below_four B4.out (Nat.le_refl _) _ _ _ _)
theorem refNext_any (s : ByteArray) (b0 : UInt8) (h : 0 < s.size) (hb0 : s[0] = b0) (sh : Nat) (hsh : shapeOf (b0.toNat : Int) = sh) (h1 : 1 ≤ sh) (h7 : sh ≤ 7) (w : World) (hs : s.size ≤ 4611686018427387904) :
    Calls Tryz.prog 191 #[.string s] w (NextOut s sh (b0.toNat : Int) w) := by
  obtain rfl | rfl | rfl | rfl | rfl | rfl | rfl : sh = 1 ∨ sh = 2 ∨ sh = 3 ∨ sh = 4 ∨ sh = 5 ∨ sh = 6 ∨ sh = 7 := by omega
  · exact next_1 s b0 h hb0 hsh w hs
  · exact next_2 s b0 h hb0 hsh w hs
  · exact next_3 s b0 h hb0 hsh w hs
  · exact next_4 s b0 h hb0 hsh w hs
  · exact next_5 s b0 h hb0 hsh w hs
  · exact next_6 s b0 h hb0 hsh w hs
  · exact next_7 s b0 h hb0 hsh w hs
end Go.Proofs.YtmkkjiogokfnmaaGreatDoor

namespace Go.Proofs.YtmkkjiogokfnmaaGreatDoor
open Go.RowKit
theorem need_shift {T : ByteArray} {a : Nat} (ha : a ≤ T.size) (b : Nat) (e n : Int) : needS T (a + b) e n = ((needS (T.extract a T.size) b e n).1, a + (needS (T.extract a T.size) b e n).2.1, (needS (T.extract a T.size) b e n).2.2) := by
  have hz : ((T.extract a T.size).size : Int) = (T.size : Int) - a := by rw [ByteArray.size_extract]; omega
  have hh : hasC T (a + b) n = hasC (T.extract a T.size) b n := by
    unfold hasC
    rw [hz]
    congr 1
    exact decide_eq_decide.2 (by omega)
  unfold needS
  rw [hh]
  by_cases he : e = 0
  · rw [if_pos he, if_pos he]
    by_cases hc : hasC (T.extract a T.size) b n = true
    · have h2 : 0 ≤ n ∧ n ≤ ((T.extract a T.size).size : Int) - b := by simpa [hasC] using hc
      rw [if_pos hc, if_pos hc, ex_ex (by omega)]
      simp only [Prod.mk.injEq, and_true]
      exact ⟨by rw [Nat.add_assoc], by omega⟩
    · rw [if_neg hc, if_neg hc]
  · rw [if_neg he, if_neg he]
theorem data_shift {T : ByteArray} {a : Nat} (ha : a ≤ T.size) (b : Nat) (e : Int) : dataS T (a + b) e = ((dataS (T.extract a T.size) b e).1, a + (dataS (T.extract a T.size) b e).2.1, (dataS (T.extract a T.size) b e).2.2) := by
  unfold dataS
  rw [need_shift ha b e 2]
  simp only
  rw [need_shift ha]
theorem writ_shift {T : ByteArray} {a : Nat} (ha : a ≤ T.size) (b : Nat) (e : Int) : writS T (a + b) e = ((writS (T.extract a T.size) b e).1, a + (writS (T.extract a T.size) b e).2.1, (writS (T.extract a T.size) b e).2.2) := by
  unfold writS
  rw [data_shift ha]
theorem pair_shift {T : ByteArray} {a : Nat} (ha : a ≤ T.size) (b : Nat) (e : Int) : pairS T (a + b) e = ((pairS (T.extract a T.size) b e).1, a + (pairS (T.extract a T.size) b e).2.1, (pairS (T.extract a T.size) b e).2.2) := by
  unfold pairS
  rw [writ_shift ha b e]
  simp only
  rw [writ_shift ha]
theorem var_shift {T : ByteArray} {a : Nat} (b : Nat) : varS T (a + b) = ((varS (T.extract a T.size) b).1, a + (varS (T.extract a T.size) b).2.1, (varS (T.extract a T.size) b).2.2) := by
  unfold varS
  rw [rest_ls, List.drop_drop]
  split
  · simp only [Nat.add_assoc]
  · rfl
theorem val_shift {T : ByteArray} {a : Nat} (ha : a ≤ T.size) (sh b : Nat) : valS sh T (a + b) = { valS sh (T.extract a T.size) b with at_ := a + (valS sh (T.extract a T.size) b).at_ } := by
  unfold valS
  rw [need_shift ha b 0 1, need_shift ha b 0 2, need_shift ha b 0 4, var_shift, writ_shift ha, data_shift ha, pair_shift ha]
  repeat' split
  all_goals rfl
/-- How far the reference's reading has come. -/
structure LAt (kind : Int) (T : ByteArray) (m a : Nat) (out : List Pr) : Prop where
  le : a ≤ T.size
  lt : T.size < a + m
  ck : ckL kind out
  len : out.length ≤ 1000
  eq : listS kind T = listGo kind T m a (cntF out) out
theorem LAt.start (kind : Int) (T : ByteArray) : LAt kind T (T.size + 1) 0 [] := ⟨by omega, by omega, by simp [ckL], Nat.zero_le _, rfl⟩
section
variable {kind : Int} {T : ByteArray} {m a sh : Nat} {out : List Pr} {b0 : UInt8}
theorem LAt.done (v : LAt kind T m a out) (h : ¬ a < T.size) : listS kind T = if loneL out = true then ([], 9) else (out, 0) := by
  obtain ⟨k, rfl⟩ : ∃ k, m = k + 1 := ⟨m - 1, by have := v.lt; have := v.le; omega⟩
  have h' : T.size ≤ a := by omega
  rw [v.eq, listGo, if_pos h', lone_cnt]
theorem id_head (h : a < T.size) (hx : 0 < (T.extract a T.size).size) (hb : (T.extract a T.size)[0] = b0) : idAt T a = b0.toNat := by
  refine (idAt_front (rest := (ls T).drop (a + 1)) ?_).1
  have hl : a < (ls T).length := by rw [ls_len]; exact h
  rw [List.drop_eq_getElem_cons hl]
  congr 1
  rw [← hb]
  rw [← ls_at (T.extract a T.size) 0 hx]
  simp only [rest_ls]
  simp
/-- What a round finds: its number, the property. -/
structure Rnd (kind : Int) (T : ByteArray) (m a : Nat) (out : List Pr) (b0 : UInt8) (sh : Nat) : Prop where
  at_ : LAt kind T m a out
  lt : a < T.size
  id : idAt T a = b0.toNat
  shape : shapeOf (b0.toNat : Int) = sh
def rdQ (sh : Nat) (b0 : UInt8) (X : ByteArray) : Pr := ⟨b0.toNat, (valS sh X 1).n, (valS sh X 1).text, (valS sh X 1).value⟩
theorem Rnd.go (r : Rnd kind T m a out b0 sh) : ∃ k, m = k + 1 ∧ listS kind T = (if hasR (ruleOf (b0.toNat : Int)) kind = false then ([], 9)
    else if (valS sh (T.extract a T.size) 1).err ≠ 0 then ([], (valS sh (T.extract a T.size) 1).err)
    else if checkE (ruleOf (rdQ sh b0 (T.extract a T.size)).id) kind (rdQ sh b0 (T.extract a T.size)) ≠ 0 then ([], checkE (ruleOf (rdQ sh b0 (T.extract a T.size)).id) kind (rdQ sh b0 (T.extract a T.size)))
    else if againB (cntF out) kind b0.toNat = true then ([], 9) else if out.length = 1000 then ([], 4)
    else listGo kind T k (a + (valS sh (T.extract a T.size) 1).at_) (upd (cntF out) b0.toNat (cntF out b0.toNat + 1)) (out ++ [rdQ sh b0 (T.extract a T.size)])) := by
  obtain ⟨k, rfl⟩ : ∃ k, m = k + 1 := ⟨m - 1, by have := r.at_.lt; have := r.lt; omega⟩
  refine ⟨k, rfl, ?_⟩
  rw [r.at_.eq, listGo, if_neg (by have := r.lt; omega)]
  have hs : (ruleOf ((idAt T a : Nat) : Int)).shape = sh := by rw [r.id]; exact r.shape
  have hv := val_shift (T := T) (a := a) r.at_.le sh 1
  rw [hs, hv, r.id]
  rfl
theorem Rnd.no (r : Rnd kind T m a out b0 sh) (h : mayP kind (b0.toNat : Int) = false) : listS kind T = ([], 9) := by
  obtain ⟨k, -, he⟩ := r.go
  rw [he, if_pos (show hasR (ruleOf (b0.toNat : Int)) kind = false from h)]
theorem Rnd.err (r : Rnd kind T m a out b0 sh) (h : mayP kind (b0.toNat : Int) = true) (h1 : (valS sh (T.extract a T.size) 1).err ≠ 0) : listS kind T = ([], (valS sh (T.extract a T.size) 1).err) := by
  obtain ⟨k, -, he⟩ := r.go
  rw [he, if_neg (fun x => by rw [show hasR _ kind = true from h] at x; cases x), if_pos h1]
theorem Rnd.bad (r : Rnd kind T m a out b0 sh) (h : mayP kind (b0.toNat : Int) = true) (h1 : (valS sh (T.extract a T.size) 1).err = 0) {q : Pr} (hq : rdQ sh b0 (T.extract a T.size) = q) (h2 : checkE (ruleOf q.id) kind q ≠ 0) : listS kind T = ([], checkE (ruleOf q.id) kind q) := by
  obtain ⟨k, -, he⟩ := r.go
  subst hq
  rw [he, if_neg (fun x => by rw [show hasR _ kind = true from h] at x; cases x), if_neg (by simpa using h1), if_pos h2]
theorem Rnd.twice (r : Rnd kind T m a out b0 sh) (h : mayP kind (b0.toNat : Int) = true) (h1 : (valS sh (T.extract a T.size) 1).err = 0) {q : Pr} (hq : rdQ sh b0 (T.extract a T.size) = q) (h2 : checkE (ruleOf q.id) kind q = 0) (h3 : twB kind out q.id = true) : listS kind T = ([], 9) := by
  obtain ⟨k, -, he⟩ := r.go
  rw [tw_again r.at_.ck h2] at h3
  subst hq
  rw [he, if_neg (fun x => by rw [show hasR _ kind = true from h] at x; cases x), if_neg (by simpa using h1), if_neg (by simpa using h2)]
  rw [show againB (cntF out) kind b0.toNat = true from h3]
  rfl
theorem Rnd.rest (r : Rnd kind T m a out b0 sh) (h : mayP kind (b0.toNat : Int) = true) (h1 : (valS sh (T.extract a T.size) 1).err = 0) {q : Pr} (hq : rdQ sh b0 (T.extract a T.size) = q) (h2 : checkE (ruleOf q.id) kind q = 0) (h3 : twB kind out q.id = false) :
    (out.length = 1000 → listS kind T = ([], 4)) ∧ (out.length ≠ 1000 → ∃ k, LAt kind T k (a + (valS sh (T.extract a T.size) 1).at_) (out ++ [q])) := by
  obtain ⟨k, hk, he⟩ := r.go
  rw [tw_again r.at_.ck h2] at h3
  subst hq
  rw [if_neg (fun x => by rw [show hasR _ kind = true from h] at x; cases x), if_neg (by simpa using h1), if_neg (by simpa using h2)] at he
  rw [show againB (cntF out) kind b0.toNat = false from h3] at he
  rw [if_neg (by simp)] at he
  refine ⟨fun h4 => by rw [he, if_pos h4], fun h4 => ⟨k, ?_, ?_, ?_, ?_, ?_⟩⟩
  · have := (valS_at (t := T.extract a T.size) (a := 1) (by rw [ByteArray.size_extract]; have := r.lt; omega) sh).2
    rw [ByteArray.size_extract] at this
    have := r.lt
    omega
  · have := (valS_at (t := T.extract a T.size) (a := 1) (by rw [ByteArray.size_extract]; have := r.lt; omega) sh).1
    have := r.at_.lt
    omega
  · refine ckL_append.2 ⟨r.at_.ck, ?_⟩
    intro q hq
    rw [List.mem_singleton.1 hq]
    exact h2
  · rw [List.length_append]
    have := r.at_.len
    simp only [List.length_singleton]
    omega
  · rw [he, if_neg h4]
    rw [← cntF_snoc out (rdQ sh b0 (T.extract a T.size))]
    rfl
end
end Go.Proofs.YtmkkjiogokfnmaaGreatDoor

namespace Go.Proofs.YtmkkjiogokfnmaaGreatDoor
open Go.RowKit
def szOf : Value → Nat
  | .string s => s.size
  | _ => 0
theorem readP_walk {kind : Int} {s T : ByteArray} {N K : Nat} (hr : readV (ls s) = (N, K, 0)) (hl : K + N ≤ s.size) (hT : s.extract K (K + N) = T) {r : List Pr × Int} (h : listS kind T = r) : readP kind s = if r.2 ≠ 0 then ([], 0, r.2) else (r.1, K + N, 0) := by
  subst hT h
  unfold readP
  rw [hr]
  rw [if_neg (by simp), if_neg (by simp only; omega)]
theorem out_rd {w : World} {base n : Nat} {v : Value} {l : List Pr} (h : w.ownsRow base 87 4 v n (prs l)) : ∃ A c, v = .slice A n c ∧ n ≤ c ∧ Rd w w.heap.size 4 A n (prs l) := own_rd h
set_option maxHeartbeats 8000000 in
set_option maxRecDepth 10000 in
theorem refReadP_any (kind : Int) (s : ByteArray) (w : World) (hs : s.size ≤ 140737488351232) :
    Calls Tryz.prog 128 #[.int .i64 kind, .string s] w (ReadOut (readP kind s) w) := by
  obtain ⟨N, K, F, hR⟩ : ∃ N K F, readV (ls s) = (N, K, F) := ⟨_, _, _, rfl⟩
  have HR := Lib.hid hR
  by_cases hF : F = 0
  rotate_left
  · have HX : Hid (readP kind s = ([], 0, F)) := Lib.hid (by unfold readP; rw [hR, if_pos hF])
    have e0 : (F != 0) = true := bne_iff_ne.2 hF
    clear hR hF
    go_enter Tryz.func128, Tryz.ntmps128
    go_wp2_with fail
    refine (ref2Read_any s _ (by omega)).mono ?_
    rintro e w1 ⟨rfl, rfl⟩
    rw [HR.out]
    simp only
    go_wp2
    go_ret3
    exact readOut_bad HX.out (Below.refl _ _)
  subst hF
  have hNK : N ≤ 268435455 ∧ K ≤ 4 := by
    obtain ⟨-, h2, h3⟩ := readV_back hR
    refine ⟨h3, ?_⟩
    rw [h2, varL_len]
    split; omega; split; omega; split; omega; omega
  by_cases hl : K + N ≤ s.size
  rotate_left
  · have HX : Hid (readP kind s = ([], 0, 3)) := Lib.hid (by unfold readP; rw [hR, if_neg (by simp), if_pos (by simp only; omega)])
    have w0 : IntKind.i64.wrap ((s.size : Int) - (K : Int)) = (s.size : Int) - (K : Int) := by rw [IntKind.wrap_i64]; omega
    have d0 : decide ((s.size : Int) - (K : Int) < (N : Int)) = true := decide_eq_true (by omega)
    clear hR hl hNK
    go_enter Tryz.func128, Tryz.ntmps128
    go_wp2_with fail
    refine (ref2Read_any s _ (by omega)).mono ?_
    rintro e w1 ⟨rfl, rfl⟩
    rw [HR.out]
    simp only
    go_wp2
    go_ret3
    exact readOut_bad HX.out (Below.refl _ _)
  obtain ⟨T, hT⟩ : ∃ T, s.extract K (K + N) = T := ⟨_, rfl⟩
  have hTs : T.size ≤ 140737488351232 := by rw [← hT, ByteArray.size_extract]; omega
  have HW := Lib.hid (fun r => readP_walk (kind := kind) (r := r) hR hl hT)
  have HTS := Lib.hid hTs
  have HKN : Hid (((K + N : Nat) : Int) = (K : Int) + (N : Int)) := Lib.hid (by omega)
  have w0 : IntKind.i64.wrap ((s.size : Int) - (K : Int)) = (s.size : Int) - (K : Int) := by rw [IntKind.wrap_i64]; omega
  have w2 : IntKind.i64.wrap ((K : Int) + (N : Int)) = (K : Int) + (N : Int) := by rw [IntKind.wrap_i64]; omega
  have d0 : decide ((s.size : Int) - (K : Int) < (N : Int)) = false := decide_eq_false (by omega)
  have i1 : (0 : Int) ≤ (K : Int) := by omega
  have i2 : (K : Int) ≤ (K : Int) + (N : Int) := by omega
  have i3 : (K : Int) + (N : Int) ≤ (s.size : Int) := by omega
  have hcut : s.extract K (K + N) = T := hT
  have i4 : ((K : Int) + (N : Int)).toNat = K + N := by omega
  have HT0 : Hid (T.extract 0 T.size = T) := Lib.hid (by simp)
  clear hR hl hNK hT hTs
  go_enter Tryz.func128, Tryz.ntmps128
  go_wp2_with fail
  refine (ref2Read_any s _ (by omega)).mono ?_
  rintro e w1 ⟨rfl, rfl⟩
  rw [HR.out]
  simp only
  go_wp2
  go_loopw [10, 11] (fun out left wr => ∃ (m a : Nat) (o : List Pr), LAt kind T m a o ∧ left = .string (T.extract a T.size) ∧ wr.ownsRow w.heap.size 87 4 out o.length (prs o) ∧ Below w.heap.size w wr) (fun _ left _ => szOf left)
  case atStart => exact ⟨T.size + 1, 0, [], LAt.start kind T, by rw [HT0.out], World.ownsRow_nil _ _ _ _, Below.refl _ _⟩
  case round =>
    obtain ⟨m, a, o, hat, rfl, hown, hbel⟩ := hrel
    have HA := Lib.hid hat; have HO := Lib.hid hown; have HB := Lib.hid hbel
    clear hat hown hbel
    by_cases hlt : a < T.size
    rotate_left
    · obtain ⟨A, c, rfl, hc, hrd⟩ := out_rd HO.out
      have HRD := Lib.hid hrd; have HC := Lib.hid hc
      have HX := Lib.hid (HW.out _ (HA.out.done hlt))
      have he : (T.extract a T.size).toList.isEmpty = true := by rw [emptyB_iff]; exact decide_eq_true (by rw [ByteArray.size_extract]; omega)
      have HL := Lib.hid HA.out.len
      clear hrd hc hlt hcut
      generalize T.extract a T.size = X at *
      cases hlo : loneL o
      · rw [hlo] at HX
        have HLO := Lib.hid hlo; clear hlo
        go_wp2_with fail
        refine (refLone_any o o.length rfl A c _ HRD.out (by have := HL.out; omega)).mono ?_
        rintro e w3 ⟨rfl, hb⟩
        rw [HLO.out]
        have HB1 := Lib.hid (HB.out.trans (hb.mono HB.out.size)); have HRD1 := Lib.hid ((HRD.out.below hb).wider hb.size); clear hb
        go_wp2
        go_ret3
        exact ⟨A, c, by rw [HX.out]; (try dsimp only); rfl, by rw [HX.out]; exact HC.out, by rw [HX.out]; exact HRD1.out, HB1.out⟩
      · rw [hlo] at HX
        have HLO := Lib.hid hlo; clear hlo
        go_wp2_with fail
        refine (refLone_any o o.length rfl A c _ HRD.out (by have := HL.out; omega)).mono ?_
        rintro e w3 ⟨rfl, hb⟩
        rw [HLO.out]
        have HB1 := Lib.hid (HB.out.trans (hb.mono HB.out.size)); clear hb
        go_wp2
        go_ret3
        exact readOut_bad HX.out HB1.out
    obtain ⟨X, hX⟩ : ∃ X, T.extract a T.size = X := ⟨_, rfl⟩
    have hxs : X.size = T.size - a := by rw [← hX, ByteArray.size_extract]; omega
    have hx0 : 0 < X.size := by omega
    have HCU : Hid (∀ k, X.extract k X.size = T.extract (a + k) T.size) := Lib.hid (fun k => by
      rw [hxs, ← hX, ex_ex (by omega), show a + (T.size - a) = T.size by omega])
    obtain ⟨b0, hb0⟩ : ∃ b0, X[0] = b0 := ⟨_, rfl⟩
    have HB0 := Lib.hid (show X[0] = b0 from hb0)
    have HID : Hid (idAt T a = b0.toNat) := Lib.hid (id_head hlt (by rw [hX]; exact hx0) (by subst hX; exact hb0))
    obtain ⟨sh, hsh⟩ : ∃ sh, shapeOf (b0.toNat : Int) = sh := ⟨_, rfl⟩
    have RN := Lib.hid (show Rnd kind T m a o b0 sh from ⟨HA.out, hlt, HID.out, hsh⟩)
    have HSH := Lib.hid hsh
    have hne : X.toList.isEmpty = false := by rw [emptyB_iff]; exact decide_eq_false (by omega)
    have hx0' : (0 : Int) < (X.size : Int) := by omega
    have HXT : Hid (X.size ≤ 140737488351232) := Lib.hid (by have := HTS.out; omega)
    have hw0 : IntKind.i64.wrap (b0.toNat : Int) = (b0.toNat : Int) := by rw [IntKind.wrap_i64]; have := b0.toNat_lt; omega
    have HVA := Lib.hid (valS_at (t := X) (a := 1) hx0 sh)
    have HVO := Lib.hid (valS_ok (t := X) (a := 1) HXT.out sh)
    have HXE := Lib.hid hX
    have HX0 := Lib.hid hx0
    rw [hX]
    clear hsh hlt hxs hX hcut
    cases hmay : mayP kind (b0.toNat : Int)
    · have HX := Lib.hid (HW.out _ (RN.out.no hmay))
      have HM := Lib.hid hmay; clear hmay
      go_wp2_with fail
      refine (refMayP_any kind (b0.toNat : Int) _).mono ?_
      rintro e w3 ⟨rfl, hb⟩
      rw [HM.out]
      have HB1 := Lib.hid (HB.out.trans (hb.mono HB.out.size)); clear hb
      go_wp2
      go_ret3
      exact readOut_bad HX.out HB1.out
    have HM := Lib.hid hmay; clear hmay
    have HS17 := Lib.hid (shape_of_has (id := (b0.toNat : Int)) rfl (show hasR _ kind = true from HM.out))
    go_wp2_with fail
    refine (refMayP_any kind (b0.toNat : Int) _).mono ?_
    rintro e w3 ⟨rfl, hb⟩
    rw [HM.out]
    have HB1 := Lib.hid (HB.out.trans (hb.mono HB.out.size)); have HO1 := Lib.hid (own_below HO.out hb); clear hb
    go_wp2_with fail
    refine (refNext_any X b0 HX0.out HB0.out sh HSH.out (by rw [← HSH.out]; exact HS17.out.1) (by rw [← HSH.out]; exact HS17.out.2) _ (by have := HXT.out; omega)).mono ?_
    rintro e w4 ⟨P, k, rfl, hok, hb⟩
    have HB2 := Lib.hid (HB1.out.trans (hb.mono HB1.out.size)); have HO2 := Lib.hid (own_below HO1.out hb)
    have HOK := Lib.hid hok
    clear hb hok
    by_cases herr : (valS sh X 1).err = 0
    rotate_left
    · have hx := HW.out _ (RN.out.err HM.out (by rw [HXE.out]; exact herr))
      rw [HXE.out, if_pos herr] at hx
      have HX := Lib.hid hx
      obtain ⟨E, hE⟩ : ∃ E, (valS sh X 1).err = E := ⟨_, rfl⟩
      rw [hE] at herr HX ⊢
      have e0 : (E == 0) = false := beq_eq_false_iff_ne.2 herr
      have e1 : (E != 0) = true := bne_iff_ne.2 herr
      have HB3 := Lib.hid (HB2.out.alloc HB2.out.size (.cells #[.int .i64 P.id, .int .u32 P.n, .string P.text, .string P.value] 87))
      clear herr hx hE HOK
      unfold Pr.val
      go_wp2
      go_ret3
      exact readOut_bad HX.out HB3.out
    obtain ⟨rfl, rfl⟩ := HOK.out herr
    obtain ⟨vn, vt, vv, va, hV⟩ : ∃ vn vt vv va, valS sh X 1 = ⟨vn, vt, vv, va, 0⟩ := ⟨_, _, _, _, by rw [← herr]⟩
    have RQ : Hid (rdQ sh b0 (T.extract a T.size) = ⟨b0.toNat, vn, vt, vv⟩) := Lib.hid (by rw [HXE.out]; unfold rdQ; rw [hV])
    have HERR : Hid ((valS sh (T.extract a T.size) 1).err = 0) := Lib.hid (by rw [HXE.out]; exact herr)
    have HAT : Hid ((valS sh (T.extract a T.size) 1).at_ = va) := Lib.hid (by rw [HXE.out, hV])
    rw [hV] at HVA HVO ⊢
    clear hV herr HOK
    simp only at HVA HVO ⊢
    have HPOK : Hid (Pr.Ok ⟨b0.toNat, vn, vt, vv⟩) := Lib.hid (prGood_ok HVO.out)
    have HP3 := Lib.hid (Bk.fresh w4 87 #[.int .i64 (b0.toNat : Int), .int .u32 vn, .string vt, .string vv])
    have HB3 := Lib.hid (HB2.out.alloc HB2.out.size (.cells #[.int .i64 (b0.toNat : Int), .int .u32 vn, .string vt, .string vv] 87))
    have HO3 := Lib.hid (HO2.out.alloc (.cells #[.int .i64 (b0.toNat : Int), .int .u32 vn, .string vt, .string vv] 87))
    unfold Pr.val
    by_cases hck : checkE (ruleOf (b0.toNat : Int)) kind ⟨b0.toNat, vn, vt, vv⟩ = 0
    rotate_left
    · have hx := HW.out _ (RN.out.bad HM.out HERR.out RQ.out hck)
      simp only at hx
      rw [if_pos hck] at hx
      have HX := Lib.hid hx
      obtain ⟨E, hE⟩ : ∃ E, checkE (ruleOf (b0.toNat : Int)) kind ⟨b0.toNat, vn, vt, vv⟩ = E := ⟨_, rfl⟩
      rw [hE] at hck HX
      have HE := Lib.hid hE
      have e0 : (E == 0) = false := beq_eq_false_iff_ne.2 hck
      have e1 : (E != 0) = true := bne_iff_ne.2 hck
      clear hck hx hE
      go_wp2_with fail
      refine (refCheckP_any kind ⟨b0.toNat, vn, vt, vv⟩ HPOK.out _).mono ?_
      rintro e w5 ⟨rfl, hb⟩
      rw [HE.out]
      have HB4 := Lib.hid (HB3.out.trans (hb.mono HB3.out.size)); clear hb
      go_wp2
      go_ret3
      exact readOut_bad HX.out HB4.out
    have HCK := Lib.hid hck; clear hck
    go_wp2_with fail
    refine (refCheckP_any kind ⟨b0.toNat, vn, vt, vv⟩ HPOK.out _).mono ?_
    rintro e w5 ⟨rfl, hb⟩
    rw [HCK.out]
    have HB4 := Lib.hid (HB3.out.trans (hb.mono HB3.out.size)); have HO4 := Lib.hid (own_below HO3.out hb); have HP4 := Lib.hid (HP3.out.below hb HP3.out.lt); clear hb
    obtain ⟨⟨c0, c1, c2, c3⟩, f0, f1, f2, f3⟩ := HP4.out.four
    obtain ⟨A, c, rfl, hc, hrd⟩ := out_rd HO4.out
    have HRD := Lib.hid hrd; have HC := Lib.hid hc; have HLEN := Lib.hid HA.out.len
    clear hrd hc
    cases htw : twB kind o (b0.toNat : Int)
    rotate_left
    · have hx := HW.out _ (RN.out.twice HM.out HERR.out RQ.out HCK.out htw)
      have HX := Lib.hid hx
      have HTW := Lib.hid htw
      clear hx htw
      go_wp2_with fail
      refine (refTwice_any kind (b0.toNat : Int) o o.length rfl A c _ HRD.out (by have := HLEN.out; omega)).mono ?_
      rintro e w6 ⟨rfl, hb⟩
      rw [HTW.out]
      have HB5 := Lib.hid (HB4.out.trans (hb.mono HB4.out.size)); clear hb
      go_wp2
      go_ret3
      exact readOut_bad HX.out HB5.out
    have HREST := Lib.hid (RN.out.rest HM.out HERR.out RQ.out HCK.out htw)
    have HTW := Lib.hid htw
    clear htw
    go_wp2_with fail
    refine (refTwice_any kind (b0.toNat : Int) o o.length rfl A c _ HRD.out (by have := HLEN.out; omega)).mono ?_
    rintro e w6 ⟨rfl, hb⟩
    rw [HTW.out]
    have HB5 := Lib.hid (HB4.out.trans (hb.mono HB4.out.size)); have HO5 := Lib.hid (own_below HO4.out hb); have HP5 := Lib.hid (HP4.out.below hb HP4.out.lt); clear hb c0 c1 c2 c3 f0 f1 f2 f3
    obtain ⟨⟨c0, c1, c2, c3⟩, f0, f1, f2, f3⟩ := HP5.out.four
    by_cases hfull : o.length = 1000
    · have hx := HW.out _ (HREST.out.1 hfull)
      have HX := Lib.hid hx
      have dF : decide ((1000 : Int) ≤ (o.length : Int)) = true := decide_eq_true (by omega)
      clear hx hfull
      go_wp2
      go_ret3
      exact readOut_bad HX.out HB5.out
    obtain ⟨m', hm'⟩ := HREST.out.2 hfull
    rw [HAT.out] at hm'
    have HNX := Lib.hid hm'
    have dF : decide ((1000 : Int) ≤ (o.length : Int)) = false := decide_eq_false (by have := HLEN.out; omega)
    have HLT : Hid (o.length < 1000) := Lib.hid (by have := HLEN.out; omega)
    have v1 : (0 : Int) ≤ (va : Int) := by omega
    have v2 : (va : Int) ≤ (X.size : Int) := by have := HVA.out.2; omega
    have HQ : Hid (∀ g, (Value.slice A o.length c).ownBlock = some g → w.heap.size ≤ g) := Lib.hid (fun g hg => (own_block HO5.out g hg).1)
    clear hm' hfull HREST
    go_wp2_with fail
    go_region_law ((refine step_app (by rfl) _ _ _ (by rfl) w.heap.size 87 _ 4 48 Tryz.underlying23 info_prop rfl (by decide) (.slice A o.length c) _ _ (by rfl) (by first | exact own_drewN (HO5.out.alloc _) 1 | exact (own_drewN HO5.out 1).alloc _) _ _ 1 1 (prs [⟨b0.toNat, vn, vt, vv⟩]) (by rfl) (by first | exact (Rd.one4 w6 ⟨b0.toNat, vn, vt, vv⟩).drewN 1 | exact Rd.one4 _ ⟨b0.toNat, vn, vt, vv⟩) (prs_one _) (by have := HLT.out; unfold maxLen; omega) (by have := HLT.out; omega) (by have := HB5.out.size; simp; omega) ?_; intro v' w7 hown7 hg7 hat7))
    have hb7 : Below w.heap.size w w7 := by
      first
        | exact below_app (below_drawn (HB5.out.alloc HB5.out.size _) 1) hg7 (below_drawn (HB5.out.alloc HB5.out.size _) 1).size HQ.out
        | exact below_app ((below_drawn HB5.out 1).alloc (below_drawn HB5.out 1).size _) hg7 ((below_drawn HB5.out 1).alloc (below_drawn HB5.out 1).size _).size HQ.out
    have HB7 := Lib.hid hb7
    have HO7 := Lib.hid hown7
    have HXS : Hid (szOf (.string (T.extract (a + va) T.size)) < X.size) := Lib.hid (by
      have h1 := HVA.out.1
      have h2 := HX0.out
      show (T.extract (a + va) T.size).size < X.size
      rw [← HXE.out, ByteArray.size_extract, ByteArray.size_extract]
      rw [← HXE.out, ByteArray.size_extract] at h2
      omega)
    clear hb7 hown7 hg7 hat7 c0 c1 c2 c3 f0 f1 f2 f3
    go_wp2
    go_roundw
    case rel =>
      have hrel : ∃ (m a : Nat) (o : List Pr), LAt kind T m a o ∧ (Value.string (X.extract va X.size)) = .string (T.extract a T.size) ∧ w7.ownsRow w.heap.size 87 4 v' o.length (prs o) ∧ Below w.heap.size w w7 :=
        ⟨m', a + va, o ++ [⟨b0.toNat, vn, vt, vv⟩], HNX.out, by rw [HCU.out], by rw [prs_append, List.length_append]; exact HO7.out, HB7.out⟩
      (repeat apply Exists.intro)
      exact ⟨hrel, rfl⟩
    case measure =>
      rw [HCU.out]
      exact HXS.out
end Go.Proofs.YtmkkjiogokfnmaaGreatDoor

