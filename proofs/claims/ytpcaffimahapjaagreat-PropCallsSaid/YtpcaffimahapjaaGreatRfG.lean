/- Reference 05: body, Valid, Bytes, Same. -/
import Derived.Test.YtpcaffimahapjaaGreatRfF
import Derived.Deep.RegionHeld3
namespace Go.Proofs.YtpcaffimahapjaaGreat
open Go.RowKit
theorem conv_one0 {P : Program} (src dst e : TypeId) (hs : P.underlying src = some (.slice e)) (he : P.underlying e = some (.int .u8)) (hd : P.underlying dst = some .string) (W : World) (a : UInt8) :
    (convert src dst (.slice (some ⟨W.heap.size, 0, none⟩) 1 1)).run P (W.alloc (.cells #[.int .u8 (a.toNat : Int)] e)) = .ok (.string ⟨#[a]⟩) (W.alloc (.cells #[.int .u8 (a.toNat : Int)] e)) := by
  have h := Rd.lit W #[.int .u8 (a.toNat : Int)] e (xs := bys [a]) rfl (Nat.lt_succ_self _) rfl
  exact conv_rd src dst e hs he hd 1 h
theorem conv_one1 {P : Program} (src dst e : TypeId) (hs : P.underlying src = some (.slice e)) (he : P.underlying e = some (.int .u8)) (hd : P.underlying dst = some .string) (W : World) (a : UInt8) :
    (convert src dst (.slice (some ⟨W.heap.size, 0, none⟩) 1 1)).run P (W.alloc (.cells #[.int .u8 (a.toNat : Int)] e)).drew = .ok (.string ⟨#[a]⟩) (W.alloc (.cells #[.int .u8 (a.toNat : Int)] e)).drew := by
  have h := (Rd.lit W #[.int .u8 (a.toNat : Int)] e (xs := bys [a]) rfl (Nat.lt_succ_self _) rfl).drewN 1
  exact conv_rd src dst e hs he hd 1 h
theorem conv_aft {P : Program} (src dst e : TypeId) (hs : P.underlying src = some (.slice e)) (he : P.underlying e = some (.int .u8)) (hd : P.underlying dst = some .string) {W z : World} {a : UInt8}
    (hb : Below (W.alloc (.cells #[.int .u8 (a.toNat : Int)] e)).drew.heap.size (W.alloc (.cells #[.int .u8 (a.toNat : Int)] e)).drew z) :
    (convert src dst (.slice (some ⟨W.heap.size, 0, none⟩) 1 1)).run P z = .ok (.string ⟨#[a]⟩) z := by
  have h := ((Rd.lit W #[.int .u8 (a.toNat : Int)] e (xs := bys [a]) rfl (Nat.lt_succ_self _) rfl).drewN 1).below (hb.mono (by simp [World.drew]))
  exact conv_rd src dst e hs he hd 1 h
theorem PB.b0 {w x z : World} (h : Below w.heap.size w x) (hb : Below x.drew.heap.size x.drew z) : Below w.heap.size w z := (below_drawn h 1).trans (hb.mono (below_drawn h 1).size)
theorem PB.b1 {w x z : World} {ob : Obj} (h : Below w.heap.size w x) (hb : Below (x.alloc ob).drew.heap.size (x.alloc ob).drew z) : Below w.heap.size w z := PB.b0 (h.alloc h.size ob) hb
theorem PB.b2 {w x z : World} {ob : Obj} (h : Below w.heap.size w x) (hb : Below (x.drew.alloc ob).heap.size (x.drew.alloc ob) z) : Below w.heap.size w z := ((below_drawn h 1).alloc (below_drawn h 1).size ob).trans (hb.mono ((below_drawn h 1).alloc (below_drawn h 1).size ob).size)
theorem byte_id {id : Int} (h : 0 ≤ id ∧ id < 64) : id = ((UInt8.ofNat id.toNat).toNat : Int) := by
  rw [UInt8.toNat_ofNat']
  omega
/-- One element's cells, and the memory that was. -/
abbrev PB (w : World) (b o : Nat) (p : Pr) (x : World) : Prop := Below w.heap.size w x ∧ x.cell? ⟨b, o, none⟩ = some (.int .i64 p.id) ∧ x.cell? ⟨b, o + 1, none⟩ = some (.int .u32 p.n) ∧ x.cell? ⟨b, o + 2, none⟩ = some (.string p.text) ∧ x.cell? ⟨b, o + 3, none⟩ = some (.string p.value)
theorem PB.of {w x : World} {b o n k : Nat} {l : List Pr} {p : Pr} (h : Rd w w.heap.size 4 (some ⟨b, o, none⟩) n (prs l)) (hn : l.length = n) (hp : l[k]? = some p) (hx : Below w.heap.size w x) : PB w b (o + k * 4) p x := by
  subst hn
  obtain ⟨hk, rfl⟩ := List.getElem?_eq_some_iff.1 hp
  obtain ⟨b', o', he, -, c0, c1, c2, c3⟩ := (h.below hx).atP hk
  cases he
  exact ⟨hx, c0, c1, c2, c3⟩
theorem PB.then {w x y : World} {b o : Nat} {p : Pr} (h : PB w b o p x) (hb : Below x.heap.size x y) : Below w.heap.size w y := h.1.trans (hb.mono h.1.size)
theorem PB.more {w x : World} {b o : Nat} {p : Pr} {ob : Obj} (h : PB w b o p x) : Below w.heap.size w (x.alloc ob) := h.1.alloc h.1.size _
set_option maxHeartbeats 2000000 in
set_option maxRecDepth 10000 in
theorem refBody_any (kind : Int) (l : List Pr) (n : Nat) (hn : l.length = n) (hck : ckL kind l) (hg : ∀ p ∈ l, prGood p) (hm : n ≤ 1000) (A : Option Addr) (c : Nat) (w : World) (h : Rd w w.heap.size 4 A n (prs l)) :
    Calls Tryz.prog 87 #[.slice A n c] w fun e w' => e = .returned (.string ⟨(l.flatMap propL).toArray⟩) ∧ Below w.heap.size w w' := by
  have H := Lib.hid h; have HN := Lib.hid hn; have HC := Lib.hid hck; have HG := Lib.hid hg
  clear h hn hck hg
  have hcv := conv_one0 (P := Tryz.prog) 65 9 5 Tryz.underlying65 Tryz.underlying5 Tryz.underlying9
  have hcv1 := conv_one1 (P := Tryz.prog) 65 9 5 Tryz.underlying65 Tryz.underlying5 Tryz.underlying9
  go_enter Tryz.func87, Tryz.ntmps87
  go_wp2
  go_loopw [3, 4] (fun s i wr => ∃ k : Nat, k ≤ n ∧ i = .int .i64 k ∧ s = .string ⟨((l.take k).flatMap propL).toArray⟩ ∧ Below w.heap.size w wr) (fun _ i _ => n - (intOf i).toNat)
  case atStart => exact ⟨0, by omega, rfl, rfl, Below.refl _ _⟩
  case round =>
    obtain ⟨k, hk, rfl, rfl, hbel⟩ := hrel
    have HB := Lib.hid hbel; clear hbel
    by_cases hlt : k < n
    · have hlt' : k < l.length := by rw [HN.out]; exact hlt
      have hnn := HN.out
      obtain ⟨b, o, hA, -, -, -, -, -⟩ := Rd.atP (A := A) (show Rd w w.heap.size 4 A l.length (prs l) by rw [HN.out]; exact H.out) hlt'
      subst hA
      have HPk : Hid (l[k]? = some l[k]) := Lib.hid (List.getElem?_eq_getElem hlt')
      have hmem : l[k] ∈ l := List.getElem_mem hlt'
      have hok := check_ok (HC.out _ hmem)
      have hpg := HG.out _ hmem
      have hpl := propL_len (HC.out _ hmem)
      have htk : (l.take (k + 1)).flatMap propL = (l.take k).flatMap propL ++ propL l[k] := by
        rw [List.take_succ_eq_append_getElem hlt', List.flatMap_append]; simp
      have htl : ((l.take k).flatMap propL).length ≤ k * 131075 := by
        have := flat_total (l := l.take k) (fun p hp => HC.out p (List.mem_of_mem_take hp))
        exact Nat.le_trans this (Nat.mul_le_mul_right _ (List.length_take_le _ _))
      clear hmem hnn
      have HTK := Lib.hid htk; clear htk
      generalize l[k] = p at *
      obtain ⟨id, m, t, v⟩ := p
      simp only at hok hpg hpl HPk HTK
      obtain ⟨c8, rfl⟩ : ∃ c8 : UInt8, id = (c8.toNat : Int) := ⟨UInt8.ofNat id.toNat, byte_id hok.1⟩
      obtain ⟨sh, hsh⟩ : ∃ sh, shapeOf (c8.toNat : Int) = sh := ⟨_, rfl⟩
      rw [hsh] at hok
      obtain ⟨VV, hVV⟩ : ∃ VV, valueS sh ⟨(c8.toNat : Int), m, t, v⟩ = VV := ⟨_, rfl⟩
      have hpe : propL ⟨(c8.toNat : Int), m, t, v⟩ = c8 :: ls VV := by
        unfold propL
        simp only
        rw [hsh, hVV, Int.toNat_natCast]
        simp
      rw [hpe] at hpl HTK
      have HSH := Lib.hid hsh; have HVV := Lib.hid hVV; have HOK := Lib.hid hok; have HPG := Lib.hid hpg
      clear hsh hVV hok hpg hpe
      have hvl : VV.size ≤ 131074 := by rw [List.length_cons, ls_len] at hpl; omega
      clear hpl
      obtain ⟨S, hS⟩ : ∃ S : ByteArray, ⟨((l.take k).flatMap propL).toArray⟩ = S := ⟨_, rfl⟩
      have hSz : S.size ≤ 131075000 := by rw [← hS, mk_size]; omega
      have HS2 : Hid ((⟨((l.take (k + 1)).flatMap propL).toArray⟩ : ByteArray) = S ++ ⟨#[c8]⟩ ++ VV) := Lib.hid (by
        rw [HTK.out, ← hS]
        refine ls_ext ?_
        rw [ls_mk, ls_app, ls_app, ls_mk]
        simp [ls])
      rw [hS]
      clear hS htl
      have hw8 : IntKind.u8.wrap (c8.toNat : Int) = (c8.toNat : Int) := by rw [IntKind.wrap_u8]; have := c8.toNat_lt; omega
      have b1 : (0 : Int) ≤ (k : Int) := by omega
      have b2 : (k : Int) < (n : Int) := by omega
      have hs1 : ¬ (9223372036854775807 < S.size + 1) := by omega
      have hs2 : ¬ (9223372036854775807 < S.size + 1 + VV.size) := by omega
      obtain ⟨-, c0, c1, c2, c3⟩ := PB.of H.out HN.out HPk.out HB.out
      simp only at c0 c1 c2 c3
      obtain ⟨-, g0, g1, g2, g3⟩ := PB.of H.out HN.out HPk.out (HB.out.alloc HB.out.size (.cells #[.int .u8 (c8.toNat : Int)] 5))
      simp only at g0 g1 g2 g3
      have hcv8 := fun W => hcv W c8
      have hcv9 := fun W => hcv1 W c8
      have HLT := Lib.hid hlt; have HK := Lib.hid hk
      clear hcv hcv1 hlt' hvl hSz hk hlt
      go_wp2_with fail
      go_region_law ((go_simp; go_at_call 173; refine (refValue_any sh ⟨(c8.toNat : Int), m, t, v⟩ HSH.out HOK.out.2.1 HOK.out.2.2.1 HPG.out.1 HOK.out.2.2.2.1 HOK.out.2.2.2.2.1 HOK.out.2.2.2.2.2 _).mono ?_; rintro e w4 ⟨rfl, hbv⟩; rw [HVV.out]; have hb4 : Below w.heap.size w w4 := (by first | exact PB.b0 HB.out hbv | exact PB.b1 HB.out hbv | exact PB.b2 HB.out hbv); obtain ⟨-, e0, e1, e2, e3⟩ := PB.of H.out HN.out HPk.out hb4; simp only at e0 e1 e2 e3; try (have hcz := conv_aft 65 9 5 Tryz.underlying65 Tryz.underlying5 Tryz.underlying9 hbv)))
      all_goals
        go_wp2
        go_roundw
        case rel => exact ⟨k + 1, HLT.out, by go_num, by rw [HS2.out], by first | exact hb4 | exact hb4.alloc hb4.size _⟩
        case measure => have := HLT.out; simp [intOf]; omega
    · obtain rfl : k = n := by omega
      have HT : Hid (l.take k = l) := Lib.hid (List.take_of_length_le (by rw [HN.out]; exact Nat.le_refl _))
      rw [HT.out]
      go_wp2
      go_ret
      exact ⟨rfl, HB.out⟩
end Go.Proofs.YtpcaffimahapjaaGreat
