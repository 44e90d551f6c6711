/- Reference 05: Valid, Bytes. -/
import Derived.Test.YtpcaffimahapjaaGreatRfG
namespace Go.Proofs.YtpcaffimahapjaaGreat
open Go.RowKit
theorem go_err (kind : Int) : ∀ (l : List Pr) (f : Nat → Nat) (o o' : List UInt8), (bytesGo kind l f o).2 = (bytesGo kind l f o').2
  | [], f, o, o' => by rw [bytesGo, bytesGo]; split <;> rfl
  | p :: l, f, o, o' => by
    rw [bytesGo, bytesGo]
    split
    · rfl
    · split
      · rfl
      · exact go_err kind l _ _ _
def cntF (l : List Pr) : Nat → Nat := fun j => cnt j l
theorem cntF_snoc (l : List Pr) (p : Pr) : upd (cntF l) p.id.toNat (cntF l p.id.toNat + 1) = cntF (l ++ [p]) := by
  funext j
  unfold upd cntF
  rw [cnt_append, cnt_cons]
  by_cases h : j = p.id.toNat
  · subst h; simp [cnt]
  · rw [if_neg h, if_neg (fun x => h x.symm)]; simp [cnt]
theorem getP_cnt {kind : Int} {l : List Pr} {p : Pr} (hl : ckL kind l) (hp : 0 ≤ p.id) : (getP l p.id).isSome = decide (1 ≤ cnt p.id.toNat l) := by
  rw [Bool.eq_iff_iff, decide_eq_true_eq]
  unfold getP
  rw [List.find?_isSome]
  constructor
  · rintro ⟨q, hq, he⟩
    exact cnt_pos.2 ⟨q, hq, by rw [show q.id = p.id by simpa using he]⟩
  · intro h
    obtain ⟨q, hq, he⟩ := cnt_pos.1 h
    have := (check_ok (hl q hq)).1.1
    exact ⟨q, hq, by simp; omega⟩
theorem tw_again {kind : Int} {l : List Pr} {p : Pr} (hl : ckL kind l) (hp : checkE (ruleOf p.id) kind p = 0) : twB kind l p.id = againB (cntF l) kind p.id.toNat := by
  unfold twB
  rw [getP_cnt hl (check_ok hp).1.1, many_of_often hp]
  unfold againB cntF
  congr 1
  exact decide_eq_decide.2 (by omega)
theorem lone_cnt (l : List Pr) : loneL l = loneB (cntF l) := by
  have h : ∀ k : Nat, 0 < k → (getP l (k : Int)).isSome = decide (0 < cnt k l) := by
    intro k hk
    rw [Bool.eq_iff_iff, decide_eq_true_eq]
    unfold getP
    rw [List.find?_isSome]
    constructor
    · rintro ⟨q, hq, he⟩
      have : q.id = (k : Int) := by simpa using he
      exact cnt_pos.2 ⟨q, hq, by omega⟩
    · intro h
      obtain ⟨q, hq, he⟩ := cnt_pos.1 h
      exact ⟨q, hq, by simp; omega⟩
  unfold loneL loneB cntF
  rw [show (22 : Int) = ((22 : Nat) : Int) from rfl, show (21 : Int) = ((21 : Nat) : Int) from rfl, h 22 (by omega), h 21 (by omega)]
  congr 1
  by_cases h0 : cnt 21 l = 0
  · simp [h0]
  · have : 0 < cnt 21 l := by omega
    simp [this, h0]
/-- How far the reference's round has come. -/
structure VAt (kind : Int) (l : List Pr) (k : Nat) : Prop where
  ck : ckL kind (l.take k)
  eq : (bytesS kind l).2 = (bytesGo kind (l.drop k) (cntF (l.take k)) []).2
theorem VAt.start {kind : Int} {l : List Pr} (hl : l.length ≤ 1000) : VAt kind l 0 := by
  refine ⟨by simp [ckL], ?_⟩
  unfold bytesS
  rw [if_neg (by omega)]
  rfl
theorem VAt.bad {kind : Int} {l : List Pr} {k : Nat} {p : Pr} (v : VAt kind l k) (hp : l[k]? = some p) (hc : checkE (ruleOf p.id) kind p ≠ 0) : (bytesS kind l).2 = checkE (ruleOf p.id) kind p := by
  obtain ⟨hk, rfl⟩ := List.getElem?_eq_some_iff.1 hp
  rw [v.eq, List.drop_eq_getElem_cons hk, bytesGo, if_pos hc]
theorem VAt.twice {kind : Int} {l : List Pr} {k : Nat} {p : Pr} (v : VAt kind l k) (hp : l[k]? = some p) (hc : checkE (ruleOf p.id) kind p = 0) (ht : twB kind (l.take k) p.id = true) : (bytesS kind l).2 = 9 := by
  rw [tw_again v.ck hc] at ht
  obtain ⟨hk, rfl⟩ := List.getElem?_eq_some_iff.1 hp
  rw [v.eq, List.drop_eq_getElem_cons hk, bytesGo, if_neg (by simpa using hc), if_pos ht]
theorem VAt.next {kind : Int} {l : List Pr} {k : Nat} {p : Pr} (v : VAt kind l k) (hp : l[k]? = some p) (hc : checkE (ruleOf p.id) kind p = 0) (ht : twB kind (l.take k) p.id = false) : VAt kind l (k + 1) := by
  rw [tw_again v.ck hc] at ht
  obtain ⟨hk, rfl⟩ := List.getElem?_eq_some_iff.1 hp
  have htk : l.take (k + 1) = l.take k ++ [l[k]] := List.take_succ_eq_append_getElem hk
  refine ⟨?_, ?_⟩
  · rw [htk]
    refine ckL_append.2 ⟨v.ck, ?_⟩
    intro q hq
    rw [List.mem_singleton.1 hq]
    exact hc
  · rw [v.eq, List.drop_eq_getElem_cons hk, bytesGo, if_neg (by simpa using hc), if_neg (by rw [ht]; simp), cntF_snoc, ← htk]
    exact go_err kind _ _ _ _
theorem VAt.done {kind : Int} {l : List Pr} (v : VAt kind l l.length) : ckL kind l ∧ (bytesS kind l).2 = if loneL l = true then 9 else 0 := by
  have h1 := v.ck
  have h2 := v.eq
  rw [List.take_length] at h1 h2
  refine ⟨h1, ?_⟩
  rw [h2, List.drop_length, bytesGo, lone_cnt]
  split <;> rfl
set_option maxHeartbeats 4000000 in
set_option maxRecDepth 10000 in
theorem refValidP_any (kind : Int) (l : List Pr) (n : Nat) (hn : l.length = n) (hg : ∀ p ∈ l, prGood p) (A : Option Addr) (c : Nat) (w : World) (h : Rd w w.heap.size 4 A n (prs l)) (hl : n ≤ 4611686018427387904) (hc : n ≤ c) :
    Calls Tryz.prog 31 #[.int .i64 kind, .slice A n c] w fun e w' => e = .returned (.int .i64 (bytesS kind l).2) ∧ Below w.heap.size w w' := by
  by_cases hbig : 1000 < n
  · have HX : Hid ((bytesS kind l).2 = 4) := Lib.hid (by unfold bytesS; rw [if_pos (by omega)])
    have d1 : decide ((1000 : Int) < (n : Int)) = true := decide_eq_true (by omega)
    clear hbig
    go_enter Tryz.func31, Tryz.ntmps31
    go_wp2
    go_ret
    exact ⟨by rw [HX.out]; rfl, Below.refl _ _⟩
  have d1 : decide ((1000 : Int) < (n : Int)) = false := decide_eq_false (by omega)
  have hn1 : n ≤ 1000 := by omega
  have H := Lib.hid h; have HN := Lib.hid hn; have HG := Lib.hid hg; have HC := Lib.hid hc
  have V0 := Lib.hid (VAt.start (kind := kind) (show l.length ≤ 1000 by omega))
  clear h hn hg hc hbig hl
  go_enter Tryz.func31, Tryz.ntmps31
  go_wp2
  go_loopw [5] (fun i wr => ∃ k : Nat, k ≤ n ∧ i = .int .i64 k ∧ VAt kind l k ∧ Below w.heap.size w wr) (fun i _ => n - (intOf i).toNat)
  case atStart => exact ⟨0, by omega, rfl, V0.out, Below.refl _ _⟩
  case round =>
    obtain ⟨k, hk, rfl, hv, hbel⟩ := hrel
    have HB := Lib.hid hbel; have HV := Lib.hid hv; clear hbel hv
    by_cases hlt : k < n
    · have hlt' : k < l.length := by rw [HN.out]; exact hlt
      obtain ⟨b, o, hA, -, -, -, -, -⟩ := Rd.atP (A := A) (show Rd w w.heap.size 4 A l.length (prs l) by rw [HN.out]; exact H.out) hlt'
      subst hA
      have HPk : Hid (l[k]? = some l[k]) := Lib.hid (List.getElem?_eq_getElem hlt')
      have HPG := Lib.hid (HG.out _ (List.getElem_mem hlt'))
      generalize l[k] = p at *
      obtain ⟨id, m, t, v⟩ := p
      obtain ⟨-, c0, c1, c2, c3⟩ := PB.of H.out HN.out HPk.out HB.out
      simp only at c0 c1 c2 c3
      have b1 : (0 : Int) ≤ (k : Int) := by omega
      have b2 : (k : Int) < (n : Int) := by omega
      have HLT := Lib.hid hlt
      clear hlt' hk
      by_cases hck : checkE (ruleOf id) kind ⟨id, m, t, v⟩ = 0
      rotate_left
      · have HX := Lib.hid (HV.out.bad HPk.out hck)
        generalize hE : checkE (ruleOf id) kind ⟨id, m, t, v⟩ = E at *
        have HE := Lib.hid hE
        have e0 : (E != 0) = true := bne_iff_ne.2 hck
        clear hck hE
        go_wp2_with fail
        refine (refCheckP_any kind ⟨id, m, t, v⟩ (prGood_ok HPG.out) _).mono ?_
        rintro e w1 ⟨rfl, hb⟩
        rw [HE.out]
        have HB1 := Lib.hid (HB.out.trans (hb.mono HB.out.size)); clear hb
        go_wp2
        go_ret
        exact ⟨by rw [HX.out]; simp only [HE.out]; rfl, HB1.out⟩
      have HCK := Lib.hid hck
      clear hck
      go_wp2_with fail
      refine (refCheckP_any kind ⟨id, m, t, v⟩ (prGood_ok HPG.out) _).mono ?_
      rintro e w1 ⟨rfl, hb⟩
      rw [HCK.out]
      have HB1 := Lib.hid (HB.out.trans (hb.mono HB.out.size)); clear hb c0 c1 c2 c3
      obtain ⟨-, c0, c1, c2, c3⟩ := PB.of H.out HN.out HPk.out HB1.out
      simp only at c0 c1 c2 c3
      have S1 := fun W => run_to (P := Tryz.prog) Tryz.underlying25 size_prop (some ⟨b, o, none⟩) n c k (by have := HC.out; omega) W
      have c0' := fun n' => (show (w1.drewN n').cell? ⟨b, o + k * 4, none⟩ = some (.int .i64 id) from c0)
      have HTW : ∀ d os, Calls Tryz.prog 93 #[.int .i64 kind, .slice (some ⟨b, o, none⟩) k c, .int .i64 id] (Sort.grow (redrawn w1 d) os) fun e w'' => e = .returned (.bool (twB kind (l.take k) id)) ∧ ∃ p : Regrown, w'' = Sort.grow (redrawn w1 p.d) p.os :=
        regrown (fun x hx => refTwice_any kind id (l.take k) k (by rw [List.length_take, HN.out]; have := HLT.out; omega) (some ⟨b, o, none⟩) c x
          (by
            have h1 := ((H.out.below HB1.out).wider HB1.out.size).below hx
            have h2 := (h1.wider hx.size).cut_to (k := k) (by have := HLT.out; omega)
            rw [prs_take] at h2
            exact h2) (by have := HLT.out; omega))
      have k0 := cell_regrown c0
      have HBQ := Lib.hid (fun d os => HB1.out.trans ((below_regrown w1 d os).mono HB1.out.size))
      cases htw : twB kind (l.take k) id
      · have HVN := Lib.hid (HV.out.next HPk.out HCK.out htw)
        rw [htw] at HTW
        clear htw c0 c1 c2 c3 c0'
        go_wp2_with fail
        refine wp_region_quiet_below (by kernel_rfl) (by kernel_rfl) ?_
        repeat (go_big_quiet_step (first | with_reducible exact HTW _ _))
        refine wpQuiet_nil ?_
        intro _ hw'
        obtain ⟨⟨dq, osq⟩, hw''⟩ := hw'
        subst hw''
        have KF := Lib.hid (HBQ.out dq osq)
        clear HTW k0 HBQ S1
        generalize Sort.grow (redrawn _ dq) osq = wq at *
        go_wp2
        go_roundw
        case rel => exact ⟨k + 1, HLT.out, by go_num, HVN.out, KF.out⟩
        case measure => have := HLT.out; simp [intOf]; omega
      · have HX := Lib.hid (HV.out.twice HPk.out HCK.out htw)
        rw [htw] at HTW
        clear htw c0 c1 c2 c3 c0'
        go_wp2_with fail
        refine wp_region_quiet_below (by kernel_rfl) (by kernel_rfl) ?_
        repeat (go_big_quiet_step (first | with_reducible exact HTW _ _))
        refine wpQuiet_nil ?_
        intro _ hw'
        obtain ⟨⟨dq, osq⟩, hw''⟩ := hw'
        subst hw''
        have KF := Lib.hid (HBQ.out dq osq)
        clear HTW k0 HBQ S1
        generalize Sort.grow (redrawn _ dq) osq = wq at *
        go_wp2
        go_ret
        exact ⟨by rw [HX.out]; rfl, KF.out⟩
    · obtain rfl : k = n := by omega
      have hd := (show VAt kind l l.length by rw [HN.out]; exact HV.out).done
      have HCL := Lib.hid hd.1
      have HXX := Lib.hid hd.2
      have HR := Lib.hid ((H.out.below HB.out).wider HB.out.size)
      clear hd
      cases hlo : loneL l
      · have HX : Hid ((bytesS kind l).2 = 0) := Lib.hid (by rw [HXX.out, hlo]; rfl)
        have HLO := Lib.hid hlo; clear hlo
        have hz : ((⟨(l.flatMap propL).toArray⟩ : ByteArray).size : Int) ≤ 268435455 := by rw [mk_size]; have := (bytesS_size kind l HX.out).1; omega
        have dz : decide ((268435455 : Int) < ((⟨(l.flatMap propL).toArray⟩ : ByteArray).size : Int)) = false := decide_eq_false (by omega)
        go_wp2_with fail
        refine (refLone_any l k HN.out A c _ HR.out (by omega)).mono ?_
        rintro e w1 ⟨rfl, hb⟩
        rw [HLO.out]
        have HB1 := Lib.hid (HB.out.trans (hb.mono HB.out.size)); have HR1 := Lib.hid ((HR.out.below hb).wider hb.size); clear hb
        go_wp2_with fail
        refine (refBody_any kind l k HN.out HCL.out HG.out hn1 A c _ HR1.out).mono ?_
        rintro e w2 ⟨rfl, hb⟩
        have HB2 := Lib.hid (HB1.out.trans (hb.mono HB1.out.size)); clear hb
        generalize (⟨(l.flatMap propL).toArray⟩ : ByteArray) = Z at *
        go_wp2
        go_ret
        exact ⟨by rw [HX.out]; rfl, HB2.out⟩
      · have HX : Hid ((bytesS kind l).2 = 9) := Lib.hid (by rw [HXX.out, hlo]; rfl)
        have HLO := Lib.hid hlo; clear hlo
        go_wp2_with fail
        refine (refLone_any l k HN.out A c _ HR.out (by omega)).mono ?_
        rintro e w1 ⟨rfl, hb⟩
        rw [HLO.out]
        have HB1 := Lib.hid (HB.out.trans (hb.mono HB.out.size)); clear hb
        go_wp2
        go_ret
        exact ⟨by rw [HX.out]; rfl, HB1.out⟩
set_option maxHeartbeats 2000000 in
set_option maxRecDepth 10000 in
theorem refBytesP_any (kind : Int) (l : List Pr) (n : Nat) (hn : l.length = n) (hg : ∀ p ∈ l, prGood p) (A : Option Addr) (c : Nat) (w : World) (h : Rd w w.heap.size 4 A n (prs l)) (hl : n ≤ 4611686018427387904) (hc : n ≤ c) :
    Calls Tryz.prog 17 #[.int .i64 kind, .slice A n c] w fun e w' => e = .returned (.tuple #[.string ⟨(bytesS kind l).1.toArray⟩, .int .i64 (bytesS kind l).2]) ∧ Below w.heap.size w w' := by
  have H := Lib.hid h; have HN := Lib.hid hn; have HG := Lib.hid hg; have HC := Lib.hid hc
  clear h hn hg hc
  by_cases hE : (bytesS kind l).2 = 0
  rotate_left
  · have hb := bytesS_bad kind l hE
    have HX : Hid (bytesS kind l = ([], (bytesS kind l).2)) := Lib.hid (by rw [← hb])
    generalize (bytesS kind l).2 = E at *
    have HE := Lib.hid hE
    have e0 : (E != 0) = true := bne_iff_ne.2 hE
    clear hE hb
    go_enter Tryz.func17, Tryz.ntmps17
    go_wp2_with fail
    refine (refValidP_any kind l n HN.out HG.out A c _ H.out hl HC.out).mono ?_
    rintro e w1 ⟨rfl, hb⟩
    rw [HX.out]
    have HB := Lib.hid hb; clear hb
    simp only
    go_wp2
    go_ret2
    exact ⟨by rw [HX.out]; rfl, HB.out⟩
  have HE := Lib.hid hE
  have hb := bytesS_bytes kind l hE
  have hs := (bytesS_size kind l hE).1
  have hok := (bytesS_ok kind l).1 hE
  have HCL := Lib.hid hok.2.1
  have HN1 : Hid (n ≤ 1000) := Lib.hid (by rw [← HN.out]; exact hok.1)
  have HB0 := Lib.hid hb
  have HV : Hid ((varL (l.flatMap propL).length).length ≤ 4) := Lib.hid (by rw [varL_len]; split; omega; split; omega; split; omega; omega)
  obtain ⟨Z, hZ⟩ : ∃ Z : ByteArray, ⟨(l.flatMap propL).toArray⟩ = Z := ⟨_, rfl⟩
  have hzs : Z.size ≤ 131075000 := by rw [← hZ, mk_size]; exact hs
  have hzl : (l.flatMap propL).length = Z.size := by rw [← hZ, mk_size]
  have HZ := Lib.hid hZ
  have HX : Hid ((⟨(bytesS kind l).1.toArray⟩ : ByteArray) = ⟨(varL Z.size).toArray⟩ ++ Z) := Lib.hid (by rw [hb, ← hzl, ← hZ]; exact mk_cat _ _)
  rw [hzl] at HV
  clear hE hb hs hok hZ hzl
  obtain ⟨V, hV⟩ : ∃ V : ByteArray, ⟨(varL Z.size).toArray⟩ = V := ⟨_, rfl⟩
  have HVS : Hid (V.size ≤ 4) := Lib.hid (by rw [← hV, mk_size]; exact HV.out)
  have HVV := Lib.hid hV
  rw [hV] at HX
  have hsum : ¬ (9223372036854775807 < V.size + Z.size) := by have := HVS.out; omega
  clear hV
  go_enter Tryz.func17, Tryz.ntmps17
  go_wp2_with fail
  refine (refValidP_any kind l n HN.out HG.out A c _ H.out hl HC.out).mono ?_
  rintro e w1 ⟨rfl, hb⟩
  rw [HE.out]
  have HB := Lib.hid hb; have HR := Lib.hid ((H.out.below hb).wider hb.size); clear hb
  go_wp2_with fail
  refine (refBody_any kind l n HN.out HCL.out HG.out HN1.out A c _ HR.out).mono ?_
  rintro e w2 ⟨rfl, hb⟩
  rw [HZ.out]
  have HB1 := Lib.hid (HB.out.trans (hb.mono HB.out.size)); clear hb
  go_wp2_with fail
  refine (ref2Bytes_any Z.size _ (by omega)).mono ?_
  rintro e w3 ⟨rfl, hb⟩
  rw [HVV.out]
  have HB2 := Lib.hid (HB1.out.trans (hb.mono HB1.out.size)); clear hb
  go_wp2
  go_ret2
  exact ⟨by rw [HX.out, HE.out]; rfl, HB2.out⟩
end Go.Proofs.YtpcaffimahapjaaGreat
