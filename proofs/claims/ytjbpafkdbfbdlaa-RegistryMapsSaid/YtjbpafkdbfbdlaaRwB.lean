/-
  The registry, walked: Register.
-/
import Derived.Test.YtjbpafkdbfbdlaaRwA

namespace Go.Proofs.Ytjbpafkdbfbdlaa
open Go.RowKit Go.Maps Go.WideShapes
theorem maxLen_of {n : Nat} (h : n ≤ 4611686018427387904) : n ≤ maxLen := by unfold maxLen; omega
/-- What Register answers. -/
def regV (r : Nat × Bool × Int) : Value := .tuple #[.int .i64 (r.1 : Int), .bool r.2.1, .int .i64 r.2.2]
theorem FcMods {w w' : World} {F : Nat → Prop} {g bi ba : Nat} {c : Cl} {v : Value} {D : DataW Nat} (h : ClI w F g c bi ba v D) (hM : Mods (fun i => i = g ∨ v.ownBlock = some i) w w') : Mods F w w' := hM.mono fun i _ hs => by
  rcases hs with rfl | hs
  · exact h.fg
  · exact h.fr i hs
theorem FcMods2 {w w' : World} {F : Nat → Prop} {g bi ba : Nat} {c : Cl} {v : Value} {D : DataW Nat} (h : ClI w F g c bi ba v D) (hM : Mods (fun i => i = bi ∨ i = ba) w w') : Mods F w w' := hM.mono fun i _ hs => by
  rcases hs with rfl | rfl
  · exact h.fi
  · exact h.fa
set_option maxRecDepth 10000 in
set_option maxHeartbeats 1000000 in
theorem reg_any {w : World} {F : Nat → Prop} {gp K : Nat} {L : Rg} (h : RgSt w F gp L K) (c n : ByteArray) (hc : c.size ≤ maxLen) (hn6 : n.size ≤ 4611686018427387904) (hK : K < 100000000) :
    Calls Try.prog 12 #[.pointer (some ⟨gp, 0, none⟩), .string c, .string n] w fun e w' => e = .returned (regV (rfReg L c n).1) ∧ RgTo w F gp (rfReg L c n).2 (K + 1) w' := by
  have HS := Lib.hid h
  have hn := maxLen_of hn6
  have hKm : K < maxLen := by unfold maxLen; omega
  clear h
  go_enter Try.func12, Try.ntmps12
  go_wp2_with fail
  refine (name_any n w hn6).mono ?_
  rintro e w1 ⟨rfl, hb1⟩
  have HB1 := Lib.hid hb1
  clear hb1
  cases hN : nameB n with
  | false =>
    go_wp2
    go_ret3
    rw [rfReg_bad hN]
    exact ⟨rfl, HS.out.to HB1.out (Nat.le_succ K)⟩
  | true =>
    go_wp2_with fail
    refine (need_any (HS.out.below HB1.out) c hc hKm).mono ?_
    rintro e w2 ⟨g, Fc, cl, bi, ba, v, D, rfl, hO⟩
    have HO := Lib.hid hO
    have hcl := hO.inn.blk.client
    have hl := look_ids hO.inn.ids hO.inn.idd hn
    clear hO
    cases ht : tpOf cl.all n with
    | some t =>
      rw [ht] at hl
      simp only [Option.getD_some, Option.isSome_some] at hl
      have HT := Lib.hid ht
      clear ht
      go_wp2
      go_ret3
      have ht' : tpOf (rgT L c) n = some t := by rw [← HO.out.all]; exact HT.out
      have hw := HO.out.same fun e => by have := HT.out; rw [e] at this; cases this
      rw [rfReg_hit hN ht', hw]
      exact ⟨rfl, HS.out.to HB1.out (Nat.le_succ K)⟩
    | none =>
      rw [ht] at hl
      simp only [Option.getD_none, Option.isSome_none] at hl
      have hls := least_any HO.out.inn HO.out.ok (by have := HO.out.len; omega)
      have HT := Lib.hid ht
      clear ht
      go_wp2_with fail
      refine hls.mono ?_
      rintro e w3 ⟨r, c', v', rfl, hLO, hC', hv, hM, hlen⟩
      have HL := Lib.hid hLO
      have HC := Lib.hid hC'
      have HM := Lib.hid (FcMods HO.out.inn hM)
      have HE := Lib.hid hlen
      clear hLO hC' hM hlen hls hcl hl hv
      have ht' : Hid (tpOf (rgT L c) n = none) := Lib.hid (by rw [← HO.out.all]; exact HT.out)
      by_cases hr : r = 0
      · have hr' : ((r : Int) == 0) = true := by rw [hr]; rfl
        have HR := Lib.hid hr
        clear hr
        go_wp2
        go_ret3
        have hr := HR.out
        rcases HL.out.2 with ⟨_, hf, ok'⟩ | ⟨_, h1, _⟩
        · rw [HO.out.all] at hf
          rw [rfReg_full hN ht'.out hf]
          have hne : rgT L c ≠ [] := fun e => by rw [e] at hf; simp [frS] at hf
          have hall : c'.all = rgT L c := HL.out.1.trans HO.out.all
          have := HO.out.close w3 c' v' D HC.out ok' (by rw [hall]; exact hne) (by rw [HL.out.1]; have := HO.out.len; have := HE.out; omega) HM.out
          rw [hall, rgSet_same HS.out.ok hne] at this
          exact ⟨rfl, this.front HB1.out⟩
        · omega
      · have hr' : ((r : Int) == 0) = false := by
          rw [beq_eq_false_iff_ne]
          omega
        have HR := Lib.hid hr
        clear hr
        have hx : Hid (r = frS 1 cl.all ∧ 1 ≤ r ∧ r ≤ 65534 ∧ (∀ x ∈ cl.all, x.id ≠ r) ∧ ∀ n : ByteArray, (∀ x ∈ cl.all, x.name ≠ n) → ClOk { c' with all := tpIns ⟨r, n, false⟩ c'.all }) := Lib.hid (by
          rcases HL.out.2 with ⟨h0, _⟩ | h
          · exact absurd h0 HR.out
          · exact h)
        have hp := cput_any HC.out ⟨r, n, false⟩ hx.out.2.2.1 hn (by rw [HL.out.1]; have := HO.out.len; unfold maxLen; omega) (by rw [HL.out.1]; exact hx.out.2.2.2.1) (by rw [HL.out.1]; exact fun x hx => tpOf_none HT.out x hx)
        unfold tpV at hp
        go_wp2_with fail
        refine hp.mono ?_
        rintro e w4 ⟨rfl, ⟨D', h4⟩, hM4⟩
        have H4 := Lib.hid h4
        have HM4 := Lib.hid (FcMods2 HC.out hM4)
        clear h4 hM4 hp
        go_wp2
        go_ret3
        have hf : frS 1 (rgT L c) = r := by rw [← HO.out.all]; exact hx.out.1.symm
        have hall : c'.all = rgT L c := HL.out.1.trans HO.out.all
        rw [rfReg_new hN ht'.out (by rw [hf]; exact hx.out.2.2.1), hf]
        have := HO.out.close w4 { c' with all := tpIns ⟨r, n, false⟩ c'.all } v' D' H4.out (hx.out.2.2.2.2 n fun x hx => tpOf_none HT.out x hx) tpIns_ne (by show c'.back.length + (tpIns _ _).length ≤ _; rw [tpIns_length, HL.out.1]; have := HO.out.len; have := HE.out; omega) (HM.out.trans HM4.out)
        rw [show ({ c' with all := tpIns ⟨r, n, false⟩ c'.all } : Cl).all = tpIns ⟨r, n, false⟩ (rgT L c) by rw [← hall]] at this
        exact ⟨rfl, this.front HB1.out⟩
end Go.Proofs.Ytjbpafkdbfbdlaa
