/-
  The registry, walked: Clear.
-/
import Derived.Test.YtjbpafkdbfbdlaaRwG
import Derived.Test.YtjbpafkdbfbdlaaRwD

namespace Go.Proofs.Ytjbpafkdbfbdlaa
open Go.RowKit Go.Maps Go.WideShapes
/-- A client that is there, with what may be done with it. -/
structure ClrAt (w : World) (F : Nat → Prop) (gp : Nat) (L : Rg) (K : Nat) (c : ByteArray) (Fc : Nat → Prop) (g : Nat) (cl : Cl) (bi ba : Nat) (v : Value) (D : DataW Nat) (bm : Nat) (M : List (ByteArray × En)) : Prop where
  inn : ClI w Fc g cl bi ba v D
  ok : ClOk cl
  all : cl.all = rgT L c
  len : cl.back.length + cl.all.length ≤ K
  sub : ∀ i, Fc i → F i
  cell : Bk w gp 48 #[.map (some bm)]
  own : w.ownsMap Try.prog 9 enR bm M.length (kvD enE M)
  gpn : ¬ Fc gp
  bmn : ¬ Fc bm
  upd : ∀ w2 F' cl' v' D', ClI w2 F' g cl' bi ba v' D' → ClOk cl' → cl'.all ≠ [] → cl'.back.length + cl'.all.length ≤ K → (∀ i, F' i → Fc i ∨ w.heap.size ≤ i) → Mods Fc w w2 → RgTo w F gp (rgSet L c cl'.all) K w2
  del : ∀ w2 w3 n, Mods Fc w w2 → w3.ownsMap Try.prog 9 enR bm n ((kvD enE M).del (.string c.data.toList)) → w2.grownBy w3 (some bm) → RgTo w F gp (rgSet L c []) K w3
theorem of_clr {w : World} {F : Nat → Prop} {gp K : Nat} {L : Rg} (h : RgSt w F gp L K) (c : ByteArray) (hc : c.size ≤ maxLen) :
    Calls Try.prog 18 #[.pointer (some ⟨gp, 0, none⟩), .string c] w fun e w1 => ∃ o, e = .returned (.pointer o) ∧ w = w1 ∧
      ((o = none ∧ rgT L c = []) ∨ ∃ g Fc cl bi ba v D bm M, o = some ⟨g, 0, none⟩ ∧ ClrAt w F gp L K c Fc g cl bi ba v D bm M) := by
  obtain ⟨bm, M, hR, rfl, hM, hB⟩ := h
  refine (of_any hR c hc).mono ?_
  rintro _ w1 ⟨rfl, rfl⟩
  refine ⟨_, rfl, rfl, ?_⟩
  cases e : kvAt c M with
  | none => exact .inl ⟨rfl, by rw [rgT_of, e]; rfl⟩
  | some en =>
    have hm := kvAt_mem e
    obtain ⟨⟨bi, ba, v, D, hC⟩, ok, hne, hin⟩ := hR.each _ hm
    have hgp : ¬ en.F gp := fun hf => (hin gp hf).2.1 rfl
    have hbm : ¬ en.F bm := fun hf => (hin bm hf).2.2 rfl
    refine .inr ⟨en.g, en.F, en.cl, bi, ba, v, D, bm, M, rfl, hC, ok, by rw [rgT_of, e]; rfl, hB _ hm, fun i hi => (hin i hi).1, hR.blk, hR.own, hgp, hbm, fun w2 F' cl' v' D' h2 ok2 ne2 len2 hF2 hM2 => ?_, fun w2 w3 n hM2 ho hg => ?_⟩
    · have hu := hR.upd (en' := ⟨en.g, cl', F'⟩) e rfl ⟨bi, ba, v', D', h2⟩ ok2 ne2 hF2 (fun i hi hn => hM2.block i hi hn) hM2.size
      refine ⟨_, ⟨bm, _, hu, (rgOf_upd (en' := ⟨en.g, cl', F'⟩) ne2).symm, ?_, fun x hx => ?_⟩, fun i hi => hi.imp id (·.1), hM2.mono fun i _ hs => (hin i hs).1⟩
      · rw [kvPut_len hR.up e]
        exact hM
      · rcases mem_kvPut.1 hx with rfl | ⟨hx, _⟩
        · exact len2
        · exact hB x hx
    · have hk : ∀ i, i < w.heap.size → i ≠ bm → ¬ en.F i → w3.heap[i]? = w.heap[i]? := fun i hi h1 h2 => (hg.block i (Nat.lt_of_lt_of_le hi hM2.size) (fun e => h1 (by injection e))).trans (hM2.block i hi h2)
      have hu := hR.del e ho hk (Nat.le_trans hM2.size hg.size)
      refine ⟨_, ⟨bm, _, hu, rgOf_del.symm, Nat.le_trans (List.length_filter_le _ _) hM, fun x hx => hB x (mem_kvDel.1 hx).1⟩, fun i hi => hi.imp id (·.1), ?_⟩
      exact ⟨hg.os.trans hM2.os, hg.tape.trans hM2.tape, hg.output.trans hM2.output, Nat.le_trans hM2.size hg.size, fun i hi hs => hk i hi (fun e => hs (by rw [e]; exact hR.fm)) (fun hf => hs (hin i hf).1)⟩
theorem names_le {w : World} {bi n : Nat} {l : List Tp} {D : DataW Nat} (h : w.ownsMap Try.prog 9 (plainElem Try.prog 3) bi n D) (hD : IdsD D l) {t : Tp} (ht : t ∈ l) : t.name.size ≤ maxLen := by
  have h1 : Maps.has D (.string t.name.data.toList) = true := by
    rw [(hD.2.2 t.name).1]
    unfold tpOf
    rw [List.find?_isSome]
    exact ⟨t, ht, by simp⟩
  obtain ⟨es, rfl, hk⟩ := h.keysOf
  rw [Maps.has_eq, List.any_eq_true] at h1
  obtain ⟨p, hp, hs⟩ := h1
  obtain ⟨v, hv⟩ := hk p hp
  obtain ⟨x, -, e, hx⟩ := Maps.keyOf_str Try.underlying9 hv
  rw [e] at hs
  have : x = t.name.data.toList := by simpa [Lit.sameKey] using hs
  rw [← ByteArray.size_data, ← Array.length_toList, ← this]
  exact hx
theorem Rd.atT {w : World} {B : Nat} {A : Option Addr} {l : List Tp} (h : Rd w B 3 A l.length (tpCs l)) {i : Nat} (hi : i < l.length) : ∃ b o, A = some ⟨b, o, none⟩ ∧ b < B ∧
    w.cell? ⟨b, o + i * 3, none⟩ = some (.int .i64 (l[i].id : Int)) ∧ w.cell? ⟨b, o + i * 3 + 1, none⟩ = some (.string l[i].name) ∧ w.cell? ⟨b, o + i * 3 + 2, none⟩ = some (.bool l[i].fixed) := by
  rcases h.2 with h0 | ⟨b, o, rfl, hb, hc⟩
  · have := tpCs_len l
    rw [h0] at this
    simp at this
    omega
  · refine ⟨b, o, rfl, hb, ?_, ?_, ?_⟩
    · exact hc (i * 3 + 0) _ (tpCs_at l i 0 hi (by omega))
    · rw [Nat.add_assoc]; exact hc (i * 3 + 1) _ (tpCs_at l i 1 hi (by omega))
    · rw [Nat.add_assoc]; exact hc (i * 3 + 2) _ (tpCs_at l i 2 hi (by omega))
/-- How many of the first i were taken away. -/
def cntC (T : List Tp) (i : Nat) : Nat := ((T.take i).filter fun t => !t.fixed).length
theorem cntC_step {T : List Tp} {i : Nat} (h : i < T.length) : cntC T (i + 1) = if T[i].fixed = true then cntC T i else cntC T i + 1 := by
  unfold cntC
  rw [List.take_succ_eq_append_getElem h, List.filter_append]
  by_cases e : T[i].fixed = true
  · simp [e]
  · simp [e]
theorem cntC_end (T : List Tp) : ((cntC T T.length : Nat) : Int) = (T.length : Int) - ((T.filter (·.fixed)).length : Int) := by
  unfold cntC
  rw [List.take_length]
  have : ((T.filter fun t => !t.fixed).length + (T.filter (·.fixed)).length) = T.length := by
    induction T with
    | nil => rfl
    | cons t l ih => cases h : t.fixed <;> simp [h] <;> omega
  omega
theorem cntC_le (T : List Tp) (i : Nat) : cntC T i ≤ T.length := by
  unfold cntC
  exact Nat.le_trans (List.length_filter_le _ _) (by rw [List.length_take]; omega)
theorem mods_undrew {S : Nat → Prop} {w w' : World} (h : Mods S w.drew w') : Mods S w w' := ⟨h.os, h.tape, h.output, h.size, h.block⟩
theorem mods_more {S S' : Nat → Prop} {w wr w' : World} (h : Mods S w wr) (h2 : Mods S' wr w') (hs : ∀ j, S' j → S j ∨ w.heap.size ≤ j) : Mods S w w' :=
  ⟨h2.os.trans h.os, h2.tape.trans h.tape, h2.output.trans h.output, Nat.le_trans h.size h2.size, fun i hi hn => (h2.block i (Nat.lt_of_lt_of_le hi h.size) fun h3 => by
    rcases hs i h3 with h4 | h4
    · exact hn h4
    · omega).trans (h.block i hi hn)⟩
/-- Between two rounds of Clear. -/
structure ClrR (w : World) (K : Nat) (Fc : Nat → Prop) (g bi ba : Nat) (v : Value) (T : List Tp) (wr : World) (i : Nat) (F : Nat → Prop) (cl : Cl) (u : Value) (D : DataW Nat) : Prop where
  inn : ClI wr F g cl bi ba u D
  ok : ClOk cl
  all : cl.all = clrAt T i
  len : cl.back.length + cl.all.length ≤ K
  sub : ∀ j, F j → Fc j ∨ w.heap.size ≤ j
  mods : Mods Fc w wr
  row : wr.ownsRow w.heap.size 39 3 v T.length (tpCs T)
  apart : ∀ k, v.ownBlock = some k → ¬ F k
set_option maxRecDepth 10000 in
set_option maxHeartbeats 4000000 in
theorem clear_any {w : World} {F : Nat → Prop} {gp K : Nat} {L : Rg} (h : RgSt w F gp L K) (c : ByteArray) (hc : c.size ≤ maxLen) (hK : K < 100000000) :
    Calls Try.prog 10 #[.pointer (some ⟨gp, 0, none⟩), .string c] w fun e w' => e = .returned (.int .i64 (rfClr L c).1) ∧ RgTo w F gp (rfClr L c).2 K w' := by
  have ho := of_clr h c hc
  have ht := topics_any h c hc hK
  have HS := Lib.hid h
  clear h
  go_enter Try.func10, Try.ntmps10
  go_wp2_with fail
  refine ho.mono ?_
  rintro e w1 ⟨o, rfl, rfl, hx⟩
  rcases hx with ⟨rfl, hL⟩ | ⟨g, Fc, cl, bi, ba, v0, D, bm, M, rfl, hA⟩
  · have HL := Lib.hid hL
    clear hL ht
    go_wp2
    go_ret
    have hr : rfClr L c = (0, L) := by
      unfold rfClr rgSet
      rw [HL.out]
      simp only [List.filter_nil, if_true]
      rw [kvDel_none ((rgT_nil HS.out.ok).1 HL.out)]
      rfl
    rw [hr]
    exact ⟨rfl, HS.out.to (RowKit.Below.refl _ _) (Nat.le_refl K)⟩
  · have HA := Lib.hid hA
    clear hA
    obtain ⟨T, HT⟩ : ∃ T, Hid (rgT L c = T) := ⟨_, Lib.hid rfl⟩
    rw [HT.out] at ht
    go_wp2_with fail
    refine ht.mono ?_
    rintro e w1 ⟨v, rfl, hrow, hb1⟩
    have hR0 : ClrR w K Fc g bi ba v T w1 0 Fc cl v0 D := ⟨HA.out.inn.keep _ _ _ _ hb1.size fun i hi => hb1.block i (HA.out.inn.lt i hi), HA.out.ok, by rw [HA.out.all, HT.out]; rfl, HA.out.len, fun j hj => .inl hj, Mods.of_below hb1, hrow, fun k hk hf => by
      have h1 := (hrow.lt k hk).1
      have h2 := HA.out.inn.lt k hf
      omega⟩
    have HR0 := Lib.hid hR0
    have HB1 := Lib.hid hb1
    obtain ⟨A, cp, rfl, -⟩ := own_rd hrow
    have hTl : T.length ≤ K := by rw [← HT.out, ← HA.out.all]; have := HA.out.len; omega
    clear hrow hb1 hR0
    go_wp2
    go_loopw [5, 18] (fun s5 s18 wr => ∃ (i : Nat) (F2 : Nat → Prop) (c2 : Cl) (u : Value) (D2 : DataW Nat), s18 = .int .i64 (i : Int) ∧ i ≤ T.length ∧ s5 = .int .i64 ((cntC T i : Nat) : Int) ∧ Hid (ClrR w K Fc g bi ba (.slice A T.length cp) T wr i F2 c2 u D2)) (fun _ s18 _ => T.length - (intOf s18).toNat)
    case atStart => exact ⟨0, Fc, cl, v0, D, rfl, Nat.zero_le _, rfl, HR0⟩
    case round =>
      obtain ⟨i, F2, c2, u, D2, rfl, hi, rfl, HR⟩ := hrel
      by_cases hlt : i < T.length
      · have hgu : Hid (i < T.length) := Lib.hid hlt
        have hrd : Rd wr wr.heap.size 3 A T.length (tpCs T) := by
          obtain ⟨A', c', e, -, h⟩ := own_rd HR.out.row
          cases e
          exact h
        obtain ⟨bk0, of0, rfl, hbl, d0, d1, d2⟩ := Rd.atT hrd hlt
        have htc := clrAt_mem hlt
        have hstep := cntC_step hlt
        have hkeep := clrAt_keep hlt
        have hdel := fun hu => clrAt_step (l := T) hu hlt
        generalize T[i] = t at d0 d1 d2 htc hstep hkeep hdel
        have b1 : (0 : Int) ≤ (i : Int) := by omega
        have b2 : (i : Int) < (T.length : Int) := by omega
        rw [← HR.out.all] at htc
        have HTC := Lib.hid htc
        have HST := Lib.hid hstep
        have HKE := Lib.hid hkeep
        have HDE := Lib.hid hdel
        clear htc hstep hkeep hdel
        have hcl := cntC_le T i
        have hb2 : RowKit.Below wr.heap.size wr (wr.alloc (.cells #[.int .i64 (t.id : Int), .string t.name, .bool t.fixed] 39)) := (RowKit.Below.refl _ wr).alloc (Nat.le_refl _) _
        have HBX := Lib.hid (Bk.fresh wr 39 #[.int .i64 (t.id : Int), .string t.name, .bool t.fixed])
        have hbx := HBX.out.three.1
        have HC2 := Lib.hid (HR.out.inn.keep _ _ _ _ hb2.size fun j hj => hb2.block j (HR.out.inn.lt j hj))
        have HB2 := Lib.hid hb2
        clear hb2 hrd
        have hb4 := HC2.out.blk.client
        generalize hW2 : wr.alloc (.cells #[.int .i64 (t.id : Int), .string t.name, .bool t.fixed] 39) = W2 at HBX hbx HC2 HB2 hb4
        clear hlt
        go_wp2
        · have hf : t.fixed = true := by assumption
          have hlt := hgu.out
          refine ⟨⟨i + 1, F2, c2, u, D2, by simp, by omega, by rw [HST.out, if_pos hf], Lib.hid ⟨HC2.out, HR.out.ok, HR.out.all.trans (HKE.out hf).symm, HR.out.len, HR.out.sub, HR.out.mods.trans (Mods.of_below HB2.out), own_below HR.out.row HB2.out, HR.out.apart⟩⟩, ?_⟩
          simp [intOf]
          omega
        · have hf : Hid (t.fixed = false) := Lib.hid (by assumption)
          have hnm := names_le HR.out.inn.ids HR.out.inn.idd HTC.out
          have hid := HR.out.ok.ids t HTC.out
          obtain ⟨w3, hrun3, hown3, hturn3⟩ := (HC2.out.ids.drew).drop lawS Try.underlying56 (WideMaps.keyOf_string_mk Try.underlying9 hnm) 0
          have hg3 := hturn3.grown
          have hne := HC2.out.ne
          have hltb := HR.out.inn.lt bi HR.out.inn.fi
          have hlta := HR.out.inn.lt ba HR.out.inn.fa
          have hltg := HR.out.inn.lt g HR.out.inn.fg
          have hs2 : wr.heap.size < W2.heap.size := HBX.out.lt
          have hk3 : ∀ j, j < W2.heap.size → j ≠ bi → w3.heap[j]? = W2.heap[j]? := fun j hj hn => hg3.block j hj fun e => hn (by injection e)
          have hB3 : Bk w3 g 60 #[.map (some bi), .map (some ba), u, .int .i64 (c2.next : Int)] := (hk3 g (by omega) (Ne.symm hne.2.1)).trans HC2.out.blk
          have hX3 : Bk w3 wr.heap.size 39 #[.int .i64 (t.id : Int), .string t.name, .bool t.fixed] := (hk3 _ hs2 (by omega)).trans HBX.out
          have HA3 : Hid (w3.ownsMap Try.prog 3 tpR ba c2.all.length (tpD tpE c2.all)) := Lib.hid (ownsMap_keep Try.prog HC2.out.all (hk3 ba (by omega) hne.1.symm))
          have HO3 := Lib.hid hown3
          have HG3 := Lib.hid hg3
          have HX3 := Lib.hid hX3
          have HB3 := Lib.hid hB3
          have hb3 := hB3.client
          have hx3 := hX3.three.1
          obtain ⟨w4, hrun4, hown4, hturn4⟩ := (HA3.out.drew).drop lawI Try.underlying55 (keyOf_int_mk Try.underlying3 (wf_id hid.2)) 0
          have hg4 := hturn4.grown
          have hs3 := HG3.out.size
          have hk4 : ∀ j, j < w3.heap.size → j ≠ ba → w4.heap[j]? = w3.heap[j]? := fun j hj hn => hg4.block j hj fun e => hn (by injection e)
          have hB4 : Bk w4 g 60 #[.map (some bi), .map (some ba), u, .int .i64 (c2.next : Int)] := (hk4 g hB3.lt (Ne.symm hne.2.2.1)).trans hB3
          have hX4 : Bk w4 wr.heap.size 39 #[.int .i64 (t.id : Int), .string t.name, .bool t.fixed] := (hk4 _ hX3.lt (by omega)).trans hX3
          have HO4 := Lib.hid hown4
          have HG4 := Lib.hid hg4
          have HX4 := Lib.hid hX4
          have HB4 := Lib.hid hB4
          have hx4 := hX4.three.1
          have hb4' := hB4.client
          clear hown3 hturn3 hg3 hown4 hturn4 hg4 hk3 hk4 hB3 hB4 hX3 hX4
          go_region
          go_wp2
          go_region
          have hC2d : ClI W2.drew F2 g c2 bi ba u D2 := HC2.out.keep _ _ _ _ (Nat.le_refl _) fun _ _ => rfl
          have hC4 := hC2d.strike lawS HR.out.ok.toTpsOk HTC.out HO3.out HG3.out HO4.out (grown_undrew HG4.out)
          have HC4 := Lib.hid hC4
          have cP := hpush_any g c2.back.length _ _ u _ c2.back t.id w4.drew HB4.out hC4.row HR.out.ok.heap (by have := HR.out.len; omega)
          clear hC2d hC4
          go_wp2_with fail
          go_region_law ((go_simp; go_at_call 28; refine cP.mono ?_; rintro e w5 ⟨rfl, k5, cp5, l5, hF5, hP5, ho5, hM5⟩; have HF5 := Lib.hid hF5; have HP5 := Lib.hid hP5; have HO5 := Lib.hid ho5; have HM5 := Lib.hid hM5; clear hF5 hP5 ho5 hM5))
          go_wp2
          have hlt := hgu.out
          have hC4d : ClI w4.drew F2 g { c2 with all := tpDel t.id c2.all } bi ba u _ := HC4.out.keep _ _ _ _ (Nat.le_refl _) fun _ _ => rfl
          have hl5 := HF5.out.hp.len
          have hMF : Mods F2 wr w5 := ((Mods.of_below HB2.out).trans ((mod_two HG3.out HC2.out.fi).trans (mod_two HG4.out HC2.out.fa))).trans (mods_undrew (HM5.out.mono fun j _ hs => by
            rcases hs with rfl | hs
            · exact HC2.out.fg
            · exact HC2.out.fr j hs))
          have h4s : wr.heap.size ≤ w4.heap.size := Nat.le_trans HB2.out.size (Nat.le_trans HG3.out.size HG4.out.size)
          have hC5 := hC4d.back (v' := .slice (some ⟨k5, 0, none⟩) (c2.back.length + 1) cp5) (b' := l5) HF5.out.blk (by rw [hl5]; exact HF5.out.row) HM5.out.size
            (fun k e => by
              obtain rfl : k5 = k := by simpa [Value.ownBlock] using e
              exact HO5.out)
            (fun j hj h1 h2 => HM5.out.block j hj fun hs => by
              rcases hs with hs | hs
              · exact h1 hs
              · exact h2 hs)
          refine ⟨⟨i + 1, _, _, _, _, by simp, by omega, by rw [HST.out, if_neg (by rw [hf.out]; decide)]; simp, Lib.hid ⟨hC5, HR.out.ok.strike HTC.out hf.out HP5.out, ?_, ?_, fun j hj => ?_, mods_more HR.out.mods hMF HR.out.sub, own_mods HR.out.row hMF HR.out.apart, fun k hk hj => ?_⟩⟩, ?_⟩
          · show tpDel t.id c2.all = _
            rw [HDE.out (by rw [← HT.out]; exact (HS.out.ok.tops c).up) hf.out, HR.out.all]
          · show l5.length + (tpDel t.id c2.all).length ≤ K
            have h1 := tpDel_length HR.out.ok.up HTC.out
            have h2 := HR.out.len
            omega
          · rcases hj with hj | hj
            · exact HR.out.sub j hj
            · obtain rfl : k5 = j := by simpa [Value.ownBlock] using hj
              rcases HO5.out with h1 | h1
              · exact HR.out.sub k5 (HC2.out.fr k5 h1)
              · have h2 := HR.out.mods.size
                have h3 : w4.heap.size ≤ k5 := h1.1
                exact .inr (by omega)
          · rcases hj with hj | hj
            · exact HR.out.apart k hk hj
            · obtain rfl : k5 = k := by simpa [Value.ownBlock] using hj
              rcases HO5.out with h1 | h1
              · exact HR.out.apart k5 hk (HC2.out.fr k5 h1)
              · have h2 := (HR.out.row.lt k5 hk).2
                have h3 : w4.heap.size ≤ k5 := h1.1
                omega
          · simp [intOf]
            omega
      · have hie : i = T.length := by omega
        subst hie
        have hfin : c2.all = T.filter (·.fixed) := HR.out.all.trans (clrAt_end T)
        have HFI := Lib.hid hfin
        have hl := HR.out.inn.all.len Try.underlying55 3
        rw [tpD_size, hfin] at hl
        have hb4 := HR.out.inn.blk.client
        have hgpc : Bk wr gp 48 #[.map (some bm)] := HR.out.mods.block gp HA.out.cell.lt HA.out.gpn |>.trans HA.out.cell
        have hgp := hgpc.cell 0
        have hce := cntC_end T
        obtain ⟨w3, hrun3, hown3, hturn3⟩ := (ownsMap_keep Try.prog HA.out.own (HR.out.mods.block bm HA.out.own.lt HA.out.bmn)).drop lawS Try.underlying46 (WideMaps.keyOf_string_mk Try.underlying9 hc) 0
        have HO3 := Lib.hid hown3
        have HG3 := Lib.hid hturn3.grown
        have hr : rfClr L c = (((cntC T T.length : Nat) : Int), rgSet L c (T.filter (·.fixed))) := by
          unfold rfClr
          rw [HT.out, hce]
        have HRR := Lib.hid hr
        have HFN := Lib.hid hfin
        clear hown3 hturn3 hgpc hce hr hfin
        generalize hnf : (T.filter (·.fixed)).length = nf at hl
        have HNF := Lib.hid hnf
        clear hnf
        go_wp2
        · go_ret
          rw [HRR.out]
          have hz : nf = 0 := by
            have : ((nf : Int) == 0) = true := by assumption
            simpa using this
          have hnil : T.filter (·.fixed) = [] := List.eq_nil_of_length_eq_zero (HNF.out.trans hz)
          rw [hnil]
          exact ⟨rfl, HA.out.del wr w3 _ HR.out.mods HO3.out HG3.out⟩
        · go_ret
          rw [HRR.out]
          have hnz : nf ≠ 0 := by
            have : ((nf : Int) == 0) = false := by assumption
            simpa using this
          have hnn : c2.all ≠ [] := fun e => hnz (by rw [← HNF.out, ← HFN.out, e]; rfl)
          have := HA.out.upd wr F2 c2 u D2 HR.out.inn HR.out.ok hnn HR.out.len HR.out.sub HR.out.mods
          rw [HFN.out] at this
          exact ⟨rfl, this⟩
end Go.Proofs.Ytjbpafkdbfbdlaa
