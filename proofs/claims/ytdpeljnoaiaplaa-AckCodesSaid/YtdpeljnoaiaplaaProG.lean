/- The walk of prop.Bytes. -/
import Derived.Test.YtdpeljnoaiaplaaProF
namespace Go.Proofs.Ytdpeljnoaiaplaa
open Go.RowKit
attribute [local go_sem ↓] Go.wp_at_zero Go.wp_at_succ

theorem mk_app (a b : List UInt8) : (⟨a.toArray⟩ : ByteArray) ++ ⟨b.toArray⟩ = ⟨(a ++ b).toArray⟩ := by
  apply ByteArray.ext
  simp [ByteArray.data_append]
theorem empty_size {s : ByteArray} (h : s.toList.isEmpty = true) : s.size = 0 := by
  rw [Lib.toList_data] at h
  rw [Lib.size_eq]
  cases hl : s.data.toList with
  | nil => rfl
  | cons a t => rw [hl] at h; simp at h

theorem check_ok {kind : Int} {p : Pr} (h : checkE (ruleOf p.id) kind p = 0) : (0 ≤ p.id ∧ p.id < 64) ∧ 1 ≤ shapeOf p.id ∧ shapeOf p.id ≤ 7 ∧ (shapeOf p.id = 4 → p.n ≤ 268435455) ∧
    (5 ≤ shapeOf p.id → p.text.size ≤ 65535) ∧ (5 ≤ shapeOf p.id → p.value.size ≤ 65535) := by
  have hh : hasR (ruleOf p.id) kind = true := by
    cases hb : hasR (ruleOf p.id) kind
    · unfold checkE at h; rw [hb] at h; simp at h
    · rfl
  have hq : ∃ q ∈ ruleTab, (q.1 : Int) = p.id ∧ ruleOf p.id = q.2 := by
    unfold ruleOf at hh ⊢
    cases hf : ruleTab.find? fun q => (q.1 : Int) == p.id with
    | none => rw [hf] at hh; simp [hasR] at hh
    | some q => exact ⟨q, List.mem_of_find?_eq_some hf, by simpa using List.find?_some hf, rfl⟩
  obtain ⟨q, hm, hid, hr⟩ := hq
  have ht : ∀ q ∈ ruleTab, q.1 < 64 ∧ 1 ≤ q.2.shape ∧ q.2.shape ≤ 7 ∧ (q.2.shape = 4 → q.2.most ≤ 268435455) := by decide
  obtain ⟨h1, h2, h3, h4⟩ := ht q hm
  unfold checkE at h
  rw [hh] at h
  unfold shapeOf
  rw [hr] at h ⊢
  simp only [Bool.true_eq_false, if_false] at h
  refine ⟨by omega, h2, h3, ?_, ?_, ?_⟩
  · intro hs
    rw [if_pos (by omega)] at h
    unfold numE at h
    split at h
    · omega
    · split at h
      · omega
      · have := h4 hs; omega
  · intro hs
    rw [if_neg (by omega)] at h
    split at h
    · omega
    · split at h
      · split at h
        · omega
        · omega
      · split at h
        · omega
        · rename_i hv
          exact valid_size (by simpa using fun e => hv (.inl e))
  · intro hs
    rw [if_neg (by omega)] at h
    split at h
    · omega
    · rename_i hv0
      split at h
      · rename_i h6
        have : p.value.toList.isEmpty = true := by
          cases hb : p.value.toList.isEmpty
          · exact absurd (.inr ⟨hb, by omega⟩) hv0
          · rfl
        rw [empty_size this]; omega
      · split at h
        · omega
        · rename_i hv
          exact valid_size (by simpa using fun e => hv (.inr e))

theorem propL_len {kind : Int} {p : Pr} (h : checkE (ruleOf p.id) kind p = 0) : (propL p).length ≤ 131075 := by
  obtain ⟨-, h1, h7, h4, ht, hv⟩ := check_ok h
  unfold propL
  rw [List.length_cons, ls_len]
  have : (valueS (shapeOf p.id) p).size ≤ 131074 := by
    unfold valueS
    split
    · show (putL p.n (shapeOf p.id)).toArray.size ≤ _
      simp [putL_len]; omega
    · split
      · show (putL p.n 4).toArray.size ≤ _
        simp [putL_len]
      · split
        · show (varL p.n).toArray.size ≤ _
          have := varF_len 3 p.n
          simp [varL]; omega
        · split
          · rw [ByteArray.size_append, framedS_size, framedS_size]
            have := ht (by omega); have := hv (by omega); omega
          · rw [framedS_size]
            have := ht (by omega); omega
  omega

/-- What the loads of a round read, and what stands of the rest. -/
abbrev SS (q : Nat) (a b c d e : Value) (I : World → Prop) (x : World) : Prop :=
  x.cell? ⟨q, 0, none⟩ = some a ∧ x.cell? ⟨q, 1, none⟩ = some b ∧ x.cell? ⟨q, 2, none⟩ = some c ∧ x.cell? ⟨q, 3, none⟩ = some d ∧ x.cell? ⟨q + 1, 0, none⟩ = some e ∧ I x
section
variable {q : Nat} {a b c d e : Value} {w0 x y : World} {r g B0 : Nat} {f : Nat → Nat}
theorem SS.lt {I : World → Prop} (h : SS q a b c d e I x) : q + 1 < x.heap.size := World.block_lt_of_cell? x _ h.2.2.2.2.1
theorem SS.base (h : SS q a b c d e (Inv w0 r g B0 f) x) : B0 ≤ x.heap.size := h.2.2.2.2.2.2.2.2.1
theorem SS.alloc (h : SS q a b c d e (Inv w0 r g B0 f) x) (o : Obj) : SS q a b c d e (Inv w0 r g B0 f) (x.alloc o) := by
  have hl := h.lt
  obtain ⟨h1, h2, h3, h4, h5, h6⟩ := h
  exact ⟨(World.cell?_alloc_lt x o _ (by show q < _; omega)).trans h1, (World.cell?_alloc_lt x o _ (by show q < _; omega)).trans h2, (World.cell?_alloc_lt x o _ (by show q < _; omega)).trans h3,
    (World.cell?_alloc_lt x o _ (by show q < _; omega)).trans h4, (World.cell?_alloc_lt x o _ (by show q + 1 < _; omega)).trans h5, h6.alloc o⟩
theorem SS.below (h : SS q a b c d e (Inv w0 r g B0 f) x) (hb : Below x.heap.size x y) : SS q a b c d e (Inv w0 r g B0 f) y := by
  have hl := h.lt
  have hr := (below_rules hb).1
  obtain ⟨h1, h2, h3, h4, h5, h6⟩ := h
  exact ⟨(hr _ _ (by omega)).trans h1, (hr _ _ (by omega)).trans h2, (hr _ _ (by omega)).trans h3, (hr _ _ (by omega)).trans h4, (hr _ _ (by omega)).trans h5, h6.below hb⟩
theorem SS.app {v : Value} (h : SS q a b c d e (Inv w0 r g B0 f) x) (hg : x.grownBy y v.ownBlock) (hv : ∀ k, v.ownBlock = some k → B0 ≤ k ∧ k ≠ q ∧ k ≠ q + 1) : SS q a b c d e (Inv w0 r g B0 f) y := by
  obtain ⟨h1, h2, h3, h4, h5, h6⟩ := h
  have n1 : some q ≠ v.ownBlock := fun e => (hv _ e.symm).2.1 rfl
  have n2 : some (q + 1) ≠ v.ownBlock := fun e => (hv _ e.symm).2.2 rfl
  exact ⟨hg.cell h1 n1, hg.cell h2 n1, hg.cell h3 n1, hg.cell h4 n1, hg.cell h5 n2, h6.app hg fun k hk => (hv k hk).1⟩
theorem own_next {t : TypeId} {k n : Nat} {xs : List Value} {v v1 : Value} {I : World → Prop} (h1 : y.ownsRow B0 t k v1 n xs) (hat : v1.ownBlock = v.ownBlock ∨ v1.ownBlock = some x.heap.size) (hS : SS q a b c d e I x)
    (hv : ∀ k, v.ownBlock = some k → B0 ≤ k ∧ k ≠ q ∧ k ≠ q + 1) : ∀ k, v1.ownBlock = some k → B0 ≤ k ∧ k ≠ q ∧ k ≠ q + 1 := by
  intro m hm
  have hl := hS.lt
  rcases hat with hat | hat
  · exact hv m (hat ▸ hm)
  · rw [hat] at hm
    have hb := (own_block h1 m (hat ▸ hm)).1
    cases hm
    exact ⟨hb, by omega, by omega⟩
end

theorem seenC_zero : seenC (fun _ => 0) = #[.int .i64 0, .int .i64 0, .int .i64 0, .int .i64 0, .int .i64 0, .int .i64 0, .int .i64 0, .int .i64 0, .int .i64 0, .int .i64 0, .int .i64 0, .int .i64 0, .int .i64 0, .int .i64 0, .int .i64 0, .int .i64 0, .int .i64 0, .int .i64 0, .int .i64 0, .int .i64 0, .int .i64 0, .int .i64 0, .int .i64 0, .int .i64 0, .int .i64 0, .int .i64 0, .int .i64 0, .int .i64 0, .int .i64 0, .int .i64 0, .int .i64 0, .int .i64 0, .int .i64 0, .int .i64 0, .int .i64 0, .int .i64 0, .int .i64 0, .int .i64 0, .int .i64 0, .int .i64 0, .int .i64 0, .int .i64 0, .int .i64 0, .int .i64 0, .int .i64 0, .int .i64 0, .int .i64 0, .int .i64 0, .int .i64 0, .int .i64 0, .int .i64 0, .int .i64 0, .int .i64 0, .int .i64 0, .int .i64 0, .int .i64 0, .int .i64 0, .int .i64 0, .int .i64 0, .int .i64 0, .int .i64 0, .int .i64 0, .int .i64 0, .int .i64 0] := by kernel_rfl

set_option maxHeartbeats 4000000 in
set_option maxRecDepth 10000 in
theorem bytesP_any (kind : Int) (l : List Pr) (hok : ∀ p ∈ l, p.Ok) (A : Option Addr) (cap : Nat) (w : World) (h : Rd w w.heap.size 4 A l.length (prs l)) (hl : l.length ≤ 4611686018427387904) :
    Calls Try.prog 38 #[.int .i64 kind, .slice A l.length cap] w fun e w' => e = .returned (.tuple #[.string ⟨(bytesS kind l).1.toArray⟩, .int .i64 (bytesS kind l).2]) ∧ Below w.heap.size w w' := by
  by_cases hlen : 1000 < l.length
  · have d1 : decide ((1000 : Int) < (l.length : Int)) = true := decide_eq_true (by omega)
    have d2 : (1000 : Int) < (l.length : Int) := by omega
    have HF : Hid (bytesS kind l = ([], 4)) := Lib.hid (by rw [bytesS, if_pos hlen])
    clear h hl hok hlen
    go_enter Try.func38, Try.ntmps38
    go_wp2
    go_ret2
    exact ⟨by rw [HF.out]; rfl, Below.refl _ _⟩
  · have d1 : decide ((1000 : Int) < (l.length : Int)) = false := decide_eq_false (by omega)
    have HF : Hid (bytesS kind l = bytesGo kind l (fun _ => 0) []) := Lib.hid (by rw [bytesS, if_neg hlen])
    have HA := Lib.hid (show l.length ≤ 1000 by omega)
    have HR := Lib.hid h; have HO := Lib.hid hok
    clear h hl hok hlen
    go_enter Try.func38, Try.ntmps38
    go_wp2_with fail
    refine (rules_any _).mono ?_
    rintro e w1 ⟨rfl, hT, hb⟩
    have HI : Hid (Inv w w.heap.size w1.heap.size (w1.heap.size + 1) (fun _ => 0) (w1.alloc (.cells (seenC fun _ => 0) ST))) := Lib.hid
      ⟨hb.alloc hb.size _, hT.alloc _, Bk.fresh _ _ _, by simp, by have := hT.lt; omega, by omega, by have := hb.size; omega⟩
    have HT := Lib.hid hT; have HB := Lib.hid hb
    clear hT hb
    go_wp2_with fail
    go_loopw [8, 21] (fun v i wr => ∃ (k : Nat) (f : Nat → Nat) (out : List UInt8), k ≤ l.length ∧ i = .int .i64 k ∧ bytesGo kind l (fun _ => 0) [] = bytesGo kind (l.drop k) f out ∧ out.length ≤ k * 131075 ∧ (∀ i, f i ≤ k) ∧
        Inv w w.heap.size w1.heap.size (w1.heap.size + 1) f wr ∧ wr.ownsRow (w1.heap.size + 1) 5 1 v out.length (bys out)) (fun _ i _ => l.length - (intOf i).toNat)
    case atStart => exact ⟨0, fun _ => 0, [], by omega, rfl, rfl, by simp, fun _ => Nat.le_refl 0, by have := HI.out; rw [seenC_zero] at this; exact this, World.ownsRow_nil _ _ _ _⟩
    case round =>
      obtain ⟨k, f, out, hk, rfl, hgo, hol, hf, hinv, hown⟩ := hrel
      have HGO := Lib.hid hgo; have HOL := Lib.hid hol; have HF' := Lib.hid hf; have HINV := Lib.hid hinv; have HOWN := Lib.hid hown
      clear hgo hol hf hinv hown
      by_cases hlt : k < l.length
      · obtain ⟨b, o, rfl, hb, c0, c1, c2, c3⟩ := (HR.out.below HINV.out.1).atP hlt
        have HP := Lib.hid (HO.out l[k] (List.getElem_mem hlt))
        have HD := Lib.hid (List.drop_eq_getElem_cons hlt)
        obtain ⟨p, hp⟩ : ∃ p, l[k] = p := ⟨_, rfl⟩
        rw [hp] at c0 c1 c2 c3 HP HD
        have HLT := Lib.hid hlt
        clear hp
        obtain ⟨id, n, t, v⟩ := p
        have h0k : (0 : Int) ≤ (k : Int) := by omega
        have hki : (k : Int) < (l.length : Int) := by omega
        obtain ⟨sh, ki, le, mo, HRL, hlk⟩ := rule_look id
        have hl1 := hlk _ _ (HINV.out.alloc (.cells #[.int .i64 id, .int .u32 n, .string t, .string v] 46)).2.1
        have hz1 := (Bk.fresh wr 46 #[.int .i64 id, .int .u32 n, .string t, .string v]).alloc (.cells #[.int .i64 sh, .int .i64 ki, .int .u32 le, .int .u32 mo] 102)
        have hz2 : Bk ((wr.alloc (.cells #[.int .i64 id, .int .u32 n, .string t, .string v] 46)).alloc (.cells #[.int .i64 sh, .int .i64 ki, .int .u32 le, .int .u32 mo] 102)) (wr.heap.size + 1) 102 #[.int .i64 sh, .int .i64 ki, .int .u32 le, .int .u32 mo] := by
          simpa using Bk.fresh (wr.alloc (.cells #[.int .i64 id, .int .u32 n, .string t, .string v] 46)) 102 #[.int .i64 sh, .int .i64 ki, .int .u32 le, .int .u32 mo]
        have HINV2 := Lib.hid ((HINV.out.alloc (.cells #[.int .i64 id, .int .u32 n, .string t, .string v] 46)).alloc (.cells #[.int .i64 sh, .int .i64 ki, .int .u32 le, .int .u32 mo] 102))
        have HOWN2 := Lib.hid ((HOWN.out.alloc (.cells #[.int .i64 id, .int .u32 n, .string t, .string v] 46)).alloc (.cells #[.int .i64 sh, .int .i64 ki, .int .u32 le, .int .u32 mo] 102))
        have HZ1 := Lib.hid hz1; have HZ2 := Lib.hid hz2
        have HSZ : Hid (w1.heap.size + 1 ≤ wr.heap.size) := Lib.hid HINV.out.2.2.2.1
        clear hz1 hz2 hlk
        go_wp2_with fail
        refine (check_any ⟨sh, ki, le, mo⟩ (HRL.out ▸ ruleOf_ok id) kind ⟨id, n, t, v⟩ HP.out _).mono ?_
        rintro e w2 ⟨rfl, hb2⟩
        have HY1 := Lib.hid (HZ1.out.below hb2 HZ1.out.lt)
        have HY2 := Lib.hid (HZ2.out.below hb2 HZ2.out.lt)
        have HINV3 := Lib.hid (HINV2.out.below hb2)
        have HOWN3 := Lib.hid (own_below HOWN2.out hb2)
        clear hb2 hl1 c0 c1 c2 c3 HZ1 HZ2 HINV2 HOWN2 HINV HOWN
        obtain ⟨E, hE⟩ : ∃ E, checkE ⟨sh, ki, le, mo⟩ kind ⟨id, n, t, v⟩ = E := ⟨_, rfl⟩
        rw [hE]
        have HE : Hid (checkE (ruleOf id) kind ⟨id, n, t, v⟩ = E) := Lib.hid (by rw [HRL.out]; exact hE)
        clear hE
        by_cases hE0 : E = 0
        · have e0 : (E != 0) = false := by subst hE0; rfl
          obtain ⟨⟨hid0, hid64⟩, hs1, hs7, hs4, hst, hsv⟩ := check_ok (p := ⟨id, n, t, v⟩) (HE.out.trans hE0)
          obtain ⟨c, hc⟩ : ∃ c : UInt8, (c.toNat : Int) = id := ⟨UInt8.ofNat id.toNat, by simp only at hid0 hid64; rw [UInt8.toNat_ofNat']; omega⟩
          subst hc
          have hshape : shapeOf (c.toNat : Int) = sh := by rw [shapeOf, HRL.out]
          simp only [hshape] at hs1 hs7 hs4 hst hsv
          have HV := Lib.hid (And.intro hs1 (And.intro hs7 (And.intro hs4 (And.intro hst hsv))))
          have HC : Hid (c.toNat < 64) := Lib.hid (by simp only at hid64; omega)
          have HLEN := Lib.hid (propL_len (p := ⟨(c.toNat : Int), n, t, v⟩) (HE.out.trans hE0))
          have HSH := Lib.hid hshape
          obtain ⟨⟨d0, d1', d2, d3⟩, g0, g1, g2, g3⟩ := HY1.out.four
          clear hid0 hid64 hs1 hs7 hs4 hst hsv hshape g0 g1 g2 g3
          have HE0 := Lib.hid hE0; clear hE0
          go_wp2_with fail
          refine (again_any w1.heap.size f kind c.toNat HC.out (by have := HF'.out c.toNat; have := HLT.out; have := HA.out; omega) w2 HINV3.out.2.2.1).mono ?_
          rintro e w3 ⟨rfl, hs3, hm3⟩
          have hgr : w1.heap.size ≠ wr.heap.size := by have := HSZ.out; omega
          have hgr2 : w1.heap.size ≠ wr.heap.size + 1 := by have := HSZ.out; omega
          have HX1 : Hid (Bk w3 wr.heap.size 46 #[.int .i64 c.toNat, .int .u32 n, .string t, .string v]) := Lib.hid ((hm3.block _ HY1.out.lt (by simpa using fun e => hgr e.symm)).trans HY1.out)
          have HX2 : Hid (Bk w3 (wr.heap.size + 1) 102 #[.int .i64 sh, .int .i64 ki, .int .u32 le, .int .u32 mo]) := Lib.hid ((hm3.block _ HY2.out.lt (by simpa using fun e => hgr2 e.symm)).trans HY2.out)
          have HINV4 := Lib.hid (HINV3.out.again hm3 (by have := HT.out.lt; omega) HB.out.size hs3)
          have HOWN4 := Lib.hid (HOWN3.out.kept hm3 (.inr fun e => by have := (own_block HOWN3.out _ e).1; omega))
          clear hm3 hs3 HY1 HY2 HINV3 HOWN3 hgr hgr2 d0 d1' d2 d3
          obtain ⟨G, hG⟩ : ∃ G, againB f kind c.toNat = G := ⟨_, rfl⟩
          rw [hG]
          cases G
          · have HG := Lib.hid hG; clear hG
            obtain ⟨⟨d0, d1', d2, d3⟩, -⟩ := HX1.out.four
            obtain ⟨⟨r0, r1, r2, r3⟩, -⟩ := HX2.out.four
            have hw8 : IntKind.u8.wrap (c.toNat : Int) = (c.toNat : Int) := by have := UInt8.toNat_lt c; rw [IntKind.wrap_u8]; omega
            have hq1 : u8.ownBlock ≠ some wr.heap.size := own_ne HOWN4.out HX1.out (by decide)
            have hq2 : u8.ownBlock ≠ some (wr.heap.size + 1) := own_ne HOWN4.out HX2.out (by decide)
            have HQ : Hid (∀ m, u8.ownBlock = some m → w1.heap.size + 1 ≤ m ∧ m ≠ wr.heap.size ∧ m ≠ wr.heap.size + 1) := Lib.hid fun m hm =>
              ⟨(own_block HOWN4.out m hm).1, fun e => hq1 (by rw [hm, e]), fun e => hq2 (by rw [hm, e])⟩
            have HN4 : Hid (n < 4294967296) := Lib.hid HP.out.1
            obtain ⟨VV, hVV⟩ : ∃ VV, valueS sh ⟨(c.toNat : Int), n, t, v⟩ = VV := ⟨_, rfl⟩
            have HVL : Hid (VV.size ≤ 131074) := Lib.hid (by have := HLEN.out; unfold propL at this; rw [HSH.out, hVV, List.length_cons, ls_len] at this; omega)
            have HOL2 : Hid (out.length ≤ 131075000) := Lib.hid (by have := HOL.out; have := HA.out; have := HLT.out; omega)
            have HVV := Lib.hid hVV
            clear hq1 hq2 hVV r1 r2 r3
            go_wp2_with fail
            go_region_held3 (fun x => x.cell? ⟨wr.heap.size, 0, none⟩ = some (.int .i64 c.toNat) ∧ x.cell? ⟨wr.heap.size, 1, none⟩ = some (.int .u32 n) ∧ x.cell? ⟨wr.heap.size, 2, none⟩ = some (.string t) ∧ x.cell? ⟨wr.heap.size, 3, none⟩ = some (.string v) ∧
                x.cell? ⟨wr.heap.size + 1, 0, none⟩ = some (.int .i64 sh) ∧ Inv w w.heap.size w1.heap.size (w1.heap.size + 1) (upd f c.toNat (f c.toNat + 1)) x)
              (first | exact ⟨d0, d1', d2, d3, r0, HINV4.out.drewN 1⟩ | exact SS.app (by assumption) hg2 hv1 | exact SS.app (by assumption) hg1 HQ.out | exact SS.below (by assumption) hbv | exact SS.alloc (by assumption) _)
              (first | (go_at_call 81; refine (value_any sh ⟨(c.toNat : Int), n, t, v⟩ HV.out.1 HV.out.2.1 HN4.out HV.out.2.2.1 HV.out.2.2.2.1 HV.out.2.2.2.2 _).mono ?_; rintro e w4 ⟨rfl, hbv⟩; rw [HVV.out])
                     | (refine step_app (by rfl) _ _ _ (by rfl) (w1.heap.size + 1) 5 (.int .u8 0) 1 1 Try.underlying42 info_byte rfl (by decide) u8 _ _ (by rfl)
                          (by first | exact own_below ((own_drewN HOWN4.out 1).alloc _) hbv | exact (own_below (own_drewN HOWN4.out 1) hbv).alloc _ | exact (own_drewN HOWN4.out 1).alloc _) _ _ 1 1 (bys [c]) (by rfl)
                          (by first | exact (Rd.lit _ _ _ rfl (Nat.lt_succ_self _) rfl).below hbv | exact Rd.lit _ _ _ rfl (Nat.lt_succ_self _) rfl) (bys_one _) (by have := HOL2.out; unfold maxLen; omega) (by have := HOL2.out; omega) (SS.base (by assumption)) ?_; intro v1 w5 hown1 hg1 hat1; have hv1 := own_next hown1 hat1 (by assumption) HQ.out)
                     | (refine step_appS (by rfl) _ _ _ _ (by rfl) (w1.heap.size + 1) 5 Try.underlying42 Try.underlying9 info_byte v1 _ _ (by rfl)
                          (by first | exact own_below hown1 hbv | exact hown1) VV (by rfl) (by have := HOL2.out; have := HVL.out; unfold maxLen; omega) (by have := HOL2.out; have := HVL.out; omega) (SS.base (by assumption)) ?_; intro v2 w6 hown2 hg2))
            have hI : SS wr.heap.size (.int .i64 c.toNat) (.int .u32 n) (.string t) (.string v) (.int .i64 sh) (Inv w w.heap.size w1.heap.size (w1.heap.size + 1) (upd f c.toNat (f c.toNat + 1))) w6 := by assumption
            have R : ∃ (f' : Nat → Nat) (out' : List UInt8), bytesGo kind l (fun _ => 0) [] = bytesGo kind (l.drop (k + 1)) f' out' ∧ out'.length ≤ (k + 1) * 131075 ∧ (∀ i, f' i ≤ k + 1) ∧
                Inv w w.heap.size w1.heap.size (w1.heap.size + 1) f' w6 ∧ w6.ownsRow (w1.heap.size + 1) 5 1 v2 out'.length (bys out') := by
              have hpl : propL ⟨(c.toNat : Int), n, t, v⟩ = c :: ls VV := by
                unfold propL
                rw [HSH.out, HVV.out]
                simp
              refine ⟨_, out ++ propL ⟨(c.toNat : Int), n, t, v⟩, ?_, ?_, ?_, hI.2.2.2.2.2, ?_⟩
              · rw [HGO.out, HD.out, bytesGo, if_neg (by rw [HE.out, HE0.out]; simp), if_neg (by simp [HG.out])]
                simp
              · have := HLEN.out; have := HOL.out
                rw [List.length_append]; omega
              · intro i
                have q1 := HF'.out c.toNat
                have q2 := HF'.out i
                show (if i = c.toNat then f c.toNat + 1 else f i) ≤ k + 1
                by_cases hi : i = c.toNat
                · rw [if_pos hi]; omega
                · rw [if_neg hi]; omega
              · rw [hpl]
                have e1 : (out ++ c :: ls VV).length = out.length + 1 + VV.size := by simp [ls_len]; omega
                have e2 : bys (out ++ c :: ls VV) = bys out ++ bys [c] ++ bys (ls VV) := by simp [bys]
                rw [e1, e2]
                exact hown2
            have HRR := Lib.hid R
            have hk1k : (k : Int) < 1000 := by have := HA.out; have := HLT.out; omega
            clear R hI hown1 hown2 hg1 hg2 hat1 hv1 hbv d0 d1' d2 d3 r0
            go_wp2
            go_roundw
            case rel =>
              obtain ⟨f', out', r1, r2, r3, r4, r5⟩ := HRR.out
              exact ⟨k + 1, f', out', by omega, by go_num, r1, r2, r3, r4, r5⟩
            case measure => simp [intOf]; omega
          · have HX : Hid (bytesS kind l = ([], 9)) := Lib.hid (by rw [HF.out, HGO.out, HD.out, bytesGo, if_neg (by rw [HE.out, HE0.out]; simp), if_pos (by simpa using hG)])
            have HB2 := Lib.hid HINV4.out.1
            clear hG
            go_wp2
            go_ret2
            exact ⟨by rw [HX.out]; rfl, HB2.out⟩
        · have e0 : (E != 0) = true := bne_iff_ne.2 hE0
          have HX : Hid (bytesS kind l = ([], E)) := Lib.hid (by rw [HF.out, HGO.out, HD.out, bytesGo, if_pos (by rw [HE.out]; exact hE0), HE.out])
          have HB2 := Lib.hid HINV3.out.1
          go_wp2
          go_ret2
          exact ⟨by rw [HX.out]; rfl, HB2.out⟩
      · obtain rfl : k = l.length := by omega
        have hend : bytesGo kind l (fun _ => 0) [] = if loneB f = true then ([], 9) else (varL out.length ++ out, 0) := by
          rw [HGO.out, List.drop_length]; rfl
        have HEND := Lib.hid hend; clear hend
        obtain ⟨A', c', rfl, hc', hrd⟩ := own_rd HOWN.out
        have HRD := Lib.hid hrd; clear hrd
        have HOL2 : Hid (out.length ≤ 131075000) := Lib.hid (by have := HOL.out; have := HA.out; omega)
        go_wp2_with fail
        refine (lone_any w1.heap.size f _ HINV.out.2.2.1).mono ?_
        rintro e w2 ⟨rfl, hw2⟩
        subst hw2
        rw [show (decide (0 < f 22) && f 21 == 0) = loneB f from rfl]
        cases hL : loneB f
        · have HX : Hid (bytesS kind l = (varL out.length ++ out, 0)) := Lib.hid (by rw [HF.out, HEND.out, hL]; rfl)
          clear hL
          go_wp2_with fail
          refine (varBytes_any out.length _ (by have := HOL2.out; omega)).mono ?_
          rintro e w3 ⟨rfl, hb3⟩
          have hconv := conv_rd (P := Try.prog) 42 9 5 Try.underlying42 Try.underlying5 Try.underlying9 c' (HRD.out.below hb3)
          have HBB := Lib.hid (HINV.out.1.trans (hb3.mono HINV.out.1.size))
          have hsum : ¬ (9223372036854775807 < (⟨(varL out.length).toArray⟩ : ByteArray).size + (⟨out.toArray⟩ : ByteArray).size) := by
            have h1 : (⟨(varL out.length).toArray⟩ : ByteArray).size = (varL out.length).length := by show (varL out.length).toArray.size = _; simp
            have h2 : (⟨out.toArray⟩ : ByteArray).size = out.length := by show out.toArray.size = _; simp
            have := varF_len 3 out.length
            have := HOL2.out
            rw [h1, h2]
            unfold varL
            omega
          clear hb3
          go_wp2
          go_ret2
          exact ⟨by rw [HX.out]; exact congrArg (fun b => Ending.returned (.tuple #[.string b, .int .i64 0])) (mk_app _ _), HBB.out⟩
        · have HX : Hid (bytesS kind l = ([], 9)) := Lib.hid (by rw [HF.out, HEND.out, hL]; rfl)
          have HBB := Lib.hid HINV.out.1
          clear hL
          go_wp2
          go_ret2
          exact ⟨by rw [HX.out]; rfl, HBB.out⟩
end Go.Proofs.Ytdpeljnoaiaplaa
