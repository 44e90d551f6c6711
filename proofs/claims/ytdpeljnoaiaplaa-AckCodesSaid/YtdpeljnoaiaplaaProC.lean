/- What is wrong with a property: the walks of checkNumber, check, Check. -/
import Derived.Test.YtdpeljnoaiaplaaProB
import Derived.Test.YtdpeljnoaiaplaaTopC
namespace Go.Proofs.Ytdpeljnoaiaplaa
open Go.RowKit

/-- A property. -/
structure Pr where
  id : Int
  n : Nat
  text : ByteArray
  value : ByteArray
def Pr.val (p : Pr) : Value := .agg #[.int .i64 p.id, .int .u32 p.n, .string p.text, .string p.value]
def Pr.Ok (p : Pr) : Prop := p.n < 4294967296 ∧ p.text.size ≤ 4611686018427387904 ∧ p.value.size ≤ 4611686018427387904

def numE (r : Rule) (p : Pr) : Int :=
  if p.text.toList.isEmpty = false ∨ p.value.toList.isEmpty = false then 2 else if p.n < r.least ∨ r.most < p.n then 9 else 0
def checkE (r : Rule) (kind : Int) (p : Pr) : Int :=
  if hasR r kind = false then 9
  else if r.shape ≤ 4 then numE r p
  else if p.n ≠ 0 ∨ (p.value.toList.isEmpty = false ∧ r.shape ≠ 7) then 2
  else if r.shape = 6 then (if 65535 < p.text.size then 2 else 0)
  else if validB p.text = false ∨ validB p.value = false then 6
  else if p.id = 8 ∧ nameB p.text = false then 9
  else 0

set_option maxHeartbeats 400000 in
set_option maxRecDepth 10000 in
theorem checkNumber_any (r : Rule) (p : Pr) (w : World) :
    Calls Try.prog 114 #[r.val, p.val] w fun e w' => e = .returned (.int .i64 (numE r p)) ∧ Below w.heap.size w w' := by
  obtain ⟨sh, ki, le, mo⟩ := r
  obtain ⟨id, n, t, v⟩ := p
  obtain ⟨E, hE⟩ : ∃ E, numE ⟨sh, ki, le, mo⟩ ⟨id, n, t, v⟩ = E := ⟨_, rfl⟩
  have HE := Lib.hid hE
  simp only [Rule.val, Pr.val, hE]
  simp only [numE] at hE
  cases ht : t.toList.isEmpty
  · have HF : Hid (E = 2) := Lib.hid (by rw [← hE, if_pos (.inl ht)])
    clear hE HE
    go_enter Try.func114, Try.ntmps114
    go_wp2
    go_ret
    exact ⟨by rw [HF.out]; rfl, ((Below.refl _ _).alloc (Nat.le_refl _) _).alloc (by simp) _⟩
  · cases hv : v.toList.isEmpty
    · have HF : Hid (E = 2) := Lib.hid (by rw [← hE, if_pos (.inr hv)])
      clear hE HE
      go_enter Try.func114, Try.ntmps114
      go_wp2
      go_ret
      exact ⟨by rw [HF.out]; rfl, ((Below.refl _ _).alloc (Nat.le_refl _) _).alloc (by simp) _⟩
    · rw [if_neg (by simp [ht, hv])] at hE
      by_cases h1 : n < le
      · have d1 : decide (n < le) = true := decide_eq_true h1
        have HF : Hid (E = 9) := Lib.hid (by rw [← hE, if_pos (.inl h1)])
        clear hE HE h1
        go_enter Try.func114, Try.ntmps114
        go_wp2
        go_ret
        exact ⟨by rw [HF.out]; rfl, ((Below.refl _ _).alloc (Nat.le_refl _) _).alloc (by simp) _⟩
      · have d1 : decide (n < le) = false := decide_eq_false h1
        by_cases h2 : mo < n
        · have d2 : decide (mo < n) = true := decide_eq_true h2
          have HF : Hid (E = 9) := Lib.hid (by rw [← hE, if_pos (.inr h2)])
          clear hE HE h1 h2
          go_enter Try.func114, Try.ntmps114
          go_wp2
          go_ret
          exact ⟨by rw [HF.out]; rfl, ((Below.refl _ _).alloc (Nat.le_refl _) _).alloc (by simp) _⟩
        · have d2 : decide (mo < n) = false := decide_eq_false h2
          have HF : Hid (E = 0) := Lib.hid (by rw [← hE, if_neg (by omega)])
          clear hE HE h1 h2
          go_enter Try.func114, Try.ntmps114
          go_wp2
          go_ret
          exact ⟨by rw [HF.out]; rfl, ((Below.refl _ _).alloc (Nat.le_refl _) _).alloc (by simp) _⟩



set_option maxHeartbeats 1000000 in
set_option maxRecDepth 10000 in
theorem check_any (r : Rule) (hr : RuleOk r) (kind : Int) (p : Pr) (hp : p.Ok) (w : World) :
    Calls Try.prog 79 #[r.val, .int .i64 kind, p.val] w fun e w' => e = .returned (.int .i64 (checkE r kind p)) ∧ Below w.heap.size w w' := by
  obtain ⟨sh, ki, le, mo⟩ := r
  obtain ⟨id, n, t, v⟩ := p
  have HR := Lib.hid hr; clear hr
  obtain ⟨E, hE⟩ : ∃ E, checkE ⟨sh, ki, le, mo⟩ kind ⟨id, n, t, v⟩ = E := ⟨_, rfl⟩
  have HE := Lib.hid hE
  have HP : Hid (t.size ≤ 4611686018427387904 ∧ v.size ≤ 4611686018427387904) := Lib.hid hp.2
  simp only [Rule.val, Pr.val, hE]
  clear hE hp
  have HZ0 := Lib.hid ((Bk.fresh w 102 #[.int .i64 sh, .int .i64 ki, .int .u32 le, .int .u32 mo]).alloc (.cells #[.int .i64 id, .int .u32 n, .string t, .string v] 46))
  have HZ1 : Hid (Bk ((w.alloc (.cells #[.int .i64 sh, .int .i64 ki, .int .u32 le, .int .u32 mo] 102)).alloc (.cells #[.int .i64 id, .int .u32 n, .string t, .string v] 46)) (w.heap.size + 1) 46 #[.int .i64 id, .int .u32 n, .string t, .string v]) :=
    Lib.hid (by simpa using Bk.fresh (w.alloc (.cells #[.int .i64 sh, .int .i64 ki, .int .u32 le, .int .u32 mo] 102)) 46 #[.int .i64 id, .int .u32 n, .string t, .string v])
  have HL := Lib.hid (((Below.refl w.heap.size w).alloc (Nat.le_refl _) (.cells #[.int .i64 sh, .int .i64 ki, .int .u32 le, .int .u32 mo] 102)).alloc (by simp) (.cells #[.int .i64 id, .int .u32 n, .string t, .string v] 46))
  go_enter Try.func79, Try.ntmps79
  go_wp2_with fail
  refine (has_rule ⟨sh, ki, le, mo⟩ HR.out kind _).mono ?_
  rintro e w1 ⟨rfl, hb⟩
  have hz0 := HZ0.out.below hb HZ0.out.lt
  have hz1 := HZ1.out.below hb HZ1.out.lt
  have hl := HL.out.trans (hb.mono HL.out.size)
  clear HZ0 HZ1 HL hb
  obtain ⟨⟨c0, c1, c2, c3⟩, f0, f1, f2, f3⟩ := hz0.four
  obtain ⟨⟨d0, d1, d2, d3⟩, g0, g1, g2, g3⟩ := hz1.four
  have HZ0 := Lib.hid hz0; have HZ1 := Lib.hid hz1; have HL := Lib.hid hl
  clear hz0 hz1 hl f0 f1 f2 f3 g0 g1 g2 g3
  cases h1 : hasR ⟨sh, ki, le, mo⟩ kind
  · have HF : Hid (E = 9) := Lib.hid (by rw [← HE.out]; unfold checkE; rw [h1]; simp [])
    go_wp2
    go_ret
    exact ⟨by rw [HF.out]; rfl, HL.out⟩
  · by_cases h4 : sh ≤ 4
    · have s4 : decide ((sh : Int) ≤ 4) = true := decide_eq_true (by omega)
      have HF : Hid (E = numE ⟨sh, ki, le, mo⟩ ⟨id, n, t, v⟩) := Lib.hid (by rw [← HE.out]; unfold checkE; rw [h1]; simp [h4])
      clear h4
      go_wp2_with fail
      refine (checkNumber_any ⟨sh, ki, le, mo⟩ ⟨id, n, t, v⟩ _).mono ?_
      rintro e w2 ⟨rfl, hb⟩
      rw [← HF.out]
      have HL := Lib.hid (HL.out.trans (hb.mono HL.out.size)); clear hb
      go_wp2
      go_ret
      exact ⟨rfl, HL.out⟩
    · have s4 : decide ((sh : Int) ≤ 4) = false := decide_eq_false (by omega)
      by_cases hn : n = 0
      · have sn : ((n : Int) != 0) = false := by subst hn; rfl
        cases hv : v.toList.isEmpty
        · by_cases h7 : sh = 7
          · have s7 : ((sh : Int) != 7) = false := by subst h7; rfl
            have h6 : ¬ sh = 6 := by omega
            have s6 : ((sh : Int) == 6) = false := beq_eq_false_iff_ne.2 (by omega)
            go_wp2_with fail
            refine (valid_any t _ HP.out.1).mono ?_
            clear c0 c1 c2 c3 d0 d1 d2 d3
            rintro e w1 ⟨rfl, hb⟩
            have hz0 := HZ0.out.below hb HZ0.out.lt
            have hz1 := HZ1.out.below hb HZ1.out.lt
            have hl := HL.out.trans (hb.mono HL.out.size)
            clear HZ0 HZ1 HL hb
            obtain ⟨⟨c0, c1, c2, c3⟩, f0, f1, f2, f3⟩ := hz0.four
            obtain ⟨⟨d0, d1, d2, d3⟩, g0, g1, g2, g3⟩ := hz1.four
            have HZ0 := Lib.hid hz0; have HZ1 := Lib.hid hz1; have HL := Lib.hid hl
            clear hz0 hz1 hl f0 f1 f2 f3 g0 g1 g2 g3
            cases hvt : validB t
            · have HF : Hid (E = 6) := Lib.hid (by rw [← HE.out]; unfold checkE; rw [h1]; simp [hn, hv, hvt, h7])
              go_wp2
              go_ret
              exact ⟨by rw [HF.out]; rfl, HL.out⟩
            · have HVT := Lib.hid hvt; clear hvt
              go_wp2_with fail
              refine (valid_any v _ HP.out.2).mono ?_
              clear c0 c1 c2 c3 d0 d1 d2 d3
              rintro e w1 ⟨rfl, hb⟩
              have hz0 := HZ0.out.below hb HZ0.out.lt
              have hz1 := HZ1.out.below hb HZ1.out.lt
              have hl := HL.out.trans (hb.mono HL.out.size)
              clear HZ0 HZ1 HL hb
              obtain ⟨⟨c0, c1, c2, c3⟩, f0, f1, f2, f3⟩ := hz0.four
              obtain ⟨⟨d0, d1, d2, d3⟩, g0, g1, g2, g3⟩ := hz1.four
              have HZ0 := Lib.hid hz0; have HZ1 := Lib.hid hz1; have HL := Lib.hid hl
              clear hz0 hz1 hl f0 f1 f2 f3 g0 g1 g2 g3
              cases hvv : validB v
              · have HF : Hid (E = 6) := Lib.hid (by rw [← HE.out]; unfold checkE; rw [h1]; simp [hn, hv, HVT.out, hvv, h7])
                go_wp2
                go_ret
                exact ⟨by rw [HF.out]; rfl, HL.out⟩
              · have HVV := Lib.hid hvv; clear hvv
                by_cases h8 : id = 8
                · have s8 : (id == 8) = true := beq_iff_eq.2 h8
                  have H8 := Lib.hid h8; clear h8
                  go_wp2_with fail
                  refine (name_any t _ HP.out.1).mono ?_
                  clear c0 c1 c2 c3 d0 d1 d2 d3
                  rintro e w1 ⟨rfl, hb⟩
                  have hz0 := HZ0.out.below hb HZ0.out.lt
                  have hz1 := HZ1.out.below hb HZ1.out.lt
                  have hl := HL.out.trans (hb.mono HL.out.size)
                  clear HZ0 HZ1 HL hb
                  obtain ⟨⟨c0, c1, c2, c3⟩, f0, f1, f2, f3⟩ := hz0.four
                  obtain ⟨⟨d0, d1, d2, d3⟩, g0, g1, g2, g3⟩ := hz1.four
                  have HZ0 := Lib.hid hz0; have HZ1 := Lib.hid hz1; have HL := Lib.hid hl
                  clear hz0 hz1 hl f0 f1 f2 f3 g0 g1 g2 g3
                  cases hnm : nameB t
                  · have HF : Hid (E = 9) := Lib.hid (by rw [← HE.out]; unfold checkE; rw [h1]; simp [hn, hv, HVT.out, HVV.out, H8.out, hnm, h7])
                    go_wp2
                    go_ret
                    exact ⟨by rw [HF.out]; rfl, HL.out⟩
                  · have HF : Hid (E = 0) := Lib.hid (by rw [← HE.out]; unfold checkE; rw [h1]; simp [hn, hv, HVT.out, HVV.out, H8.out, hnm, h7])
                    go_wp2
                    go_ret
                    exact ⟨by rw [HF.out]; rfl, HL.out⟩
                · have s8 : (id == 8) = false := beq_eq_false_iff_ne.2 h8
                  have HF : Hid (E = 0) := Lib.hid (by rw [← HE.out]; unfold checkE; rw [h1]; simp [hn, hv, HVT.out, HVV.out, h8, h7])
                  go_wp2
                  go_ret
                  exact ⟨by rw [HF.out]; rfl, HL.out⟩
          · have s7 : ((sh : Int) != 7) = true := bne_iff_ne.2 (by omega)
            have HF : Hid (E = 2) := Lib.hid (by rw [← HE.out]; unfold checkE; rw [h1]; simp [h4, hn, hv, h7])
            go_wp2
            go_ret
            exact ⟨by rw [HF.out]; rfl, HL.out⟩
        · by_cases h6 : sh = 6
          · have s6 : ((sh : Int) == 6) = true := beq_iff_eq.2 (by omega)
            by_cases hbig : 65535 < t.size
            · have sb : decide ((65535 : Int) < (t.size : Int)) = true := decide_eq_true (by omega)
              have HF : Hid (E = 2) := Lib.hid (by rw [← HE.out]; unfold checkE; rw [h1]; simp [hn, hv, h6, hbig])
              go_wp2
              go_ret
              exact ⟨by rw [HF.out]; rfl, HL.out⟩
            · have sb : decide ((65535 : Int) < (t.size : Int)) = false := decide_eq_false (by omega)
              have HF : Hid (E = 0) := Lib.hid (by rw [← HE.out]; unfold checkE; rw [h1]; simp [hn, hv, h6, hbig])
              go_wp2
              go_ret
              exact ⟨by rw [HF.out]; rfl, HL.out⟩
          · have s6 : ((sh : Int) == 6) = false := beq_eq_false_iff_ne.2 (by omega)
            go_wp2_with fail
            refine (valid_any t _ HP.out.1).mono ?_
            clear c0 c1 c2 c3 d0 d1 d2 d3
            rintro e w1 ⟨rfl, hb⟩
            have hz0 := HZ0.out.below hb HZ0.out.lt
            have hz1 := HZ1.out.below hb HZ1.out.lt
            have hl := HL.out.trans (hb.mono HL.out.size)
            clear HZ0 HZ1 HL hb
            obtain ⟨⟨c0, c1, c2, c3⟩, f0, f1, f2, f3⟩ := hz0.four
            obtain ⟨⟨d0, d1, d2, d3⟩, g0, g1, g2, g3⟩ := hz1.four
            have HZ0 := Lib.hid hz0; have HZ1 := Lib.hid hz1; have HL := Lib.hid hl
            clear hz0 hz1 hl f0 f1 f2 f3 g0 g1 g2 g3
            cases hvt : validB t
            · have HF : Hid (E = 6) := Lib.hid (by rw [← HE.out]; unfold checkE; rw [h1]; simp [h4, hn, hv, h6, hvt])
              go_wp2
              go_ret
              exact ⟨by rw [HF.out]; rfl, HL.out⟩
            · have HVT := Lib.hid hvt; clear hvt
              go_wp2_with fail
              refine (valid_any v _ HP.out.2).mono ?_
              clear c0 c1 c2 c3 d0 d1 d2 d3
              rintro e w1 ⟨rfl, hb⟩
              have hz0 := HZ0.out.below hb HZ0.out.lt
              have hz1 := HZ1.out.below hb HZ1.out.lt
              have hl := HL.out.trans (hb.mono HL.out.size)
              clear HZ0 HZ1 HL hb
              obtain ⟨⟨c0, c1, c2, c3⟩, f0, f1, f2, f3⟩ := hz0.four
              obtain ⟨⟨d0, d1, d2, d3⟩, g0, g1, g2, g3⟩ := hz1.four
              have HZ0 := Lib.hid hz0; have HZ1 := Lib.hid hz1; have HL := Lib.hid hl
              clear hz0 hz1 hl f0 f1 f2 f3 g0 g1 g2 g3
              cases hvv : validB v
              · have HF : Hid (E = 6) := Lib.hid (by rw [← HE.out]; unfold checkE; rw [h1]; simp [h4, hn, hv, h6, HVT.out, hvv])
                go_wp2
                go_ret
                exact ⟨by rw [HF.out]; rfl, HL.out⟩
              · have HVV := Lib.hid hvv; clear hvv
                by_cases h8 : id = 8
                · have s8 : (id == 8) = true := beq_iff_eq.2 h8
                  have H8 := Lib.hid h8; clear h8
                  go_wp2_with fail
                  refine (name_any t _ HP.out.1).mono ?_
                  clear c0 c1 c2 c3 d0 d1 d2 d3
                  rintro e w1 ⟨rfl, hb⟩
                  have hz0 := HZ0.out.below hb HZ0.out.lt
                  have hz1 := HZ1.out.below hb HZ1.out.lt
                  have hl := HL.out.trans (hb.mono HL.out.size)
                  clear HZ0 HZ1 HL hb
                  obtain ⟨⟨c0, c1, c2, c3⟩, f0, f1, f2, f3⟩ := hz0.four
                  obtain ⟨⟨d0, d1, d2, d3⟩, g0, g1, g2, g3⟩ := hz1.four
                  have HZ0 := Lib.hid hz0; have HZ1 := Lib.hid hz1; have HL := Lib.hid hl
                  clear hz0 hz1 hl f0 f1 f2 f3 g0 g1 g2 g3
                  cases hnm : nameB t
                  · have HF : Hid (E = 9) := Lib.hid (by rw [← HE.out]; unfold checkE; rw [h1]; simp [h4, hn, hv, h6, HVT.out, HVV.out, H8.out, hnm])
                    go_wp2
                    go_ret
                    exact ⟨by rw [HF.out]; rfl, HL.out⟩
                  · have HF : Hid (E = 0) := Lib.hid (by rw [← HE.out]; unfold checkE; rw [h1]; simp [h4, hn, hv, h6, HVT.out, HVV.out, H8.out, hnm])
                    go_wp2
                    go_ret
                    exact ⟨by rw [HF.out]; rfl, HL.out⟩
                · have s8 : (id == 8) = false := beq_eq_false_iff_ne.2 h8
                  have HF : Hid (E = 0) := Lib.hid (by rw [← HE.out]; unfold checkE; rw [h1]; simp [h4, hn, hv, h6, HVT.out, HVV.out, h8])
                  go_wp2
                  go_ret
                  exact ⟨by rw [HF.out]; rfl, HL.out⟩
      · have sn : ((n : Int) != 0) = true := bne_iff_ne.2 (by omega)
        have HF : Hid (E = 2) := Lib.hid (by rw [← HE.out]; unfold checkE; rw [h1]; simp [h4, hn])
        go_wp2
        go_ret
        exact ⟨by rw [HF.out]; rfl, HL.out⟩
end Go.Proofs.Ytdpeljnoaiaplaa
