/- Lists of properties read back, plain: the whole list. -/
import Derived.Test.YtcokgfmlkanoiaaLisE
import Derived.Test.YtcokgfmlkanoiaaProM
namespace Go.Proofs.Ytcokgfmlkanoiaa
open Go.RowKit

theorem idAt_front {t : ByteArray} {a : Nat} {b : UInt8} {rest : List UInt8} (h : (ls t).drop a = b :: rest) : idAt t a = b.toNat ∧ a < t.size ∧ (ls t).drop (a + 1) = rest := by
  have hl : a < t.size := by
    have := congrArg List.length h
    rw [List.length_drop, List.length_cons, ls_len] at this
    omega
  have hd := List.drop_eq_getElem_cons (show a < (ls t).length by rw [ls_len]; exact hl)
  rw [h] at hd
  simp only [List.cons.injEq] at hd
  refine ⟨?_, hl, hd.2.symm⟩
  unfold idAt
  rw [List.getD, List.getElem?_eq_getElem (show a < (ls t).length by rw [ls_len]; exact hl)]
  simp [← hd.1]
theorem id_nat {kind : Int} {p : Pr} (h : checkE (ruleOf p.id) kind p = 0) : ((UInt8.ofNat p.id.toNat).toNat : Nat) = p.id.toNat ∧ ((p.id.toNat : Nat) : Int) = p.id := by
  have := (check_ok h).1
  rw [UInt8.toNat_ofNat']
  omega

/-- Reading goes over the bytes of properties that may come. -/
theorem listGo_run (kind : Int) (t : ByteArray) : ∀ (l : List Pr) (m a : Nat) (f : Nat → Nat) (out : List Pr) (rest : List UInt8), (ls t).drop a = l.flatMap propL ++ rest → a ≤ t.size → t.size < a + m → ckL kind l → onceL kind f l → out.length + l.length ≤ 1000 → (∀ p ∈ l, p.n < 4294967296) →
    ∃ m' a' f', listGo kind t m a f out = listGo kind t m' a' f' (out ++ l) ∧ (ls t).drop a' = rest ∧ a' ≤ t.size ∧ t.size < a' + m' ∧ (∀ k, f' k = f k + cnt k l)
  | [], m, a, f, out, rest, h, ha, hm, _, _, _, _ => ⟨m, a, f, by simp, by simpa using h, ha, hm, fun k => by simp [cnt]⟩
  | p :: l, m, a, f, out, rest, h, ha, hm, hc, ho, hl, hn => by
    have hcp := hc p (by simp)
    have hnp := hn p (by simp)
    obtain ⟨i1, i2⟩ := id_nat hcp
    rw [List.flatMap_cons, List.append_assoc] at h
    have h' : (ls t).drop a = UInt8.ofNat p.id.toNat :: (ls (valueS (shapeOf p.id) p) ++ (l.flatMap propL ++ rest)) := h
    obtain ⟨e1, e2, e3⟩ := idAt_front h'
    rw [i1] at e1
    have hv := valS_front hcp hnp e3 e2
    have ha' : a + 1 + (valueS (shapeOf p.id) p).size ≤ t.size := by
      have := congrArg List.length e3
      rw [List.length_drop, List.length_append, ls_len, ls_len] at this
      omega
    have hd := drop_after e3
    rw [ls_len] at hd
    have hag : ¬ (1 ≤ f p.id.toNat ∧ oftenP kind p.id.toNat = false) := fun hx => by
      have := ho p (by simp) hx.2
      rw [cnt_cons] at this
      simp at this
      omega
    have hagB : ¬ againB f kind p.id.toNat = true := fun x => hag ((againB_iff _ _ _).1 x)
    obtain ⟨m0, rfl⟩ : ∃ m0, m = m0 + 1 := ⟨m - 1, by omega⟩
    have hstep : listGo kind t (m0 + 1) a f out = listGo kind t m0 (a + 1 + (valueS (shapeOf p.id) p).size) (upd f p.id.toNat (f p.id.toNat + 1)) (out ++ [p]) := by
      rw [listGo, if_neg (by omega), e1, i2]
      have hs : (ruleOf p.id).shape = shapeOf p.id := rfl
      rw [hs, hv, if_neg (by rw [(check_info hcp).1]; decide)]
      simp only
      have hpp : (⟨p.id, p.n, p.text, p.value⟩ : Pr) = p := rfl
      rw [hpp, if_neg (by decide), if_neg (by rw [hcp]; decide), if_neg hagB, if_neg (by rw [List.length_cons] at hl; omega)]
    obtain ⟨m', a', f', r1, r2, r3, r4, r5⟩ := listGo_run kind t l m0 (a + 1 + (valueS (shapeOf p.id) p).size) (upd f p.id.toNat (f p.id.toNat + 1)) (out ++ [p]) rest hd ha' (by omega) (fun q hq => hc q (List.mem_cons_of_mem _ hq)) ((once_cons kind f p l hag).2 ho) (by rw [List.length_append]; simp at hl ⊢; omega) (fun q hq => hn q (List.mem_cons_of_mem _ hq))
    refine ⟨m', a', f', ?_, r2, r3, r4, fun k => ?_⟩
    · rw [hstep, r1]; simp
    · rw [r5, cnt_cons]
      unfold upd
      by_cases hk : k = p.id.toNat
      · subst hk; simp; omega
      · rw [if_neg hk, if_neg (fun x => hk x.symm)]; rfl
theorem listS_front {kind : Int} {t : ByteArray} {l : List Pr} (h : ls t = l.flatMap propL) (hok : okL kind l) (hl : l.length ≤ 1000) (hn : ∀ p ∈ l, p.n < 4294967296) : listS kind t = (l, 0) := by
  rw [okL_iff] at hok
  obtain ⟨h1, h2, h3⟩ := hok
  obtain ⟨m', a', f', r1, r2, r3, r4, r5⟩ := listGo_run kind t l (t.size + 1) 0 (fun _ => 0) [] [] (by simpa using h) (by omega) (by omega) h1 h2 (by simpa using hl) hn
  unfold listS
  rw [r1]
  have hend : t.size ≤ a' := by
    have := congrArg List.length r2
    rw [List.length_drop, ls_len] at this
    simp at this
    omega
  obtain ⟨m0, rfl⟩ : ∃ m0, m' = m0 + 1 := ⟨m' - 1, by omega⟩
  rw [listGo, if_pos hend]
  have hf : f' = fun k => 0 + cnt k l := funext r5
  rw [hf, h3]
  simp
/-- Behind properties that may come: an id 0. -/
theorem listS_zero {kind : Int} {t : ByteArray} {l : List Pr} (h : ls t = l.flatMap propL ++ [0]) (hok : okL kind l) (hl : l.length ≤ 1000) (hn : ∀ p ∈ l, p.n < 4294967296) : listS kind t = ([], 9) := by
  rw [okL_iff] at hok
  obtain ⟨h1, h2, h3⟩ := hok
  obtain ⟨m', a', f', r1, r2, r3, r4, r5⟩ := listGo_run kind t l (t.size + 1) 0 (fun _ => 0) [] [0] (by simpa using h) (by omega) (by omega) h1 h2 (by simpa using hl) hn
  obtain ⟨e1, e2, _⟩ := idAt_front r2
  unfold listS
  rw [r1]
  obtain ⟨m0, rfl⟩ : ∃ m0, m' = m0 + 1 := ⟨m' - 1, by omega⟩
  rw [listGo, if_neg (by omega), e1]
  have h0 : hasR (ruleOf ((0 : UInt8).toNat : Nat)) kind = false := by
    have : ruleOf ((0 : UInt8).toNat : Nat) = ⟨0, 0, 0, 0⟩ := rfl
    rw [this]
    unfold hasR
    simp
  rw [h0, if_pos rfl]
theorem listGo_back (kind : Int) (t : ByteArray) : ∀ (m a : Nat) (f : Nat → Nat) (out r : List Pr), a ≤ t.size → out.length ≤ 1000 → listGo kind t m a f out = (r, 0) →
    ∃ l, r = out ++ l ∧ (ls t).drop a = l.flatMap propL ∧ ckL kind l ∧ onceL kind f l ∧ loneB (fun k => f k + cnt k l) = false ∧ r.length ≤ 1000
  | 0, a, f, out, r, _, _, h => by simp [listGo] at h
  | m + 1, a, f, out, r, ha, hol, h => by
    rw [listGo] at h
    by_cases hend : t.size ≤ a
    · rw [if_pos hend] at h
      cases hlo : loneB f
      · rw [hlo] at h
        simp at h
        refine ⟨[], by simp [h], ?_, fun p hp => by simp at hp, fun p hp => by simp at hp, ?_, by rw [← h]; exact hol⟩
        · rw [List.drop_of_length_le (by rw [ls_len]; exact hend)]; rfl
        · have : (fun k => f k + cnt k []) = f := by funext k; simp [cnt]
          rw [this]; exact hlo
      · rw [hlo] at h; simp at h
    · rw [if_neg hend] at h
      have hlt : a < t.size := by omega
      have hd := List.drop_eq_getElem_cons (show a < (ls t).length by rw [ls_len]; exact hlt)
      obtain ⟨e1, _, e3⟩ := idAt_front hd
      by_cases hh : hasR (ruleOf (idAt t a)) kind = false
      · rw [if_pos hh] at h; simp at h
      · rw [if_neg hh] at h
        by_cases hv : (valS (ruleOf (idAt t a)).shape t (a + 1)).err = 0
        · rw [if_neg (by simpa using hv)] at h
          generalize hP : (⟨idAt t a, (valS (ruleOf (idAt t a)).shape t (a + 1)).n, (valS (ruleOf (idAt t a)).shape t (a + 1)).text, (valS (ruleOf (idAt t a)).shape t (a + 1)).value⟩ : Pr) = P at h
          have hPid : P.id = (idAt t a : Int) := by rw [← hP]
          by_cases hc : checkE (ruleOf (idAt t a)) kind P = 0
          · rw [if_neg (by simpa using hc)] at h
            by_cases hag : againB f kind (idAt t a) = true
            · rw [if_pos hag] at h; simp at h
            · rw [if_neg hag] at h
              by_cases hfull : out.length = 1000
              · rw [if_pos hfull] at h; simp at h
              · rw [if_neg hfull] at h
                have hcP : checkE (ruleOf P.id) kind P = 0 := by rw [hPid]; exact hc
                obtain ⟨_, k1, k7, _⟩ := check_ok hcP
                have hsh : shapeOf P.id = (ruleOf (idAt t a)).shape := by rw [hPid]; rfl
                rw [hsh] at k1 k7
                obtain ⟨b1, b2⟩ := valS_back k1 k7 (show a + 1 ≤ t.size by omega) hv (idAt t a)
                rw [hP, ← hsh] at b1 b2
                have hat := (valS_at (show a + 1 ≤ t.size by omega) (ruleOf (idAt t a)).shape).2
                obtain ⟨l, l1, l2, l3, l4, l5, l6⟩ := listGo_back kind t m _ _ (out ++ [P]) r hat (by rw [List.length_append]; simp; omega) h
                have hidn : P.id.toNat = idAt t a := by rw [hPid]; simp
                have hag' : ¬ (1 ≤ f P.id.toNat ∧ oftenP kind P.id.toNat = false) := fun x => hag (by rw [hidn] at x; exact (againB_iff _ _ _).2 x)
                rw [← hidn] at l4 l5
                refine ⟨P :: l, by rw [l1]; simp, ?_, ?_, (once_cons kind f P l hag').1 l4, ?_, l6⟩
                · rw [hd, List.flatMap_cons, e3] at *
                  rw [b1, hsh, l2, ← hsh]
                  unfold propL
                  rw [hidn, e1]
                  simp
                · intro q hq
                  rcases List.mem_cons.1 hq with rfl | hq
                  · exact hcP
                  · exact l3 q hq
                · have : (fun k => upd f P.id.toNat (f P.id.toNat + 1) k + cnt k l) = fun k => f k + cnt k (P :: l) := by
                    funext k
                    rw [cnt_cons]
                    unfold upd
                    by_cases hk : k = P.id.toNat
                    · subst hk; simp; omega
                    · rw [if_neg hk, if_neg (fun x => hk x.symm)]; rfl
                  rw [← this]; exact l5
          · rw [if_pos (by simpa using hc)] at h
            simp only [Prod.mk.injEq] at h
            exact absurd h.2 hc
        · rw [if_pos (by simpa using hv)] at h
          simp only [Prod.mk.injEq] at h
          exact absurd h.2 hv
theorem listS_back {kind : Int} {t : ByteArray} {l : List Pr} (h : listS kind t = (l, 0)) : ls t = l.flatMap propL ∧ okL kind l ∧ l.length ≤ 1000 := by
  obtain ⟨l', h1, h2, h3, h4, h5, h6⟩ := listGo_back kind t _ 0 _ [] l (by omega) (by simp) h
  simp at h1
  subst h1
  exact ⟨by simpa using h2, (okL_iff kind _).2 ⟨h3, h4, h5⟩, h6⟩

/-- What prop.Read answers. -/
def readP (kind : Int) (s : ByteArray) : List Pr × Nat × Int :=
  if (readV (ls s)).2.2 ≠ 0 then ([], 0, (readV (ls s)).2.2)
  else if s.size < (readV (ls s)).2.1 + (readV (ls s)).1 then ([], 0, 3)
  else if (listS kind (s.extract (readV (ls s)).2.1 ((readV (ls s)).2.1 + (readV (ls s)).1))).2 ≠ 0 then ([], 0, (listS kind (s.extract (readV (ls s)).2.1 ((readV (ls s)).2.1 + (readV (ls s)).1))).2)
  else ((listS kind (s.extract (readV (ls s)).2.1 ((readV (ls s)).2.1 + (readV (ls s)).1))).1, (readV (ls s)).2.1 + (readV (ls s)).1, 0)
/-- A list is read from its bytes, whatever follows. -/
theorem readP_front {kind : Int} {l : List Pr} (hok : (bytesS kind l).2 = 0) (hn : ∀ p ∈ l, p.n < 4294967296) {s : ByteArray} {rest : List UInt8} (hs : ls s = (bytesS kind l).1 ++ rest) : readP kind s = (l, (bytesS kind l).1.length, 0) := by
  obtain ⟨h1, h2⟩ := (bytesS_ok kind l).1 hok
  have hb := bytesS_bytes kind l hok
  have hz := (bytesS_size kind l hok).1
  rw [hb] at hs ⊢
  simp only at hs ⊢
  have hr : readV (ls s) = ((l.flatMap propL).length, (varL (l.flatMap propL).length).length, 0) := by
    rw [hs, List.append_assoc]
    exact readV_varL _ (by omega) _
  have hlen : s.size = (varL (l.flatMap propL).length).length + (l.flatMap propL).length + rest.length := by
    rw [← ls_len, hs]; simp only [List.length_append]
  unfold readP
  rw [hr]
  simp only
  have hx : ls (s.extract (varL (l.flatMap propL).length).length ((varL (l.flatMap propL).length).length + (l.flatMap propL).length)) = l.flatMap propL := by
    rw [extract_ls, hs, List.append_assoc]
    simp
  rw [if_neg (by decide), if_neg (by omega), listS_front hx h2 h1 hn]
  simp
/-- What is read is valid, and its bytes are those that were read. -/
theorem readP_back {kind : Int} {s : ByteArray} {l : List Pr} {n : Nat} (h : readP kind s = (l, n, 0)) : (bytesS kind l).2 = 0 ∧ (bytesS kind l).1 = (ls s).take n ∧ n ≤ s.size := by
  unfold readP at h
  generalize hR : readV (ls s) = R at h
  obtain ⟨m, k, x⟩ := R
  simp only at h
  by_cases hx : x = 0
  · subst hx
    rw [if_neg (by decide)] at h
    by_cases hsz : s.size < k + m
    · rw [if_pos hsz] at h; simp at h
    · rw [if_neg hsz] at h
      by_cases hl : (listS kind (s.extract k (k + m))).2 = 0
      · rw [if_neg (by simpa using hl)] at h
        simp only [Prod.mk.injEq] at h
        obtain ⟨h1, h2, -⟩ := h
        have he : listS kind (s.extract k (k + m)) = (l, 0) := Prod.ext h1 hl
        obtain ⟨b1, b2, b3⟩ := listS_back he
        obtain ⟨r1, r2, r3⟩ := readV_back hR
        have hok : (bytesS kind l).2 = 0 := (bytesS_ok kind l).2 ⟨b3, b2⟩
        rw [extract_ls] at b1
        have hm : (l.flatMap propL).length = m := by
          rw [← b1, List.length_take, List.length_drop, ls_len]; omega
        refine ⟨hok, ?_, by omega⟩
        rw [bytesS_bytes kind l hok, hm]
        simp only
        generalize (ls s).drop k = D at b1 r1
        rw [r1, ← h2, r2, List.take_append, List.take_of_length_le (by omega), show (varL m).length + m - (varL m).length = m by omega, b1]
      · rw [if_pos (by simpa using hl)] at h
        simp only [Prod.mk.injEq] at h
        exact absurd h.2.2 hl
  · rw [if_pos (by simpa using hx)] at h
    simp only [Prod.mk.injEq] at h
    exact absurd h.2.2 hx
end Go.Proofs.Ytcokgfmlkanoiaa
