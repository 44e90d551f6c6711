/- Lists of properties read back, plain. -/
import Derived.Test.YtcokgfmlkanoiaaLisD
namespace Go.Proofs.Ytcokgfmlkanoiaa
open Go.RowKit

theorem empty_mk {s : ByteArray} (h : s.toList.isEmpty = true) : s = ⟨#[]⟩ := by
  have h0 := empty_size h
  apply ls_ext
  have : (ls s).length = 0 := by rw [ls_len]; exact h0
  rw [List.eq_nil_of_length_eq_zero this]
  rfl
theorem check_info {kind : Int} {p : Pr} (h : checkE (ruleOf p.id) kind p = 0) : hasR (ruleOf p.id) kind = true ∧ (shapeOf p.id ≤ 4 → p.text = ⟨#[]⟩ ∧ p.value = ⟨#[]⟩) ∧ (shapeOf p.id = 1 → p.n < 256) ∧ (shapeOf p.id = 2 → p.n < 65536) ∧
    (5 ≤ shapeOf p.id → p.n = 0) ∧ (5 ≤ shapeOf p.id → shapeOf p.id ≠ 7 → p.value = ⟨#[]⟩) ∧ (5 ≤ shapeOf p.id → shapeOf p.id ≠ 6 → validB p.text = true ∧ validB p.value = true) := by
  have hh : hasR (ruleOf p.id) kind = true := by
    cases hb : hasR (ruleOf p.id) kind
    · unfold checkE at h; rw [hb] at h; simp at h
    · rfl
  have hq : ∃ q ∈ ruleTab, (q.1 : Int) = p.id ∧ ruleOf p.id = q.2 := by
    have hh' := hh
    unfold ruleOf at hh' ⊢
    cases hf : ruleTab.find? fun q => (q.1 : Int) == p.id with
    | none => rw [hf] at hh'; simp [hasR] at hh'
    | some q => exact ⟨q, List.mem_of_find?_eq_some hf, by simpa using List.find?_some hf, rfl⟩
  obtain ⟨q, hm, hid, hr⟩ := hq
  have ht : ∀ q ∈ ruleTab, (q.2.shape = 1 → q.2.most < 256) ∧ (q.2.shape = 2 → q.2.most < 65536) := by decide
  obtain ⟨h1, h2⟩ := ht q hm
  refine ⟨hh, ?_⟩
  unfold checkE at h
  rw [hh] at h
  unfold shapeOf
  rw [hr] at h ⊢
  simp only [Bool.true_eq_false, if_false] at h
  by_cases h4 : q.2.shape ≤ 4
  · rw [if_pos h4] at h
    unfold numE at h
    split at h
    · exact absurd h (by decide)
    · rename_i hte
      split at h
      · exact absurd h (by decide)
      · rename_i hmm
        have e1 : p.text.toList.isEmpty = true := by
          cases hb : p.text.toList.isEmpty
          · exact absurd (.inl hb) hte
          · rfl
        have e2 : p.value.toList.isEmpty = true := by
          cases hb : p.value.toList.isEmpty
          · exact absurd (.inr hb) hte
          · rfl
        exact ⟨fun _ => ⟨empty_mk e1, empty_mk e2⟩, fun hs => by have := h1 hs; omega, fun hs => by have := h2 hs; omega, fun hs => by omega, fun hs => by omega, fun hs => by omega⟩
  · rw [if_neg h4] at h
    split at h
    · exact absurd h (by decide)
    · rename_i hnv
      have hn : p.n = 0 := by
        rcases Nat.eq_zero_or_pos p.n with h0 | h0
        · exact h0
        · exact absurd (.inl (by omega)) hnv
      have hv7 : q.2.shape ≠ 7 → p.value = ⟨#[]⟩ := fun h7 => by
        apply empty_mk
        cases hb : p.value.toList.isEmpty
        · exact absurd (.inr ⟨hb, h7⟩) hnv
        · rfl
      refine ⟨fun hs => absurd hs h4, fun hs => by omega, fun hs => by omega, fun _ => hn, fun _ => hv7, fun _ h6 => ?_⟩
      rw [if_neg h6] at h
      split at h
      · exact absurd h (by decide)
      · rename_i hval
        constructor
        · cases hb : validB p.text
          · exact absurd (.inl hb) hval
          · rfl
        · cases hb : validB p.value
          · exact absurd (.inr hb) hval
          · rfl

theorem mk_nil_size : (⟨#[]⟩ : ByteArray).size = 0 := rfl
theorem writS_front {t : ByteArray} {a : Nat} {s : ByteArray} {rest : List UInt8} (h : (ls t).drop a = ls (framedS s) ++ rest) (ha : a ≤ t.size) (hs : s.size ≤ 65535) (hv : validB s = true) : writS t a 0 = (s, a + 2 + s.size, 0) := by
  unfold writS
  rw [dataS_front h ha hs]
  simp [hv]
theorem valS_front {kind : Int} {p : Pr} {t : ByteArray} {a : Nat} {rest : List UInt8} (hc : checkE (ruleOf p.id) kind p = 0) (hn : p.n < 4294967296) (h : (ls t).drop a = ls (valueS (shapeOf p.id) p) ++ rest) (ha : a ≤ t.size) :
    valS (shapeOf p.id) t a = ⟨p.n, p.text, p.value, a + (valueS (shapeOf p.id) p).size, 0⟩ := by
  obtain ⟨_, k1, k7, k4, kt, kv⟩ := check_ok hc
  obtain ⟨_, e4, en1, en2, en, ev, eva⟩ := check_info hc
  have hcase : shapeOf p.id = 1 ∨ shapeOf p.id = 2 ∨ shapeOf p.id = 3 ∨ shapeOf p.id = 4 ∨ shapeOf p.id = 5 ∨ shapeOf p.id = 6 ∨ shapeOf p.id = 7 := by omega
  have hz : ∀ k : Nat, (⟨(putL p.n k).toArray⟩ : ByteArray).size = k := fun k => by show (putL p.n k).toArray.size = k; simp [putL_len]
  rcases hcase with hs | hs | hs | hs | hs | hs | hs <;> rw [hs] at h e4 en1 en2 en ev eva k4 kt kv ⊢
  · have ev1 : valueS 1 p = ⟨(putL p.n 1).toArray⟩ := rfl
    rw [ev1] at h ⊢
    rw [ls_mk (putL p.n 1)] at h
    have h1 := needS_front h ha
    rw [putL_len] at h1
    obtain ⟨t1, t2⟩ := e4 (by omega)
    rw [hz, t1, t2]
    unfold valS
    rw [if_pos rfl, show (1 : Int) = ((1 : Nat) : Int) from rfl, h1]
    simp only [ls_mk]
    rw [get_put1 _ (en1 rfl)]
  · have ev1 : valueS 2 p = ⟨(putL p.n 2).toArray⟩ := rfl
    rw [ev1] at h ⊢
    rw [ls_mk (putL p.n 2)] at h
    have h1 := needS_front h ha
    rw [putL_len] at h1
    obtain ⟨t1, t2⟩ := e4 (by omega)
    rw [hz, t1, t2]
    unfold valS
    rw [if_neg (by omega), if_pos rfl, show (2 : Int) = ((2 : Nat) : Int) from rfl, h1]
    simp only [ls_mk]
    rw [get_put2 _ (en2 rfl)]
  · have ev1 : valueS 3 p = ⟨(putL p.n 4).toArray⟩ := rfl
    rw [ev1] at h ⊢
    rw [ls_mk (putL p.n 4)] at h
    have h1 := needS_front h ha
    rw [putL_len] at h1
    obtain ⟨t1, t2⟩ := e4 (by omega)
    rw [hz, t1, t2]
    unfold valS
    rw [if_neg (by omega), if_neg (by omega), if_pos rfl, show (4 : Int) = ((4 : Nat) : Int) from rfl, h1]
    simp only [ls_mk]
    rw [get_put4 _ hn]
  · have ev1 : valueS 4 p = ⟨(varL p.n).toArray⟩ := rfl
    rw [ev1] at h ⊢
    rw [ls_mk (varL p.n)] at h
    obtain ⟨t1, t2⟩ := e4 (by omega)
    have hsz : (⟨(varL p.n).toArray⟩ : ByteArray).size = (varL p.n).length := by show (varL p.n).toArray.size = _; simp
    rw [hsz, t1, t2]
    unfold valS
    rw [if_neg (by omega), if_neg (by omega), if_neg (by omega), if_pos rfl]
    unfold varS
    rw [h, readV_varL _ (k4 rfl)]
    rfl
  · have ev1 : valueS 5 p = framedS p.text := rfl
    rw [ev1] at h ⊢
    have h1 := writS_front h ha (kt (by omega)) (eva (by omega) (by omega)).1
    rw [framedS_size, en (by omega), ev (by omega) (by omega)]
    unfold valS
    rw [if_neg (by omega), if_neg (by omega), if_neg (by omega), if_neg (by omega), if_pos rfl, h1]
    simp only [VRead.mk.injEq, true_and, and_true]
    omega
  · have ev1 : valueS 6 p = framedS p.text := rfl
    rw [ev1] at h ⊢
    have h1 := dataS_front h ha (kt (by omega))
    rw [framedS_size, en (by omega), ev (by omega) (by omega)]
    unfold valS
    rw [if_neg (by omega), if_neg (by omega), if_neg (by omega), if_neg (by omega), if_neg (by omega), if_pos rfl, h1]
    simp only [VRead.mk.injEq, true_and, and_true]
    omega
  · have ev1 : valueS 7 p = framedS p.text ++ framedS p.value := rfl
    rw [ev1] at h ⊢
    have hl : ls (framedS p.text ++ framedS p.value) = ls (framedS p.text) ++ ls (framedS p.value) := by unfold ls; rw [ByteArray.data_append]; simp
    rw [hl, List.append_assoc] at h
    obtain ⟨v1, v2⟩ := eva (by omega) (by omega)
    have h1 := writS_front h ha (kt (by omega)) v1
    have h2 := drop_after h
    rw [ls_len, framedS_size] at h2
    have ha2 : a + (p.text.size + 2) ≤ t.size := by
      have := congrArg List.length h
      rw [List.length_drop, List.length_append, ls_len, ls_len, framedS_size] at this
      omega
    have h3 := writS_front h2 ha2 (kv (by omega)) v2
    rw [ByteArray.size_append, framedS_size, framedS_size, en (by omega)]
    unfold valS
    rw [if_neg (by omega), if_neg (by omega), if_neg (by omega), if_neg (by omega), if_neg (by omega), if_neg (by omega)]
    unfold pairS
    rw [h1]
    simp only
    rw [show a + 2 + p.text.size = a + (p.text.size + 2) by omega, h3]
    simp only [VRead.mk.injEq, true_and, and_true]
    omega

theorem writS_back {t : ByteArray} {a : Nat} (ha : a ≤ t.size) (h : (writS t a 0).2.2 = 0) : (ls t).drop a = ls (framedS (writS t a 0).1) ++ (ls t).drop (writS t a 0).2.1 ∧ (writS t a 0).2.1 = a + 2 + (writS t a 0).1.size ∧ (writS t a 0).2.1 ≤ t.size := by
  have h0 : (dataS t a 0).2.2 = 0 := by
    unfold writS at h
    simp only at h
    split at h
    · exact absurd h (by decide)
    · exact h
  obtain ⟨_, h1, h2⟩ := dataS_back ha h0
  exact ⟨h1, h2, (dataS_at ha 0).2⟩
theorem writS_err {t : ByteArray} {a : Nat} {e : Int} (h : e ≠ 0) : (writS t a e).2.2 = e := by
  have h1 : (dataS t a e).2.2 = e := by
    unfold dataS needS
    simp [h]
  unfold writS
  simp only [h1]
  rw [if_neg (fun x => h x.1)]
theorem valS_back {sh : Nat} {t : ByteArray} {a : Nat} (h1 : 1 ≤ sh) (h7 : sh ≤ 7) (ha : a ≤ t.size) (h : (valS sh t a).err = 0) (id : Int) :
    (ls t).drop a = ls (valueS sh ⟨id, (valS sh t a).n, (valS sh t a).text, (valS sh t a).value⟩) ++ (ls t).drop (valS sh t a).at_ ∧ (valS sh t a).at_ = a + (valueS sh ⟨id, (valS sh t a).n, (valS sh t a).text, (valS sh t a).value⟩).size := by
  have hz : ∀ n k : Nat, (⟨(putL n k).toArray⟩ : ByteArray).size = k := fun n k => by show (putL n k).toArray.size = k; simp [putL_len]
  have hcase : sh = 1 ∨ sh = 2 ∨ sh = 3 ∨ sh = 4 ∨ sh = 5 ∨ sh = 6 ∨ sh = 7 := by omega
  rcases hcase with rfl | rfl | rfl | rfl | rfl | rfl | rfl
  · have e : valS 1 t a = ⟨getL (ls (needS t a 0 1).1), ⟨#[]⟩, ⟨#[]⟩, (needS t a 0 1).2.1, (needS t a 0 1).2.2⟩ := rfl
    rw [e] at h ⊢
    obtain ⟨b1, b2, b3, b4⟩ := needS_back (k := 1) ha h
    have hp := put_get1 (ls (needS t a 0 ((1 : Nat) : Int)).1) (by rw [ls_len]; exact b4)
    show _ = ls (⟨(putL _ 1).toArray⟩ : ByteArray) ++ _ ∧ _ = a + (⟨(putL _ 1).toArray⟩ : ByteArray).size
    rw [hz, ls_mk]
    simp only
    rw [show ((1 : Int)) = ((1 : Nat) : Int) from rfl, hp, b3]
    exact ⟨b2, rfl⟩
  · have e : valS 2 t a = ⟨getL (ls (needS t a 0 2).1), ⟨#[]⟩, ⟨#[]⟩, (needS t a 0 2).2.1, (needS t a 0 2).2.2⟩ := rfl
    rw [e] at h ⊢
    obtain ⟨b1, b2, b3, b4⟩ := needS_back (k := 2) ha h
    have hp := put_get2 (ls (needS t a 0 ((2 : Nat) : Int)).1) (by rw [ls_len]; exact b4)
    show _ = ls (⟨(putL _ 2).toArray⟩ : ByteArray) ++ _ ∧ _ = a + (⟨(putL _ 2).toArray⟩ : ByteArray).size
    rw [hz, ls_mk]
    simp only
    rw [show ((2 : Int)) = ((2 : Nat) : Int) from rfl, hp, b3]
    exact ⟨b2, rfl⟩
  · have e : valS 3 t a = ⟨getL (ls (needS t a 0 4).1), ⟨#[]⟩, ⟨#[]⟩, (needS t a 0 4).2.1, (needS t a 0 4).2.2⟩ := rfl
    rw [e] at h ⊢
    obtain ⟨b1, b2, b3, b4⟩ := needS_back (k := 4) ha h
    have hp := put_get4 (ls (needS t a 0 ((4 : Nat) : Int)).1) (by rw [ls_len]; exact b4)
    show _ = ls (⟨(putL _ 4).toArray⟩ : ByteArray) ++ _ ∧ _ = a + (⟨(putL _ 4).toArray⟩ : ByteArray).size
    rw [hz, ls_mk]
    simp only
    rw [show ((4 : Int)) = ((4 : Nat) : Int) from rfl, hp, b3]
    exact ⟨b2, rfl⟩
  · have e : valS 4 t a = ⟨(varS t a).1, ⟨#[]⟩, ⟨#[]⟩, (varS t a).2.1, (varS t a).2.2⟩ := rfl
    rw [e] at h ⊢
    simp only at h
    show _ = ls (⟨(varL _).toArray⟩ : ByteArray) ++ _ ∧ _ = a + (⟨(varL _).toArray⟩ : ByteArray).size
    unfold varS at h ⊢
    generalize hR : readV ((ls t).drop a) = R at *
    obtain ⟨n, k, x⟩ := R
    simp only at h ⊢
    by_cases hx : x = 0
    · subst hx
      rw [if_pos rfl]
      simp only
      obtain ⟨r1, r2, _⟩ := readV_back hR
      have hsz : (⟨(varL n).toArray⟩ : ByteArray).size = (varL n).length := by show (varL n).toArray.size = _; simp
      rw [hsz, ls_mk, ← r2, ← List.drop_drop]
      exact ⟨r1, rfl⟩
    · rw [if_neg hx] at h
      simp at h
  · have e : valS 5 t a = ⟨0, (writS t a 0).1, ⟨#[]⟩, (writS t a 0).2.1, (writS t a 0).2.2⟩ := rfl
    rw [e] at h ⊢
    obtain ⟨b1, b2, _⟩ := writS_back ha h
    show _ = ls (framedS _) ++ _ ∧ _ = a + (framedS _).size
    rw [framedS_size]
    exact ⟨b1, by simp only; omega⟩
  · have e : valS 6 t a = ⟨0, (dataS t a 0).1, ⟨#[]⟩, (dataS t a 0).2.1, (dataS t a 0).2.2⟩ := rfl
    rw [e] at h ⊢
    obtain ⟨_, b1, b2⟩ := dataS_back ha h
    show _ = ls (framedS _) ++ _ ∧ _ = a + (framedS _).size
    rw [framedS_size]
    exact ⟨b1, by simp only; omega⟩
  · have e : valS 7 t a = ⟨0, (pairS t a 0).1.1, (pairS t a 0).1.2, (pairS t a 0).2.1, (pairS t a 0).2.2⟩ := rfl
    rw [e] at h ⊢
    show _ = ls (framedS _ ++ framedS _) ++ _ ∧ _ = a + (framedS _ ++ framedS _).size
    have hl : ∀ x y : ByteArray, ls (x ++ y) = ls x ++ ls y := fun x y => by unfold ls; rw [ByteArray.data_append]; simp
    rw [hl, ByteArray.size_append, framedS_size, framedS_size]
    unfold pairS at h ⊢
    simp only at h ⊢
    have h0 : (writS t a 0).2.2 = 0 := by
      rcases Decidable.em ((writS t a 0).2.2 = 0) with h1 | h1
      · exact h1
      · rw [writS_err h1] at h; exact absurd h h1
    obtain ⟨b1, b2, b3⟩ := writS_back ha h0
    rw [h0] at h ⊢
    obtain ⟨d1, d2, _⟩ := writS_back b3 h
    rw [List.append_assoc, ← d1]
    exact ⟨b1, by omega⟩
end Go.Proofs.Ytcokgfmlkanoiaa
