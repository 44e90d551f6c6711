/-
  The registry in memory: a client turned, put in, taken out.
-/
import Derived.Test.YtjbpafkdbfbdlaaRegM

namespace Go.Proofs.Ytjbpafkdbfbdlaa
open Go.RowKit Go.Maps Go.WideShapes
theorem pair_of {α : Type} {R : α → α → Prop} (hs : ∀ x y, R x y → R y x) : ∀ {l : List α}, l.Pairwise R → ∀ x ∈ l, ∀ y ∈ l, x ≠ y → R x y
  | [], _, x, hx, _, _, _ => by cases hx
  | a :: l, h, x, hx, y, hy, hne => by
    rw [List.pairwise_cons] at h
    rcases List.mem_cons.1 hx with e | hx
    · rcases List.mem_cons.1 hy with e2 | hy
      · exact absurd (e.trans e2.symm) hne
      · rw [e]; exact h.1 y hy
    · rcases List.mem_cons.1 hy with e2 | hy
      · rw [e2]; exact hs _ _ (h.1 x hx)
      · exact pair_of hs h.2 x hx y hy hne
section
variable {α : Type}
theorem KvUp.ne {l : List (ByteArray × α)} {x : ByteArray × α} (h : KvUp (x :: l)) : ∀ y ∈ l, y.1 ≠ x.1 := by
  intro y hy e
  unfold KvUp at h
  rw [List.pairwise_cons] at h
  have := h.1 y hy
  rw [e, nmLt_irrefl] at this
  cases this
theorem kvAt_of {l : List (ByteArray × α)} (h : KvUp l) {x : ByteArray × α} (hx : x ∈ l) : kvAt x.1 l = some x.2 := by
  induction l with
  | nil => cases hx
  | cons y l ih =>
    unfold kvAt
    rw [List.find?_cons]
    rcases List.mem_cons.1 hx with e | hx
    · rw [e, decide_eq_true rfl]
      rfl
    · have := h.ne x hx
      rw [decide_eq_false (Ne.symm this)]
      unfold KvUp at h
      rw [List.pairwise_cons] at h
      exact ih h.2 hx
theorem kvIns_first {n : ByteArray} {v : α} {l : List (ByteArray × α)} (h : ∀ x ∈ l, nmLt n x.1 = true) : kvIns n v l = (n, v) :: l := by
  cases l with
  | nil => rfl
  | cons x l => rw [kvIns, if_pos (h x (by simp))]
theorem kvDel_all {n : ByteArray} {l : List (ByteArray × α)} (h : ∀ x ∈ l, x.1 ≠ n) : kvDel n l = l := by
  unfold kvDel
  rw [List.filter_eq_self]
  intro x hx
  simpa using h x hx
/-- What is there already, put again. -/
theorem kvPut_same {n : ByteArray} {v : α} : ∀ {l : List (ByteArray × α)}, KvUp l → kvAt n l = some v → kvPut n v l = l
  | [], _, h => by cases h
  | x :: l, h, ha => by
    have hn := h.ne
    have hu := h
    unfold KvUp at h
    rw [List.pairwise_cons] at h
    unfold kvAt at ha
    rw [List.find?_cons] at ha
    by_cases e : x.1 = n
    · rw [decide_eq_true e] at ha
      injection ha with ha
      unfold kvPut
      have h1 : kvDel n (x :: l) = l := by
        have h2 := kvDel_all (n := n) (l := l) fun y hy => by rw [← e]; exact hn y hy
        unfold kvDel at h2 ⊢
        rw [List.filter_cons, if_neg (by simp [e]), h2]
      rw [h1, kvIns_first (fun y hy => by rw [← e]; exact h.1 y hy)]
      rw [← e, ← ha]
    · rw [decide_eq_false e] at ha
      have ih := kvPut_same h.2 (show kvAt n l = some v from ha)
      unfold kvPut at ih ⊢
      have h1 : kvDel n (x :: l) = x :: kvDel n l := by
        unfold kvDel
        rw [List.filter_cons, if_pos (by simp [e])]
      have hlt : nmLt n x.1 = false := by
        have hm := kvAt_mem (show kvAt n l = some v from ha)
        have := h.1 _ hm
        cases hc : nmLt n x.1 with
        | false => rfl
        | true =>
          have h3 := nmLt_trans hc this
          rw [nmLt_irrefl] at h3
          cases h3
      rw [h1, kvIns, if_neg (by rw [hlt]; decide), ih]
theorem kvPut_like {β : Type} {f : α → β} {n : ByteArray} {u v : α} {l : List (ByteArray × α)} (h : KvUp l) (ha : kvAt n l = some u) (he : f v = f u) : kvMap f (kvPut n v l) = kvMap f l := by
  rw [kvMap_put, he]
  exact kvPut_same (kvMap_up h) (by rw [kvMap_at, ha]; rfl)
theorem kvD_map {H β : Type} {f : α → β} {g : β → DataW H} {l : List (ByteArray × α)} : kvD (fun x => g (f x)) l = kvD g (kvMap f l) := by
  unfold kvD kvMap
  rw [List.map_map]
  rfl
theorem kvPut_len {n : ByteArray} {v u : α} {l : List (ByteArray × α)} (h : KvUp l) (ha : kvAt n l = some u) : (kvPut n v l).length = l.length := by
  have := congrArg List.length (kvPut_like (f := fun _ => ()) (v := v) h ha rfl)
  unfold kvMap at this
  simpa using this
theorem kvIns_len {n : ByteArray} {v : α} : ∀ {l : List (ByteArray × α)}, (kvIns n v l).length = l.length + 1
  | [] => rfl
  | x :: l => by
    unfold kvIns
    split
    · rfl
    · rw [List.length_cons, kvIns_len, List.length_cons]
end
section
variable {P : Program} {tS tI tC tR : TypeId} {w w' : World} {F : Nat → Prop} {gp bm : Nat} {M : List (ByteArray × En)} {c : ByteArray} {en en' : En}
/-- A client has turned. -/
theorem RgIn.upd (h : RgIn P tS tI tC tR w F gp bm M) (hc : kvAt c M = some en) (hg : en'.g = en.g) (hcl : ∃ bi ba v D, ClIn P tS tI tC w' en'.F en'.g en'.cl bi ba v D) (ok : ClOk en'.cl) (hne : en'.cl.all ≠ [])
    (hF : ∀ i, en'.F i → en.F i ∨ w.heap.size ≤ i) (hk : ∀ i, i < w.heap.size → ¬ en.F i → w'.heap[i]? = w.heap[i]?) (hs : w.heap.size ≤ w'.heap.size) :
    RgIn P tS tI tC tR w' (fun i => F i ∨ (w.heap.size ≤ i ∧ i < w'.heap.size)) gp bm (kvPut c en' M) := by
  have hm := kvAt_mem hc
  obtain ⟨-, -, -, hin⟩ := h.each _ hm
  have hsym : ∀ x y : ByteArray × En, (∀ i, x.2.F i → ¬ y.2.F i) → ∀ i, y.2.F i → ¬ x.2.F i := fun x y hd i hy hx => hd i hx hy
  have hfar : ∀ x ∈ M, x.1 ≠ c → ∀ i, x.2.F i → ¬ en.F i := fun x hx hxc => pair_of hsym h.apart x hx _ hm fun e => hxc (by rw [e])
  have hgp : ¬ en.F gp := fun hf => (hin gp hf).2.1 rfl
  have hbm : ¬ en.F bm := fun hf => (hin bm hf).2.2 rfl
  have hnew : ∀ i, en'.F i → (F i ∨ (w.heap.size ≤ i ∧ i < w'.heap.size)) ∧ i ≠ gp ∧ i ≠ bm := fun i hi => by
    obtain ⟨bi, ba, v, D, hcl⟩ := hcl
    have hlt := hcl.lt i hi
    rcases hF i hi with hf | hf
    · have := hin i hf
      exact ⟨.inl this.1, this.2⟩
    · have h1 := h.lt gp h.fp
      have h2 := h.lt bm h.fm
      exact ⟨.inr ⟨hf, hlt⟩, by omega, by omega⟩
  refine ⟨(hk gp (h.lt gp h.fp) hgp).trans h.blk, ?_, kvPut_up h.up, fun x hx => ?_, ?_, .inl h.fp, .inl h.fm, h.ne, fun i hi => ?_⟩
  · have e1 : kvD enE (kvPut c en' M) = kvD enE M := by
      have := kvD_map (f := enE) (g := fun d : DataW Nat => d) (l := kvPut c en' M)
      rw [kvPut_like (f := enE) h.up hc (by unfold enE; rw [hg])] at this
      exact this.trans (kvD_map (f := enE) (g := fun d : DataW Nat => d) (l := M)).symm
    rw [e1, kvPut_len h.up hc]
    exact ownsMap_keep P h.own (hk bm (h.lt bm h.fm) hbm)
  · rcases mem_kvPut.1 hx with rfl | ⟨hx, hxc⟩
    · exact ⟨hcl, ok, hne, hnew⟩
    · obtain ⟨⟨bi, ba, v, D, a⟩, b, d, e⟩ := h.each x hx
      exact ⟨⟨bi, ba, v, D, a.keep P tS tI tC hs fun i hi => hk i (a.lt i hi) (hfar x hx hxc i hi)⟩, b, d, fun i hi => ⟨.inl (e i hi).1, (e i hi).2⟩⟩
  · unfold kvPut
    have hd : ∀ x ∈ kvDel c M, ∀ i, en'.F i → ¬ x.2.F i := fun x hx i hi hxi => by
      obtain ⟨hx, hxc⟩ := mem_kvDel.1 hx
      rcases hF i hi with hf | hf
      · exact hfar x hx hxc i hxi hf
      · have h1 := h.lt i ((h.each x hx).2.2.2 i hxi).1
        omega
    exact kvIns_pair (h.apart.sublist List.filter_sublist) fun x hx => ⟨hd x hx, hsym _ _ (hd x hx)⟩
  · rcases hi with hi | hi
    · exact Nat.lt_of_lt_of_le (h.lt i hi) hs
    · exact hi.2
theorem rgOf_upd (hne : en'.cl.all ≠ []) : rgOf (kvPut c en' M) = rgSet (rgOf M) c en'.cl.all := by
  unfold rgOf rgSet
  rw [kvMap_put, if_neg hne]
theorem rgT_of : rgT (rgOf M) c = ((kvAt c M).map fun x => x.cl.all).getD [] := by
  unfold rgT rgOf
  rw [kvMap_at]
/-- A client has been put in. -/
theorem RgIn.add (h : RgIn P tS tI tC tR w F gp bm M) (hc : kvAt c M = none) (hown : w'.ownsMap P tS enR bm (M.length + 1) ((kvD enE M).put (.string c.data.toList) (enE en'))) (hcl : ∃ bi ba v D, ClIn P tS tI tC w' en'.F en'.g en'.cl bi ba v D) (ok : ClOk en'.cl) (hne : en'.cl.all ≠ [])
    (hF : ∀ i, en'.F i → w.heap.size ≤ i) (hk : ∀ i, i < w.heap.size → i ≠ bm → w'.heap[i]? = w.heap[i]?) (hs : w.heap.size ≤ w'.heap.size) :
    RgIn P tS tI tC tR w' (fun i => F i ∨ (w.heap.size ≤ i ∧ i < w'.heap.size)) gp bm (kvPut c en' M) := by
  have hdel := kvDel_none hc
  refine ⟨(hk gp (h.lt gp h.fp) h.ne).trans h.blk, ?_, kvPut_up h.up, fun x hx => ?_, ?_, .inl h.fp, .inl h.fm, h.ne, fun i hi => ?_⟩
  · rw [kvD_put] at hown
    have : (kvPut c en' M).length = M.length + 1 := by
      unfold kvPut
      rw [hdel, kvIns_len]
    rw [this]
    exact hown
  · rcases mem_kvPut.1 hx with rfl | ⟨hx, hxc⟩
    · refine ⟨hcl, ok, hne, fun i hi => ?_⟩
      obtain ⟨bi, ba, v, D, hcl⟩ := hcl
      have h0 := hF i hi
      have h1 := h.lt gp h.fp
      have h2 := h.lt bm h.fm
      exact ⟨.inr ⟨h0, hcl.lt i hi⟩, by omega, by omega⟩
    · obtain ⟨⟨bi, ba, v, D, a⟩, b, d, e⟩ := h.each x hx
      exact ⟨⟨bi, ba, v, D, a.keep P tS tI tC hs fun i hi => hk i (a.lt i hi) (e i hi).2.2⟩, b, d, fun i hi => ⟨.inl (e i hi).1, (e i hi).2⟩⟩
  · unfold kvPut
    rw [hdel]
    have hd : ∀ x ∈ M, ∀ i, en'.F i → ¬ x.2.F i := fun x hx i hi hxi => by
      have h1 := h.lt i ((h.each x hx).2.2.2 i hxi).1
      have := hF i hi
      omega
    exact kvIns_pair h.apart fun x hx => ⟨hd x hx, fun i hxi hi => hd x hx i hi hxi⟩
  · rcases hi with hi | hi
    · exact Nat.lt_of_lt_of_le (h.lt i hi) hs
    · exact hi.2
/-- A client has been taken out. -/
theorem RgIn.del {n : Nat} (h : RgIn P tS tI tC tR w F gp bm M) (hc : kvAt c M = some en) (hown : w'.ownsMap P tS enR bm n ((kvD enE M).del (.string c.data.toList)))
    (hk : ∀ i, i < w.heap.size → i ≠ bm → ¬ en.F i → w'.heap[i]? = w.heap[i]?) (hs : w.heap.size ≤ w'.heap.size) :
    RgIn P tS tI tC tR w' (fun i => F i ∨ (w.heap.size ≤ i ∧ i < w'.heap.size)) gp bm (kvDel c M) := by
  have hm := kvAt_mem hc
  obtain ⟨-, -, -, hin⟩ := h.each _ hm
  have hsym : ∀ x y : ByteArray × En, (∀ i, x.2.F i → ¬ y.2.F i) → ∀ i, y.2.F i → ¬ x.2.F i := fun x y hd i hy hx => hd i hx hy
  have hfar : ∀ x ∈ M, x.1 ≠ c → ∀ i, x.2.F i → ¬ en.F i := fun x hx hxc => pair_of hsym h.apart x hx _ hm fun e => hxc (by rw [e])
  have hgp : ¬ en.F gp := fun hf => (hin gp hf).2.1 rfl
  refine ⟨(hk gp (h.lt gp h.fp) h.ne hgp).trans h.blk, ?_, kvDel_up h.up, fun x hx => ?_, h.apart.sublist List.filter_sublist, .inl h.fp, .inl h.fm, h.ne, fun i hi => ?_⟩
  · rw [kvD_del] at hown
    have := ownsMap_exact P hown
    rw [kvD_size] at this
    exact this
  · obtain ⟨hx, hxc⟩ := mem_kvDel.1 hx
    obtain ⟨⟨bi, ba, v, D, a⟩, b, d, e⟩ := h.each x hx
    exact ⟨⟨bi, ba, v, D, a.keep P tS tI tC hs fun i hi => hk i (a.lt i hi) (e i hi).2.2 (hfar x hx hxc i hi)⟩, b, d, fun i hi => ⟨.inl (e i hi).1, (e i hi).2⟩⟩
  · rcases hi with hi | hi
    · exact Nat.lt_of_lt_of_le (h.lt i hi) hs
    · exact hi.2
theorem rgOf_del : rgOf (kvDel c M) = rgSet (rgOf M) c [] := by
  unfold rgOf rgSet
  rw [kvMap_del, if_pos rfl]
theorem RgIn.ok (h : RgIn P tS tI tC tR w F gp bm M) : RgOk (rgOf M) := by
  refine ⟨kvMap_up h.up, fun x hx => ?_⟩
  unfold rgOf kvMap at hx
  obtain ⟨y, hy, rfl⟩ := List.mem_map.1 hx
  obtain ⟨-, b, d, -⟩ := h.each y hy
  exact ⟨b.toTpsOk, d⟩
end
end Go.Proofs.Ytjbpafkdbfbdlaa
