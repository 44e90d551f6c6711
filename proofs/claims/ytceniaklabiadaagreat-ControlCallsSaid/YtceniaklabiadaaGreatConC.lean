/- control: the walks of known, Tail, told. -/
import Derived.Test.YtceniaklabiadaaGreatConB
import Derived.Test.YtceniaklabiadaaGreatMTai
namespace Go.Proofs.YtceniaklabiadaaGreat
open Go.RowKit

theorem ret_i {x y : Int} (h : x = y) : Ending.returned (.int .i64 x) = .returned (.int .i64 y) := by rw [h]
set_option maxHeartbeats 1000000 in
set_option maxRecDepth 10000 in
theorem conKnown_any (v k : Int) (w : World) : Calls Tryz.prog 84 #[.int .i64 v, .int .i64 k] w fun e w' => e = .returned (.int .i64 (conK v k)) ∧ Below w.heap.size w w' := by
  go_enter Tryz.func84, Tryz.ntmps84
  go_wp2_with fail
  refine (says_any v k _).mono ?_
  rintro e w1 ⟨rfl, hb⟩
  have HB := Lib.hid hb; clear hb
  have HE : Hid (conK v k = if conIs k = false ∨ ¬ (v = 4 ∨ v = 5) then 2 else if k = 15 ∧ v = 4 then 8 else 0) := Lib.hid rfl
  cases hi : conIs k
  · have HX : Hid (conK v k = 2) := Lib.hid (by rw [HE.out, if_pos (.inl hi)])
    clear hi
    go_wp2
    go_ret
    exact ⟨by rw [HX.out]; rfl, HB.out⟩
  · by_cases h4 : v = 4
    · have e4 : (v != 4) = false := by simpa using h4
      have e4' : (v == 4) = true := beq_iff_eq.2 h4
      by_cases h15 : k = 15
      · have HX : Hid (conK v k = 8) := Lib.hid (by rw [HE.out, if_neg (fun x => x.elim (fun y => by rw [hi] at y; cases y) (fun y => y (.inl h4))), if_pos ⟨h15, h4⟩])
        have e15 : (k == 15) = true := beq_iff_eq.2 h15
        clear h4 h15 hi
        go_wp2
        go_ret
        exact ⟨by rw [HX.out]; rfl, HB.out⟩
      · have HX : Hid (conK v k = 0) := Lib.hid (by rw [HE.out, if_neg (fun x => x.elim (fun y => by rw [hi] at y; cases y) (fun y => y (.inl h4))), if_neg (fun x => h15 x.1)])
        have e15 : (k == 15) = false := beq_eq_false_iff_ne.2 h15
        clear h4 h15 hi
        go_wp2
        go_ret
        exact ⟨by rw [HX.out]; rfl, HB.out⟩
    · have e4 : (v != 4) = true := bne_iff_ne.2 h4
      have e4' : (v == 4) = false := beq_eq_false_iff_ne.2 h4
      by_cases h5 : v = 5
      · have e5 : (v != 5) = false := by simpa using h5
        have HX : Hid (conK v k = 0) := Lib.hid (by rw [HE.out, if_neg (fun x => x.elim (fun y => by rw [hi] at y; cases y) (fun y => y (.inr h5))), if_neg (fun x => h4 x.2)])
        clear h4 h5 hi
        by_cases h15 : k = 15
        · have e15 : (k == 15) = true := beq_iff_eq.2 h15
          clear h15
          go_wp2
          go_ret
          exact ⟨by rw [HX.out]; rfl, HB.out⟩
        · have e15 : (k == 15) = false := beq_eq_false_iff_ne.2 h15
          clear h15
          go_wp2
          go_ret
          exact ⟨by rw [HX.out]; rfl, HB.out⟩
      · have e5 : (v != 5) = true := bne_iff_ne.2 h5
        have HX : Hid (conK v k = 2) := Lib.hid (by rw [HE.out, if_pos (.inr (fun x => x.elim h4 h5))])
        clear h4 h5 hi
        go_wp2
        go_ret
        exact ⟨by rw [HX.out]; rfl, HB.out⟩

set_option maxHeartbeats 1000000 in
set_option maxRecDepth 10000 in
theorem tailS_any (code k : Int) (l : List Pr) (n : Nat) (hn : l.length = n) (hok : ∀ p ∈ l, prGood p) (A : Option Addr) (c : Nat) (w : World) (h : Rd w w.heap.size 4 A n (prs l)) (hl : n ≤ 4611686018427387904) :
    Calls Tryz.prog 29 #[.int .i64 code, .slice A n c, .int .i64 k] w fun e w' => e = .returned (.string ⟨(tailS code l k).toArray⟩) ∧ Below w.heap.size w w' := by
  subst hn
  have HE : Hid (tailS code l k = if code < 0 ∨ 255 < code ∨ (bytesS k l).2 ≠ 0 then [] else tailL k code l) := Lib.hid rfl
  go_enter Tryz.func29, Tryz.ntmps29
  go_wp2_with fail
  refine (bytesP_n k l _ rfl hok A c _ h hl).mono ?_
  rintro e w1 ⟨rfl, hb⟩
  have HB := Lib.hid hb; clear hb h hok
  by_cases h1 : code < 0
  · have HX : Hid (tailS code l k = []) := Lib.hid (by rw [HE.out, if_pos (.inl h1)])
    go_wp2
    go_ret
    exact ⟨by rw [HX.out]; rfl, HB.out⟩
  have d1 : decide (code < 0) = false := decide_eq_false h1
  have d1' : 0 ≤ code := by omega
  by_cases h2 : 255 < code
  · have HX : Hid (tailS code l k = []) := Lib.hid (by rw [HE.out, if_pos (.inr (.inl h2))])
    clear h1
    go_wp2
    go_ret
    exact ⟨by rw [HX.out]; rfl, HB.out⟩
  have d2 : decide (255 < code) = false := decide_eq_false h2
  have d2' : code ≤ 255 := by omega
  by_cases h3 : (bytesS k l).2 = 0
  rotate_left
  · have HX : Hid (tailS code l k = []) := Lib.hid (by rw [HE.out, if_pos (.inr (.inr h3))])
    have e3 : ((bytesS k l).2 != 0) = true := bne_iff_ne.2 h3
    clear h1 h2 h3
    go_wp2
    go_ret
    exact ⟨by rw [HX.out]; rfl, HB.out⟩
  have HX : Hid (tailS code l k = tailL k code l) := Lib.hid (by rw [HE.out, if_neg (fun x => x.elim h1 (fun y => y.elim h2 (fun z => z h3)))])
  have HSZ := Lib.hid (bytesS_size k l h3).2
  rw [h3]
  obtain ⟨m, hm, hw⟩ : ∃ m : Nat, Hid (code.toNat = m) ∧ IntKind.u64.wrap code = (m : Int) := ⟨_, Lib.hid rfl, by rw [IntKind.wrap_u64]; omega⟩
  have HM : Hid (m < 256) := Lib.hid (by have := hm.out; omega)
  clear h1 h2 h3
  go_wp2_with fail
  refine (put_any m 1 _ (by have := HM.out; omega) (by omega) (by omega)).mono ?_
  rintro e w2 ⟨rfl, hb⟩
  have HB2 := Lib.hid (HB.out.trans (hb.mono HB.out.size)); clear hb
  by_cases hz : l.length = 0
  · have z1 : (l.length : Int) ≤ 0 := by omega
    by_cases hc : code = 0
    · have HY : Hid (tailS code l k = []) := Lib.hid (by rw [HX.out, tailL, if_pos ⟨hc, hz⟩])
      have z2 : code ≤ 0 := by omega
      clear hz hc d1' d1
      go_wp2
      go_ret
      exact ⟨by rw [HY.out]; rfl, HB2.out⟩
    · have HY : Hid (tailS code l k = putL m 1) := Lib.hid (by rw [HX.out, tailL, if_neg (fun x => hc x.1), if_pos hz, List.append_nil, hm.out])
      have z2 : 0 < code := by omega
      clear hz hc d1' d1
      go_wp2
      go_ret
      exact ⟨by rw [HY.out]; rfl, HB2.out⟩
  · have z1 : 0 < (l.length : Int) := by omega
    have HY : Hid (tailS code l k = putL m 1 ++ (bytesS k l).1) := Lib.hid (by rw [HX.out, tailL, if_neg (fun x => hz x.2), if_neg hz, hm.out])
    have hs1 : ¬ (9223372036854775807 < (putL m 1).length + (bytesS k l).fst.length) := by rw [putL_len]; have := HSZ.out; omega
    clear hz
    go_wp2
    go_ret
    exact ⟨by rw [HY.out, ← ap2]; rfl, HB2.out⟩

/-- What told leaves. -/
def ToldOut (r : Int × List Pr × Int) (w : World) (e : Ending) (w' : World) : Prop := ∃ A c, e = .returned (.tuple #[.int .i64 r.1, .slice A r.2.1.length c, .int .i64 r.2.2]) ∧ r.2.1.length ≤ c ∧ Rd w' w'.heap.size 4 A r.2.1.length (prs r.2.1) ∧ Below w.heap.size w w'
theorem toldOut_mk {r : Int × List Pr × Int} {x y : Int} {w w' : World} (h : r = (x, [], y)) (hb : Below w.heap.size w w') : ToldOut r w (.returned (.tuple #[.int .i64 x, .slice none 0 0, .int .i64 y])) w' := by
  subst h
  exact ⟨none, 0, rfl, Nat.le_refl _, Rd.nil _ _ _ _, hb⟩
theorem toldOut_ok {r : Int × List Pr × Int} {x : Int} {l : List Pr} {A : Option Addr} {c : Nat} {w w' : World} (h : r = (x, l, 0)) (hc : l.length ≤ c) (hr : Rd w' w'.heap.size 4 A l.length (prs l)) (hb : Below w.heap.size w w') : ToldOut r w (.returned (.tuple #[.int .i64 x, .slice A l.length c, .int .i64 0])) w' := by
  subst h
  exact ⟨A, c, rfl, hc, hr, hb⟩
theorem num_at (t : ByteArray) (a : Nat) (h : a < t.size) : numS t a 0 1 = t[a].toNat := by
  have h1 := num_front (t := t) (a := a) (k := 1) (x := [t[a]]) (rest := (ls t).drop (a + 1)) (by
    rw [List.drop_eq_getElem_cons (show a < (ls t).length by rw [ls_len]; exact h), ls_at t a h]
    rfl) rfl (by omega)
  rw [show ((1 : Int)) = ((1 : Nat) : Int) from rfl, h1]
  simp [getL]
theorem empty_iff (s : ByteArray) : s.toList.isEmpty = decide (s.size = 0) := by
  cases hz : s.toList.isEmpty
  · exact (decide_eq_false (fun x => by
      have : s = ⟨#[]⟩ := ls_ext (by rw [show ls (⟨#[]⟩ : ByteArray) = [] from rfl]; exact List.eq_nil_of_length_eq_zero (by rw [ls_len]; exact x))
      rw [this] at hz
      exact absurd hz (by decide +kernel))).symm
  · exact (decide_eq_true (empty_size hz)).symm

set_option maxHeartbeats 2000000 in
set_option maxRecDepth 10000 in
theorem told_any (k : Int) (s : ByteArray) (w : World) (hs : s.size ≤ 140737488351232) :
    Calls Tryz.prog 86 #[.int .i64 k, .string s] w (ToldOut (toldS k s) w) := by
  have HE : Hid (toldS k s = if toldE k s ≠ 0 then (0, [], toldE k s) else ((restS k s 0).1, (restS k s 0).2.1, 0)) := Lib.hid rfl
  have HT : Hid (toldE k s = if (restS k s 0).2.2.2 ≠ 0 then (restS k s 0).2.2.2 else if (restS k s 0).2.2.1 < s.size then 5 else 0) := Lib.hid rfl
  have hem := empty_iff s
  by_cases h0 : s.size = 0
  · have hr : restS k s 0 = (0, [], 0, 0) := by unfold restS; rw [if_pos (by omega)]
    have HX : Hid (toldS k s = (0, [], 0)) := Lib.hid (by rw [HE.out, HT.out, hr]; simp [h0])
    rw [decide_eq_true h0] at hem
    clear h0 hr hs
    go_enter Tryz.func86, Tryz.ntmps86
    go_wp2
    go_ret3
    exact toldOut_mk HX.out (Below.refl _ _)
  rw [decide_eq_false h0] at hem
  have i1 : (0 : Int) < (s.size : Int) := by omega
  have h00 : 0 < s.size := by omega
  have HN := Lib.hid (num_at s 0 h00)
  obtain ⟨d, hd⟩ : ∃ d : UInt8, s[0]'h00 = d := ⟨_, rfl⟩
  rw [hd] at HN
  have hb0 : IntKind.i64.wrap (d.toNat : Int) = (d.toNat : Int) := by rw [IntKind.wrap_i64]; have := d.toNat_lt; omega
  by_cases h1 : s.size = 1
  · have hr : restS k s 0 = (((d.toNat : Nat) : Int), [], 1, if d.toNat = 0 then 5 else 0) := by unfold restS; rw [if_neg (by omega), if_pos (by omega), HN.out]
    have z1 : ((s.size : Int) == 1) = true := beq_iff_eq.2 (by omega)
    by_cases hq : d.toNat = 0
    · have HX : Hid (toldS k s = (0, [], 5)) := Lib.hid (by rw [HE.out, HT.out, hr]; simp [hq])
      have z2 : ((d.toNat : Int) == 0) = true := beq_iff_eq.2 (by omega)
      clear h0 hr hs h1 hq HN
      go_enter Tryz.func86, Tryz.ntmps86
      go_wp2
      go_ret3
      exact toldOut_mk HX.out (Below.refl _ _)
    · have HX : Hid (toldS k s = ((d.toNat : Int), [], 0)) := Lib.hid (by rw [HE.out, HT.out, hr]; simp [hq, h1])
      have z2 : ((d.toNat : Int) == 0) = false := beq_eq_false_iff_ne.2 (by omega)
      clear h0 hr hs h1 hq HN
      go_enter Tryz.func86, Tryz.ntmps86
      go_wp2
      go_ret3
      exact toldOut_mk HX.out (Below.refl _ _)
  · have hr : restS k s 0 = (((d.toNat : Nat) : Int), (readP k (s.extract 1 s.size)).1, 1 + (readP k (s.extract 1 s.size)).2.1,
      if (readP k (s.extract 1 s.size)).2.2 ≠ 0 then (readP k (s.extract 1 s.size)).2.2 else if (readP k (s.extract 1 s.size)).1.length = 0 then 5 else 0) := by unfold restS; rw [if_neg (by omega), if_neg (by omega), HN.out, Nat.zero_add]
    have z1 : ((s.size : Int) == 1) = false := beq_eq_false_iff_ne.2 (by omega)
    have i2 : (1 : Int) ≤ (s.size : Int) := by omega
    have HZ : Hid ((s.extract 1 s.size).size ≤ 140737488351232) := Lib.hid (by rw [rest_len]; omega)
    have HRR := Lib.hid hr
    have HS := Lib.hid hs
    have HLB : Hid ((readP k (s.extract 1 s.size)).2.2 = 0 → (readP k (s.extract 1 s.size)).2.1 ≤ (s.extract 1 s.size).size) := Lib.hid fun h0 =>
      (readP_back (kind := k) (s := s.extract 1 s.size) (l := (readP k (s.extract 1 s.size)).1) (n := (readP k (s.extract 1 s.size)).2.1) (by rw [← h0])).2.2
    clear h0 hr hs h1 HN
    go_enter Tryz.func86, Tryz.ntmps86
    go_wp2_with fail
    refine (readP_any k (s.extract 1 s.size) _ HZ.out).mono ?_
    rintro e w1 ⟨A, c, rfl, hcap, hrd, hb⟩
    have HB := Lib.hid hb; have HCAP := Lib.hid hcap; have HRD := Lib.hid hrd
    clear hb hcap hrd
    generalize readP k (s.extract 1 s.size) = R at *
    obtain ⟨l, n, x⟩ := R
    simp only at HRR HCAP HRD HLB ⊢
    by_cases hx : x = 0
    · subst hx
      have hn1 := HLB.out rfl
      have hwn : IntKind.i64.wrap (1 + (n : Int)) = 1 + (n : Int) := by rw [IntKind.wrap_i64]; have := HZ.out; omega
      by_cases hl : l.length = 0
      · have z2 : ((l.length : Int) == 0) = true := beq_iff_eq.2 (by omega)
        have HX : Hid (toldS k s = (0, [], 5)) := Lib.hid (by rw [HE.out, HT.out, HRR.out]; simp [hl])
        clear hl
        go_wp2
        go_ret3
        exact toldOut_mk HX.out HB.out
      · have z2 : ((l.length : Int) == 0) = false := beq_eq_false_iff_ne.2 (by omega)
        by_cases hlt : 1 + n < s.size
        · have HX : Hid (toldS k s = (0, [], 5)) := Lib.hid (by rw [HE.out, HT.out, HRR.out]; simp [hl, hlt])
          have d3 : 1 + (n : Int) < (s.size : Int) := by omega
          clear hl hlt
          go_wp2
          go_ret3
          exact toldOut_mk HX.out HB.out
        · have HX : Hid (toldS k s = ((d.toNat : Int), l, 0)) := Lib.hid (by rw [HE.out, HT.out, HRR.out]; simp [hl, hlt])
          have d3 : (s.size : Int) ≤ 1 + (n : Int) := by omega
          clear hl hlt
          go_wp2
          go_ret3
          exact toldOut_ok HX.out HCAP.out HRD.out HB.out
    · have e0 : (x != 0) = true := bne_iff_ne.2 hx
      have HX : Hid (toldS k s = (0, [], x)) := Lib.hid (by rw [HE.out, HT.out, HRR.out]; simp [hx])
      clear hx
      go_wp2
      go_ret3
      exact toldOut_mk HX.out HB.out
end Go.Proofs.YtceniaklabiadaaGreat
