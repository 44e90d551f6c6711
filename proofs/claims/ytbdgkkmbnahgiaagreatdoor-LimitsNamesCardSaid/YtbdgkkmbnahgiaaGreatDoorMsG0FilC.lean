/- A part of what the laws stand on: FilC, MSubB, SubM. -/
import Derived.Test.YtbdgkkmbnahgiaaGreatDoorMsG0OrdD
import Derived.Shelf.Strings.SplitCore
import Derived.Shelf.Strings.Search3
import Derived.Shelf.Strings.Count
import Derived.Shelf.Strings.Cut
import Derived.Lib.ConvBytes
import Derived.Laws.IdiomCopy
namespace Go.Proofs.YtbdgkkmbnahgiaaGreatDoor
open Go.RowKit Go.Shelf
def lays221_ren : Ren := ⟨fun | 138 => 306 | 143 => 307 | 195 => 358 | 197 => 359 | 217 => 361 | 218 => 360 | 219 => 309 | 221 => 234 | 224 => 356 | 225 => 357 | 260 => 376 | 266 => 377 | 267 => 362 | 268 => 305 | 314 => 378 | n => n, fun | 0 => 0 | 3 => 3 | 4 => 4 | 5 => 5 | 9 => 9 | 21 => 21 | 31 => 55 | 46 => 103 | 51 => 100 | 105 => 282 | 119 => 310 | 138 => 312 | 139 => 313 | 146 => 302 | n => n, fun | 1 => 0 | 3 => 1 | 4 => 2 | n => n⟩
theorem lays221 : Lays.n221 Tryz.prog lays221_ren where
  mixed := by kernel_rfl
  f138 := Tryz.func306.trans (congrArg some (by kernel_rfl))
  f143 := Tryz.func307.trans (congrArg some (by kernel_rfl))
  f195 := Tryz.func358.trans (congrArg some (by kernel_rfl))
  f197 := Tryz.func359.trans (congrArg some (by kernel_rfl))
  f217 := Tryz.func361.trans (congrArg some (by kernel_rfl))
  f218 := Tryz.func360.trans (congrArg some (by kernel_rfl))
  f219 := Tryz.func309.trans (congrArg some (by kernel_rfl))
  f221 := Tryz.func234.trans (congrArg some (by kernel_rfl))
  f224 := Tryz.func356.trans (congrArg some (by kernel_rfl))
  f225 := Tryz.func357.trans (congrArg some (by kernel_rfl))
  f260 := Tryz.func376.trans (congrArg some (by kernel_rfl))
  f266 := Tryz.func377.trans (congrArg some (by kernel_rfl))
  f267 := Tryz.func362.trans (congrArg some (by kernel_rfl))
  f268 := Tryz.func305.trans (congrArg some (by kernel_rfl))
  f314 := Tryz.func378.trans (congrArg some (by kernel_rfl))
  t0 := Tryz.underlying0
  a0 := Tryz.isAgg0
  z0 := Tryz.sizeOf0
  v0 := Tryz.zeroValue0
  t3 := Tryz.underlying3
  a3 := Tryz.isAgg3
  z3 := Tryz.sizeOf3
  v3 := Tryz.zeroValue3
  t4 := Tryz.underlying4
  a4 := Tryz.isAgg4
  z4 := Tryz.sizeOf4
  v4 := Tryz.zeroValue4
  t5 := Tryz.underlying5
  a5 := Tryz.isAgg5
  z5 := Tryz.sizeOf5
  v5 := Tryz.zeroValue5
  t9 := Tryz.underlying9
  a9 := Tryz.isAgg9
  z9 := Tryz.sizeOf9
  v9 := Tryz.zeroValue9
  t21 := Tryz.underlying21
  a21 := Tryz.isAgg21
  z21 := Tryz.sizeOf21
  v21 := Tryz.zeroValue21
  t31 := Tryz.underlying55
  a31 := Tryz.isAgg55
  z31 := Tryz.sizeOf55
  v31 := Tryz.zeroValue55
  t46 := Tryz.underlying103
  a46 := Tryz.isAgg103
  z46 := Tryz.sizeOf103
  v46 := Tryz.zeroValue103
  t51 := Tryz.underlying100
  a51 := Tryz.isAgg100
  z51 := Tryz.sizeOf100
  v51 := Tryz.zeroValue100
  t105 := Tryz.underlying282
  a105 := Tryz.isAgg282
  z105 := Tryz.sizeOf282
  v105 := Tryz.zeroValue282
  t119 := Tryz.underlying310
  a119 := Tryz.isAgg310
  z119 := Tryz.sizeOf310
  t138 := Tryz.underlying312
  a138 := Tryz.isAgg312
  z138 := Tryz.sizeOf312
  v138 := Tryz.zeroValue312
  t139 := Tryz.underlying313
  a139 := Tryz.isAgg313
  z139 := Tryz.sizeOf313
  v139 := Tryz.zeroValue313
  t146 := Tryz.underlying302
  a146 := Tryz.isAgg302
  z146 := Tryz.sizeOf302
  v146 := Tryz.zeroValue302
  g1 := by kernel_rfl
  g3 := by kernel_rfl
  g4 := by kernel_rfl
theorem info_string : (Tryz.prog.info? 9).map (fun i => (i.zero, i.size, i.bytes)) = some (some (.string ByteArray.empty), 1, 16) := by kernel_rfl
/-- Texts as the cells of a slice. -/
def sv (l : List ByteArray) : List Value := l.map Value.string
theorem sv_len (l : List ByteArray) : (sv l).length = l.length := by simp [sv]
theorem index_s (x : ByteArray) (w : World) : Calls Tryz.prog 307 #[.string x, .string ⟨#[47]⟩] w fun e w' => e = .returned (.int .i64 (Lib.indexB x ⟨#[47]⟩)) ∧ w' = w := by
  have c : Calls Tryz.prog 307 #[.string x, .string ⟨#[47]⟩] w fun e w' => e = .returned (.int .i64 (Lib.indexByte x.data.toList 47)) ∧ w' = w := Any.strings_Index_one { lays221 with } x 47 w
  rw [← Lib.index_one] at c
  exact c
theorem indexL_s (x : ByteArray) (w : World) : Calls Tryz.prog 309 #[.string x, .string ⟨#[47]⟩] w fun e w' => e = .returned (.int .i64 (Lib.indexB x ⟨#[47]⟩)) ∧ w' = w := by
  have c : Calls Tryz.prog 309 #[.string x, .string ⟨#[47]⟩] w fun e w' => e = .returned (.int .i64 (Lib.indexByte x.data.toList 47)) ∧ w' = w := Any.stringslite_Index_one { lays221 with } x 47 w
  rw [← Lib.index_one] at c
  exact c
theorem count_s (x : ByteArray) (w : World) : Calls Tryz.prog 306 #[.string x, .string ⟨#[47]⟩] w fun e w' => e = .returned (.int .i64 (Lib.countB x ⟨#[47]⟩)) ∧ w' = w := by
  have c : Calls Tryz.prog 306 #[.string x, .string ⟨#[47]⟩] w fun e w' => e = .returned (.int .i64 (Lib.countByte x.data.toList 47)) ∧ w' = w := Any.strings_Count_one { lays221 with } x 47 w
  refine c.mono fun e w' ⟨he, hw⟩ => ⟨?_, hw⟩
  rw [he]
  show _ = Ending.returned (Value.int .i64 ((Lib.count x.data.toList [47] : Nat) : Int))
  rw [Lib.count_one]
  rfl
set_option maxHeartbeats 1000000 in
theorem split_any (s : ByteArray) (w : World) (hs : s.size < 4294967281) :
    Calls Tryz.prog 174 #[.string s, .string ⟨#[47]⟩] w fun e w' => e = .returned (.slice (some ⟨w.heap.size, 0, none⟩) (lvs s).length (lvs s).length) ∧ w' = w.alloc (.cells (sv (lvs s)).toArray 9) := by
  have hle := Lib.countB_le ⟨#[47]⟩ (by decide) s.size s (Nat.le_refl _)
  have c : Calls Tryz.prog 234 #[.string s, .string ⟨#[47]⟩, .int .i64 ((0 : Nat) : Int), .int .i64 (-1)] w _ := Any.strings_genSplit_core lays221 info_string s ⟨#[47]⟩ 0 (-1) (Lib.countB s ⟨#[47]⟩ + 1) w hs (by decide) (Nat.zero_le _) (fun x c _ => index_s x _) (count_s s w) (by decide) (by decide) (by rw [if_pos (by decide)]; omega)
  rw [Nat.add_sub_cancel] at c
  have e2 : Lib.cellsOf (Lib.splitB ⟨#[47]⟩ 0 (Lib.countB s ⟨#[47]⟩) s) (Lib.countB s ⟨#[47]⟩ + 1) = (sv (lvs s)).toArray := by rw [← lvs_count s]; exact Lib.cellsOf_full _
  rw [e2] at c
  have e3 : (Lib.splitB ⟨#[47]⟩ 0 (Lib.countB s ⟨#[47]⟩) s).length = (lvs s).length := rfl
  rw [e3, ← lvs_count s] at c
  clear hle e2 e3 hs
  generalize lvs s = l at *
  go_enter Tryz.func174, Tryz.ntmps174
  go_wp2_with fail
  refine c.mono ?_
  rintro e w1 ⟨rfl, rfl⟩
  go_wp2
  go_ret
  exact ⟨rfl, rfl⟩
set_option maxHeartbeats 1000000 in
theorem levelsS_any (s : ByteArray) (w : World) (hs : s.size < 4294967281) :
    Calls Tryz.prog 120 #[.string s] w fun e w' => e = .returned (.slice (some ⟨w.heap.size, 0, none⟩) (lvs s).length (lvs s).length) ∧ w' = w.alloc (.cells (sv (lvs s)).toArray 9) := by
  have c := split_any s w hs
  generalize lvs s = l at *
  go_enter Tryz.func120, Tryz.ntmps120
  go_wp2_with fail
  refine c.mono ?_
  rintro e w1 ⟨rfl, rfl⟩
  go_wp2
  go_ret
  exact ⟨rfl, rfl⟩
set_option maxHeartbeats 1000000 in
theorem wild_any (x : ByteArray) (w : World) :
    Calls Tryz.prog 172 #[.string x] w fun e w' => e = .returned (.bool (wildB x)) ∧ w = w' := by
  have HW : Hid (wildB x = ((x.toList == [43]) || (x.toList == [35]))) := Lib.hid rfl
  go_enter Tryz.func172, Tryz.ntmps172
  cases h1 : (x.toList == [43])
  · have HX : Hid (wildB x = (x.toList == [35])) := Lib.hid (by rw [HW.out, h1, Bool.false_or])
    go_wp2
    go_ret
    exact ⟨by rw [HX.out]; rfl, rfl⟩
  · have HX : Hid (wildB x = true) := Lib.hid (by rw [HW.out, h1, Bool.true_or])
    go_wp2
    go_ret
    exact ⟨by rw [HX.out]; rfl, rfl⟩
theorem levs_step {l : List ByteArray} {k : Nat} {x : ByteArray} (hx : l[k]? = some x) (h : levOk x (decide (k + 1 = l.length)) = true) (ha : ∀ (j : Nat) (y : ByteArray), j < k → l[j]? = some y → levOk y (decide (j + 1 = l.length)) = true) :
    ∀ (j : Nat) (y : ByteArray), j < k + 1 → l[j]? = some y → levOk y (decide (j + 1 = l.length)) = true := by
  intro j y hj hy
  rcases Nat.lt_succ_iff_lt_or_eq.1 hj with h1 | rfl
  · exact ha j y h1 hy
  · rw [hx] at hy
    obtain rfl := Option.some.inj hy
    exact h
theorem levs_end {l : List ByteArray} (ha : ∀ (j : Nat) (y : ByteArray), j < l.length → l[j]? = some y → levOk y (decide (j + 1 = l.length)) = true) : levsOk l = true :=
  levs_yes fun i x hx => ha i x (List.getElem?_eq_some_iff.1 hx).1 hx
theorem rd_sv {w : World} {B n : Nat} {A : Option Addr} {l : List ByteArray} (h : Rd w B 1 A n (sv l)) {i : Nat} (hi : i < n) : ∃ b o x, A = some ⟨b, o, none⟩ ∧ b < B ∧ l[i]? = some x ∧ w.cell? ⟨b, o + i, none⟩ = some (.string x) := by
  obtain ⟨b, o, u, e, hb, hu, hc⟩ := h.at1 hi
  have hl : i < l.length := by have := h.len; rw [sv_len] at this; omega
  refine ⟨b, o, l[i], e, hb, List.getElem?_eq_getElem hl, ?_⟩
  have : u = .string l[i] := by simpa [sv, hl] using hu.symm
  rw [← this]; exact hc
set_option maxHeartbeats 2000000 in
set_option maxRecDepth 10000 in
theorem levels_any (A : Option Addr) (n c : Nat) (l : List ByteArray) (w : World) (hn : l.length = n) (h : Rd w w.heap.size 1 A n (sv l)) (hsz : ∀ x ∈ l, x.size ≤ 65535) (hn2 : n ≤ 4611686018427387904) :
    Calls Tryz.prog 119 #[.slice A n c] w fun e w' => e = .returned (.bool (levsOk l)) ∧ Below w.heap.size w w' := by
  have E1 := Lib.hid hn; have HL := Lib.hid h; have HS := Lib.hid hsz
  clear hn h hsz
  go_enter Tryz.func119, Tryz.ntmps119
  go_wp2
  go_loopw [8] (fun i wr => ∃ k : Nat, k ≤ n ∧ i = .int .i64 k ∧ (∀ (j : Nat) (y : ByteArray), j < k → l[j]? = some y → levOk y (decide (j + 1 = l.length)) = true) ∧ Below w.heap.size w wr) (fun i _ => n - (intOf i).toNat)
  case atStart => exact ⟨0, by omega, rfl, fun j x hj => by omega, Below.refl _ _⟩
  case round =>
    obtain ⟨k, hk, rfl, hall, hbel⟩ := hrel
    have HA := Lib.hid hall; have HB := Lib.hid hbel; clear hall
    by_cases hlt : k < n
    · obtain ⟨b, o, x, rfl, hb, hx, hc⟩ := rd_sv (HL.out.below hbel) hlt
      have HX := Lib.hid hx
      have HXS := Lib.hid (HS.out x (List.mem_of_getElem? hx))
      obtain ⟨d, hd⟩ : ∃ d, decide (k + 1 = l.length) = d := ⟨_, rfl⟩
      have hlast : ((k : Int) + 1 == (n : Int)) = d := by
        rw [← hd, E1.out, Bool.eq_iff_iff, beq_iff_eq, decide_eq_true_iff]; omega
      have HD := Lib.hid hd
      have b1 : (0 : Int) ≤ (k : Int) := by omega
      have b2 : (k : Int) < (n : Int) := by omega
      have HV : Hid (levOk x d = !(((x.toList == [35]) && !d) || (!wildB x && anyS x))) := Lib.hid rfl
      clear hx hd hbel
      cases h35 : (x.toList == [35])
      · have HV1 : Hid (levOk x d = !(!wildB x && anyS x)) := Lib.hid (by rw [HV.out, h35]; rfl)
        go_wp2_with fail
        refine (wild_any x _).mono ?_
        rintro e w1 ⟨rfl, rfl⟩
        cases hw : wildB x
        · have HV2 : Hid (levOk x d = !anyS x) := Lib.hid (by rw [HV1.out, hw]; rfl)
          clear hw
          go_wp2_with fail
          refine (containsAny_any x _ HXS.out).mono ?_
          rintro e w2 ⟨rfl, hb2⟩
          have HB2 := Lib.hid (HB.out.trans (hb2.mono HB.out.size)); clear hb2
          cases ha : anyS x
          · have HV3 : Hid (levOk x (decide (k + 1 = l.length)) = true) := Lib.hid (by rw [HD.out, HV2.out, ha]; rfl)
            clear ha
            go_wp2
            go_roundw
            case rel => exact ⟨k + 1, by omega, by go_num, levs_step HX.out HV3.out HA.out, HB2.out⟩
            case measure => simp [intOf]; omega
          · have HV3 : Hid (levsOk l = false) := Lib.hid (levs_no HX.out (by rw [HD.out, HV2.out, ha]; rfl))
            clear ha
            go_wp2
            go_ret
            exact ⟨by rw [HV3.out]; rfl, HB2.out⟩
        · have HV3 : Hid (levOk x (decide (k + 1 = l.length)) = true) := Lib.hid (by rw [HD.out, HV1.out, hw]; rfl)
          clear hw
          go_wp2
          go_roundw
          case rel => exact ⟨k + 1, by omega, by go_num, levs_step HX.out HV3.out HA.out, HB.out⟩
          case measure => simp [intOf]; omega
      · cases d
        · have HV3 : Hid (levsOk l = false) := Lib.hid (levs_no HX.out (by rw [HD.out, HV.out, h35]; rfl))
          go_wp2
          go_ret
          exact ⟨by rw [HV3.out]; rfl, HB.out⟩
        · have HWX : Hid (wildB x = true) := Lib.hid (by unfold wildB; rw [h35, Bool.or_true])
          have HV3 : Hid (levOk x (decide (k + 1 = l.length)) = true) := Lib.hid (by rw [HD.out, HV.out, HWX.out, Bool.not_true, Bool.and_false]; rfl)
          go_wp2_with fail
          refine (wild_any x _).mono ?_
          rintro e w1 ⟨rfl, rfl⟩
          rw [HWX.out]
          go_wp2
          go_roundw
          case rel => exact ⟨k + 1, by omega, by go_num, levs_step HX.out HV3.out HA.out, HB.out⟩
          case measure => simp [intOf]; omega
    · obtain rfl : k = n := by omega
      have HV3 : Hid (levsOk l = true) := Lib.hid (levs_end (fun j y hj => HA.out j y (by have := E1.out; omega)))
      go_wp2
      go_ret
      exact ⟨by rw [HV3.out]; rfl, hbel⟩
theorem rd_lvs (w : World) (l : List ByteArray) : Rd (w.alloc (.cells (sv l).toArray 9)) (w.alloc (.cells (sv l).toArray 9)).heap.size 1 (some ⟨w.heap.size, 0, none⟩) l.length (sv l) := by
  have h := Rd.fresh w (sv l).toArray 9
  simp only [heap_alloc_size] at h ⊢
  simpa [sv_len] using h
set_option maxHeartbeats 1000000 in
set_option maxRecDepth 10000 in
theorem filter_any (s : ByteArray) (w : World) (hs : s.size ≤ 4611686018427387904) :
    Calls Tryz.prog 76 #[.string s] w fun e w' => e = .returned (.bool (filterB s)) ∧ Below w.heap.size w w' := by
  have HS := Lib.hid hs
  have HF : Hid (filterB s = (textB s && levsOk (lvs s))) := Lib.hid rfl
  clear hs
  go_enter Tryz.func76, Tryz.ntmps76
  go_wp2_with fail
  refine (textT_any s _ HS.out).mono ?_
  rintro e w1 ⟨rfl, hb⟩
  have HB := Lib.hid hb; clear hb
  cases ht : textB s
  · have HX : Hid (filterB s = false) := Lib.hid (by rw [HF.out, ht]; rfl)
    clear ht
    go_wp2
    go_ret
    exact ⟨by rw [HX.out]; rfl, HB.out⟩
  have HX : Hid (filterB s = levsOk (lvs s)) := Lib.hid (by rw [HF.out, ht, Bool.true_and])
  have HV : Hid (s.size ≤ 65535) := Lib.hid (valid_size (by unfold textB at ht; rw [Bool.and_eq_true] at ht; exact ht.2))
  clear ht HF
  have HLS : Hid (∀ x ∈ lvs s, x.size ≤ 65535) := Lib.hid fun x hx => Nat.le_trans (lvs_size s x hx) HV.out
  have HLL : Hid ((lvs s).length ≤ 4611686018427387904) := Lib.hid (by have := lvs_len s; have := HV.out; omega)
  go_wp2_with fail
  refine (levelsS_any s _ (by have := HV.out; omega)).mono ?_
  rintro e w2 ⟨rfl, rfl⟩
  generalize lvs s = l at *
  have HR := Lib.hid (rd_lvs w1 l)
  have HB2 := Lib.hid (HB.out.alloc HB.out.size (.cells (sv l).toArray 9))
  generalize w1.alloc (.cells (sv l).toArray 9) = W at *
  generalize w1.heap.size = g at *
  go_wp2_with fail
  refine (levels_any _ _ _ l _ rfl HR.out HLS.out HLL.out).mono ?_
  rintro e w3 ⟨rfl, hb⟩
  have HB3 := Lib.hid (HB2.out.trans (hb.mono HB2.out.size)); clear hb
  go_wp2
  go_ret
  exact ⟨by rw [HX.out]; rfl, HB3.out⟩
theorem front_ext (s : ByteArray) : frontB s = (decide (7 ≤ s.size) && ((s.extract 0 7).toList == [36, 115, 104, 97, 114, 101, 47])) := by
  rw [tl_ls, ls_front]
  unfold frontB
  by_cases h : 7 ≤ s.size
  · rw [decide_eq_true h, Bool.true_and, Bool.eq_iff_iff, List.isPrefixOf_iff_prefix, beq_iff_eq, List.prefix_iff_eq_take]
    exact eq_comm
  · rw [decide_eq_false h, Bool.false_and, Bool.eq_false_iff]
    intro hp
    have := (List.isPrefixOf_iff_prefix.1 hp).length_le
    rw [ls_len] at this
    simp [frontL] at this
    omega
set_option maxHeartbeats 1000000 in
theorem hasPrefix_any (s : ByteArray) (w : World) (hs : s.size ≤ 4611686018427387904) :
    Calls Tryz.prog 308 #[.string s, .string ⟨#[36, 115, 104, 97, 114, 101, 47]⟩] w fun e w' => e = .returned (.bool (frontB s)) ∧ w = w' := by
  by_cases h : 7 ≤ s.size
  · have h' : (7 : Int) ≤ (s.size : Int) := by omega
    have HF : Hid (frontB s = ((s.extract 0 7).toList == [36, 115, 104, 97, 114, 101, 47])) := Lib.hid (by rw [front_ext, decide_eq_true h, Bool.true_and])
    clear h
    go_enter Tryz.func308, Tryz.ntmps308
    go_wp2
    go_ret
    exact ⟨by rw [HF.out]; rfl, rfl⟩
  · have h' : ¬ (7 : Int) ≤ (s.size : Int) := by omega
    have HF : Hid (frontB s = false) := Lib.hid (by rw [front_ext, decide_eq_false h, Bool.false_and])
    clear h
    go_enter Tryz.func308, Tryz.ntmps308
    go_wp2
    go_ret
    exact ⟨by rw [HF.out]; rfl, rfl⟩
theorem front_size {s : ByteArray} (h : frontB s = true) : 7 ≤ s.size := (front_facts h).1
set_option maxHeartbeats 1000000 in
theorem cutPrefixL_any (s : ByteArray) (w : World) (hs : s.size ≤ 4611686018427387904) :
    Calls Tryz.prog 235 #[.string s, .string ⟨#[36, 115, 104, 97, 114, 101, 47]⟩] w fun e w' => e = .returned (.tuple #[.string (shrS s), .bool (frontB s)]) ∧ w = w' := by
  have HS := Lib.hid hs; clear hs
  go_enter Tryz.func235, Tryz.ntmps235
  go_wp2_with fail
  refine (hasPrefix_any s _ HS.out).mono ?_
  rintro e w1 ⟨rfl, rfl⟩
  cases hf : frontB s
  · have HFB := Lib.hid hf
    have HX : Hid (shrS s = s) := Lib.hid (by unfold shrS; rw [hf]; rfl)
    clear hf
    go_wp2
    go_ret2
    exact ⟨by rw [HX.out, HFB.out]; rfl, rfl⟩
  · have HFB := Lib.hid hf
    have HX : Hid (shrS s = s.extract 7 s.size) := Lib.hid (by unfold shrS; rw [hf]; rfl)
    have h7 : (7 : Int) ≤ (s.size : Int) := by have := front_size hf; omega
    clear hf
    go_wp2
    go_ret2
    exact ⟨by rw [HX.out, HFB.out]; rfl, rfl⟩
set_option maxHeartbeats 1000000 in
theorem cutPrefix_any (s : ByteArray) (w : World) (hs : s.size ≤ 4611686018427387904) :
    Calls Tryz.prog 175 #[.string s, .string ⟨#[36, 115, 104, 97, 114, 101, 47]⟩] w fun e w' => e = .returned (.tuple #[.string (shrS s), .bool (frontB s)]) ∧ w = w' := by
  have HS := Lib.hid hs; clear hs
  go_enter Tryz.func175, Tryz.ntmps175
  go_wp2_with fail
  refine (cutPrefixL_any s _ HS.out).mono ?_
  rintro e w1 ⟨rfl, rfl⟩
  go_wp2
  go_ret2
  exact ⟨rfl, rfl⟩
set_option maxHeartbeats 2000000 in
theorem cutL_any (s : ByteArray) (w : World) (hs : s.size ≤ 4611686018427387904) :
    Calls Tryz.prog 236 #[.string s, .string ⟨#[47]⟩] w fun e w' => e = .returned (.tuple #[.string (cutS s).1, .string (cutS s).2.1, .bool (cutS s).2.2]) ∧ Below w.heap.size w w' := by
  rcases Lib.indexB_cases s ⟨#[47]⟩ with hix | ⟨i, hix, hroom⟩
  · have HX : Hid (cutS s = (s, ⟨#[]⟩, false)) := Lib.hid (by unfold cutS; rw [if_pos hix])
    have HI := Lib.hid hix
    clear hix
    go_enter Tryz.func236, Tryz.ntmps236
    go_wp2_with fail
    refine (indexL_s s _).mono ?_
    rintro e w1 ⟨rfl, rfl⟩
    rw [HI.out]
    go_wp2
    go_ret3
    exact ⟨by rw [HX.out]; rfl, Below.refl _ _⟩
  · have HX : Hid (cutS s = (s.extract 0 i, s.extract (i + 1) s.size, true)) := Lib.hid (by
      unfold cutS; rw [if_neg (by omega), hix]; rfl)
    have HI := Lib.hid hix
    have hz : (⟨#[47]⟩ : ByteArray).size = 1 := rfl
    rw [hz] at hroom
    have c1 : (0 : Int) ≤ (i : Int) := by omega
    have c2 : (i : Int) ≤ (s.size : Int) := by omega
    have c3 : (0 : Int) ≤ (i : Int) + 1 := by omega
    have c4 : (i : Int) + 1 ≤ (s.size : Int) := by omega
    clear hix hz hroom
    go_enter Tryz.func236, Tryz.ntmps236
    go_wp2_with fail
    refine (indexL_s s _).mono ?_
    rintro e w1 ⟨rfl, rfl⟩
    rw [HI.out]
    go_wp2
    go_region
    go_wp2
    go_ret3
    exact ⟨by rw [HX.out]; rfl, below_drawn (Below.refl _ _) _⟩
set_option maxHeartbeats 1000000 in
theorem cut_any (s : ByteArray) (w : World) (hs : s.size ≤ 4611686018427387904) :
    Calls Tryz.prog 176 #[.string s, .string ⟨#[47]⟩] w fun e w' => e = .returned (.tuple #[.string (cutS s).1, .string (cutS s).2.1, .bool (cutS s).2.2]) ∧ Below w.heap.size w w' := by
  have HS := Lib.hid hs; clear hs
  go_enter Tryz.func176, Tryz.ntmps176
  go_wp2_with fail
  refine (cutL_any s _ HS.out).mono ?_
  rintro e w1 ⟨rfl, hb⟩
  have HB := Lib.hid hb; clear hb
  go_wp2
  go_ret3
  exact ⟨rfl, HB.out⟩
/-- What topic.Shared leaves. -/
def SharedOut (s : ByteArray) (w : World) (e : Ending) (w' : World) : Prop := (∃ a b : ByteArray, e = .returned (.tuple #[.string a, .string b, .bool (sharedB s)])) ∧ Below w.heap.size w w'
set_option maxHeartbeats 2000000 in
set_option maxRecDepth 10000 in
theorem shared_any (s : ByteArray) (w : World) (hs : s.size ≤ 4611686018427387904) :
    Calls Tryz.prog 122 #[.string s] w (SharedOut s w) := by
  have HS := Lib.hid hs
  have HZ := Lib.hid (shr_size s)
  have HC := Lib.hid (cut_size (shrS s))
  have HE : Hid (sharedB s = (frontB s && ((cutS (shrS s)).2.2 && (validB s && (nameB (cutS (shrS s)).1 && filterB (cutS (shrS s)).2.1))))) := Lib.hid rfl
  clear hs
  go_enter Tryz.func122, Tryz.ntmps122
  go_wp2_with fail
  refine (cutPrefix_any s _ HS.out).mono ?_
  rintro e w1 ⟨rfl, rfl⟩
  go_wp2_with fail
  refine (cut_any (shrS s) _ (by have := HS.out; have := HZ.out; omega)).mono ?_
  rintro e w1 ⟨rfl, hb⟩
  have HB := Lib.hid hb; clear hb
  obtain ⟨R, hR⟩ : ∃ R, cutS (shrS s) = R := ⟨_, rfl⟩
  rw [hR] at HC HE ⊢
  clear hR
  generalize shrS s = r at *
  obtain ⟨x, y, z⟩ := R
  simp only at HC HE ⊢
  cases hf : frontB s
  · have HX : Hid (sharedB s = false) := Lib.hid (by rw [HE.out, hf]; rfl)
    clear hf
    go_wp2
    go_ret3
    exact ⟨⟨_, _, by rw [HX.out]; rfl⟩, HB.out⟩
  have HE1 : Hid (sharedB s = (z && (validB s && (nameB x && filterB y)))) := Lib.hid (by rw [HE.out, hf, Bool.true_and])
  clear hf
  cases z
  · have HX : Hid (sharedB s = false) := Lib.hid (by rw [HE1.out]; rfl)
    go_wp2
    go_ret3
    exact ⟨⟨_, _, by rw [HX.out]; rfl⟩, HB.out⟩
  go_wp2_with fail
  refine (valid_any s _ HS.out).mono ?_
  rintro e w2 ⟨rfl, hb⟩
  have HB2 := Lib.hid (HB.out.trans (hb.mono HB.out.size)); clear hb
  cases hv : validB s
  · have HX : Hid (sharedB s = false) := Lib.hid (by rw [HE1.out, hv]; rfl)
    clear hv
    go_wp2
    go_ret3
    exact ⟨⟨_, _, by rw [HX.out]; rfl⟩, HB2.out⟩
  have HE2 : Hid (sharedB s = (nameB x && filterB y)) := Lib.hid (by rw [HE1.out, hv, Bool.true_and, Bool.true_and])
  clear hv
  go_wp2_with fail
  refine (name_any x _ (by have := HS.out; have := HZ.out; have := HC.out.1; omega)).mono ?_
  rintro e w3 ⟨rfl, hb⟩
  have HB3 := Lib.hid (HB2.out.trans (hb.mono HB2.out.size)); clear hb
  cases hn : nameB x
  · have HX : Hid (sharedB s = false) := Lib.hid (by rw [HE2.out, hn]; rfl)
    clear hn
    go_wp2
    go_ret3
    exact ⟨⟨_, _, by rw [HX.out]; rfl⟩, HB3.out⟩
  have HE3 : Hid (sharedB s = filterB y) := Lib.hid (by rw [HE2.out, hn, Bool.true_and])
  clear hn
  go_wp2_with fail
  refine (filter_any y _ (by have := HS.out; have := HZ.out; have := HC.out.2; omega)).mono ?_
  rintro e w4 ⟨rfl, hb⟩
  have HB4 := Lib.hid (HB3.out.trans (hb.mono HB3.out.size)); clear hb
  cases hn : filterB y
  · have HX : Hid (sharedB s = false) := Lib.hid (by rw [HE3.out, hn])
    clear hn
    go_wp2
    go_ret3
    exact ⟨⟨_, _, by rw [HX.out]; rfl⟩, HB4.out⟩
  have HX : Hid (sharedB s = true) := Lib.hid (by rw [HE3.out, hn])
  clear hn
  go_wp2
  go_ret3
  exact ⟨⟨_, _, by rw [HX.out]; rfl⟩, HB4.out⟩
end Go.Proofs.YtbdgkkmbnahgiaaGreatDoor

namespace Go.Proofs.YtbdgkkmbnahgiaaGreatDoor
open Go.RowKit
attribute [local go_sem ↓] to_ldPk to_bxPk to_bdPk to_alPk to_stPk
attribute [local go_sem] run_bxPk run_bxPk_agg ld_fresh run_alPk run_bd0 run_bdK run_bdKI run_bdKIC run_bdKC run_bdKICP run_stPk_fresh pkC_0 pkC_1 pkC_2 pkC_3 pkC_4 pkC_5 pkC_6 pkC_7 pkC_8 pkC_9 pkC_10 pkC_11 pkC_12 pkC_13 pkC_14 pkC_15 pkC_16 pkC_17 pkC_18 pkC_19 pkC_20 pkC_21 pkC_22 pkC_23 pkC_24
attribute [local go_sem ↓ high] to_stPk to_stWl to_ldWl
attribute [local go_sem ↓] to_stF
attribute [local go_sem] ld_pw pw_at pw_stwl pw_dstwl pw_stwl0 pw_stwp pw_st0 pw_dst0 pw_st1 pw_dst1 pw_st2 pw_dst2 pw_st3 pw_dst3 pw_st4 pw_dst4 pw_st5 pw_dst5 pw_st6 pw_dst6 pw_st7 pw_dst7 pw_st8 pw_dst8 pw_st9 pw_dst9 pw_st10 pw_dst10 pw_st11 pw_dst11 pw_st12 pw_dst12 pw_st13 pw_dst13 pw_st14 pw_dst14 pw_st15 pw_dst15 pw_st16 pw_dst16 pw_st17 pw_dst17 pw_st18 pw_dst18 pw_st20 pw_dst20 pw_st21 pw_dst21 pw_st22 pw_nil22 pw_st23 pw_nil23 pw_st24 pw_nil24
set_option maxHeartbeats 400000 in
set_option maxRecDepth 10000 in
theorem sbKnown_any (v k : Int) (w : World) : Calls Tryz.prog 59 #[.int .i64 v, .int .i64 k] w fun e w' => e = .returned (.bool (sbKnown v k)) ∧ w = w' := by
  go_enter Tryz.func59, Tryz.ntmps59
  go_wp2
  all_goals
    go_ret
    refine ⟨ret_bool ?_, rfl⟩
    unfold sbKnown
    by_cases h4 : v = 4 <;> by_cases h5 : v = 5 <;> simp_all <;> omega
set_option maxHeartbeats 400000 in
set_option maxRecDepth 10000 in
theorem sbAsk_any (k : Int) (w : World) : Calls Tryz.prog 72 #[.int .i64 k] w fun e w' => e = .returned (.bool (sbAsk k)) ∧ w = w' := by
  go_enter Tryz.func72, Tryz.ntmps72
  go_wp2
  all_goals
    go_ret
    refine ⟨ret_bool ?_, rfl⟩
    unfold sbAsk
    by_cases h4 : k = 8 <;> by_cases h5 : k = 10 <;> simp_all
set_option maxHeartbeats 400000 in
set_option maxRecDepth 10000 in
theorem sbSil_any (v k : Int) (w : World) : Calls Tryz.prog 73 #[.int .i64 v, .int .i64 k] w fun e w' => e = .returned (.bool (sbSil v k)) ∧ w = w' := by
  go_enter Tryz.func73, Tryz.ntmps73
  go_wp2
  all_goals
    go_ret
    refine ⟨ret_bool ?_, rfl⟩
    unfold sbSil
    by_cases h4 : k = 11 <;> by_cases h5 : v = 4 <;> simp_all
set_option maxHeartbeats 400000 in
set_option maxRecDepth 10000 in
theorem sbLow_any (n : Int) (w : World) : Calls Tryz.prog 121 #[.int .i64 n] w fun e w' => e = .returned (.bool (sbLow n)) ∧ w = w' := by
  go_enter Tryz.func121, Tryz.ntmps121
  go_wp2
  all_goals
    go_ret
    refine ⟨ret_bool ?_, rfl⟩
    unfold sbLow
    by_cases h4 : 0 ≤ n <;> by_cases h5 : n < 3 <;> simp_all <;> omega
set_option maxHeartbeats 400000 in
set_option maxRecDepth 10000 in
theorem ansB_any (v k c : Int) (w : World) : Calls Tryz.prog 78 #[.int .i64 v, .int .i64 k, .int .i64 c] w fun e w' => e = .returned (.bool (ansB v k c)) ∧ Below w.heap.size w w' := by
  by_cases h4 : v = 4
  · have e4 : (v == 4) = true := beq_iff_eq.2 h4
    have HX : Hid (ansB v k c = grantB c) := Lib.hid (if_pos h4)
    clear h4
    go_enter Tryz.func78, Tryz.ntmps78
    go_wp2_with fail
    refine (grant_any c _).mono ?_
    rintro e w1 ⟨rfl, hb⟩
    have HB := Lib.hid hb; clear hb
    go_wp2
    go_ret
    exact ⟨by rw [HX.out]; rfl, by first | exact HB.out | exact HB.out ▸ Below.refl _ _⟩
  · have e4 : (v == 4) = false := beq_eq_false_iff_ne.2 h4
    have HX : Hid (ansB v k c = may k c) := Lib.hid (if_neg h4)
    clear h4
    go_enter Tryz.func78, Tryz.ntmps78
    go_wp2_with fail
    refine (may_any k c _).mono ?_
    rintro e w1 ⟨rfl, hb⟩
    have HB := Lib.hid hb; clear hb
    go_wp2
    go_ret
    exact ⟨by rw [HX.out]; rfl, by first | exact HB.out | exact HB.out ▸ Below.refl _ _⟩
def sbH (v : Int) (p : Pk) (h : Hs) : Hs :=
  if sbAsk p.kind = true then { hs0 with props := h.props, filters := h.filters } else if sbSil v p.kind = true then { hs0 with props := h.props } else { hs0 with props := h.props, codes := h.codes }
theorem sbQ_len (v : Int) {p : Pk} (x : PkLen p) : PkLen (sbQ v p) := by
  unfold sbQ
  split
  · exact ⟨Nat.zero_le _, Nat.zero_le _, x.2.2.1, x.2.2.2⟩
  · split
    · exact ⟨Nat.zero_le _, Nat.zero_le _, Nat.zero_le _, x.2.2.2⟩
    · exact ⟨Nat.zero_le _, x.2.1, Nat.zero_le _, x.2.2.2⟩
theorem sbQ_in (v : Int) {w : World} {B : Nat} {p : Pk} {h : Hs} (x : PkIn w B p h) : PkIn w B (sbQ v p) (sbH v p h) := by
  unfold sbQ sbH
  split
  · exact ⟨Rd.nil _ _ _ _, Rd.nil _ _ _ _, x.filters, x.props, Nat.zero_le _, Nat.zero_le _, x.caps.2.2.1, x.caps.2.2.2⟩
  · split
    · exact ⟨Rd.nil _ _ _ _, Rd.nil _ _ _ _, Rd.nil _ _ _ _, x.props, Nat.zero_le _, Nat.zero_le _, Nat.zero_le _, x.caps.2.2.2⟩
    · exact ⟨Rd.nil _ _ _ _, x.codes, Rd.nil _ _ _ _, x.props, Nat.zero_le _, x.caps.2.1, Nat.zero_le _, x.caps.2.2.2⟩
theorem run_bdKIPr (k i : Int) (l : List Pr) (A : Option Addr) (n : Nat) (w : World) : (bdPk #[(0, .int .i64 k), (4, .int .i64 i), (20, .slice A l.length n)]).run Tryz.prog w = .ok (pkV { pk0 with kind := k, id := i, props := l } { hs0 with props := ⟨A, n⟩ }) w := by kernel_rfl
theorem same_sb (v : Int) (p : Pk) (h : Hs) (Q : Pk) (H : Hs) (x : World) (hq : sbQ v p = Q) (hh : sbH v p h = H) (hi : PkIn x x.heap.size p h) (hn : PkLen p) :
    Calls Tryz.prog 117 #[pkV p h, pkV Q H] x fun e y => e = .returned (.bool (decide (p = sbQ v p))) ∧ Below x.heap.size x y := by
  subst hq hh
  exact same_any p (sbQ v p) h (sbH v p h) x hi (sbQ_in v hi) hn (sbQ_len v hn)
set_option maxHeartbeats 4000000 in
set_option maxRecDepth 10000 in
theorem sbFields_any (v : Int) (p : Pk) (h : Hs) (w : World) (ip : PkIn w w.heap.size p h) (ok : PkOk p) :
    Calls Tryz.prog 74 #[.int .i64 v, pkV p h] w fun e w' => e = .returned (.bool (sbFields v p)) ∧ Below w.heap.size w w' := by
  have OK := Lib.hid ok
  have IP := Lib.hid ip
  have HE : Hid (sbFields v p = (!(decide (p.id < 1) || (decide (65535 < p.id) || (decide (v = 4) && decide (0 < p.props.length)))) && (sbHave v p && decide (p = sbQ v p)))) := Lib.hid rfl
  have HH : Hid (sbHave v p = if sbAsk p.kind = true then decide (0 < p.filters.length) else if sbSil v p.kind = true then true else decide (0 < p.codes.length)) := Lib.hid rfl
  have HB0 := Lib.hid ((Below.refl w.heap.size w).alloc (Nat.le_refl _) (.cells (pkC p h) PkT))
  have B1 := Bk.fresh w PkT (pkC p h)
  have k0 := (B1.cell 0).trans (pkC_0 _ _); have k4 := (B1.cell 4).trans (pkC_4 _ _); have k18 := (B1.cell 22).trans (pkC_22 _ _); have k19 := (B1.cell 23).trans (pkC_23 _ _); have k20 := (B1.cell 24).trans (pkC_24 _ _)
  obtain ⟨W, hW, hst⟩ := pwIn_start w p { pk0 with kind := p.kind, id := p.id, props := p.props } h { hs0 with props := ⟨h.props.a, h.props.c⟩ }
  have HW := Lib.hid hW
  have hlt := hW.lt
  have j0 := fun cs => (hW.bk_pw cs).cell
  have hl0 : ∀ cs, (ldPk (.pointer (some ⟨w.heap.size, 0, none⟩))).run Tryz.prog (pw W (w.heap.size + 1) cs) = .ok (pkV p h) (pw W (w.heap.size + 1) cs) := fun cs => ld_bk (hW.bk_pw cs)
  have hbd := run_bdKIPr p.kind p.id p.props h.props.a h.props.c
  have HQI : Hid (∀ x, Below w.heap.size w x → PkIn x x.heap.size p h) := Lib.hid fun x hx => (IP.out.below hx).wider hx.size
  clear ip ok hW B1
  go_enter Tryz.func74, Tryz.ntmps74
  by_cases h1 : p.id < 1
  · have HX : Hid (sbFields v p = false) := Lib.hid (by rw [HE.out, decide_eq_true h1]; rfl)
    go_wp2
    go_ret
    exact ⟨by rw [HX.out]; rfl, HB0.out⟩
  by_cases h2 : 65535 < p.id
  · have HX : Hid (sbFields v p = false) := Lib.hid (by rw [HE.out, decide_eq_true h2, Bool.true_or, Bool.or_true]; rfl)
    go_wp2
    go_ret
    exact ⟨by rw [HX.out]; rfl, HB0.out⟩
  have HE1 := HE.out
  rw [decide_eq_false h1, decide_eq_false h2, Bool.false_or, Bool.false_or] at HE1
  replace HE1 := Lib.hid HE1
  have key : ∀ (_ : decide (v = 4) = false ∨ decide (0 < p.props.length) = false), sbFields v p = (sbHave v p && decide (p = sbQ v p)) := by
    intro hh
    rw [HE1.out]
    rcases hh with hh | hh
    · rw [hh, Bool.false_and, Bool.not_false, Bool.true_and]
    · rw [hh, Bool.and_false, Bool.not_false, Bool.true_and]
  have KEY := Lib.hid key
  clear key HE
  by_cases h4 : v = 4 ∧ 0 < p.props.length
  · have HX : Hid (sbFields v p = false) := Lib.hid (by rw [HE1.out, decide_eq_true h4.1, decide_eq_true h4.2]; rfl)
    have e4 : (v == 4) = true := beq_iff_eq.2 h4.1
    have d4 : (0 : Int) < (p.props.length : Int) := by have := h4.2; omega
    clear h4
    go_wp2
    go_ret
    exact ⟨by rw [HX.out]; rfl, HB0.out⟩
  have HE2 : Hid (sbFields v p = (sbHave v p && decide (p = sbQ v p))) := Lib.hid (KEY.out (by
    by_cases a : v = 4
    · exact .inr (decide_eq_false fun b => h4 ⟨a, b⟩)
    · exact .inl (decide_eq_false a)))
  have tail : ∀ (b4 : Bool) (_ : (v == 4) = b4) (_ : b4 = true → (p.props.length : Int) ≤ 0), True := fun _ _ _ => trivial
  clear tail KEY HE1
  have main : (v == 4) = false ∨ ((v == 4) = true ∧ ¬ (0 : Int) < (p.props.length : Int)) := by
    by_cases a : v = 4
    · exact .inr ⟨beq_iff_eq.2 a, fun b => h4 ⟨a, by omega⟩⟩
    · exact .inl (beq_eq_false_iff_ne.2 a)
  clear h4
  have HAS := Lib.hid (sbAsk_any p.kind)
  rcases main with e4 | ⟨e4, d4⟩
  all_goals
    go_wp2_with fail
    refine (sbAsk_any p.kind _).mono ?_
    rintro e w1 ⟨rfl, hw1⟩
    subst hw1
    cases ha : sbAsk p.kind
    rotate_left
    · have HHX : Hid (sbHave v p = decide (0 < p.filters.length)) := Lib.hid (by rw [HH.out, if_pos ha])
      have HQ : Hid (sbQ v p = { pk0 with kind := p.kind, id := p.id, props := p.props, filters := p.filters }) := Lib.hid (by unfold sbQ; rw [if_pos ha])
      have HHS : Hid (sbH v p h = { hs0 with props := h.props, filters := h.filters }) := Lib.hid (by unfold sbH; rw [if_pos ha])
      clear ha
      by_cases hn : 0 < p.filters.length
      · have d5 : (0 : Int) < (p.filters.length : Int) := by omega
        have HX : Hid (sbFields v p = decide (p = sbQ v p)) := Lib.hid (by rw [HE2.out, HHX.out, decide_eq_true hn, Bool.true_and])
        clear hn
        go_wp2_with fail
        refine (same_sb v p h _ _ _ (HQ.out.trans rfl) (HHS.out.trans rfl) (HQI.out _ (HW.out.kept _)) OK.out.len).mono ?_
        rintro e w1 ⟨rfl, hb⟩
        have HB := Lib.hid ((HW.out.kept _).trans (hb.mono (HW.out.kept _).size)); clear hb
        go_wp2
        go_ret
        exact ⟨by rw [HX.out]; rfl, HB.out⟩
      · have d5 : ¬ (0 : Int) < (p.filters.length : Int) := by omega
        have HX : Hid (sbFields v p = false) := Lib.hid (by rw [HE2.out, HHX.out, decide_eq_false hn, Bool.false_and])
        clear hn
        go_wp2
        go_ret
        exact ⟨by rw [HX.out]; rfl, HW.out.kept _⟩
    · go_wp2_with fail
      refine (sbSil_any v p.kind _).mono ?_
      rintro e w1 ⟨rfl, hw1⟩
      subst hw1
      cases hsil : sbSil v p.kind
      rotate_left
      · have HHX : Hid (sbHave v p = true) := Lib.hid (by rw [HH.out, if_neg (by rw [ha]; decide), if_pos hsil])
        have HQ : Hid (sbQ v p = { pk0 with kind := p.kind, id := p.id, props := p.props }) := Lib.hid (by unfold sbQ; rw [if_neg (by rw [ha]; decide), if_pos hsil])
        have HHS : Hid (sbH v p h = { hs0 with props := h.props }) := Lib.hid (by unfold sbH; rw [if_neg (by rw [ha]; decide), if_pos hsil])
        have HX : Hid (sbFields v p = decide (p = sbQ v p)) := Lib.hid (by rw [HE2.out, HHX.out, Bool.true_and])
        clear ha hsil
        go_wp2_with fail
        refine (same_sb v p h _ _ _ (HQ.out.trans rfl) (HHS.out.trans rfl) (HQI.out _ (HW.out.kept _)) OK.out.len).mono ?_
        rintro e w1 ⟨rfl, hb⟩
        have HB := Lib.hid ((HW.out.kept _).trans (hb.mono (HW.out.kept _).size)); clear hb
        go_wp2
        go_ret
        exact ⟨by rw [HX.out]; rfl, HB.out⟩
      · have HHX : Hid (sbHave v p = decide (0 < p.codes.length)) := Lib.hid (by rw [HH.out, if_neg (by rw [ha]; decide), if_neg (by rw [hsil]; decide)])
        have HQ : Hid (sbQ v p = { pk0 with kind := p.kind, id := p.id, props := p.props, codes := p.codes }) := Lib.hid (by unfold sbQ; rw [if_neg (by rw [ha]; decide), if_neg (by rw [hsil]; decide)])
        have HHS : Hid (sbH v p h = { hs0 with props := h.props, codes := h.codes }) := Lib.hid (by unfold sbH; rw [if_neg (by rw [ha]; decide), if_neg (by rw [hsil]; decide)])
        clear ha hsil
        by_cases hn : 0 < p.codes.length
        · have d5 : (0 : Int) < (p.codes.length : Int) := by omega
          have HX : Hid (sbFields v p = decide (p = sbQ v p)) := Lib.hid (by rw [HE2.out, HHX.out, decide_eq_true hn, Bool.true_and])
          clear hn
          go_wp2_with fail
          refine (same_sb v p h _ _ _ (HQ.out.trans rfl) (HHS.out.trans rfl) (HQI.out _ (HW.out.kept _)) OK.out.len).mono ?_
          rintro e w1 ⟨rfl, hb⟩
          have HB := Lib.hid ((HW.out.kept _).trans (hb.mono (HW.out.kept _).size)); clear hb
          go_wp2
          go_ret
          exact ⟨by rw [HX.out]; rfl, HB.out⟩
        · have d5 : ¬ (0 : Int) < (p.codes.length : Int) := by omega
          have HX : Hid (sbFields v p = false) := Lib.hid (by rw [HE2.out, HHX.out, decide_eq_false hn, Bool.false_and])
          clear hn
          go_wp2
          go_ret
          exact ⟨by rw [HX.out]; rfl, HW.out.kept _⟩
set_option maxHeartbeats 2000000 in
set_option maxRecDepth 10000 in
theorem optB_any (v k : Int) (f : Fi) (w : World) (hs : f.topic.size ≤ 4611686018427387904) :
    Calls Tryz.prog 77 #[.int .i64 v, .int .i64 k, .agg #[.string f.topic, .int .i64 f.qos, .bool f.noLocal, .bool f.asPub, .int .i64 f.handling]] w fun e w' => e = .returned (.bool (optB v k f)) ∧ Below w.heap.size w w' := by
  have HS := Lib.hid hs
  have HB0 := Lib.hid ((Below.refl w.heap.size w).alloc (Nat.le_refl _) (.cells #[.string f.topic, .int .i64 f.qos, .bool f.noLocal, .bool f.asPub, .int .i64 f.handling] 32))
  have HK0 := Lib.hid (Bk.fresh w 32 #[.string f.topic, .int .i64 f.qos, .bool f.noLocal, .bool f.asPub, .int .i64 f.handling])
  have HE : Hid (optB v k f = if k = 10 then fiPlain f && decide (f.qos = 0) else if v = 4 then fiPlain f && sbLow f.qos else sbLow f.qos && (sbLow f.handling && !(sharedB f.topic && f.noLocal))) := Lib.hid rfl
  have hgt := guard_filter
  have hne := fun W => eql_filter f ⟨f.topic, f.qos, false, false, 0⟩ W
  have HP : Hid (fiPlain f = decide (f = ⟨f.topic, f.qos, false, false, 0⟩)) := Lib.hid rfl
  rw [← HP.out] at hne
  clear HP hs
  generalize fiPlain f = pl at *
  go_enter Tryz.func77, Tryz.ntmps77
  by_cases hk : k = 10
  · have ek : (k == 10) = true := beq_iff_eq.2 hk
    have HE1 : Hid (optB v k f = (pl && (f.qos == 0))) := Lib.hid (by rw [HE.out, if_pos hk]; rfl)
    clear hk
    cases pl
    · go_wp2
      go_ret
      exact ⟨by rw [HE1.out]; rfl, HB0.out⟩
    · go_wp2
      go_ret
      exact ⟨by rw [HE1.out]; rfl, HB0.out⟩
  have ek : (k == 10) = false := beq_eq_false_iff_ne.2 hk
  by_cases h4 : v = 4
  · have e4 : (v == 4) = true := beq_iff_eq.2 h4
    have HE1 : Hid (optB v k f = (pl && sbLow f.qos)) := Lib.hid (by rw [HE.out, if_neg hk, if_pos h4])
    clear hk h4
    cases pl
    · go_wp2
      go_ret
      exact ⟨by rw [HE1.out]; rfl, HB0.out⟩
    · go_wp2_with fail
      refine (sbLow_any f.qos _).mono ?_
      rintro e w1 ⟨rfl, hw1⟩
      subst hw1
      go_wp2
      go_ret
      exact ⟨by rw [HE1.out]; rfl, HB0.out⟩
  have e4 : (v == 4) = false := beq_eq_false_iff_ne.2 h4
  have HE1 : Hid (optB v k f = (sbLow f.qos && (sbLow f.handling && !(sharedB f.topic && f.noLocal)))) := Lib.hid (by rw [HE.out, if_neg hk, if_neg h4])
  clear hk h4 HE
  go_wp2_with fail
  refine (shared_any f.topic _ HS.out).mono ?_
  rintro e w1 ⟨⟨a, b, rfl⟩, hb⟩
  have HB1 := Lib.hid (HB0.out.trans (hb.mono HB0.out.size))
  have HK1 := Lib.hid (HK0.out.below hb HK0.out.lt)
  clear hb
  have c1 := HK1.out.cell 1; have c2 := HK1.out.cell 2; have c4 := HK1.out.cell 4
  simp only [List.getElem?_toArray, List.getElem?_cons_succ, List.getElem?_cons_zero] at c1 c2 c4
  generalize sharedB f.topic = sh at *
  go_wp2_with fail
  refine (sbLow_any f.qos _).mono ?_
  rintro e w2 ⟨rfl, hw2⟩
  subst hw2
  cases hq : sbLow f.qos
  · have HX : Hid (optB v k f = false) := Lib.hid (by rw [HE1.out, hq]; rfl)
    clear hq
    go_wp2
    go_ret
    exact ⟨by rw [HX.out]; rfl, HB1.out⟩
  have HE2 : Hid (optB v k f = (sbLow f.handling && !(sh && f.noLocal))) := Lib.hid (by rw [HE1.out, hq, Bool.true_and])
  clear hq
  go_wp2_with fail
  refine (sbLow_any f.handling _).mono ?_
  rintro e w2 ⟨rfl, hw2⟩
  subst hw2
  cases hq : sbLow f.handling
  · have HX : Hid (optB v k f = false) := Lib.hid (by rw [HE2.out, hq]; rfl)
    clear hq
    go_wp2
    go_ret
    exact ⟨by rw [HX.out]; rfl, HB1.out⟩
  have HE3 : Hid (optB v k f = !(sh && f.noLocal)) := Lib.hid (by rw [HE2.out, hq, Bool.true_and])
  clear hq
  cases sh
  · go_wp2
    go_ret
    exact ⟨by rw [HE3.out]; rfl, HB1.out⟩
  · go_wp2
    go_ret
    exact ⟨by rw [HE3.out]; rfl, HB1.out⟩
end Go.Proofs.YtbdgkkmbnahgiaaGreatDoor

namespace Go.Proofs.YtbdgkkmbnahgiaaGreatDoor
open Go.RowKit
attribute [local go_sem ↓] to_ldPk to_bxPk to_bdPk to_alPk to_stPk
attribute [local go_sem] run_bxPk run_bxPk_agg ld_fresh run_alPk run_bd0 run_bdK run_bdKI run_bdKIC run_bdKC run_bdKICP run_stPk_fresh pkC_0 pkC_1 pkC_2 pkC_3 pkC_4 pkC_5 pkC_6 pkC_7 pkC_8 pkC_9 pkC_10 pkC_11 pkC_12 pkC_13 pkC_14 pkC_15 pkC_16 pkC_17 pkC_18 pkC_19 pkC_20 pkC_21 pkC_22 pkC_23 pkC_24
theorem fiE_at {v k : Int} {l : List Fi} {i : Nat} (hi : i < l.length) : fiE v k (l.drop i) = if filterB l[i].topic = false then 10 else if optB v k l[i] = false then 2 else fiE v k (l.drop (i + 1)) := by
  rw [List.drop_eq_getElem_cons hi]; rfl
theorem cdE_at {v k : Int} {l : List Int} {i : Nat} (hi : i < l.length) : cdE v k (l.drop i) = if ansB v k l[i] = false then 2 else cdE v k (l.drop (i + 1)) := by
  rw [List.drop_eq_getElem_cons hi]; rfl
set_option maxHeartbeats 4000000 in
set_option maxRecDepth 10000 in
theorem sbValid_any (v : Int) (p : Pk) (h : Hs) (w : World) (ip : PkIn w w.heap.size p h) (ok : PkOk p) :
    Calls Tryz.prog 17 #[.int .i64 v, pkV p h] w fun e w' => e = .returned (.int .i64 (sbE v p)) ∧ Below w.heap.size w w' := by
  have OK := Lib.hid ok
  have S0 := Lib.hid ((St.start w).push ip)
  have HE : Hid (sbE v p = if sbArg v p = false then 2 else if (bytesS p.kind p.props).2 ≠ 0 then (bytesS p.kind p.props).2
    else if fiE v p.kind p.filters ≠ 0 then fiE v p.kind p.filters else cdE v p.kind p.codes) := Lib.hid rfl
  have HA : Hid (sbArg v p = (sbKnown v p.kind && sbFields v p)) := Lib.hid rfl
  have k0 := S0.out.cell 0 rfl
  have l0 := S0.out.ld 0 rfl
  clear ip ok
  go_enter Tryz.func17, Tryz.ntmps17
  go_wp2_with fail
  refine (sbKnown_any v p.kind _).mono ?_
  rintro e w1 ⟨rfl, hw1⟩
  subst hw1
  cases hk : sbKnown v p.kind
  · have HX : Hid (sbE v p = 2) := Lib.hid (by rw [HE.out, if_pos (by rw [HA.out, hk]; rfl)])
    clear hk
    go_wp2
    go_ret
    exact ⟨by rw [HX.out]; rfl, S0.out.kept⟩
  have HA1 : Hid (sbArg v p = sbFields v p) := Lib.hid (by rw [HA.out, hk, Bool.true_and])
  clear hk HA
  go_wp2_with fail
  refine (sbFields_any v p h _ (S0.out.into 0 rfl) OK.out).mono ?_
  rintro e w1 ⟨rfl, hb⟩
  have S1 := Lib.hid (S0.out.below hb); clear hb k0 l0
  have k0 := S1.out.cell 0 rfl
  cases hf : sbFields v p
  · have HX : Hid (sbE v p = 2) := Lib.hid (by rw [HE.out, if_pos (by rw [HA1.out, hf])])
    clear hf
    go_wp2
    go_ret
    exact ⟨by rw [HX.out]; rfl, S1.out.kept⟩
  have HE1 : Hid (sbE v p = if (bytesS p.kind p.props).2 ≠ 0 then (bytesS p.kind p.props).2 else if fiE v p.kind p.filters ≠ 0 then fiE v p.kind p.filters else cdE v p.kind p.codes) := Lib.hid (by
    rw [HE.out, if_neg (by rw [HA1.out, hf]; decide)])
  clear hf HE HA1
  go_wp2_with fail
  refine (validP_n p.kind p.props _ rfl OK.out.props h.props.a h.props.c _ (S1.out.into 0 rfl).props OK.out.len.2.2.2).mono ?_
  rintro e w2 ⟨rfl, hb⟩
  have S2 := Lib.hid (S1.out.below hb); clear hb k0
  have k0 := S2.out.cell 0 rfl
  obtain ⟨x, hx⟩ : ∃ x, (bytesS p.kind p.props).2 = x := ⟨_, rfl⟩
  rw [hx] at HE1 ⊢
  clear hx
  by_cases hx : x = 0
  rotate_left
  · have HX : Hid (sbE v p = x) := Lib.hid (by rw [HE1.out, if_pos hx])
    have e0 : (x != 0) = true := bne_iff_ne.2 hx
    clear hx
    go_wp2
    go_ret
    exact ⟨by rw [HX.out]; rfl, S2.out.kept⟩
  have HE2 : Hid (sbE v p = if fiE v p.kind p.filters ≠ 0 then fiE v p.kind p.filters else cdE v p.kind p.codes) := Lib.hid (by rw [HE1.out, if_neg (fun y => y hx)])
  have e0 : (x != 0) = false := by rw [hx]; rfl
  have HFL := Lib.hid OK.out.len.2.2.1
  have HCL := Lib.hid OK.out.len.2.1
  clear hx HE1
  obtain ⟨n, hn⟩ : ∃ n, p.filters.length = n := ⟨_, rfl⟩
  obtain ⟨m, hm⟩ : ∃ m, p.codes.length = m := ⟨_, rfl⟩
  have k23 := k0 23; have k22 := k0 22
  rw [pkC_23, hn] at k23
  rw [pkC_22, hm] at k22
  have kk := (k0 0).trans (pkC_0 _ _)
  have HN := Lib.hid hn; have HM := Lib.hid hm
  have hn2 : n ≤ 4611686018427387904 := by have := HFL.out; omega
  have hm2 : m ≤ 4611686018427387904 := by have := HCL.out; omega
  clear hn hm k0
  go_wp2
  go_loopw [32] (fun i wr => ∃ k : Nat, k ≤ n ∧ i = .int .i64 k ∧ fiE v p.kind p.filters = fiE v p.kind (p.filters.drop k) ∧ Below w2.heap.size w2 wr) (fun i _ => n - (intOf i).toNat)
  case atStart => exact ⟨0, by omega, rfl, by rw [List.drop_zero], Below.refl _ _⟩
  case round =>
    obtain ⟨k, hk, rfl, hfi, hbel⟩ := hrel
    have S3 := Lib.hid (S2.out.below hbel)
    have HF := Lib.hid hfi; have HBL := Lib.hid hbel
    clear hfi kk k22 k23
    have kk := (S3.out.cell 0 rfl 0).trans (pkC_0 _ _)
    have k22 := S3.out.cell 0 rfl 22
    rw [pkC_22, HM.out] at k22
    by_cases hlt : k < n
    · have hp : k < p.filters.length := by rw [HN.out]; exact hlt
      obtain ⟨b, o, hA, hb, c0, c1, c2, c3, c4⟩ := ((S3.out.into 0 rfl).filters).atF hp
      have hts := OK.out.topics p.filters[k] (List.getElem_mem hp)
      have HAT := Lib.hid (HF.out.trans (fiE_at (v := v) (k := p.kind) hp))
      generalize p.filters[k] = f at *
      have HTS := Lib.hid hts
      have b1 : (0 : Int) ≤ (k : Int) := by omega
      have b2 : (k : Int) < (n : Int) := by omega
      clear hp hts
      have S4 := Lib.hid (S3.out.alloc (.cells #[.string f.topic, .int .i64 f.qos, .bool f.noLocal, .bool f.asPub, .int .i64 f.handling] 32))
      have HB4 := Lib.hid (HBL.out.alloc HBL.out.size (.cells #[.string f.topic, .int .i64 f.qos, .bool f.noLocal, .bool f.asPub, .int .i64 f.handling] 32))
      have K4 := Lib.hid (Bk.fresh wr 32 #[.string f.topic, .int .i64 f.qos, .bool f.noLocal, .bool f.asPub, .int .i64 f.handling])
      go_wp2_with fail
      refine (filter_any f.topic _ (by have := HTS.out; omega)).mono ?_
      rintro e w4 ⟨rfl, hb4⟩
      have S5 := Lib.hid (S4.out.below hb4)
      have HB5 := Lib.hid (HB4.out.trans (hb4.mono HB4.out.size))
      have K5 := Lib.hid (K4.out.below hb4 K4.out.lt)
      clear hb4 kk c0 c1 c2 c3 c4
      have kk := (S5.out.cell 0 rfl 0).trans (pkC_0 _ _)
      cases hfl : filterB f.topic
      · have HX : Hid (sbE v p = 10) := Lib.hid (by
          have e : fiE v p.kind p.filters = 10 := by rw [HAT.out, if_pos hfl]
          rw [HE2.out, e, if_pos (by decide)])
        clear hfl
        go_wp2
        go_ret
        exact ⟨by rw [HX.out]; rfl, S5.out.kept⟩
      have HAT2 : Hid (fiE v p.kind p.filters = if optB v p.kind f = false then 2 else fiE v p.kind (p.filters.drop (k + 1))) := Lib.hid (by rw [HAT.out, if_neg (by rw [hfl]; decide)])
      clear hfl
      have c0 := K5.out.cell 0; have c1 := K5.out.cell 1; have c2 := K5.out.cell 2; have c3 := K5.out.cell 3; have c4 := K5.out.cell 4
      simp only [List.getElem?_toArray, List.getElem?_cons_succ, List.getElem?_cons_zero] at c0 c1 c2 c3 c4
      go_wp2_with fail
      refine (optB_any v p.kind f _ (by have := HTS.out; omega)).mono ?_
      rintro e w5 ⟨rfl, hb5⟩
      have S6 := Lib.hid (S5.out.below hb5)
      have HB6 := Lib.hid (HB5.out.trans (hb5.mono HB5.out.size))
      clear hb5 c0 c1 c2 c3 c4 kk
      cases hop : optB v p.kind f
      · have HX : Hid (sbE v p = 2) := Lib.hid (by
          have e : fiE v p.kind p.filters = 2 := by rw [HAT2.out, if_pos hop]
          rw [HE2.out, e, if_pos (by decide)])
        clear hop
        go_wp2
        go_ret
        exact ⟨by rw [HX.out]; rfl, S6.out.kept⟩
      have HX : Hid (fiE v p.kind p.filters = fiE v p.kind (p.filters.drop (k + 1))) := Lib.hid (by rw [HAT2.out, if_neg (by rw [hop]; decide)])
      clear hop
      go_wp2
      go_roundw
      case rel =>
        simp only [hA]
        (repeat apply Exists.intro)
        refine ⟨?_, rfl⟩
        exact ⟨k + 1, by omega, by go_num, HX.out, HB6.out⟩
      case measure => simp [intOf]; omega
    · obtain rfl : k = n := by omega
      have HX : Hid (sbE v p = cdE v p.kind p.codes) := Lib.hid (by
        have e : fiE v p.kind p.filters = 0 := by rw [HF.out, ← HN.out, List.drop_length]; rfl
        rw [HE2.out, e, if_neg (fun y => y rfl)])
      clear HE2 HF
      go_wp2
      go_loopw [50] (fun i wq => ∃ k : Nat, k ≤ m ∧ i = .int .i64 k ∧ cdE v p.kind p.codes = cdE v p.kind (p.codes.drop k) ∧ Below wr.heap.size wr wq) (fun i _ => m - (intOf i).toNat)
      case atStart => exact ⟨0, by omega, rfl, by rw [List.drop_zero], Below.refl _ _⟩
      case round =>
        obtain ⟨j, hj, rfl, hcd, hbq⟩ := hrel
        have S4 := Lib.hid (S3.out.below hbq)
        have HC := Lib.hid hcd; have HBQ := Lib.hid hbq
        clear hcd kk k22
        have kk := (S4.out.cell 0 rfl 0).trans (pkC_0 _ _)
        by_cases hlt2 : j < m
        · have hp : j < p.codes.length := by rw [HM.out]; exact hlt2
          obtain ⟨b, o, z, hA, hb, hz, hc⟩ := ((S4.out.into 0 rfl).codes).atI hp
          have HZ : Hid (cdE v p.kind p.codes = if ansB v p.kind z = false then 2 else cdE v p.kind (p.codes.drop (j + 1))) := Lib.hid (by
            rw [HC.out, cdE_at hp]
            rw [List.getElem?_eq_getElem hp] at hz
            rw [Option.some.inj hz])
          have b1 : (0 : Int) ≤ (j : Int) := by omega
          have b2 : (j : Int) < (m : Int) := by omega
          clear hp hz
          go_wp2_with fail
          refine (ansB_any v p.kind z _).mono ?_
          rintro e w5 ⟨rfl, hb5⟩
          have S5 := Lib.hid (S4.out.below hb5)
          have HB5 := Lib.hid (HBQ.out.trans (hb5.mono HBQ.out.size))
          clear hb5 hc kk
          cases hop : ansB v p.kind z
          · have HX2 : Hid (sbE v p = 2) := Lib.hid (by rw [HX.out, HZ.out, if_pos hop])
            clear hop
            go_wp2
            go_ret
            exact ⟨by rw [HX2.out]; rfl, S5.out.kept⟩
          have HX2 : Hid (cdE v p.kind p.codes = cdE v p.kind (p.codes.drop (j + 1))) := Lib.hid (by rw [HZ.out, if_neg (by rw [hop]; decide)])
          clear hop
          go_wp2
          go_roundw
          case rel =>
            simp only [hA]
            (repeat apply Exists.intro)
            refine ⟨?_, rfl⟩
            exact ⟨j + 1, by omega, by go_num, HX2.out, HB5.out⟩
          case measure => simp [intOf]; omega
        · obtain rfl : j = m := by omega
          have HX2 : Hid (sbE v p = 0) := Lib.hid (by rw [HX.out, HC.out, ← HM.out, List.drop_length]; rfl)
          go_wp2
          go_ret
          exact ⟨by rw [HX2.out]; rfl, S4.out.kept⟩
end Go.Proofs.YtbdgkkmbnahgiaaGreatDoor

namespace Go.Proofs.YtbdgkkmbnahgiaaGreatDoor
open Go.RowKit

/-- The slice value v is the call's own, of the bytes l. -/
def OB (w : World) (base : Nat) (v : Value) (l : List UInt8) : Prop :=
  ∃ g cap, v = .slice (some ⟨g, 0, none⟩) l.length cap ∧ base ≤ g ∧ g < w.heap.size ∧ l.length ≤ cap ∧ w.there g 0 cap ∧ w.rangeAt g 0 (bys l)
section
variable {w w' : World} {base : Nat} {v : Value} {l : List UInt8}
theorem range_app {w : World} {g o : Nat} {a b : List Value} (ha : w.rangeAt g o a) (hb : w.rangeAt g (o + a.length) b) : w.rangeAt g o (a ++ b) := by
  intro j u hu
  by_cases hj : j < a.length
  · rw [List.getElem?_append_left hj] at hu
    exact ha j u hu
  · rw [List.getElem?_append_right (by omega)] at hu
    have := hb _ u hu
    rwa [show o + a.length + (j - a.length) = o + j by omega] at this
theorem bys_app (a b : List UInt8) : bys (a ++ b) = bys a ++ bys b := by simp [bys]
theorem OB.below (h : OB w base v l) (hb : Below w.heap.size w w') : OB w' base v l := by
  obtain ⟨g, cap, hv, h1, h2, h3, h4, h5⟩ := h
  refine ⟨g, cap, hv, h1, Nat.lt_of_lt_of_le h2 hb.size, h3, fun j hj => ?_, fun j u hu => ?_⟩
  · rw [hb.cell (p := ⟨g, 0 + j, none⟩) h2, hb.frozen (p := ⟨g, 0 + j, none⟩) h2]; exact h4 j hj
  · rw [hb.cell (p := ⟨g, 0 + j, none⟩) h2]; exact h5 j u hu
theorem OB.drewN (h : OB w base v l) (n : Nat) : OB (w.drewN n) base v l := h
theorem OB.rd (h : OB w base v l) : ∃ A c, v = .slice A l.length c ∧ Rd w w.heap.size 1 A l.length (bys l) := by
  obtain ⟨g, cap, hv, h1, h2, h3, h4, h5⟩ := h
  refine ⟨_, cap, hv, by rw [bys_len, Nat.mul_one], .inr ⟨g, 0, rfl, h2, fun j u hu => ?_⟩⟩
  exact h5 j u hu
theorem OB.block (h : OB w base v l) : ∀ g, v.ownBlock = some g → base ≤ g ∧ g < w.heap.size := by
  obtain ⟨g, cap, rfl, h1, h2, h3, h4, h5⟩ := h
  intro k hk
  simp [Value.ownBlock] at hk
  subst hk
  exact ⟨h1, h2⟩
theorem grown_cells (g : Nat) : ∀ (vs : List Value) (o : Nat) (w : World), w.grownBy (w.setCells g o vs) (some g)
  | [], _, w => World.grownBy.refl w _
  | v :: r, o, w => by
    rw [World.setCells]
    exact (mod_set w g o v).trans (grown_cells g r (o + 1) _)
theorem there_alloc (w : World) (cs : Array Value) (t : TypeId) (n : Nat) (hn : n ≤ cs.size) : (w.alloc (.cells cs t)).there w.heap.size 0 n := by
  intro j hj
  have hb := Bk.fresh w t cs
  rw [Nat.zero_add, hb.cell, hb.free]
  exact ⟨by rw [Array.getElem?_eq_getElem (by omega)]; rfl, rfl⟩
theorem range_alloc (w : World) (cs : Array Value) (t : TypeId) (xs : List Value) (h : ∀ (j : Nat) (u : Value), xs[j]? = some u → cs[j]? = some u) : (w.alloc (.cells cs t)).rangeAt w.heap.size 0 xs := by
  intro j u hu
  have hb := Bk.fresh w t cs
  rw [Nat.zero_add, hb.cell]
  exact h j u hu
end
section
variable {P : Program} (w : World) {base : Nat} {v : Value} {l : List UInt8}
theorem strCells_bys (s : ByteArray) : Lib.strCells s = bys (ls s) := by
  simp [Lib.strCells, bys, ls]
/-- What an append that finds room leaves. -/
theorem ob_room {g cap : Nat} (h1 : base ≤ g) (h2 : g < w.heap.size) (h4 : w.there g 0 cap) (h5 : w.rangeAt g 0 (bys l)) (m : List UInt8) (hr : l.length + m.length ≤ cap) :
    OB (w.setCells g l.length (bys m)) base (.slice (some ⟨g, 0, none⟩) (l.length + m.length) cap) (l ++ m) := by
  refine ⟨g, cap, by rw [List.length_append], h1, Nat.lt_of_lt_of_le h2 (grown_cells g (bys m) l.length w).size, by rw [List.length_append]; exact hr, World.there_setCells h4 g _ _, ?_⟩
  rw [bys_app]
  refine range_app (World.rangeAt_setCells_apart h5 g _ _ (.inr (.inl (by rw [bys_len]; omega)))) ?_
  rw [bys_len, Nat.zero_add]
  refine World.rangeAt_setCells_same w g _ _ fun j hj => ?_
  have := h4 (l.length + j) (by rw [bys_len] at hj; omega)
  rwa [Nat.zero_add] at this
/-- What an append that makes a new row leaves. -/
theorem ob_grow (e : TypeId) (m : List UInt8) (c : Nat) (hb : base ≤ w.heap.size) (hc : l.length + m.length ≤ c) :
    OB (w.drew.alloc (.cells ((bys l).toArray ++ (bys m).toArray ++ Builtin.zeroCells (Value.int .u8 0).cells (c - (l.length + m.length))) e)) base (.slice (some ⟨w.heap.size, 0, none⟩) (l.length + m.length) c) (l ++ m) := by
  have hz : ((bys l).toArray ++ (bys m).toArray ++ Builtin.zeroCells (Value.int .u8 0).cells (c - (l.length + m.length))).size = c := by
    have hz1 : (Value.int IntKind.u8 0).cells.size = 1 := rfl
    simp only [Array.size_append, List.size_toArray, size_zeroCells, hz1, bys_len]
    omega
  refine ⟨w.heap.size, c, by rw [List.length_append], hb, by simp, by rw [List.length_append]; exact hc, ?_, ?_⟩
  · exact there_alloc w.drew _ _ _ (by rw [hz]; exact Nat.le_refl _)
  · refine range_alloc w.drew _ _ _ fun j u hu => ?_
    rw [bys_app] at hu
    have hj := (List.getElem?_eq_some_iff.1 hu).1
    have e1 : (bys l).toArray ++ (bys m).toArray = (bys l ++ bys m).toArray := by simp
    rw [e1, Array.getElem?_append_left (by rw [List.size_toArray]; exact hj), List.getElem?_toArray]
    exact hu
theorem run_obS (t u ty e : TypeId) (ht : P.underlying t = some (.slice e)) (hu : P.underlying u = some .string) (hinfo : (P.info? e).map (fun i => (i.zero, i.size, i.bytes)) = some (some (.int .u8 0), 1, 1))
    (hown : OB w base v l) (hbase : base ≤ w.heap.size) (s : ByteArray) (hbytes : l.length + s.size ≤ 140737488355328) :
    ∃ v' w', (Builtin.append_ #[t, u] ty #[v, .string s]).run P w = .ok v' w' ∧ OB w' base v' (l ++ ls s) ∧ w.grownBy w' v.ownBlock := by
  obtain ⟨i, hi, hz, hsize, hby⟩ := info_parts hinfo
  obtain ⟨g, cap, rfl, h1, h2, h3, h4, h5⟩ := hown
  by_cases hroom : l.length + s.size ≤ cap
  · have hf := Lib.run_firstCells_string (P := P) w 1 s
    have hst := run_storeCells_cells (P := P) g l.length (Lib.strCells s) 0 w (fun j hj => by
        rw [strCells_bys, bys_len, ls_len] at hj
        have := (h4 (l.length + j) (by omega)).1
        rwa [Nat.zero_add] at this) (fun j hj => by
        rw [strCells_bys, bys_len, ls_len] at hj
        have := (h4 (l.length + j) (by omega)).2
        rwa [Nat.zero_add] at this) (Lib.strCells_oneCell s)
    rw [Nat.add_zero] at hst
    refine ⟨.slice (some ⟨g, 0, none⟩) (l.length + s.size) cap, _, ?_, ?_, grown_cells g (bys (ls s)) l.length w⟩
    · rw [← strCells_bys]
      simp [Builtin.append_, run_underlying ht, run_underlying hu, sizeOf, typeInfo, hi, hsize, Builtin.lenOf, hroom, hf, Addr.add_lit, hst]
    · have := ob_room w h1 h2 h4 h5 (ls s) (by rw [ls_len]; exact hroom)
      rwa [ls_len] at this
  · have hr := Lib.run_append_grow_string (P := P) w t u ty e i (.int .u8 0) ht hu hi hz ⟨g, 0, none⟩ l.length cap (bys l) (by rw [hsize, bys_len, Nat.mul_one]) (fun j u hj => by rw [Addr.add_lit]; exact h5 j u hj) s (by omega) (by omega) (by rw [hby]; exact growslice_fits (by omega) (by omega))
    rw [strCells_bys] at hr
    refine ⟨_, _, hr, ?_, ⟨rfl, rfl, rfl, by simp, fun k hk _ => Below.heap_alloc w.drew _ k hk⟩⟩
    have := ob_grow (base := base) (l := l) w e (ls s) (grownCap w (l.length + s.size) cap e) hbase (by rw [ls_len]; exact grownCap_ge w (l.length + s.size) cap e)
    rw [ls_len] at this
    exact this
theorem run_obB (t ty e : TypeId) (ht : P.underlying t = some (.slice e)) (hinfo : (P.info? e).map (fun i => (i.zero, i.size, i.bytes)) = some (some (.int .u8 0), 1, 1))
    (hown : OB w base v l) (hbase : base ≤ w.heap.size) (a : Addr) (c : Nat) (m : List UInt8) (hnews : ∀ j u, (bys m)[j]? = some u → w.cell? (a.add j) = some u) (hbytes : l.length + m.length ≤ 140737488355328) :
    ∃ v' w', (Builtin.append_ #[t, t] ty #[v, .slice (some a) m.length c]).run P w = .ok v' w' ∧ OB w' base v' (l ++ m) ∧ w.grownBy w' v.ownBlock := by
  obtain ⟨i, hi, hz, hsize, hby⟩ := info_parts hinfo
  obtain ⟨g, cap, rfl, h1, h2, h3, h4, h5⟩ := hown
  by_cases hroom : l.length + m.length ≤ cap
  · have hf := run_firstCells_some (P := P) w i.size m.length a m.length c (bys m) (by rw [hsize, bys_len, Nat.mul_one]) hnews
    rw [hsize] at hf
    have hst := run_storeCells_cells (P := P) g l.length (bys m) 0 w (fun j hj => by
        rw [bys_len] at hj
        have := (h4 (l.length + j) (by omega)).1
        rwa [Nat.zero_add] at this) (fun j hj => by
        rw [bys_len] at hj
        have := (h4 (l.length + j) (by omega)).2
        rwa [Nat.zero_add] at this) (bys_one m)
    rw [Nat.add_zero] at hst
    refine ⟨.slice (some ⟨g, 0, none⟩) (l.length + m.length) cap, _, ?_, ob_room w h1 h2 h4 h5 m hroom, grown_cells g (bys m) l.length w⟩
    simp [Builtin.append_, run_underlying ht, sizeOf, typeInfo, hi, hsize, Builtin.lenOf, hroom, hf, Addr.add_lit, hst]
  · have hr := run_append_grow (P := P) w t ty e i (.int .u8 0) ht hi hz ⟨g, 0, none⟩ l.length cap (bys l) (by rw [hsize, bys_len, Nat.mul_one]) (fun j u hj => by rw [Addr.add_lit]; exact h5 j u hj) a m.length c (bys m) (by rw [hsize, bys_len, Nat.mul_one]) hnews (by omega) (by omega) (by rw [hby]; exact growslice_fits (by omega) (by omega))
    exact ⟨_, _, hr, ob_grow (base := base) (l := l) w e m (grownCap w (l.length + m.length) cap e) hbase (grownCap_ge w (l.length + m.length) cap e), ⟨rfl, rfl, rfl, by simp, fun k hk _ => Below.heap_alloc w.drew _ k hk⟩⟩
/-- The operations, for the walk. -/
theorem wpList_obS {ops : Array Oper} {rest : List Oper} {o : Oper} {a : Act} {Q : Exit → Act → World → Prop} (hgd : o.guard = none) (sl x : Operand) (t u : TypeId)
    (ho : o.op = .call { callee := .builtin .append, args := #[sl, x], argTypes := #[t, u] }) (base : Nat) (e : TypeId) (ht : P.underlying t = some (.slice e)) (hu : P.underlying u = some .string)
    (hinfo : (P.info? e).map (fun i => (i.zero, i.size, i.bytes)) = some (some (.int .u8 0), 1, 1))
    (v : Value) (l : List UInt8) (hs : a.eval sl = v) (hown : OB w base v l) (s : ByteArray) (hx : a.eval x = .string s) (hbytes : l.length + s.size ≤ 140737488355328) (hbase : base ≤ w.heap.size)
    (h : ∀ v' w', OB w' base v' (l ++ ls s) → w.grownBy w' v.ownBlock → wpList P ops Q rest (a.put o.dst v') w') : wpList P ops Q (o :: rest) a w := by
  refine wpList_plain hgd fun K hK => ?_
  obtain ⟨v', w', hr, h2, h3⟩ := run_obS (P := P) w t u o.type e ht hu hinfo hown hbase s hbytes
  unfold Oper.wp execOp
  simp only [ho, resolve, invoke, builtin, Sem.run_bind, Sem.run_pure, Result.andThen_ok, List.map_toArray, List.map_cons, List.map_nil, hs, hx, hr]
  exact hK _ _ (h v' w' h2 h3)
theorem wpList_obB {ops : Array Oper} {rest : List Oper} {o : Oper} {a : Act} {Q : Exit → Act → World → Prop} (hgd : o.guard = none) (sl x : Operand) (t : TypeId)
    (ho : o.op = .call { callee := .builtin .append, args := #[sl, x], argTypes := #[t, t] }) (base : Nat) (e : TypeId) (ht : P.underlying t = some (.slice e))
    (hinfo : (P.info? e).map (fun i => (i.zero, i.size, i.bytes)) = some (some (.int .u8 0), 1, 1))
    (v : Value) (l : List UInt8) (hs : a.eval sl = v) (hown : OB w base v l) (ad : Addr) (c : Nat) (m : List UInt8) (hx : a.eval x = .slice (some ad) m.length c) (hnews : ∀ j u, (bys m)[j]? = some u → w.cell? (ad.add j) = some u)
    (hbytes : l.length + m.length ≤ 140737488355328) (hbase : base ≤ w.heap.size)
    (h : ∀ v' w', OB w' base v' (l ++ m) → w.grownBy w' v.ownBlock → wpList P ops Q rest (a.put o.dst v') w') : wpList P ops Q (o :: rest) a w := by
  refine wpList_plain hgd fun K hK => ?_
  obtain ⟨v', w', hr, h2, h3⟩ := run_obB (P := P) w t o.type e ht hinfo hown hbase ad c m hnews hbytes
  unfold Oper.wp execOp
  simp only [ho, resolve, invoke, builtin, Sem.run_bind, Sem.run_pure, Result.andThen_ok, List.map_toArray, List.map_cons, List.map_nil, hs, hx, hr]
  exact hK _ _ (h v' w' h2 h3)
theorem rd_news {w : World} {B n : Nat} {ad : Addr} {xs : List Value} (hr : Rd w B 1 (some ad) n xs) : ∀ (j : Nat) (u : Value), xs[j]? = some u → w.cell? (ad.add j) = some u := by
  rcases hr.2 with h0 | ⟨b, o, h, _, hc⟩
  · subst h0
    intro j u hu
    simp at hu
  · cases h
    intro j u hu
    rw [Addr.add_lit]
    exact hc j u hu
theorem wpList_obR {ops : Array Oper} {rest : List Oper} {o : Oper} {a : Act} {Q : Exit → Act → World → Prop} (hgd : o.guard = none) (sl x : Operand) (t : TypeId)
    (ho : o.op = .call { callee := .builtin .append, args := #[sl, x], argTypes := #[t, t] }) (base : Nat) (e : TypeId) (ht : P.underlying t = some (.slice e))
    (hinfo : (P.info? e).map (fun i => (i.zero, i.size, i.bytes)) = some (some (.int .u8 0), 1, 1))
    (v : Value) (l : List UInt8) (hs : a.eval sl = v) (hown : OB w base v l) (B : Nat) (ad : Addr) (c : Nat) (m : List UInt8) (hx : a.eval x = .slice (some ad) m.length c) (hr : Rd w B 1 (some ad) m.length (bys m))
    (hbytes : l.length + m.length ≤ 140737488355328) (hbase : base ≤ w.heap.size)
    (h : ∀ v' w', OB w' base v' (l ++ m) → w.grownBy w' v.ownBlock → wpList P ops Q rest (a.put o.dst v') w') : wpList P ops Q (o :: rest) a w :=
  wpList_obB w hgd sl x t ho base e ht hinfo v l hs hown ad c m hx (rd_news hr) hbytes hbase h
theorem OB.alloc {w : World} {base : Nat} {v : Value} {l : List UInt8} (h : OB w base v l) (o : Obj) : OB (w.alloc o) base v l := h.below ((Below.refl _ _).alloc (Nat.le_refl _) o)
/-- []byte(s), as an operation. -/
theorem ob_conv (src dst e : TypeId) (s : ByteArray) {d : TypeDesc} (hs : P.underlying src = some d) (hd : P.underlying dst = some (.slice e)) (he : P.underlying e = some (.int .u8)) :
    ∃ v w', (convert src dst (.string s)).run P w = .ok v w' ∧ OB w' w.heap.size v (ls s) ∧ Below w.heap.size w w' := by
  refine ⟨_, _, Lib.run_convert_string_bytes w src dst e s hs hd he, ?_, ?_⟩
  · have hnew := Lib.bytesWorld_at_new w e s
    have hge := grownCap_ge w s.size 0 e
    have hsz : (Lib.bytesCells w e s).size = grownCap w s.size 0 e := by
      simp [Lib.bytesCells]
      have : s.data.size = s.size := rfl
      omega
    refine ⟨w.heap.size, grownCap w s.size 0 e, by rw [ls_len], Nat.le_refl _, by rw [Lib.bytesWorld_size]; omega, by rw [ls_len]; exact hge, fun j hj => ?_, fun j u hu => ?_⟩
    · rw [Nat.zero_add, cell_of_row _ _ _ _ _ _ hnew]
      refine ⟨by rw [Array.getElem?_eq_getElem (by omega)]; rfl, ?_⟩
      simp only [World.frozen?, hnew, Bool.and_eq_false_iff, decide_eq_false_iff_not]
      left
      omega
    · rw [Nat.zero_add, cell_of_row _ _ _ _ _ _ hnew]
      have hj := (List.getElem?_eq_some_iff.1 hu).1
      rw [bys_len, ls_len] at hj
      unfold Lib.bytesCells
      rw [Array.getElem?_append_left (by rw [Array.size_map]; exact hj), Array.getElem?_map]
      unfold bys at hu
      rw [List.getElem?_map] at hu
      rw [← hu, show (ls s)[j]? = s.data[j]? from Array.getElem?_toList]
  · exact ⟨rfl, rfl, rfl, by rw [Lib.bytesWorld_size]; omega, fun k hk => Lib.bytesWorld_at_old w e s k hk⟩
end
end Go.Proofs.YtbdgkkmbnahgiaaGreatDoor

