/- strings.Split, Cut, CutPrefix, as topic calls them: the shelf's table laid; topic.levels, Levels, Filter, Shared. -/
import Derived.Test.YtmkkjiogokfnmaaDoorMFil
import Derived.Shelf.Strings.SplitCore
import Derived.Shelf.Strings.Search3
import Derived.Shelf.Strings.Count
import Derived.Shelf.Strings.Cut
import Derived.Lib.SplitLaws
namespace Go.Proofs.YtmkkjiogokfnmaaDoor
open Go.RowKit Go.Shelf
def lays221_ren : Ren := ⟨fun | 138 => 87 | 143 => 88 | 195 => 95 | 197 => 96 | 217 => 98 | 218 => 97 | 219 => 90 | 221 => 77 | 224 => 93 | 225 => 94 | 260 => 100 | 266 => 101 | 267 => 99 | 268 => 86 | 314 => 102 | n => n, fun | 0 => 0 | 3 => 3 | 4 => 4 | 5 => 5 | 9 => 9 | 21 => 21 | 31 => 23 | 46 => 61 | 51 => 66 | 105 => 119 | 119 => 123 | 138 => 125 | 139 => 126 | 146 => 121 | n => n, fun | 1 => 0 | 3 => 1 | 4 => 2 | n => n⟩
theorem lays221 : Lays.n221 Tryd.prog lays221_ren where
  mixed := by kernel_rfl
  f138 := Tryd.func87.trans (congrArg some (by kernel_rfl))
  f143 := Tryd.func88.trans (congrArg some (by kernel_rfl))
  f195 := Tryd.func95.trans (congrArg some (by kernel_rfl))
  f197 := Tryd.func96.trans (congrArg some (by kernel_rfl))
  f217 := Tryd.func98.trans (congrArg some (by kernel_rfl))
  f218 := Tryd.func97.trans (congrArg some (by kernel_rfl))
  f219 := Tryd.func90.trans (congrArg some (by kernel_rfl))
  f221 := Tryd.func77.trans (congrArg some (by kernel_rfl))
  f224 := Tryd.func93.trans (congrArg some (by kernel_rfl))
  f225 := Tryd.func94.trans (congrArg some (by kernel_rfl))
  f260 := Tryd.func100.trans (congrArg some (by kernel_rfl))
  f266 := Tryd.func101.trans (congrArg some (by kernel_rfl))
  f267 := Tryd.func99.trans (congrArg some (by kernel_rfl))
  f268 := Tryd.func86.trans (congrArg some (by kernel_rfl))
  f314 := Tryd.func102.trans (congrArg some (by kernel_rfl))
  t0 := Tryd.underlying0
  a0 := Tryd.isAgg0
  z0 := Tryd.sizeOf0
  v0 := Tryd.zeroValue0
  t3 := Tryd.underlying3
  a3 := Tryd.isAgg3
  z3 := Tryd.sizeOf3
  v3 := Tryd.zeroValue3
  t4 := Tryd.underlying4
  a4 := Tryd.isAgg4
  z4 := Tryd.sizeOf4
  v4 := Tryd.zeroValue4
  t5 := Tryd.underlying5
  a5 := Tryd.isAgg5
  z5 := Tryd.sizeOf5
  v5 := Tryd.zeroValue5
  t9 := Tryd.underlying9
  a9 := Tryd.isAgg9
  z9 := Tryd.sizeOf9
  v9 := Tryd.zeroValue9
  t21 := Tryd.underlying21
  a21 := Tryd.isAgg21
  z21 := Tryd.sizeOf21
  v21 := Tryd.zeroValue21
  t31 := Tryd.underlying23
  a31 := Tryd.isAgg23
  z31 := Tryd.sizeOf23
  v31 := Tryd.zeroValue23
  t46 := Tryd.underlying61
  a46 := Tryd.isAgg61
  z46 := Tryd.sizeOf61
  v46 := Tryd.zeroValue61
  t51 := Tryd.underlying66
  a51 := Tryd.isAgg66
  z51 := Tryd.sizeOf66
  v51 := Tryd.zeroValue66
  t105 := Tryd.underlying119
  a105 := Tryd.isAgg119
  z105 := Tryd.sizeOf119
  v105 := Tryd.zeroValue119
  t119 := Tryd.underlying123
  a119 := Tryd.isAgg123
  z119 := Tryd.sizeOf123
  t138 := Tryd.underlying125
  a138 := Tryd.isAgg125
  z138 := Tryd.sizeOf125
  v138 := Tryd.zeroValue125
  t139 := Tryd.underlying126
  a139 := Tryd.isAgg126
  z139 := Tryd.sizeOf126
  v139 := Tryd.zeroValue126
  t146 := Tryd.underlying121
  a146 := Tryd.isAgg121
  z146 := Tryd.sizeOf121
  v146 := Tryd.zeroValue121
  g1 := by kernel_rfl
  g3 := by kernel_rfl
  g4 := by kernel_rfl
theorem info_string : (Tryd.prog.info? 9).map (fun i => (i.zero, i.size, i.bytes)) = some (some (.string ByteArray.empty), 1, 16) := by kernel_rfl
/-- Texts as the cells of a slice. -/
def sv (l : List ByteArray) : List Value := l.map Value.string
theorem sv_len (l : List ByteArray) : (sv l).length = l.length := by simp [sv]
theorem index_s (x : ByteArray) (w : World) : Calls Tryd.prog 88 #[.string x, .string ⟨#[47]⟩] w fun e w' => e = .returned (.int .i64 (Lib.indexB x ⟨#[47]⟩)) ∧ w' = w := by
  have c : Calls Tryd.prog 88 #[.string x, .string ⟨#[47]⟩] w fun e w' => e = .returned (.int .i64 (Lib.indexByte x.data.toList 47)) ∧ w' = w := Any.strings_Index_one { lays221 with } x 47 w
  rw [← Lib.index_one] at c
  exact c
theorem indexL_s (x : ByteArray) (w : World) : Calls Tryd.prog 90 #[.string x, .string ⟨#[47]⟩] w fun e w' => e = .returned (.int .i64 (Lib.indexB x ⟨#[47]⟩)) ∧ w' = w := by
  have c : Calls Tryd.prog 90 #[.string x, .string ⟨#[47]⟩] w fun e w' => e = .returned (.int .i64 (Lib.indexByte x.data.toList 47)) ∧ w' = w := Any.stringslite_Index_one { lays221 with } x 47 w
  rw [← Lib.index_one] at c
  exact c
theorem count_s (x : ByteArray) (w : World) : Calls Tryd.prog 87 #[.string x, .string ⟨#[47]⟩] w fun e w' => e = .returned (.int .i64 (Lib.countB x ⟨#[47]⟩)) ∧ w' = w := by
  have c : Calls Tryd.prog 87 #[.string x, .string ⟨#[47]⟩] w fun e w' => e = .returned (.int .i64 (Lib.countByte x.data.toList 47)) ∧ w' = w := Any.strings_Count_one { lays221 with } x 47 w
  refine c.mono fun e w' ⟨he, hw⟩ => ⟨?_, hw⟩
  rw [he]
  show _ = Ending.returned (Value.int .i64 ((Lib.count x.data.toList [47] : Nat) : Int))
  rw [Lib.count_one]
  rfl
set_option maxHeartbeats 1000000 in
theorem split_any (s : ByteArray) (w : World) (hs : s.size < 4294967281) :
    Calls Tryd.prog 64 #[.string s, .string ⟨#[47]⟩] w fun e w' => e = .returned (.slice (some ⟨w.heap.size, 0, none⟩) (lvs s).length (lvs s).length) ∧ w' = w.alloc (.cells (sv (lvs s)).toArray 9) := by
  have hle := Lib.countB_le ⟨#[47]⟩ (by decide) s.size s (Nat.le_refl _)
  have c : Calls Tryd.prog 77 #[.string s, .string ⟨#[47]⟩, .int .i64 ((0 : Nat) : Int), .int .i64 (-1)] w _ := Any.strings_genSplit_core lays221 info_string s ⟨#[47]⟩ 0 (-1) (Lib.countB s ⟨#[47]⟩ + 1) w hs (by decide) (Nat.zero_le _) (fun x c _ => index_s x _) (count_s s w) (by decide) (by decide) (by rw [if_pos (by decide)]; omega)
  rw [Nat.add_sub_cancel] at c
  have e2 : Lib.cellsOf (Lib.splitB ⟨#[47]⟩ 0 (Lib.countB s ⟨#[47]⟩) s) (Lib.countB s ⟨#[47]⟩ + 1) = (sv (lvs s)).toArray := by rw [← lvs_count s]; exact Lib.cellsOf_full _
  rw [e2] at c
  have e3 : (Lib.splitB ⟨#[47]⟩ 0 (Lib.countB s ⟨#[47]⟩) s).length = (lvs s).length := rfl
  rw [e3, ← lvs_count s] at c
  clear hle e2 e3 hs
  generalize lvs s = l at *
  go_enter Tryd.func64, Tryd.ntmps64
  go_wp2_with fail
  refine c.mono ?_
  rintro e w1 ⟨rfl, rfl⟩
  go_wp2
  go_ret
  exact ⟨rfl, rfl⟩
set_option maxHeartbeats 1000000 in
theorem levelsS_any (s : ByteArray) (w : World) (hs : s.size < 4294967281) :
    Calls Tryd.prog 44 #[.string s] w fun e w' => e = .returned (.slice (some ⟨w.heap.size, 0, none⟩) (lvs s).length (lvs s).length) ∧ w' = w.alloc (.cells (sv (lvs s)).toArray 9) := by
  have c := split_any s w hs
  generalize lvs s = l at *
  go_enter Tryd.func44, Tryd.ntmps44
  go_wp2_with fail
  refine c.mono ?_
  rintro e w1 ⟨rfl, rfl⟩
  go_wp2
  go_ret
  exact ⟨rfl, rfl⟩
set_option maxHeartbeats 1000000 in
theorem wild_any (x : ByteArray) (w : World) :
    Calls Tryd.prog 62 #[.string x] w fun e w' => e = .returned (.bool (wildB x)) ∧ w = w' := by
  have HW : Hid (wildB x = ((x.toList == [43]) || (x.toList == [35]))) := Lib.hid rfl
  go_enter Tryd.func62, Tryd.ntmps62
  cases h1 : (x.toList == [43])
  · have HX : Hid (wildB x = (x.toList == [35])) := Lib.hid (by rw [HW.out, h1, Bool.false_or])
    go_wp2
    go_ret
    exact ⟨by rw [HX.out]; rfl, rfl⟩
  · have HX : Hid (wildB x = true) := Lib.hid (by rw [HW.out, h1, Bool.true_or])
    go_wp2
    go_ret
    exact ⟨by rw [HX.out]; rfl, rfl⟩
theorem levs_step {l : List ByteArray} {k : Nat} {x : ByteArray} (hx : l[k]? = some x) (h : levOk x (decide (k + 1 = l.length)) = true) (ha : ∀ (j : Nat) (y : ByteArray), j < k → l[j]? = some y → levOk y (decide (j + 1 = l.length)) = true) :
    ∀ (j : Nat) (y : ByteArray), j < k + 1 → l[j]? = some y → levOk y (decide (j + 1 = l.length)) = true := by
  intro j y hj hy
  rcases Nat.lt_succ_iff_lt_or_eq.1 hj with h1 | rfl
  · exact ha j y h1 hy
  · rw [hx] at hy
    obtain rfl := Option.some.inj hy
    exact h
theorem levs_end {l : List ByteArray} (ha : ∀ (j : Nat) (y : ByteArray), j < l.length → l[j]? = some y → levOk y (decide (j + 1 = l.length)) = true) : levsOk l = true :=
  levs_yes fun i x hx => ha i x (List.getElem?_eq_some_iff.1 hx).1 hx
theorem rd_sv {w : World} {B n : Nat} {A : Option Addr} {l : List ByteArray} (h : Rd w B 1 A n (sv l)) {i : Nat} (hi : i < n) : ∃ b o x, A = some ⟨b, o, none⟩ ∧ b < B ∧ l[i]? = some x ∧ w.cell? ⟨b, o + i, none⟩ = some (.string x) := by
  obtain ⟨b, o, u, e, hb, hu, hc⟩ := h.at1 hi
  have hl : i < l.length := by have := h.len; rw [sv_len] at this; omega
  refine ⟨b, o, l[i], e, hb, List.getElem?_eq_getElem hl, ?_⟩
  have : u = .string l[i] := by simpa [sv, hl] using hu.symm
  rw [← this]; exact hc
set_option maxHeartbeats 2000000 in
set_option maxRecDepth 10000 in
theorem levels_any (A : Option Addr) (n c : Nat) (l : List ByteArray) (w : World) (hn : l.length = n) (h : Rd w w.heap.size 1 A n (sv l)) (hsz : ∀ x ∈ l, x.size ≤ 65535) (hn2 : n ≤ 4611686018427387904) :
    Calls Tryd.prog 43 #[.slice A n c] w fun e w' => e = .returned (.bool (levsOk l)) ∧ Below w.heap.size w w' := by
  have E1 := Lib.hid hn; have HL := Lib.hid h; have HS := Lib.hid hsz
  clear hn h hsz
  go_enter Tryd.func43, Tryd.ntmps43
  go_wp2
  go_loopw [8] (fun i wr => ∃ k : Nat, k ≤ n ∧ i = .int .i64 k ∧ (∀ (j : Nat) (y : ByteArray), j < k → l[j]? = some y → levOk y (decide (j + 1 = l.length)) = true) ∧ Below w.heap.size w wr) (fun i _ => n - (intOf i).toNat)
  case atStart => exact ⟨0, by omega, rfl, fun j x hj => by omega, Below.refl _ _⟩
  case round =>
    obtain ⟨k, hk, rfl, hall, hbel⟩ := hrel
    have HA := Lib.hid hall; have HB := Lib.hid hbel; clear hall
    by_cases hlt : k < n
    · obtain ⟨b, o, x, rfl, hb, hx, hc⟩ := rd_sv (HL.out.below hbel) hlt
      have HX := Lib.hid hx
      have HXS := Lib.hid (HS.out x (List.mem_of_getElem? hx))
      obtain ⟨d, hd⟩ : ∃ d, decide (k + 1 = l.length) = d := ⟨_, rfl⟩
      have hlast : ((k : Int) + 1 == (n : Int)) = d := by
        rw [← hd, E1.out, Bool.eq_iff_iff, beq_iff_eq, decide_eq_true_iff]; omega
      have HD := Lib.hid hd
      have b1 : (0 : Int) ≤ (k : Int) := by omega
      have b2 : (k : Int) < (n : Int) := by omega
      have HV : Hid (levOk x d = !(((x.toList == [35]) && !d) || (!wildB x && anyS x))) := Lib.hid rfl
      clear hx hd hbel
      cases h35 : (x.toList == [35])
      · have HV1 : Hid (levOk x d = !(!wildB x && anyS x)) := Lib.hid (by rw [HV.out, h35]; rfl)
        go_wp2_with fail
        refine (wild_any x _).mono ?_
        rintro e w1 ⟨rfl, rfl⟩
        cases hw : wildB x
        · have HV2 : Hid (levOk x d = !anyS x) := Lib.hid (by rw [HV1.out, hw]; rfl)
          clear hw
          go_wp2_with fail
          refine (containsAny_any x _ HXS.out).mono ?_
          rintro e w2 ⟨rfl, hb2⟩
          have HB2 := Lib.hid (HB.out.trans (hb2.mono HB.out.size)); clear hb2
          cases ha : anyS x
          · have HV3 : Hid (levOk x (decide (k + 1 = l.length)) = true) := Lib.hid (by rw [HD.out, HV2.out, ha]; rfl)
            clear ha
            go_wp2
            go_roundw
            case rel => exact ⟨k + 1, by omega, by go_num, levs_step HX.out HV3.out HA.out, HB2.out⟩
            case measure => simp [intOf]; omega
          · have HV3 : Hid (levsOk l = false) := Lib.hid (levs_no HX.out (by rw [HD.out, HV2.out, ha]; rfl))
            clear ha
            go_wp2
            go_ret
            exact ⟨by rw [HV3.out]; rfl, HB2.out⟩
        · have HV3 : Hid (levOk x (decide (k + 1 = l.length)) = true) := Lib.hid (by rw [HD.out, HV1.out, hw]; rfl)
          clear hw
          go_wp2
          go_roundw
          case rel => exact ⟨k + 1, by omega, by go_num, levs_step HX.out HV3.out HA.out, HB.out⟩
          case measure => simp [intOf]; omega
      · cases d
        · have HV3 : Hid (levsOk l = false) := Lib.hid (levs_no HX.out (by rw [HD.out, HV.out, h35]; rfl))
          go_wp2
          go_ret
          exact ⟨by rw [HV3.out]; rfl, HB.out⟩
        · have HWX : Hid (wildB x = true) := Lib.hid (by unfold wildB; rw [h35, Bool.or_true])
          have HV3 : Hid (levOk x (decide (k + 1 = l.length)) = true) := Lib.hid (by rw [HD.out, HV.out, HWX.out, Bool.not_true, Bool.and_false]; rfl)
          go_wp2_with fail
          refine (wild_any x _).mono ?_
          rintro e w1 ⟨rfl, rfl⟩
          rw [HWX.out]
          go_wp2
          go_roundw
          case rel => exact ⟨k + 1, by omega, by go_num, levs_step HX.out HV3.out HA.out, HB.out⟩
          case measure => simp [intOf]; omega
    · obtain rfl : k = n := by omega
      have HV3 : Hid (levsOk l = true) := Lib.hid (levs_end (fun j y hj => HA.out j y (by have := E1.out; omega)))
      go_wp2
      go_ret
      exact ⟨by rw [HV3.out]; rfl, hbel⟩
theorem rd_lvs (w : World) (l : List ByteArray) : Rd (w.alloc (.cells (sv l).toArray 9)) (w.alloc (.cells (sv l).toArray 9)).heap.size 1 (some ⟨w.heap.size, 0, none⟩) l.length (sv l) := by
  have h := Rd.fresh w (sv l).toArray 9
  simp only [heap_alloc_size] at h ⊢
  simpa [sv_len] using h
set_option maxHeartbeats 1000000 in
set_option maxRecDepth 10000 in
theorem filter_any (s : ByteArray) (w : World) (hs : s.size ≤ 4611686018427387904) :
    Calls Tryd.prog 29 #[.string s] w fun e w' => e = .returned (.bool (filterB s)) ∧ Below w.heap.size w w' := by
  have HS := Lib.hid hs
  have HF : Hid (filterB s = (textB s && levsOk (lvs s))) := Lib.hid rfl
  clear hs
  go_enter Tryd.func29, Tryd.ntmps29
  go_wp2_with fail
  refine (textT_any s _ HS.out).mono ?_
  rintro e w1 ⟨rfl, hb⟩
  have HB := Lib.hid hb; clear hb
  cases ht : textB s
  · have HX : Hid (filterB s = false) := Lib.hid (by rw [HF.out, ht]; rfl)
    clear ht
    go_wp2
    go_ret
    exact ⟨by rw [HX.out]; rfl, HB.out⟩
  have HX : Hid (filterB s = levsOk (lvs s)) := Lib.hid (by rw [HF.out, ht, Bool.true_and])
  have HV : Hid (s.size ≤ 65535) := Lib.hid (valid_size (by unfold textB at ht; rw [Bool.and_eq_true] at ht; exact ht.2))
  clear ht HF
  have HLS : Hid (∀ x ∈ lvs s, x.size ≤ 65535) := Lib.hid fun x hx => Nat.le_trans (lvs_size s x hx) HV.out
  have HLL : Hid ((lvs s).length ≤ 4611686018427387904) := Lib.hid (by have := lvs_len s; have := HV.out; omega)
  go_wp2_with fail
  refine (levelsS_any s _ (by have := HV.out; omega)).mono ?_
  rintro e w2 ⟨rfl, rfl⟩
  generalize lvs s = l at *
  have HR := Lib.hid (rd_lvs w1 l)
  have HB2 := Lib.hid (HB.out.alloc HB.out.size (.cells (sv l).toArray 9))
  generalize w1.alloc (.cells (sv l).toArray 9) = W at *
  generalize w1.heap.size = g at *
  go_wp2_with fail
  refine (levels_any _ _ _ l _ rfl HR.out HLS.out HLL.out).mono ?_
  rintro e w3 ⟨rfl, hb⟩
  have HB3 := Lib.hid (HB2.out.trans (hb.mono HB2.out.size)); clear hb
  go_wp2
  go_ret
  exact ⟨by rw [HX.out]; rfl, HB3.out⟩
/-! ### Shared -/
theorem front_ext (s : ByteArray) : frontB s = (decide (7 ≤ s.size) && ((s.extract 0 7).toList == [36, 115, 104, 97, 114, 101, 47])) := by
  rw [tl_ls, ls_front]
  unfold frontB
  by_cases h : 7 ≤ s.size
  · rw [decide_eq_true h, Bool.true_and, Bool.eq_iff_iff, List.isPrefixOf_iff_prefix, beq_iff_eq, List.prefix_iff_eq_take]
    exact eq_comm
  · rw [decide_eq_false h, Bool.false_and, Bool.eq_false_iff]
    intro hp
    have := (List.isPrefixOf_iff_prefix.1 hp).length_le
    rw [ls_len] at this
    simp [frontL] at this
    omega
set_option maxHeartbeats 1000000 in
theorem hasPrefix_any (s : ByteArray) (w : World) (hs : s.size ≤ 4611686018427387904) :
    Calls Tryd.prog 89 #[.string s, .string ⟨#[36, 115, 104, 97, 114, 101, 47]⟩] w fun e w' => e = .returned (.bool (frontB s)) ∧ w = w' := by
  by_cases h : 7 ≤ s.size
  · have h' : (7 : Int) ≤ (s.size : Int) := by omega
    have HF : Hid (frontB s = ((s.extract 0 7).toList == [36, 115, 104, 97, 114, 101, 47])) := Lib.hid (by rw [front_ext, decide_eq_true h, Bool.true_and])
    clear h
    go_enter Tryd.func89, Tryd.ntmps89
    go_wp2
    go_ret
    exact ⟨by rw [HF.out]; rfl, rfl⟩
  · have h' : ¬ (7 : Int) ≤ (s.size : Int) := by omega
    have HF : Hid (frontB s = false) := Lib.hid (by rw [front_ext, decide_eq_false h, Bool.false_and])
    clear h
    go_enter Tryd.func89, Tryd.ntmps89
    go_wp2
    go_ret
    exact ⟨by rw [HF.out]; rfl, rfl⟩
theorem front_size {s : ByteArray} (h : frontB s = true) : 7 ≤ s.size := (front_facts h).1
set_option maxHeartbeats 1000000 in
theorem cutPrefixL_any (s : ByteArray) (w : World) (hs : s.size ≤ 4611686018427387904) :
    Calls Tryd.prog 78 #[.string s, .string ⟨#[36, 115, 104, 97, 114, 101, 47]⟩] w fun e w' => e = .returned (.tuple #[.string (shrS s), .bool (frontB s)]) ∧ w = w' := by
  have HS := Lib.hid hs; clear hs
  go_enter Tryd.func78, Tryd.ntmps78
  go_wp2_with fail
  refine (hasPrefix_any s _ HS.out).mono ?_
  rintro e w1 ⟨rfl, rfl⟩
  cases hf : frontB s
  · have HFB := Lib.hid hf
    have HX : Hid (shrS s = s) := Lib.hid (by unfold shrS; rw [hf]; rfl)
    clear hf
    go_wp2
    go_ret2
    exact ⟨by rw [HX.out, HFB.out]; rfl, rfl⟩
  · have HFB := Lib.hid hf
    have HX : Hid (shrS s = s.extract 7 s.size) := Lib.hid (by unfold shrS; rw [hf]; rfl)
    have h7 : (7 : Int) ≤ (s.size : Int) := by have := front_size hf; omega
    clear hf
    go_wp2
    go_ret2
    exact ⟨by rw [HX.out, HFB.out]; rfl, rfl⟩
set_option maxHeartbeats 1000000 in
theorem cutPrefix_any (s : ByteArray) (w : World) (hs : s.size ≤ 4611686018427387904) :
    Calls Tryd.prog 65 #[.string s, .string ⟨#[36, 115, 104, 97, 114, 101, 47]⟩] w fun e w' => e = .returned (.tuple #[.string (shrS s), .bool (frontB s)]) ∧ w = w' := by
  have HS := Lib.hid hs; clear hs
  go_enter Tryd.func65, Tryd.ntmps65
  go_wp2_with fail
  refine (cutPrefixL_any s _ HS.out).mono ?_
  rintro e w1 ⟨rfl, rfl⟩
  go_wp2
  go_ret2
  exact ⟨rfl, rfl⟩
set_option maxHeartbeats 2000000 in
theorem cutL_any (s : ByteArray) (w : World) (hs : s.size ≤ 4611686018427387904) :
    Calls Tryd.prog 79 #[.string s, .string ⟨#[47]⟩] w fun e w' => e = .returned (.tuple #[.string (cutS s).1, .string (cutS s).2.1, .bool (cutS s).2.2]) ∧ Below w.heap.size w w' := by
  rcases Lib.indexB_cases s ⟨#[47]⟩ with hix | ⟨i, hix, hroom⟩
  · have HX : Hid (cutS s = (s, ⟨#[]⟩, false)) := Lib.hid (by unfold cutS; rw [if_pos hix])
    have HI := Lib.hid hix
    clear hix
    go_enter Tryd.func79, Tryd.ntmps79
    go_wp2_with fail
    refine (indexL_s s _).mono ?_
    rintro e w1 ⟨rfl, rfl⟩
    rw [HI.out]
    go_wp2
    go_ret3
    exact ⟨by rw [HX.out]; rfl, Below.refl _ _⟩
  · have HX : Hid (cutS s = (s.extract 0 i, s.extract (i + 1) s.size, true)) := Lib.hid (by
      unfold cutS; rw [if_neg (by omega), hix]; rfl)
    have HI := Lib.hid hix
    have hz : (⟨#[47]⟩ : ByteArray).size = 1 := rfl
    rw [hz] at hroom
    have c1 : (0 : Int) ≤ (i : Int) := by omega
    have c2 : (i : Int) ≤ (s.size : Int) := by omega
    have c3 : (0 : Int) ≤ (i : Int) + 1 := by omega
    have c4 : (i : Int) + 1 ≤ (s.size : Int) := by omega
    clear hix hz hroom
    go_enter Tryd.func79, Tryd.ntmps79
    go_wp2_with fail
    refine (indexL_s s _).mono ?_
    rintro e w1 ⟨rfl, rfl⟩
    rw [HI.out]
    go_wp2
    go_region
    go_wp2
    go_ret3
    exact ⟨by rw [HX.out]; rfl, below_drawn (Below.refl _ _) _⟩
set_option maxHeartbeats 1000000 in
theorem cut_any (s : ByteArray) (w : World) (hs : s.size ≤ 4611686018427387904) :
    Calls Tryd.prog 66 #[.string s, .string ⟨#[47]⟩] w fun e w' => e = .returned (.tuple #[.string (cutS s).1, .string (cutS s).2.1, .bool (cutS s).2.2]) ∧ Below w.heap.size w w' := by
  have HS := Lib.hid hs; clear hs
  go_enter Tryd.func66, Tryd.ntmps66
  go_wp2_with fail
  refine (cutL_any s _ HS.out).mono ?_
  rintro e w1 ⟨rfl, hb⟩
  have HB := Lib.hid hb; clear hb
  go_wp2
  go_ret3
  exact ⟨rfl, HB.out⟩
/-- What topic.Shared leaves. -/
def SharedOut (s : ByteArray) (w : World) (e : Ending) (w' : World) : Prop := (∃ a b : ByteArray, e = .returned (.tuple #[.string a, .string b, .bool (sharedB s)])) ∧ Below w.heap.size w w'
set_option maxHeartbeats 2000000 in
set_option maxRecDepth 10000 in
theorem shared_any (s : ByteArray) (w : World) (hs : s.size ≤ 4611686018427387904) :
    Calls Tryd.prog 46 #[.string s] w (SharedOut s w) := by
  have HS := Lib.hid hs
  have HZ := Lib.hid (shr_size s)
  have HC := Lib.hid (cut_size (shrS s))
  have HE : Hid (sharedB s = (frontB s && ((cutS (shrS s)).2.2 && (validB s && (nameB (cutS (shrS s)).1 && filterB (cutS (shrS s)).2.1))))) := Lib.hid rfl
  clear hs
  go_enter Tryd.func46, Tryd.ntmps46
  go_wp2_with fail
  refine (cutPrefix_any s _ HS.out).mono ?_
  rintro e w1 ⟨rfl, rfl⟩
  go_wp2_with fail
  refine (cut_any (shrS s) _ (by have := HS.out; have := HZ.out; omega)).mono ?_
  rintro e w1 ⟨rfl, hb⟩
  have HB := Lib.hid hb; clear hb
  obtain ⟨R, hR⟩ : ∃ R, cutS (shrS s) = R := ⟨_, rfl⟩
  rw [hR] at HC HE ⊢
  clear hR
  generalize shrS s = r at *
  obtain ⟨x, y, z⟩ := R
  simp only at HC HE ⊢
  cases hf : frontB s
  · have HX : Hid (sharedB s = false) := Lib.hid (by rw [HE.out, hf]; rfl)
    clear hf
    go_wp2
    go_ret3
    exact ⟨⟨_, _, by rw [HX.out]; rfl⟩, HB.out⟩
  have HE1 : Hid (sharedB s = (z && (validB s && (nameB x && filterB y)))) := Lib.hid (by rw [HE.out, hf, Bool.true_and])
  clear hf
  cases z
  · have HX : Hid (sharedB s = false) := Lib.hid (by rw [HE1.out]; rfl)
    go_wp2
    go_ret3
    exact ⟨⟨_, _, by rw [HX.out]; rfl⟩, HB.out⟩
  go_wp2_with fail
  refine (valid_any s _ HS.out).mono ?_
  rintro e w2 ⟨rfl, hb⟩
  have HB2 := Lib.hid (HB.out.trans (hb.mono HB.out.size)); clear hb
  cases hv : validB s
  · have HX : Hid (sharedB s = false) := Lib.hid (by rw [HE1.out, hv]; rfl)
    clear hv
    go_wp2
    go_ret3
    exact ⟨⟨_, _, by rw [HX.out]; rfl⟩, HB2.out⟩
  have HE2 : Hid (sharedB s = (nameB x && filterB y)) := Lib.hid (by rw [HE1.out, hv, Bool.true_and, Bool.true_and])
  clear hv
  go_wp2_with fail
  refine (name_any x _ (by have := HS.out; have := HZ.out; have := HC.out.1; omega)).mono ?_
  rintro e w3 ⟨rfl, hb⟩
  have HB3 := Lib.hid (HB2.out.trans (hb.mono HB2.out.size)); clear hb
  cases hn : nameB x
  · have HX : Hid (sharedB s = false) := Lib.hid (by rw [HE2.out, hn]; rfl)
    clear hn
    go_wp2
    go_ret3
    exact ⟨⟨_, _, by rw [HX.out]; rfl⟩, HB3.out⟩
  have HE3 : Hid (sharedB s = filterB y) := Lib.hid (by rw [HE2.out, hn, Bool.true_and])
  clear hn
  go_wp2_with fail
  refine (filter_any y _ (by have := HS.out; have := HZ.out; have := HC.out.2; omega)).mono ?_
  rintro e w4 ⟨rfl, hb⟩
  have HB4 := Lib.hid (HB3.out.trans (hb.mono HB3.out.size)); clear hb
  cases hn : filterB y
  · have HX : Hid (sharedB s = false) := Lib.hid (by rw [HE3.out, hn])
    clear hn
    go_wp2
    go_ret3
    exact ⟨⟨_, _, by rw [HX.out]; rfl⟩, HB4.out⟩
  have HX : Hid (sharedB s = true) := Lib.hid (by rw [HE3.out, hn])
  clear hn
  go_wp2
  go_ret3
  exact ⟨⟨_, _, by rw [HX.out]; rfl⟩, HB4.out⟩
end Go.Proofs.YtmkkjiogokfnmaaDoor
