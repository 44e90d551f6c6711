/-
  The law RegistryNames, walked.
-/
import Derived.Test.YtdpndphecdhlaaaLwD
import Derived.Test.YtdpndphecdhlaaaLwC

namespace Go.Proofs.Ytdpndphecdhlaaa
open Go.RowKit
def rXY : ByteArray := ⟨#[120, 47, 121]⟩
def rZ : ByteArray := ⟨#[122]⟩
def rQ : ByteArray := ⟨#[113]⟩
def rW : ByteArray := ⟨#[119]⟩
def rD1 : ByteArray := ⟨#[100]⟩
def rAp : ByteArray := ⟨#[97, 43]⟩
def nm1 : Rg := [(rC, [⟨2, rA, true⟩])]
def nm2 : Rg := [(rC, [⟨1, rXY, false⟩, ⟨2, rA, true⟩])]
def nm3 : Rg := [(rB, [⟨1, rZ, false⟩]), (rC, [⟨1, rXY, false⟩, ⟨2, rA, true⟩])]
def nm4 : Rg := [(rB, [⟨1, rZ, false⟩]), (rC, [⟨2, rA, true⟩])]
def nm6 : Rg := [(rC, [⟨1, rW, false⟩, ⟨2, rA, true⟩])]
theorem nme1 : rfPre [] rC rA 2 = (0, nm1) := by kernel_rfl
theorem nme2 : rfReg nm1 rC rXY = ((1, true, 0), nm2) := by kernel_rfl
theorem nme3 : rfReg nm2 rB rZ = ((1, true, 0), nm3) := by kernel_rfl
theorem nme4 : rfPre nm3 rC rA 2 = (0, nm3) := by kernel_rfl
theorem nme5 : rfPre nm3 rC rA 3 = (16, nm3) := by kernel_rfl
theorem nme6 : rfPre nm3 rC rQ 1 = (16, nm3) := by kernel_rfl
theorem nme7 : rfPre nm3 rC rQ 65535 = (2, nm3) := by kernel_rfl
theorem nme8 : rfReg nm3 rC rAp = ((0, false, 10), nm3) := by kernel_rfl
theorem nme9 : rfName nm3 rC 1 = (rXY, 0) := by kernel_rfl
theorem nme10 : rfName nm3 rB 2 = (.empty, 11) := by kernel_rfl
theorem nme11 : rfID nm3 rC rA = (2, 0) := by kernel_rfl
theorem nme12 : rfID nm3 rD1 rA = (0, 11) := by kernel_rfl
theorem nme13 : rgT nm3 rC = [⟨1, rXY, false⟩, ⟨2, rA, true⟩] := by kernel_rfl
theorem nme14 : kvNames nm3 = [rB, rC] := by kernel_rfl
theorem nme15 : rfClr nm3 rC = (1, nm4) := by kernel_rfl
theorem nme16 : rfClr nm4 rB = (1, nm1) := by kernel_rfl
theorem nme17 : rfReg nm1 rC rW = ((1, true, 0), nm6) := by kernel_rfl
theorem nme18 : kvNames nm6 = [rC] := by kernel_rfl
theorem nme19 : (rgT nm6 rC).length = 2 := by kernel_rfl
theorem nme20 : rfFix nm6 rC 2 = true := by kernel_rfl
theorem nme21 : rfFix nm6 rC 1 = false := by kernel_rfl
theorem nme22 : (rgT nm3 rC).length = 2 := by kernel_rfl
theorem nme23 : nm3.length = 2 := by kernel_rfl
theorem nme24 : nm6.length = 1 := by kernel_rfl
set_option maxRecDepth 10000 in
set_option maxHeartbeats 8000000 in
theorem registryNames_any (w : World) : Calls Try.prog 6 #[] w fun e w' => e = .returned (.bool true) ∧ Below w.heap.size w w' := by
  have cl := lives24_any w
  go_enter Try.func6, Try.ntmps6
  go_wp2_with fail
  refine cl.mono ?_
  rintro e w1 ⟨rfl, hb1⟩
  have c0 := newN w w1 hb1
  clear cl hb1
  go_wp2_with fail
  refine c0.mono ?_
  rintro e w2 ⟨rfl, h2⟩
  have c1 := preN h2 rC rA 2 rC_le (by decide +kernel) (by decide)
  rw [nme1] at c1
  unfold rC rA at c1
  clear c0 h2
  generalize w1.heap.size + 1 = gp at c1
  go_wp2_with fail
  refine c1.mono ?_
  rintro e w3 ⟨rfl, h3, -⟩
  have c2 := regN h3 rC rXY rC_le (by decide +kernel) (by decide)
  rw [nme2] at c2
  unfold rC rXY at c2
  clear c1 h3
  go_wp2_with fail
  refine c2.mono ?_
  rintro e w4 ⟨rfl, h4, -⟩
  have c3 := regN h4 rB rZ (by decide +kernel) (by decide +kernel) (by decide)
  rw [nme3] at c3
  unfold rB rZ at c3
  clear c2 h4
  simp only [regV]
  go_wp2_with fail
  refine c3.mono ?_
  rintro e w5 ⟨rfl, h5, -⟩
  have c4 := preN h5 rC rA 2 rC_le (by decide +kernel) (by decide)
  rw [nme4] at c4
  unfold rC rA at c4
  clear c3 h5
  simp only [regV]
  go_wp2_with fail
  refine c4.mono ?_
  rintro e w6 ⟨rfl, h6, -⟩
  have c5 := preN h6 rC rA 3 rC_le (by decide +kernel) (by decide)
  rw [nme5] at c5
  unfold rC rA at c5
  clear c4 h6
  go_wp2_with fail
  refine c5.mono ?_
  rintro e w7 ⟨rfl, h7, -⟩
  have c6 := preN h7 rC rQ 1 rC_le (by decide +kernel) (by decide)
  rw [nme6] at c6
  unfold rC rQ at c6
  clear c5 h7
  go_wp2_with fail
  refine c6.mono ?_
  rintro e w8 ⟨rfl, h8, -⟩
  have c7 := preN h8 rC rQ 65535 rC_le (by decide +kernel) (by decide)
  rw [nme7] at c7
  unfold rC rQ at c7
  clear c6 h8
  go_wp2_with fail
  refine c7.mono ?_
  rintro e w9 ⟨rfl, h9, -⟩
  have c8 := regN h9 rC rAp rC_le (by decide +kernel) (by decide)
  rw [nme8] at c8
  unfold rC rAp at c8
  clear c7 h9
  go_wp2_with fail
  refine c8.mono ?_
  rintro e w10 ⟨rfl, h10, -⟩
  have c9 := nameN h10 rC rC_le 1 (by decide)
  rw [nme9] at c9
  unfold rC rXY at c9
  clear c8 h10
  simp only [regV]
  go_wp2_with fail
  refine c9.mono ?_
  rintro e w11 ⟨rfl, h11, -⟩
  have c10 := nameN h11 rB (by decide +kernel) 2 (by decide)
  rw [nme10] at c10
  unfold rB at c10
  clear c9 h11
  go_wp2_with fail
  refine c10.mono ?_
  rintro e w12 ⟨rfl, h12, -⟩
  have c11 := idN h12 rC rA rC_le (by decide +kernel)
  have c12 := idN h12 rD1 rA (by decide +kernel) (by decide +kernel)
  rw [nme11] at c11
  rw [nme12] at c12
  unfold rC rA at c11
  unfold rD1 rA at c12
  have c13 := topN h12 rC rC_le (by decide)
  unfold rC at c13
  rw [show rgT nm3 ⟨#[99]⟩ = [⟨1, rXY, false⟩, ⟨2, rA, true⟩] from nme13] at c13
  clear c10 h12
  go_wp2_with fail
  refine c11.mono ?_
  rintro e w13 ⟨rfl, rfl⟩
  clear c11
  go_wp2_with fail
  refine c12.mono ?_
  rintro e w14 ⟨rfl, rfl⟩
  clear c12
  go_wp2_with fail
  refine c13.mono ?_
  rintro e w15 ⟨v1, rfl, hr1, -, h15⟩
  have c14 := cliN h15 (by decide)
  rw [nme14, nme23] at c14
  have R1 := Lib.hid hr1
  clear c13 h15 hr1
  go_wp2_with fail
  refine c14.mono ?_
  rintro e w16 ⟨v2, rfl, hr2, hb2, h16⟩
  have R2 := Lib.hid hr2
  have R1b := Lib.hid (own_below R1.out hb2)
  have c15 := clrN h16 rC rC_le (by decide)
  rw [nme15] at c15
  unfold rC at c15
  clear c14 h16 hr2 hb2 R1
  go_wp2_with fail
  refine c15.mono ?_
  rintro e w17 ⟨rfl, h17, hM⟩
  have R1c := Lib.hid (own_mods R1b.out hM fun k hk h => h (.inl (.inr hk)))
  have R2c := Lib.hid (own_mods R2.out hM fun k hk h => h (.inr hk))
  have c16 := clrN h17 rB (by decide +kernel) (by decide)
  rw [nme16] at c16
  unfold rB at c16
  clear c15 h17 hM R1b R2
  go_wp2_with fail
  refine c16.mono ?_
  rintro e w18 ⟨rfl, h18, hM⟩
  have R1d := Lib.hid (own_mods R1c.out hM fun k hk h => h (.inl (.inr hk)))
  have R2d := Lib.hid (own_mods R2c.out hM fun k hk h => h (.inr hk))
  have c17 := regN h18 rC rW rC_le (by decide +kernel) (by decide)
  rw [nme17] at c17
  unfold rC rW at c17
  clear c16 h18 hM R1c R2c
  go_wp2_with fail
  refine c17.mono ?_
  rintro e w19 ⟨rfl, h19, hM⟩
  have R1e := Lib.hid (own_mods R1d.out hM fun k hk h => h (.inl (.inr hk)))
  have R2e := Lib.hid (own_mods R2d.out hM fun k hk h => h (.inr hk))
  have H19 := Lib.hid h19
  clear c17 h19 hM R1d R2d
  simp only [regV]
  go_wp2_with fail
  refine (reg_nil w19 _ _).mono ?_
  rintro e w20 ⟨rfl, rfl⟩
  simp only [regV]
  go_wp2_with fail
  refine (rname_nil w19 _ _).mono ?_
  rintro e w20 ⟨rfl, rfl⟩
  go_wp2_with fail
  refine (rid_nil w19 _ _).mono ?_
  rintro e w20 ⟨rfl, rfl⟩
  obtain ⟨A1, q1, rfl, -, d1⟩ := own_rd R1e.out
  obtain ⟨A2, q2, rfl, -, d2⟩ := own_rd R2e.out
  have D1 := Lib.hid d1
  have D2 := Lib.hid d2
  clear d1 d2 R1e R2e
  go_wp2_with fail
  refine (sameTp_any A1 (some ⟨w19.heap.size, 0, none⟩) 2 2 q1 2 [⟨1, rXY, false⟩, ⟨2, rA, true⟩] _ (D1.out.alloc (Nat.le_refl _) _ |>.wider (by simp)) (Rd.lit3 w19 _ _ _ rfl) (by decide)).mono ?_
  rintro e w20 ⟨rfl, hb20⟩
  have B20 : Hid (Below w19.heap.size w19 w20) := Lib.hid (((Below.refl _ w19).alloc (Nat.le_refl _) _).trans (hb20.mono (by simp)))
  clear hb20 D1
  go_wp2_with fail
  refine (sameNm_any A2 (some ⟨w20.heap.size, 0, none⟩) 2 2 q2 2 [rB, rC] _ (((D2.out.below B20.out).alloc B20.out.size _).wider (by have := B20.out.size; simp; omega)) (Rd.litN w20 _ _ _ rfl) (by decide)).mono ?_
  rintro e w21 ⟨rfl, hb21⟩
  have B21 : Hid (Below w19.heap.size w19 w21) := Lib.hid ((B20.out.alloc B20.out.size _).trans (hb21.mono (by have := B20.out.size; simp; omega)))
  have c22 := cliN (H19.out.keep B21.out) (by decide)
  rw [nme18, nme24] at c22
  clear hb21 D2 B20 B21 H19
  go_wp2_with fail
  refine c22.mono ?_
  rintro e w22 ⟨v3, rfl, hr3, -, h22⟩
  obtain ⟨A3, q3, rfl, -, d3⟩ := own_rd hr3
  have D3 := Lib.hid d3
  have H22 := Lib.hid h22
  clear c22 hr3 h22 d3
  go_wp2_with fail
  refine (sameNm_any A3 (some ⟨w22.heap.size, 0, none⟩) 1 1 q3 1 [rC] _ (D3.out.alloc (Nat.le_refl _) _ |>.wider (by simp)) (Rd.litN w22 _ _ _ rfl) (by decide)).mono ?_
  rintro e w23 ⟨rfl, hb23⟩
  have h23 := H22.out.keep (((Below.refl _ w22).alloc (Nat.le_refl _) _).trans (hb23.mono (by simp)))
  have H23 := Lib.hid h23
  have c24 := lenN h23 rC rC_le
  rw [nme19] at c24
  unfold rC at c24
  clear hb23 h23 H22 D3
  go_wp2_with fail
  refine c24.mono ?_
  rintro e w24 ⟨rfl, rfl⟩
  have c25 := fixN H23.out rC rC_le 2 (by decide)
  rw [nme20] at c25
  unfold rC at c25
  clear c24
  go_wp2_with fail
  refine c25.mono ?_
  rintro e w25 ⟨rfl, rfl⟩
  have c26 := fixN H23.out rC rC_le 1 (by decide)
  rw [nme21] at c26
  unfold rC at c26
  clear c25
  go_wp2_with fail
  refine c26.mono ?_
  rintro e w26 ⟨rfl, rfl⟩
  clear c26
  go_wp2_with fail
  refine (pre_nil w23 _ _ _).mono ?_
  rintro e w27 ⟨rfl, rfl⟩
  go_wp2_with fail
  refine (clear_nil w23 _).mono ?_
  rintro e w27 ⟨rfl, rfl⟩
  go_wp2_with fail
  refine (topics_nil w23 _).mono ?_
  rintro e w27 ⟨rfl, rfl⟩
  go_wp2_with fail
  refine (clients_nil w23).mono ?_
  rintro e w27 ⟨rfl, rfl⟩
  go_wp2_with fail
  refine (rlen_nil w23 _).mono ?_
  rintro e w27 ⟨rfl, rfl⟩
  go_wp2_with fail
  refine (rfix_nil w23 _ _).mono ?_
  rintro e w27 ⟨rfl, rfl⟩
  go_wp2
  go_ret
  exact ⟨rfl, H23.out.below⟩
end Go.Proofs.Ytdpndphecdhlaaa
