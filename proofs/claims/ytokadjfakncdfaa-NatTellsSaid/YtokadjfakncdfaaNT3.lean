/- The walk of marlinspikelaw01.NatTells. -/
import Derived.Test.YtokadjfakncdfaaGB
import Derived.Test.YtokadjfakncdfaaGC
import Derived.Test.YtokadjfakncdfaaGD
import Derived.Deep.Cut
import Derived.Deep.RegionWith
set_option linter.unusedVariables false
set_option linter.unusedSimpArgs false
namespace Go.Proofs.Ytokadjfakncdfaa
open Go.RowKit Go.Proofs.YtokadjfakncdfaaW.PrintWords Go.Proofs.YtokadjfakncdfaaW.PrintLast Go.Proofs.YtokadjfakncdfaaW.PrintMore
open PR


set_option maxRecDepth 100000 in
set_option maxHeartbeats 8000000 in
theorem NatTells_zero (a0 a1 a3 : Option Addr) (c0 c1 c3 : Nat) (xa xb bs : List Int) (i n : Int) (w : World) (A : RL .u64 w (.slice a0 xa.length c0) xa) (da : Dig B64 xa) (B : RL .u64 w (.slice a1 xb.length c1) xb) (db : Dig B64 xb) (C : RL .u8 w (.slice a3 bs.length c3) bs) (dc : Dig B8 bs)
    (hl0 : (xa.length : Int) ≤ 100) (hl1 : (xb.length : Int) ≤ 100) (hl3 : (bs.length : Int) ≤ 700) (hn : n ≤ 700) (hnm : -9223372036854775808 ≤ n) (hi2 : i ≤ 9223372036854775807) (hi3 : -9223372036854775808 ≤ i) (ha8 : (xa.length : Int) ≤ 80) (hb8 : (xb.length : Int) ≤ 80) (hcase : nv B64 xb = 0) :
    Calls Try.prog 9 #[.slice a0 xa.length c0, .slice a1 xb.length c1, .int .i64 i, .slice a3 bs.length c3, .int .i64 n] w fun e w' => e = .returned (.bool true) ∧ Below w.heap.size w w' := by
  have hla : xa.length ≤ 100 := by omega
  have hlb : xb.length ≤ 100 := by omega
  have NA : Aside0 (DN w (.slice a0 xa.length c0) (nv B64 xa) 100) := ⟨xa, A, da, rfl, hla⟩
  have NB : Aside0 (DN w (.slice a1 xb.length c1) (nv B64 xb) 100) := ⟨xb, B, db, rfl, hlb⟩
  have AA := Aside0.mk A
  have BB := Aside0.mk B
  have CC := Aside0.mk C
  have DA := Aside0.mk da
  have DB := Aside0.mk db
  have DC := Aside0.mk dc
  obtain ⟨r, hr, hrl⟩ := lenN_of da
  have HR := Aside0.mk hr
  have hg : decide (100 < xa.length ∨ 100 < xb.length) = false := by simp; omega
  have hx0 := Aside0.mk (nv_nonneg B64_pos da)
  have hy0 := Aside0.mk (nv_nonneg B64_pos db)
  have hrl2 : r ≤ 6400 := by omega
  clear A B C da db dc hr hrl
  obtain ⟨x, hx⟩ : ∃ x, nv B64 xa = x := ⟨_, rfl⟩
  obtain ⟨y, hy⟩ : ∃ y, nv B64 xb = y := ⟨_, rfl⟩
  rw [hx] at NA HR hx0
  rw [hy] at NB hy0
  have HX := Aside0.mk hx
  have HY := Aside0.mk hy
  have HC := Aside0.mk (show y = 0 from by rw [← hy]; exact hcase)
  obtain ⟨tb, htb⟩ : ∃ tb, bitI xa i = tb := ⟨_, rfl⟩
  have HTB := Aside0.mk htb
  obtain ⟨gb, hgb⟩ : ∃ gb : Bool, (gb = true ∧ 0 ≤ i ∧ i < 64 * (xa.length : Int)) ∨ (gb = false ∧ i < 0) ∨ (gb = false ∧ 0 ≤ i ∧ 64 * (xa.length : Int) ≤ i) := by
    rcases Int.lt_or_le i 0 with h | h
    · exact ⟨false, .inr (.inl ⟨rfl, h⟩)⟩
    · rcases Int.lt_or_le i (64 * (xa.length : Int)) with h2 | h2
      · exact ⟨true, .inl ⟨rfl, h, h2⟩⟩
      · exact ⟨false, .inr (.inr ⟨rfl, h, h2⟩)⟩
  have HG := Aside0.mk hgb
  clear htb hgb
  clear hx hy hcase
  go_enter Try.func9, Try.ntmps9
  go_wp2_with fail
  refine (great_n AA.out BB.out).mono ?_
  rw [hg]
  rintro e w1 ⟨rfl, b1⟩
  have NA_1 := Aside0.mk (NA.out.below b1)
  have NB_1 := Aside0.mk (NB.out.below b1)
  have AA_1 := Aside0.mk (AA.out.below b1)
  have BB_1 := Aside0.mk (BB.out.below b1)
  have CC_1 := Aside0.mk (CC.out.below b1)
  have H1 := Aside0.mk b1
  clear b1 NA NB AA BB CC
  go_wp2_with fail
  refine (digits_n NA_1.out (by decide)).mono ?_
  rintro e w2 ⟨vx, rfl, qXX, b2⟩
  have NA_2 := Aside0.mk (NA_1.out.below b2)
  have NB_2 := Aside0.mk (NB_1.out.below b2)
  have AA_2 := Aside0.mk (AA_1.out.below b2)
  have BB_2 := Aside0.mk (BB_1.out.below b2)
  have CC_2 := Aside0.mk (CC_1.out.below b2)
  have XX_2 := Aside0.mk qXX
  have H2 := Aside0.mk (bon H1.out b2)
  clear b2 NA_1 NB_1 AA_1 BB_1 CC_1 qXX H1
  obtain ⟨Ax, lx, cx, rfl⟩ := XX_2.out.form
  go_wp2_with fail
  refine (digits_n NB_2.out (by decide)).mono ?_
  rintro e w3 ⟨vy, rfl, qYY, b3⟩
  have NA_3 := Aside0.mk (NA_2.out.below b3)
  have NB_3 := Aside0.mk (NB_2.out.below b3)
  have AA_3 := Aside0.mk (AA_2.out.below b3)
  have BB_3 := Aside0.mk (BB_2.out.below b3)
  have CC_3 := Aside0.mk (CC_2.out.below b3)
  have XX_3 := Aside0.mk (XX_2.out.below b3)
  have YY_3 := Aside0.mk qYY
  have H3 := Aside0.mk (bon H2.out b3)
  clear b3 NA_2 NB_2 AA_2 BB_2 CC_2 XX_2 qYY H2
  go_wp2_with fail
  refine (long_n AA_3.out).mono ?_
  rw [show decide ((xa.length : Int) > 80) = false from by simp; omega]
  rintro e w4 ⟨rfl, b4⟩
  have NA_4 := Aside0.mk (NA_3.out.below b4)
  have NB_4 := Aside0.mk (NB_3.out.below b4)
  have AA_4 := Aside0.mk (AA_3.out.below b4)
  have BB_4 := Aside0.mk (BB_3.out.below b4)
  have CC_4 := Aside0.mk (CC_3.out.below b4)
  have XX_4 := Aside0.mk (XX_3.out.below b4)
  have YY_4 := Aside0.mk (YY_3.out.below b4)
  have H4 := Aside0.mk (bon H3.out b4)
  clear b4 NA_3 NB_3 AA_3 BB_3 CC_3 XX_3 YY_3 H3
  go_wp2_with fail
  refine (long_n BB_4.out).mono ?_
  rw [show decide ((xb.length : Int) > 80) = false from by simp; omega]
  rintro e w5 ⟨rfl, b5⟩
  have NA_5 := Aside0.mk (NA_4.out.below b5)
  have NB_5 := Aside0.mk (NB_4.out.below b5)
  have AA_5 := Aside0.mk (AA_4.out.below b5)
  have BB_5 := Aside0.mk (BB_4.out.below b5)
  have CC_5 := Aside0.mk (CC_4.out.below b5)
  have XX_5 := Aside0.mk (XX_4.out.below b5)
  have YY_5 := Aside0.mk (YY_4.out.below b5)
  have H5 := Aside0.mk (bon H4.out b5)
  clear b5 NA_4 NB_4 AA_4 BB_4 CC_4 XX_4 YY_4 H4
  go_wp2_with fail
  have ha80 : xa.length ≤ 80 := by omega
  have hb80 : xb.length ≤ 80 := by omega
  refine (add_n (show DN _ _ _ 80 from ⟨xa, AA_5.out, DA.out, HX.out, by omega⟩) (show DN _ _ _ 80 from ⟨xb, BB_5.out, DB.out, HY.out, by omega⟩) (by decide) (by decide)).mono ?_
  rintro e w6 ⟨vs, rfl, qS1, b6⟩
  have NA_6 := Aside0.mk (NA_5.out.below b6)
  have NB_6 := Aside0.mk (NB_5.out.below b6)
  have AA_6 := Aside0.mk (AA_5.out.below b6)
  have BB_6 := Aside0.mk (BB_5.out.below b6)
  have CC_6 := Aside0.mk (CC_5.out.below b6)
  have XX_6 := Aside0.mk (XX_5.out.below b6)
  have YY_6 := Aside0.mk (YY_5.out.below b6)
  have S1_6 := Aside0.mk qS1
  have H6 := Aside0.mk (bon H5.out b6)
  clear b6 NA_5 NB_5 AA_5 BB_5 CC_5 XX_5 YY_5 qS1 H5
  go_wp2_with fail
  refine (sub_n (show DN _ _ _ 80 from ⟨xa, AA_6.out, DA.out, HX.out, by omega⟩) (show DN _ _ _ 80 from ⟨xb, BB_6.out, DB.out, HY.out, by omega⟩) (by decide) (by decide) (by have := HC.out; have := hx0.out; omega)).mono ?_
  rintro e w7 ⟨vd, rfl, qD1, b7⟩
  have NA_7 := Aside0.mk (NA_6.out.below b7)
  have NB_7 := Aside0.mk (NB_6.out.below b7)
  have AA_7 := Aside0.mk (AA_6.out.below b7)
  have BB_7 := Aside0.mk (BB_6.out.below b7)
  have CC_7 := Aside0.mk (CC_6.out.below b7)
  have XX_7 := Aside0.mk (XX_6.out.below b7)
  have YY_7 := Aside0.mk (YY_6.out.below b7)
  have S1_7 := Aside0.mk (S1_6.out.below b7)
  have D1_7 := Aside0.mk qD1
  have H7 := Aside0.mk (bon H6.out b7)
  clear b7 NA_6 NB_6 AA_6 BB_6 CC_6 XX_6 YY_6 S1_6 qD1 H6
  go_wp2_with fail
  refine (mul_n (show DN _ _ _ 80 from ⟨xa, AA_7.out, DA.out, HX.out, by omega⟩) (show DN _ _ _ 80 from ⟨xb, BB_7.out, DB.out, HY.out, by omega⟩) (by decide) (by decide)).mono ?_
  rintro e w8 ⟨vp, rfl, qP1, b8⟩
  have NA_8 := Aside0.mk (NA_7.out.below b8)
  have NB_8 := Aside0.mk (NB_7.out.below b8)
  have AA_8 := Aside0.mk (AA_7.out.below b8)
  have BB_8 := Aside0.mk (BB_7.out.below b8)
  have CC_8 := Aside0.mk (CC_7.out.below b8)
  have XX_8 := Aside0.mk (XX_7.out.below b8)
  have YY_8 := Aside0.mk (YY_7.out.below b8)
  have S1_8 := Aside0.mk (S1_7.out.below b8)
  have D1_8 := Aside0.mk (D1_7.out.below b8)
  have P1_8 := Aside0.mk qP1
  have H8 := Aside0.mk (bon H7.out b8)
  clear b8 NA_7 NB_7 AA_7 BB_7 CC_7 XX_7 YY_7 S1_7 D1_7 qP1 H7
  go_wp2_with fail
  refine (divmod_n' (show DN _ _ _ 80 from ⟨xa, AA_8.out, DA.out, HX.out, by omega⟩) (HC.out ▸ (show DN _ _ _ 80 from ⟨xb, BB_8.out, DB.out, HY.out, by omega⟩)) (by decide) (by decide)).mono ?_
  rintro e w9 ⟨rfl, b9⟩
  have NA_9 := Aside0.mk (NA_8.out.below b9)
  have NB_9 := Aside0.mk (NB_8.out.below b9)
  have AA_9 := Aside0.mk (AA_8.out.below b9)
  have BB_9 := Aside0.mk (BB_8.out.below b9)
  have CC_9 := Aside0.mk (CC_8.out.below b9)
  have XX_9 := Aside0.mk (XX_8.out.below b9)
  have YY_9 := Aside0.mk (YY_8.out.below b9)
  have S1_9 := Aside0.mk (S1_8.out.below b9)
  have D1_9 := Aside0.mk (D1_8.out.below b9)
  have P1_9 := Aside0.mk (P1_8.out.below b9)
  have H9 := Aside0.mk (bon H8.out b9)
  clear b9 NA_8 NB_8 AA_8 BB_8 CC_8 XX_8 YY_8 S1_8 D1_8 P1_8 H8
  go_wp2_with fail
  clear BB_9
  obtain ⟨cm, hcm⟩ : ∃ cm, cmpI x y = cm := ⟨_, rfl⟩
  refine (cmp_v NA_9.out NB_9.out (by decide) (by decide) hcm).mono ?_
  rintro e w10 ⟨rfl, b10⟩
  have NA_10 := Aside0.mk (NA_9.out.below b10)
  have NB_10 := Aside0.mk (NB_9.out.below b10)
  have AA_10 := Aside0.mk (AA_9.out.below b10)
  have CC_10 := Aside0.mk (CC_9.out.below b10)
  have XX_10 := Aside0.mk (XX_9.out.below b10)
  have YY_10 := Aside0.mk (YY_9.out.below b10)
  have S1_10 := Aside0.mk (S1_9.out.below b10)
  have D1_10 := Aside0.mk (D1_9.out.below b10)
  have P1_10 := Aside0.mk (P1_9.out.below b10)
  have H10 := Aside0.mk (bon H9.out b10)
  clear b10 NA_9 NB_9 AA_9 CC_9 XX_9 YY_9 S1_9 D1_9 P1_9 H9
  go_wp2_with fail
  refine (order_n XX_10.out YY_10.out (by decide) (by decide)).mono ?_
  rw [hcm]
  rintro e w11 ⟨rfl, b11⟩
  have NA_11 := Aside0.mk (NA_10.out.below b11)
  have NB_11 := Aside0.mk (NB_10.out.below b11)
  have AA_11 := Aside0.mk (AA_10.out.below b11)
  have CC_11 := Aside0.mk (CC_10.out.below b11)
  have XX_11 := Aside0.mk (XX_10.out.below b11)
  have YY_11 := Aside0.mk (YY_10.out.below b11)
  have S1_11 := Aside0.mk (S1_10.out.below b11)
  have D1_11 := Aside0.mk (D1_10.out.below b11)
  have P1_11 := Aside0.mk (P1_10.out.below b11)
  have H11 := Aside0.mk (bon H10.out b11)
  clear b11 NA_10 NB_10 AA_10 CC_10 XX_10 YY_10 S1_10 D1_10 P1_10 H10
  go_wp2_with fail
  refine (bits_n NA_11.out (by decide) r HR.out).mono ?_
  rintro e w12 ⟨rfl, b12⟩
  have NA_12 := Aside0.mk (NA_11.out.below b12)
  have NB_12 := Aside0.mk (NB_11.out.below b12)
  have AA_12 := Aside0.mk (AA_11.out.below b12)
  have CC_12 := Aside0.mk (CC_11.out.below b12)
  have XX_12 := Aside0.mk (XX_11.out.below b12)
  have YY_12 := Aside0.mk (YY_11.out.below b12)
  have S1_12 := Aside0.mk (S1_11.out.below b12)
  have D1_12 := Aside0.mk (D1_11.out.below b12)
  have P1_12 := Aside0.mk (P1_11.out.below b12)
  have H12 := Aside0.mk (bon H11.out b12)
  clear b12 NA_11 NB_11 AA_11 CC_11 XX_11 YY_11 S1_11 D1_11 P1_11 H11
  go_wp2_with fail
  refine (rbits_n XX_12.out (by decide) r HR.out).mono ?_
  rintro e w13 ⟨rfl, b13⟩
  have NA_13 := Aside0.mk (NA_12.out.below b13)
  have NB_13 := Aside0.mk (NB_12.out.below b13)
  have AA_13 := Aside0.mk (AA_12.out.below b13)
  have CC_13 := Aside0.mk (CC_12.out.below b13)
  have XX_13 := Aside0.mk (XX_12.out.below b13)
  have YY_13 := Aside0.mk (YY_12.out.below b13)
  have S1_13 := Aside0.mk (S1_12.out.below b13)
  have D1_13 := Aside0.mk (D1_12.out.below b13)
  have P1_13 := Aside0.mk (P1_12.out.below b13)
  have H13 := Aside0.mk (bon H12.out b13)
  clear b13 NA_12 NB_12 AA_12 CC_12 XX_12 YY_12 S1_12 D1_12 P1_12 H12
  go_wp2_with fail
  refine (of_n NA_13.out (by decide)).mono ?_
  rintro e w14 ⟨vo, rfl, qO1, b14⟩
  have NA_14 := Aside0.mk (NA_13.out.below b14)
  have NB_14 := Aside0.mk (NB_13.out.below b14)
  have AA_14 := Aside0.mk (AA_13.out.below b14)
  have CC_14 := Aside0.mk (CC_13.out.below b14)
  have XX_14 := Aside0.mk (XX_13.out.below b14)
  have YY_14 := Aside0.mk (YY_13.out.below b14)
  have S1_14 := Aside0.mk (S1_13.out.below b14)
  have D1_14 := Aside0.mk (D1_13.out.below b14)
  have P1_14 := Aside0.mk (P1_13.out.below b14)
  have O1_14 := Aside0.mk qO1
  have H14 := Aside0.mk (bon H13.out b14)
  clear b14 NA_13 NB_13 AA_13 CC_13 XX_13 YY_13 S1_13 D1_13 P1_13 qO1 H13
  go_wp2_with fail
  refine (words_n XX_14.out (by decide)).mono ?_
  rintro e w15 ⟨vw, rfl, qW1, b15⟩
  have NA_15 := Aside0.mk (NA_14.out.below b15)
  have NB_15 := Aside0.mk (NB_14.out.below b15)
  have AA_15 := Aside0.mk (AA_14.out.below b15)
  have CC_15 := Aside0.mk (CC_14.out.below b15)
  have XX_15 := Aside0.mk (XX_14.out.below b15)
  have YY_15 := Aside0.mk (YY_14.out.below b15)
  have S1_15 := Aside0.mk (S1_14.out.below b15)
  have D1_15 := Aside0.mk (D1_14.out.below b15)
  have P1_15 := Aside0.mk (P1_14.out.below b15)
  have O1_15 := Aside0.mk (O1_14.out.below b15)
  have W1_15 := Aside0.mk qW1
  have H15 := Aside0.mk (bon H14.out b15)
  clear b15 NA_14 NB_14 AA_14 CC_14 XX_14 YY_14 S1_14 D1_14 P1_14 O1_14 qW1 H14
  go_wp2_with fail
  refine (same_t O1_15.out W1_15.out (by decide) rfl).mono ?_
  rintro e w16 ⟨rfl, b16⟩
  have NA_16 := Aside0.mk (NA_15.out.below b16)
  have NB_16 := Aside0.mk (NB_15.out.below b16)
  have AA_16 := Aside0.mk (AA_15.out.below b16)
  have CC_16 := Aside0.mk (CC_15.out.below b16)
  have XX_16 := Aside0.mk (XX_15.out.below b16)
  have YY_16 := Aside0.mk (YY_15.out.below b16)
  have S1_16 := Aside0.mk (S1_15.out.below b16)
  have D1_16 := Aside0.mk (D1_15.out.below b16)
  have P1_16 := Aside0.mk (P1_15.out.below b16)
  have H16 := Aside0.mk (bon H15.out b16)
  clear b16 NA_15 NB_15 AA_15 CC_15 XX_15 YY_15 S1_15 D1_15 P1_15 O1_15 W1_15 H15
  clear NA_16 NB_16
  go_upto_region 12 with fail
  go_cut [109] from 101 (fun v109 wx => v109 = .bool gb ∧ w16 = wx)
  case first =>
    rcases HG.out with ⟨rfl, hi0, hi1⟩ | ⟨rfl, hi0⟩ | ⟨rfl, hi0, hi1⟩
    all_goals (go_wp2_with fail; go_meet; exact ⟨by first | (simp; done) | (simp; omega), rfl⟩)
  case rest =>
  obtain ⟨rfl, rfl⟩ := hcut
  go_upto_if 109 with fail
  go_cut [23] from 101 (fun v23 wx => v23 = .int .u64 tb ∧ w16 = wx)
  case first =>
    rcases HG.out with ⟨rfl, hi0, hi1⟩ | ⟨rfl, hi0⟩ | ⟨rfl, hi0, hi1⟩
    · obtain ⟨j, hj⟩ := Int.eq_ofNat_of_zero_le hi0
      subst hj
      obtain ⟨ad, he, hcell⟩ := C_cell AA_16.out.c8 (j / 64) (by omega)
      subst he
      have hb9 := bitI_cell DA.out j (by omega)
      rw [HTB.out] at hb9
      obtain ⟨y9, hy9⟩ : ∃ y9, xa.getD (j / 64) 0 = y9 := ⟨_, rfl⟩
      rw [hy9] at hb9 hcell
      clear hy9
      go_wp2_with fail; go_meet; exact ⟨rfl, rfl⟩
    · have h9 := bitI_out xa i (by omega)
      rw [HTB.out] at h9
      subst h9
      go_wp2_with fail; go_meet; exact ⟨rfl, rfl⟩
    · have h9 := bitI_out xa i (by omega)
      rw [HTB.out] at h9
      subst h9
      go_wp2_with fail; go_meet; exact ⟨rfl, rfl⟩
  case rest =>
  obtain ⟨rfl, rfl⟩ := hcut
  go_wp2_with fail
  refine (bitI_calls _ xa i _ AA_16.out DA.out (by omega) hi2 hi3).mono ?_
  rw [HTB.out]
  rintro e w17 ⟨rfl, rfl⟩
  go_wp2_with fail
  refine (plus_n XX_16.out YY_16.out (by decide)).mono ?_
  rintro e w18 ⟨vt, rfl, qT1, b18⟩
  have AA_18 := Aside0.mk (AA_16.out.below b18)
  have CC_18 := Aside0.mk (CC_16.out.below b18)
  have XX_18 := Aside0.mk (XX_16.out.below b18)
  have YY_18 := Aside0.mk (YY_16.out.below b18)
  have S1_18 := Aside0.mk (S1_16.out.below b18)
  have D1_18 := Aside0.mk (D1_16.out.below b18)
  have P1_18 := Aside0.mk (P1_16.out.below b18)
  have T1_18 := Aside0.mk qT1
  have H18 := Aside0.mk (bon H16.out b18)
  clear b18 AA_16 CC_16 XX_16 YY_16 S1_16 D1_16 P1_16 qT1 H16
  go_wp2_with fail
  refine (words_n T1_18.out (by decide)).mono ?_
  rintro e w19 ⟨vt, rfl, qT2, b19⟩
  have AA_19 := Aside0.mk (AA_18.out.below b19)
  have CC_19 := Aside0.mk (CC_18.out.below b19)
  have XX_19 := Aside0.mk (XX_18.out.below b19)
  have YY_19 := Aside0.mk (YY_18.out.below b19)
  have S1_19 := Aside0.mk (S1_18.out.below b19)
  have D1_19 := Aside0.mk (D1_18.out.below b19)
  have P1_19 := Aside0.mk (P1_18.out.below b19)
  have T2_19 := Aside0.mk qT2
  have H19 := Aside0.mk (bon H18.out b19)
  clear b19 AA_18 CC_18 XX_18 YY_18 S1_18 D1_18 P1_18 T1_18 qT2 H18
  go_wp2_with fail
  refine (same_t S1_19.out T2_19.out (by decide) rfl).mono ?_
  rintro e w20 ⟨rfl, b20⟩
  have AA_20 := Aside0.mk (AA_19.out.below b20)
  have CC_20 := Aside0.mk (CC_19.out.below b20)
  have XX_20 := Aside0.mk (XX_19.out.below b20)
  have YY_20 := Aside0.mk (YY_19.out.below b20)
  have D1_20 := Aside0.mk (D1_19.out.below b20)
  have P1_20 := Aside0.mk (P1_19.out.below b20)
  have H20 := Aside0.mk (bon H19.out b20)
  clear b20 AA_19 CC_19 XX_19 YY_19 S1_19 D1_19 P1_19 T2_19 H19
  go_wp2_with fail
  refine (times_n XX_20.out YY_20.out (by decide) (by decide)).mono ?_
  rintro e w21 ⟨vt, rfl, qT3, b21⟩
  have AA_21 := Aside0.mk (AA_20.out.below b21)
  have CC_21 := Aside0.mk (CC_20.out.below b21)
  have XX_21 := Aside0.mk (XX_20.out.below b21)
  have YY_21 := Aside0.mk (YY_20.out.below b21)
  have D1_21 := Aside0.mk (D1_20.out.below b21)
  have P1_21 := Aside0.mk (P1_20.out.below b21)
  have T3_21 := Aside0.mk qT3
  have H21 := Aside0.mk (bon H20.out b21)
  clear b21 AA_20 CC_20 XX_20 YY_20 D1_20 P1_20 qT3 H20
  go_wp2_with fail
  refine (words_n T3_21.out (by decide)).mono ?_
  rintro e w22 ⟨vt, rfl, qT4, b22⟩
  have AA_22 := Aside0.mk (AA_21.out.below b22)
  have CC_22 := Aside0.mk (CC_21.out.below b22)
  have XX_22 := Aside0.mk (XX_21.out.below b22)
  have YY_22 := Aside0.mk (YY_21.out.below b22)
  have D1_22 := Aside0.mk (D1_21.out.below b22)
  have P1_22 := Aside0.mk (P1_21.out.below b22)
  have T4_22 := Aside0.mk qT4
  have H22 := Aside0.mk (bon H21.out b22)
  clear b22 AA_21 CC_21 XX_21 YY_21 D1_21 P1_21 T3_21 qT4 H21
  go_wp2_with fail
  refine (same_t P1_22.out T4_22.out (by decide) rfl).mono ?_
  rintro e w23 ⟨rfl, b23⟩
  have AA_23 := Aside0.mk (AA_22.out.below b23)
  have CC_23 := Aside0.mk (CC_22.out.below b23)
  have XX_23 := Aside0.mk (XX_22.out.below b23)
  have YY_23 := Aside0.mk (YY_22.out.below b23)
  have D1_23 := Aside0.mk (D1_22.out.below b23)
  have H23 := Aside0.mk (bon H22.out b23)
  clear b23 AA_22 CC_22 XX_22 YY_22 D1_22 P1_22 T4_22 H22
  go_wp2_with fail
  refine (less_n XX_23.out YY_23.out (by decide) (by decide)).mono ?_
  rw [show decide (x < y) = false from by simp; have := HC.out; have := hx0.out; omega]
  rintro e w24 ⟨rfl, b24⟩
  have AA_24 := Aside0.mk (AA_23.out.below b24)
  have CC_24 := Aside0.mk (CC_23.out.below b24)
  have XX_24 := Aside0.mk (XX_23.out.below b24)
  have YY_24 := Aside0.mk (YY_23.out.below b24)
  have D1_24 := Aside0.mk (D1_23.out.below b24)
  have H24 := Aside0.mk (bon H23.out b24)
  clear b24 AA_23 CC_23 XX_23 YY_23 D1_23 H23
  obtain ⟨A9, c9, rfl⟩ := DG.zero (HC.out ▸ YY_24.out)
  go_wp2_with fail
  refine (minus_n XX_24.out YY_24.out (by decide) (by have := HC.out; have := hx0.out; omega)).mono ?_
  rintro e w25 ⟨vt, rfl, qT5, b25⟩
  have AA_25 := Aside0.mk (AA_24.out.below b25)
  have CC_25 := Aside0.mk (CC_24.out.below b25)
  have XX_25 := Aside0.mk (XX_24.out.below b25)
  have YY_25 := Aside0.mk (YY_24.out.below b25)
  have D1_25 := Aside0.mk (D1_24.out.below b25)
  have T5_25 := Aside0.mk qT5
  have H25 := Aside0.mk (bon H24.out b25)
  clear b25 AA_24 CC_24 XX_24 YY_24 D1_24 qT5 H24
  go_wp2_with fail
  refine (words_n T5_25.out (by decide)).mono ?_
  rintro e w26 ⟨vt, rfl, qT6, b26⟩
  have AA_26 := Aside0.mk (AA_25.out.below b26)
  have CC_26 := Aside0.mk (CC_25.out.below b26)
  have XX_26 := Aside0.mk (XX_25.out.below b26)
  have YY_26 := Aside0.mk (YY_25.out.below b26)
  have D1_26 := Aside0.mk (D1_25.out.below b26)
  have T6_26 := Aside0.mk qT6
  have H26 := Aside0.mk (bon H25.out b26)
  clear b26 AA_25 CC_25 XX_25 YY_25 D1_25 T5_25 qT6 H25
  go_wp2_with fail
  refine (same_t D1_26.out T6_26.out (by decide) rfl).mono ?_
  rintro e w27 ⟨rfl, b27⟩
  have AA_27 := Aside0.mk (AA_26.out.below b27)
  have CC_27 := Aside0.mk (CC_26.out.below b27)
  have XX_27 := Aside0.mk (XX_26.out.below b27)
  have YY_27 := Aside0.mk (YY_26.out.below b27)
  have H27 := Aside0.mk (bon H26.out b27)
  clear b27 AA_26 CC_26 XX_26 YY_26 D1_26 T6_26 H26
  go_wp2_with fail
  clear YY_27
  by_cases hbl : (640 : Int) < (bs.length : Int)
  · as_aux_lemma =>
    refine (frombytes_long _ bs _ CC_27.out (by omega)).mono ?_
    rintro e w28 ⟨rfl, b28⟩
    have AA_28 := Aside0.mk (AA_27.out.below b28)
    have XX_28 := Aside0.mk (XX_27.out.below b28)
    have H28 := Aside0.mk (bon H27.out b28)
    clear b28 AA_27 CC_27 XX_27 H27
    go_wp2_with fail
    by_cases hn1 : (640 : Int) < n
    · as_aux_lemma =>
      refine (bytes_long' _ xa n _ AA_28.out (by omega) (by omega)).mono ?_
      rintro e w29 ⟨rfl, b29⟩
      have AA_29 := Aside0.mk (AA_28.out.below b29)
      have XX_29 := Aside0.mk (XX_28.out.below b29)
      have H29 := Aside0.mk (bon H28.out b29)
      clear b29 AA_28 XX_28 H28
      go_wp2_with fail
      refine (long_n AA_29.out).mono ?_
      rw [show decide ((xa.length : Int) > 80) = false from by simp; omega]
      rintro e w30 ⟨rfl, b30⟩
      have AA_30 := Aside0.mk (AA_29.out.below b30)
      have XX_30 := Aside0.mk (XX_29.out.below b30)
      have H30 := Aside0.mk (bon H29.out b30)
      clear b30 AA_29 XX_29 H29
      go_wp2_with fail
      refine (wakes1_calls _).mono ?_
      rintro e w31 ⟨rfl, b31⟩
      have H31 := Aside0.mk (bon H30.out b31)
      clear b31
      go_wp2_with fail
      go_ret
      exact ⟨rfl, H31.out⟩
    · as_aux_lemma =>
      by_cases hn2 : n < 0
      · as_aux_lemma =>
        refine (bytes_neg _ xa n _ AA_28.out (by omega) (by omega)).mono ?_
        rintro e w29 ⟨rfl, b29⟩
        have AA_29 := Aside0.mk (AA_28.out.below b29)
        have XX_29 := Aside0.mk (XX_28.out.below b29)
        have H29 := Aside0.mk (bon H28.out b29)
        clear b29 AA_28 XX_28 H28
        go_wp2_with fail
        refine (long_n AA_29.out).mono ?_
        rw [show decide ((xa.length : Int) > 80) = false from by simp; omega]
        rintro e w30 ⟨rfl, b30⟩
        have AA_30 := Aside0.mk (AA_29.out.below b30)
        have XX_30 := Aside0.mk (XX_29.out.below b30)
        have H30 := Aside0.mk (bon H29.out b30)
        clear b30 AA_29 XX_29 H29
        go_wp2_with fail
        refine (wakes1_calls _).mono ?_
        rintro e w31 ⟨rfl, b31⟩
        have H31 := Aside0.mk (bon H30.out b31)
        clear b31
        go_wp2_with fail
        go_ret
        exact ⟨rfl, H31.out⟩
      · as_aux_lemma =>
        by_cases hn3 : 8 * n < (r : Int)
        · as_aux_lemma =>
          refine (bytes_arg _ xa n r _ AA_28.out DA.out (by omega) (by omega) (by omega) (by rw [HX.out]; exact HR.out) hn3).mono ?_
          rintro e w29 ⟨rfl, b29⟩
          have AA_29 := Aside0.mk (AA_28.out.below b29)
          have XX_29 := Aside0.mk (XX_28.out.below b29)
          have H29 := Aside0.mk (bon H28.out b29)
          clear b29 AA_28 XX_28 H28
          go_wp2_with fail
          refine (long_n AA_29.out).mono ?_
          rw [show decide ((xa.length : Int) > 80) = false from by simp; omega]
          rintro e w30 ⟨rfl, b30⟩
          have AA_30 := Aside0.mk (AA_29.out.below b30)
          have XX_30 := Aside0.mk (XX_29.out.below b30)
          have H30 := Aside0.mk (bon H29.out b30)
          clear b30 AA_29 XX_29 H29
          go_wp2_with fail
          refine (rbits_n XX_30.out (by decide) r HR.out).mono ?_
          rintro e w31 ⟨rfl, b31⟩
          have AA_31 := Aside0.mk (AA_30.out.below b31)
          have XX_31 := Aside0.mk (XX_30.out.below b31)
          have H31 := Aside0.mk (bon H30.out b31)
          clear b31 AA_30 XX_30 H30
          go_wp2_with fail
          refine (wakes1_calls _).mono ?_
          rintro e w32 ⟨rfl, b32⟩
          have H32 := Aside0.mk (bon H31.out b32)
          clear b32
          go_wp2_with fail
          go_ret
          exact ⟨rfl, H32.out⟩
        · as_aux_lemma =>
          obtain ⟨N, rfl⟩ := Int.eq_ofNat_of_zero_le (show 0 ≤ n by omega)
          have hN6 : N ≤ 640 := by omega
          have hNr : r ≤ 8 * N := by omega
          refine (bytes_ok _ xa N r _ AA_28.out DA.out (by omega) hN6 (by rw [HX.out]; exact HR.out) hNr).mono ?_
          rintro e w29 ⟨vl, rfl, qBL, b29⟩
          have AA_29 := Aside0.mk (AA_28.out.below b29)
          have XX_29 := Aside0.mk (XX_28.out.below b29)
          have BL_29 := Aside0.mk qBL
          have H29 := Aside0.mk (bon H28.out b29)
          clear b29 AA_28 XX_28 qBL H28
          rw [HX.out] at BL_29
          obtain ⟨Al, cl, rfl⟩ := BL_29.out.form
          go_wp2_with fail
          refine (long_n AA_29.out).mono ?_
          rw [show decide ((xa.length : Int) > 80) = false from by simp; omega]
          rintro e w30 ⟨rfl, b30⟩
          have AA_30 := Aside0.mk (AA_29.out.below b30)
          have XX_30 := Aside0.mk (XX_29.out.below b30)
          have BL_30 := Aside0.mk (BL_29.out.below b30)
          have H30 := Aside0.mk (bon H29.out b30)
          clear b30 AA_29 XX_29 BL_29 H29
          go_wp2_with fail
          refine (rbits_n XX_30.out (by decide) r HR.out).mono ?_
          rintro e w31 ⟨rfl, b31⟩
          have AA_31 := Aside0.mk (AA_30.out.below b31)
          have XX_31 := Aside0.mk (XX_30.out.below b31)
          have BL_31 := Aside0.mk (BL_30.out.below b31)
          have H31 := Aside0.mk (bon H30.out b31)
          clear b31 AA_30 XX_30 BL_30 H30
          have hmx : Try.prog.follows .mixedOrders = true := by kernel_rfl
          go_wp2_with fail
          have R := fun Q => reg43 Q w31 Ax Al lx cx (bytesOf x N).length cl N (4 * 100) x
          refine R _ _ _ _ _ _ _ _ _ _ _ _ _ _ _ _ _ _ _ _ _ _ _ _ _ _ _ _ _ _ _ _ _ _ _ _ _ _ _ _ _ _ _ _ _ _ _ _ _ _ _ _ _ _ _ _ _ _ _ _ _ _ _ _ _ _ _ _ _ _ _ _ _ _ _ _ _ _ _ _ _ _ _ _ _ _ _ _ _ _ _ _ _ _ _ _ _ _ _ _ _ _ _ _ _ _ _ _ _ _ _ _ _ _ _ _ _ _ _ _ _ _ _ _ _ _ _ _ _ _ _ _ _ _ _ _ _ _ _ _ _ _ _ _ _ _ _ _ _ _ _ _ _ _ _ _ _ _ _ _ _ _ _ _ _ _ _ _ _ _ _ _ _ _ _ _ _ _ _ _ _ _ _ _ _ _ _ _ _ _ _ _ _ _ _ _ _ _ _ _ _ _ _ _ _ _ _ _ _ _ _ _ _ _ _ _ _ _ _ _ _ _ _ _ _ _ _ _ _ _ _ _ _ _ _ _ _ _ _ _ _ _ _ _ _ _ _ _ _ _ _ _ _ _ _ _ _ _ _ _ _ _ _ _ _ _ _ _ _ _ _ _ _ _ _ _ _ _ _ _ _ _ _ _ _ _ _ _ _ _ _ _ _ _ _ _ _ _ _ _ _ _ _ _ _ _ _ _ _ _ _ _ _ _ _ _ (by kernel_rfl) XX_31.out (by omega) hN6 BL_31.out hmx ?_
          clear R
          intro y304 y305 y306 y307 y308 y309 y310 y311 y312 y313 y314 y315 y316 y317 wz bz
          go_wp2_with fail
          go_ret
          exact ⟨rfl, bon H31.out bz⟩
  · as_aux_lemma =>
    refine (frombytes_n _ bs _ CC_27.out DC.out (by omega)).mono ?_
    rintro e w28 ⟨vf, rfl, qF1, b28⟩
    have AA_28 := Aside0.mk (AA_27.out.below b28)
    have CC_28 := Aside0.mk (CC_27.out.below b28)
    have XX_28 := Aside0.mk (XX_27.out.below b28)
    have F1_28 := Aside0.mk qF1
    have H28 := Aside0.mk (bon H27.out b28)
    clear b28 AA_27 CC_27 XX_27 qF1 H27
    go_wp2_with fail
    refine (rfrom_n CC_28.out DC.out (by omega)).mono ?_
    rintro e w29 ⟨vg, rfl, qG1, b29⟩
    have AA_29 := Aside0.mk (AA_28.out.below b29)
    have XX_29 := Aside0.mk (XX_28.out.below b29)
    have F1_29 := Aside0.mk (F1_28.out.below b29)
    have G1_29 := Aside0.mk qG1
    have H29 := Aside0.mk (bon H28.out b29)
    clear b29 AA_28 CC_28 XX_28 F1_28 qG1 H28
    go_wp2_with fail
    refine (words_n G1_29.out (by omega)).mono ?_
    rintro e w30 ⟨vg, rfl, qG2, b30⟩
    have AA_30 := Aside0.mk (AA_29.out.below b30)
    have XX_30 := Aside0.mk (XX_29.out.below b30)
    have F1_30 := Aside0.mk (F1_29.out.below b30)
    have G2_30 := Aside0.mk qG2
    have H30 := Aside0.mk (bon H29.out b30)
    clear b30 AA_29 XX_29 F1_29 G1_29 qG2 H29
    go_wp2_with fail
    refine (same_t F1_30.out G2_30.out (by decide) rfl).mono ?_
    rintro e w31 ⟨rfl, b31⟩
    have AA_31 := Aside0.mk (AA_30.out.below b31)
    have XX_31 := Aside0.mk (XX_30.out.below b31)
    have H31 := Aside0.mk (bon H30.out b31)
    clear b31 AA_30 XX_30 F1_30 G2_30 H30
    go_wp2_with fail
    by_cases hn1 : (640 : Int) < n
    · as_aux_lemma =>
      refine (bytes_long' _ xa n _ AA_31.out (by omega) (by omega)).mono ?_
      rintro e w32 ⟨rfl, b32⟩
      have AA_32 := Aside0.mk (AA_31.out.below b32)
      have XX_32 := Aside0.mk (XX_31.out.below b32)
      have H32 := Aside0.mk (bon H31.out b32)
      clear b32 AA_31 XX_31 H31
      go_wp2_with fail
      refine (long_n AA_32.out).mono ?_
      rw [show decide ((xa.length : Int) > 80) = false from by simp; omega]
      rintro e w33 ⟨rfl, b33⟩
      have AA_33 := Aside0.mk (AA_32.out.below b33)
      have XX_33 := Aside0.mk (XX_32.out.below b33)
      have H33 := Aside0.mk (bon H32.out b33)
      clear b33 AA_32 XX_32 H32
      go_wp2_with fail
      refine (wakes1_calls _).mono ?_
      rintro e w34 ⟨rfl, b34⟩
      have H34 := Aside0.mk (bon H33.out b34)
      clear b34
      go_wp2_with fail
      go_ret
      exact ⟨rfl, H34.out⟩
    · as_aux_lemma =>
      by_cases hn2 : n < 0
      · as_aux_lemma =>
        refine (bytes_neg _ xa n _ AA_31.out (by omega) (by omega)).mono ?_
        rintro e w32 ⟨rfl, b32⟩
        have AA_32 := Aside0.mk (AA_31.out.below b32)
        have XX_32 := Aside0.mk (XX_31.out.below b32)
        have H32 := Aside0.mk (bon H31.out b32)
        clear b32 AA_31 XX_31 H31
        go_wp2_with fail
        refine (long_n AA_32.out).mono ?_
        rw [show decide ((xa.length : Int) > 80) = false from by simp; omega]
        rintro e w33 ⟨rfl, b33⟩
        have AA_33 := Aside0.mk (AA_32.out.below b33)
        have XX_33 := Aside0.mk (XX_32.out.below b33)
        have H33 := Aside0.mk (bon H32.out b33)
        clear b33 AA_32 XX_32 H32
        go_wp2_with fail
        refine (wakes1_calls _).mono ?_
        rintro e w34 ⟨rfl, b34⟩
        have H34 := Aside0.mk (bon H33.out b34)
        clear b34
        go_wp2_with fail
        go_ret
        exact ⟨rfl, H34.out⟩
      · as_aux_lemma =>
        by_cases hn3 : 8 * n < (r : Int)
        · as_aux_lemma =>
          refine (bytes_arg _ xa n r _ AA_31.out DA.out (by omega) (by omega) (by omega) (by rw [HX.out]; exact HR.out) hn3).mono ?_
          rintro e w32 ⟨rfl, b32⟩
          have AA_32 := Aside0.mk (AA_31.out.below b32)
          have XX_32 := Aside0.mk (XX_31.out.below b32)
          have H32 := Aside0.mk (bon H31.out b32)
          clear b32 AA_31 XX_31 H31
          go_wp2_with fail
          refine (long_n AA_32.out).mono ?_
          rw [show decide ((xa.length : Int) > 80) = false from by simp; omega]
          rintro e w33 ⟨rfl, b33⟩
          have AA_33 := Aside0.mk (AA_32.out.below b33)
          have XX_33 := Aside0.mk (XX_32.out.below b33)
          have H33 := Aside0.mk (bon H32.out b33)
          clear b33 AA_32 XX_32 H32
          go_wp2_with fail
          refine (rbits_n XX_33.out (by decide) r HR.out).mono ?_
          rintro e w34 ⟨rfl, b34⟩
          have AA_34 := Aside0.mk (AA_33.out.below b34)
          have XX_34 := Aside0.mk (XX_33.out.below b34)
          have H34 := Aside0.mk (bon H33.out b34)
          clear b34 AA_33 XX_33 H33
          go_wp2_with fail
          refine (wakes1_calls _).mono ?_
          rintro e w35 ⟨rfl, b35⟩
          have H35 := Aside0.mk (bon H34.out b35)
          clear b35
          go_wp2_with fail
          go_ret
          exact ⟨rfl, H35.out⟩
        · as_aux_lemma =>
          obtain ⟨N, rfl⟩ := Int.eq_ofNat_of_zero_le (show 0 ≤ n by omega)
          have hN6 : N ≤ 640 := by omega
          have hNr : r ≤ 8 * N := by omega
          refine (bytes_ok _ xa N r _ AA_31.out DA.out (by omega) hN6 (by rw [HX.out]; exact HR.out) hNr).mono ?_
          rintro e w32 ⟨vl, rfl, qBL, b32⟩
          have AA_32 := Aside0.mk (AA_31.out.below b32)
          have XX_32 := Aside0.mk (XX_31.out.below b32)
          have BL_32 := Aside0.mk qBL
          have H32 := Aside0.mk (bon H31.out b32)
          clear b32 AA_31 XX_31 qBL H31
          rw [HX.out] at BL_32
          obtain ⟨Al, cl, rfl⟩ := BL_32.out.form
          go_wp2_with fail
          refine (long_n AA_32.out).mono ?_
          rw [show decide ((xa.length : Int) > 80) = false from by simp; omega]
          rintro e w33 ⟨rfl, b33⟩
          have AA_33 := Aside0.mk (AA_32.out.below b33)
          have XX_33 := Aside0.mk (XX_32.out.below b33)
          have BL_33 := Aside0.mk (BL_32.out.below b33)
          have H33 := Aside0.mk (bon H32.out b33)
          clear b33 AA_32 XX_32 BL_32 H32
          go_wp2_with fail
          refine (rbits_n XX_33.out (by decide) r HR.out).mono ?_
          rintro e w34 ⟨rfl, b34⟩
          have AA_34 := Aside0.mk (AA_33.out.below b34)
          have XX_34 := Aside0.mk (XX_33.out.below b34)
          have BL_34 := Aside0.mk (BL_33.out.below b34)
          have H34 := Aside0.mk (bon H33.out b34)
          clear b34 AA_33 XX_33 BL_33 H33
          have hmx : Try.prog.follows .mixedOrders = true := by kernel_rfl
          go_wp2_with fail
          have R := fun Q => reg43 Q w34 Ax Al lx cx (bytesOf x N).length cl N (4 * 100) x
          refine R _ _ _ _ _ _ _ _ _ _ _ _ _ _ _ _ _ _ _ _ _ _ _ _ _ _ _ _ _ _ _ _ _ _ _ _ _ _ _ _ _ _ _ _ _ _ _ _ _ _ _ _ _ _ _ _ _ _ _ _ _ _ _ _ _ _ _ _ _ _ _ _ _ _ _ _ _ _ _ _ _ _ _ _ _ _ _ _ _ _ _ _ _ _ _ _ _ _ _ _ _ _ _ _ _ _ _ _ _ _ _ _ _ _ _ _ _ _ _ _ _ _ _ _ _ _ _ _ _ _ _ _ _ _ _ _ _ _ _ _ _ _ _ _ _ _ _ _ _ _ _ _ _ _ _ _ _ _ _ _ _ _ _ _ _ _ _ _ _ _ _ _ _ _ _ _ _ _ _ _ _ _ _ _ _ _ _ _ _ _ _ _ _ _ _ _ _ _ _ _ _ _ _ _ _ _ _ _ _ _ _ _ _ _ _ _ _ _ _ _ _ _ _ _ _ _ _ _ _ _ _ _ _ _ _ _ _ _ _ _ _ _ _ _ _ _ _ _ _ _ _ _ _ _ _ _ _ _ _ _ _ _ _ _ _ _ _ _ _ _ _ _ _ _ _ _ _ _ _ _ _ _ _ _ _ _ _ _ _ _ _ _ _ _ _ _ _ _ _ _ _ _ _ _ _ _ _ _ _ _ _ _ _ _ _ _ (by kernel_rfl) XX_34.out (by omega) hN6 BL_34.out hmx ?_
          clear R
          intro y304 y305 y306 y307 y308 y309 y310 y311 y312 y313 y314 y315 y316 y317 wz bz
          go_wp2_with fail
          go_ret
          exact ⟨rfl, bon H34.out bz⟩
end Go.Proofs.Ytokadjfakncdfaa
