/- The walk of marlinspikelaw01.NatRing. -/
import Derived.Test.YtokadjfakncdfaaN15
import Derived.Test.YtokadjfakncdfaaN16
set_option linter.unusedVariables false
set_option linter.unusedSimpArgs false
namespace Go.Proofs.Ytokadjfakncdfaa
open Go.RowKit Go.Proofs.YtokadjfakncdfaaW.PrintWords Go.Proofs.YtokadjfakncdfaaW.PrintLast Go.Proofs.YtokadjfakncdfaaW.PrintMore

set_option maxRecDepth 100000 in
theorem NatRing_long_a (a0 a1 a2 : Option Addr) (l0 c0 l1 c1 l2 c2 : Nat) (w : World) (h0 : (20 : Int) < l0) :
    Calls Try.prog 6 #[.slice a0 l0 c0, .slice a1 l1 c1, .slice a2 l2 c2] w fun e w' => e = .returned (.bool true) ∧ Below w.heap.size w w' := by
  go_enter Try.func6, Try.ntmps6
  go_wp2_with fail
  refine (wakes1_calls _).mono ?_
  rintro e w1 ⟨rfl, b1⟩
  go_wp2_with fail
  go_ret
  exact ⟨rfl, b1⟩

set_option maxRecDepth 100000 in
theorem NatRing_long_b (a0 a1 a2 : Option Addr) (l0 c0 l1 c1 l2 c2 : Nat) (w : World) (h0 : (l0 : Int) ≤ 20) (h1 : (20 : Int) < l1) :
    Calls Try.prog 6 #[.slice a0 l0 c0, .slice a1 l1 c1, .slice a2 l2 c2] w fun e w' => e = .returned (.bool true) ∧ Below w.heap.size w w' := by
  go_enter Try.func6, Try.ntmps6
  go_wp2_with fail
  refine (wakes1_calls _).mono ?_
  rintro e w1 ⟨rfl, b1⟩
  go_wp2_with fail
  go_ret
  exact ⟨rfl, b1⟩

set_option maxRecDepth 100000 in
theorem NatRing_long_c (a0 a1 a2 : Option Addr) (l0 c0 l1 c1 l2 c2 : Nat) (w : World) (h0 : (l0 : Int) ≤ 20) (h1 : (l1 : Int) ≤ 20) (h2 : (20 : Int) < l2) :
    Calls Try.prog 6 #[.slice a0 l0 c0, .slice a1 l1 c1, .slice a2 l2 c2] w fun e w' => e = .returned (.bool true) ∧ Below w.heap.size w w' := by
  go_enter Try.func6, Try.ntmps6
  go_wp2_with fail
  refine (wakes1_calls _).mono ?_
  rintro e w1 ⟨rfl, b1⟩
  go_wp2_with fail
  go_ret
  exact ⟨rfl, b1⟩

set_option maxRecDepth 100000 in
theorem NatRing_calls (a0 a1 a2 : Option Addr) (l0 c0 l1 c1 l2 c2 : Nat) (w : World) (h0 : (l0 : Int) ≤ 20) (h1 : (l1 : Int) ≤ 20) (h2 : (l2 : Int) ≤ 20)
    (x y z : Int) (A : DN w (.slice a0 l0 c0) x 20) (B : DN w (.slice a1 l1 c1) y 20) (C : DN w (.slice a2 l2 c2) z 20) :
    Calls Try.prog 6 #[.slice a0 l0 c0, .slice a1 l1 c1, .slice a2 l2 c2] w fun e w' => e = .returned (.bool true) ∧ Below w.heap.size w w' := by
  go_enter Try.func6, Try.ntmps6
  go_wp2_with fail
  refine (add_n A B (by decide) (by decide)).mono ?_
  rintro e w1 ⟨vab, rfl, ab_1, b1⟩
  have A_1 := A.below b1
  have B_1 := B.below b1
  have C_1 := C.below b1
  have H1 := b1
  clear b1 A B C
  go_wp2_with fail
  refine (add_n B_1 A_1 (by decide) (by decide)).mono ?_
  rintro e w2 ⟨vba, rfl, ba_2, b2⟩
  have A_2 := A_1.below b2
  have B_2 := B_1.below b2
  have C_2 := C_1.below b2
  have ab_2 := ab_1.below b2
  have H2 := bon H1 b2
  clear b2 A_1 B_1 C_1 ab_1 H1
  go_wp2_with fail
  refine (add_n B_2 C_2 (by decide) (by decide)).mono ?_
  rintro e w3 ⟨vbc, rfl, bc_3, b3⟩
  have A_3 := A_2.below b3
  have B_3 := B_2.below b3
  have C_3 := C_2.below b3
  have ab_3 := ab_2.below b3
  have ba_3 := ba_2.below b3
  have H3 := bon H2 b3
  clear b3 A_2 B_2 C_2 ab_2 ba_2 H2
  go_wp2_with fail
  refine (add_n ab_3.dn C_3 (by decide) (by decide)).mono ?_
  rintro e w4 ⟨vx, rfl, x1_4, b4⟩
  have A_4 := A_3.below b4
  have B_4 := B_3.below b4
  have C_4 := C_3.below b4
  have ab_4 := ab_3.below b4
  have ba_4 := ba_3.below b4
  have bc_4 := bc_3.below b4
  have H4 := bon H3 b4
  clear b4 A_3 B_3 C_3 ab_3 ba_3 bc_3 H3
  go_wp2_with fail
  refine (add_n A_4 bc_4.dn (by decide) (by decide)).mono ?_
  rintro e w5 ⟨vy, rfl, y1_5, b5⟩
  have A_5 := A_4.below b5
  have B_5 := B_4.below b5
  have C_5 := C_4.below b5
  have ab_5 := ab_4.below b5
  have ba_5 := ba_4.below b5
  have bc_5 := bc_4.below b5
  have x1_5 := x1_4.below b5
  have H5 := bon H4 b5
  clear b5 A_4 B_4 C_4 ab_4 ba_4 bc_4 x1_4 H4
  go_wp2_with fail
  refine (same_t ab_5 ba_5 (by decide) (Int.add_comm _ _)).mono ?_
  rintro e w6 ⟨rfl, b6⟩
  have A_6 := A_5.below b6
  have B_6 := B_5.below b6
  have C_6 := C_5.below b6
  have ab_6 := ab_5.below b6
  have ba_6 := ba_5.below b6
  have bc_6 := bc_5.below b6
  have x1_6 := x1_5.below b6
  have y1_6 := y1_5.below b6
  have H6 := bon H5 b6
  clear b6 A_5 B_5 C_5 ab_5 ba_5 bc_5 x1_5 y1_5 H5
  go_wp2_with fail
  refine (same_t x1_6 y1_6 (by decide) (Int.add_assoc _ _ _)).mono ?_
  rintro e w7 ⟨rfl, b7⟩
  have A_7 := A_6.below b7
  have B_7 := B_6.below b7
  have C_7 := C_6.below b7
  have ab_7 := ab_6.below b7
  have ba_7 := ba_6.below b7
  have bc_7 := bc_6.below b7
  have x1_7 := x1_6.below b7
  have y1_7 := y1_6.below b7
  have H7 := bon H6 b7
  clear b7 A_6 B_6 C_6 ab_6 ba_6 bc_6 x1_6 y1_6 H6
  go_wp2_with fail
  refine (mul_n A_7 B_7 (by decide) (by decide)).mono ?_
  rintro e w8 ⟨vp, rfl, p1_8, b8⟩
  have A_8 := A_7.below b8
  have B_8 := B_7.below b8
  have C_8 := C_7.below b8
  have ab_8 := ab_7.below b8
  have ba_8 := ba_7.below b8
  have bc_8 := bc_7.below b8
  have x1_8 := x1_7.below b8
  have y1_8 := y1_7.below b8
  have H8 := bon H7 b8
  clear b8 A_7 B_7 C_7 ab_7 ba_7 bc_7 x1_7 y1_7 H7
  go_wp2_with fail
  refine (mul_n B_8 A_8 (by decide) (by decide)).mono ?_
  rintro e w9 ⟨vq, rfl, q1_9, b9⟩
  have A_9 := A_8.below b9
  have B_9 := B_8.below b9
  have C_9 := C_8.below b9
  have ab_9 := ab_8.below b9
  have ba_9 := ba_8.below b9
  have bc_9 := bc_8.below b9
  have x1_9 := x1_8.below b9
  have y1_9 := y1_8.below b9
  have p1_9 := p1_8.below b9
  have H9 := bon H8 b9
  clear b9 A_8 B_8 C_8 ab_8 ba_8 bc_8 x1_8 y1_8 p1_8 H8
  go_wp2_with fail
  refine (mul_n p1_9.dn C_9 (by decide) (by decide)).mono ?_
  rintro e w10 ⟨vu, rfl, u1_10, b10⟩
  have A_10 := A_9.below b10
  have B_10 := B_9.below b10
  have C_10 := C_9.below b10
  have ab_10 := ab_9.below b10
  have ba_10 := ba_9.below b10
  have bc_10 := bc_9.below b10
  have x1_10 := x1_9.below b10
  have y1_10 := y1_9.below b10
  have p1_10 := p1_9.below b10
  have q1_10 := q1_9.below b10
  have H10 := bon H9 b10
  clear b10 A_9 B_9 C_9 ab_9 ba_9 bc_9 x1_9 y1_9 p1_9 q1_9 H9
  go_wp2_with fail
  refine (mul_n B_10 C_10 (by decide) (by decide)).mono ?_
  rintro e w11 ⟨vv, rfl, v1_11, b11⟩
  have A_11 := A_10.below b11
  have B_11 := B_10.below b11
  have C_11 := C_10.below b11
  have ab_11 := ab_10.below b11
  have ba_11 := ba_10.below b11
  have bc_11 := bc_10.below b11
  have x1_11 := x1_10.below b11
  have y1_11 := y1_10.below b11
  have p1_11 := p1_10.below b11
  have q1_11 := q1_10.below b11
  have u1_11 := u1_10.below b11
  have H11 := bon H10 b11
  clear b11 A_10 B_10 C_10 ab_10 ba_10 bc_10 x1_10 y1_10 p1_10 q1_10 u1_10 H10
  go_wp2_with fail
  refine (mul_n A_11 v1_11.dn (by decide) (by decide)).mono ?_
  rintro e w12 ⟨vw, rfl, t1_12, b12⟩
  have A_12 := A_11.below b12
  have B_12 := B_11.below b12
  have C_12 := C_11.below b12
  have ab_12 := ab_11.below b12
  have ba_12 := ba_11.below b12
  have bc_12 := bc_11.below b12
  have x1_12 := x1_11.below b12
  have y1_12 := y1_11.below b12
  have p1_12 := p1_11.below b12
  have q1_12 := q1_11.below b12
  have u1_12 := u1_11.below b12
  have v1_12 := v1_11.below b12
  have H12 := bon H11 b12
  clear b12 A_11 B_11 C_11 ab_11 ba_11 bc_11 x1_11 y1_11 p1_11 q1_11 u1_11 v1_11 H11
  go_wp2_with fail
  refine (same_t p1_12 q1_12 (by decide) (Int.mul_comm _ _)).mono ?_
  rintro e w13 ⟨rfl, b13⟩
  have A_13 := A_12.below b13
  have B_13 := B_12.below b13
  have C_13 := C_12.below b13
  have ab_13 := ab_12.below b13
  have ba_13 := ba_12.below b13
  have bc_13 := bc_12.below b13
  have x1_13 := x1_12.below b13
  have y1_13 := y1_12.below b13
  have p1_13 := p1_12.below b13
  have q1_13 := q1_12.below b13
  have u1_13 := u1_12.below b13
  have v1_13 := v1_12.below b13
  have t1_13 := t1_12.below b13
  have H13 := bon H12 b13
  clear b13 A_12 B_12 C_12 ab_12 ba_12 bc_12 x1_12 y1_12 p1_12 q1_12 u1_12 v1_12 t1_12 H12
  go_wp2_with fail
  refine (same_t u1_13 t1_13 (by decide) (Int.mul_assoc _ _ _)).mono ?_
  rintro e w14 ⟨rfl, b14⟩
  have A_14 := A_13.below b14
  have B_14 := B_13.below b14
  have C_14 := C_13.below b14
  have ab_14 := ab_13.below b14
  have ba_14 := ba_13.below b14
  have bc_14 := bc_13.below b14
  have x1_14 := x1_13.below b14
  have y1_14 := y1_13.below b14
  have p1_14 := p1_13.below b14
  have q1_14 := q1_13.below b14
  have u1_14 := u1_13.below b14
  have v1_14 := v1_13.below b14
  have t1_14 := t1_13.below b14
  have H14 := bon H13 b14
  clear b14 A_13 B_13 C_13 ab_13 ba_13 bc_13 x1_13 y1_13 p1_13 q1_13 u1_13 v1_13 t1_13 H13
  go_wp2_with fail
  refine (mul_n ab_14.dn C_14 (by decide) (by decide)).mono ?_
  rintro e w15 ⟨vs, rfl, s1_15, b15⟩
  have A_15 := A_14.below b15
  have B_15 := B_14.below b15
  have C_15 := C_14.below b15
  have ab_15 := ab_14.below b15
  have ba_15 := ba_14.below b15
  have bc_15 := bc_14.below b15
  have x1_15 := x1_14.below b15
  have y1_15 := y1_14.below b15
  have p1_15 := p1_14.below b15
  have q1_15 := q1_14.below b15
  have u1_15 := u1_14.below b15
  have v1_15 := v1_14.below b15
  have t1_15 := t1_14.below b15
  have H15 := bon H14 b15
  clear b15 A_14 B_14 C_14 ab_14 ba_14 bc_14 x1_14 y1_14 p1_14 q1_14 u1_14 v1_14 t1_14 H14
  go_wp2_with fail
  refine (mul_n A_15 C_15 (by decide) (by decide)).mono ?_
  rintro e w16 ⟨vac, rfl, ac_16, b16⟩
  have A_16 := A_15.below b16
  have B_16 := B_15.below b16
  have C_16 := C_15.below b16
  have ab_16 := ab_15.below b16
  have ba_16 := ba_15.below b16
  have bc_16 := bc_15.below b16
  have x1_16 := x1_15.below b16
  have y1_16 := y1_15.below b16
  have p1_16 := p1_15.below b16
  have q1_16 := q1_15.below b16
  have u1_16 := u1_15.below b16
  have v1_16 := v1_15.below b16
  have t1_16 := t1_15.below b16
  have s1_16 := s1_15.below b16
  have H16 := bon H15 b16
  clear b16 A_15 B_15 C_15 ab_15 ba_15 bc_15 x1_15 y1_15 p1_15 q1_15 u1_15 v1_15 t1_15 s1_15 H15
  go_wp2_with fail
  refine (add_n ac_16.dn v1_16.dn (by decide) (by decide)).mono ?_
  rintro e w17 ⟨vt, rfl, t2_17, b17⟩
  have A_17 := A_16.below b17
  have B_17 := B_16.below b17
  have C_17 := C_16.below b17
  have ab_17 := ab_16.below b17
  have ba_17 := ba_16.below b17
  have bc_17 := bc_16.below b17
  have x1_17 := x1_16.below b17
  have y1_17 := y1_16.below b17
  have p1_17 := p1_16.below b17
  have q1_17 := q1_16.below b17
  have u1_17 := u1_16.below b17
  have v1_17 := v1_16.below b17
  have t1_17 := t1_16.below b17
  have s1_17 := s1_16.below b17
  have ac_17 := ac_16.below b17
  have H17 := bon H16 b17
  clear b17 A_16 B_16 C_16 ab_16 ba_16 bc_16 x1_16 y1_16 p1_16 q1_16 u1_16 v1_16 t1_16 s1_16 ac_16 H16
  go_wp2_with fail
  refine (sub_n ab_17.dn B_17 (by decide) (by decide) (by have := A_17.nonneg; omega)).mono ?_
  rintro e w18 ⟨vd, rfl, d1_18, b18⟩
  have A_18 := A_17.below b18
  have B_18 := B_17.below b18
  have C_18 := C_17.below b18
  have ab_18 := ab_17.below b18
  have ba_18 := ba_17.below b18
  have bc_18 := bc_17.below b18
  have x1_18 := x1_17.below b18
  have y1_18 := y1_17.below b18
  have p1_18 := p1_17.below b18
  have q1_18 := q1_17.below b18
  have u1_18 := u1_17.below b18
  have v1_18 := v1_17.below b18
  have t1_18 := t1_17.below b18
  have s1_18 := s1_17.below b18
  have ac_18 := ac_17.below b18
  have t2_18 := t2_17.below b18
  have H18 := bon H17 b18
  clear b18 A_17 B_17 C_17 ab_17 ba_17 bc_17 x1_17 y1_17 p1_17 q1_17 u1_17 v1_17 t1_17 s1_17 ac_17 t2_17 H17
  go_wp2_with fail
  refine (same_t s1_18 t2_18 (by decide) (Int.add_mul _ _ _)).mono ?_
  rintro e w19 ⟨rfl, b19⟩
  have A_19 := A_18.below b19
  have B_19 := B_18.below b19
  have C_19 := C_18.below b19
  have ab_19 := ab_18.below b19
  have ba_19 := ba_18.below b19
  have bc_19 := bc_18.below b19
  have x1_19 := x1_18.below b19
  have y1_19 := y1_18.below b19
  have p1_19 := p1_18.below b19
  have q1_19 := q1_18.below b19
  have u1_19 := u1_18.below b19
  have v1_19 := v1_18.below b19
  have t1_19 := t1_18.below b19
  have s1_19 := s1_18.below b19
  have ac_19 := ac_18.below b19
  have t2_19 := t2_18.below b19
  have d1_19 := d1_18.below b19
  have H19 := bon H18 b19
  clear b19 A_18 B_18 C_18 ab_18 ba_18 bc_18 x1_18 y1_18 p1_18 q1_18 u1_18 v1_18 t1_18 s1_18 ac_18 t2_18 d1_18 H18
  go_wp2_with fail
  refine (of_n A_19 (by decide)).mono ?_
  rintro e w20 ⟨vo, rfl, o1_20, b20⟩
  have A_20 := A_19.below b20
  have B_20 := B_19.below b20
  have C_20 := C_19.below b20
  have ab_20 := ab_19.below b20
  have ba_20 := ba_19.below b20
  have bc_20 := bc_19.below b20
  have x1_20 := x1_19.below b20
  have y1_20 := y1_19.below b20
  have p1_20 := p1_19.below b20
  have q1_20 := q1_19.below b20
  have u1_20 := u1_19.below b20
  have v1_20 := v1_19.below b20
  have t1_20 := t1_19.below b20
  have s1_20 := s1_19.below b20
  have ac_20 := ac_19.below b20
  have t2_20 := t2_19.below b20
  have d1_20 := d1_19.below b20
  have H20 := bon H19 b20
  clear b20 A_19 B_19 C_19 ab_19 ba_19 bc_19 x1_19 y1_19 p1_19 q1_19 u1_19 v1_19 t1_19 s1_19 ac_19 t2_19 d1_19 H19
  go_wp2_with fail
  refine (same_t d1_20 o1_20 (by decide) (by omega)).mono ?_
  rintro e w21 ⟨rfl, b21⟩
  have A_21 := A_20.below b21
  have B_21 := B_20.below b21
  have C_21 := C_20.below b21
  have ab_21 := ab_20.below b21
  have ba_21 := ba_20.below b21
  have bc_21 := bc_20.below b21
  have x1_21 := x1_20.below b21
  have y1_21 := y1_20.below b21
  have p1_21 := p1_20.below b21
  have q1_21 := q1_20.below b21
  have u1_21 := u1_20.below b21
  have v1_21 := v1_20.below b21
  have t1_21 := t1_20.below b21
  have s1_21 := s1_20.below b21
  have ac_21 := ac_20.below b21
  have t2_21 := t2_20.below b21
  have d1_21 := d1_20.below b21
  have o1_21 := o1_20.below b21
  have H21 := bon H20 b21
  clear b21 A_20 B_20 C_20 ab_20 ba_20 bc_20 x1_20 y1_20 p1_20 q1_20 u1_20 v1_20 t1_20 s1_20 ac_20 t2_20 d1_20 o1_20 H20
  go_wp2_with fail
  refine (cmp_n ab_21.dn A_21 (by decide) (by decide)).mono ?_
  rintro e w22 ⟨rfl, b22⟩
  have A_22 := A_21.below b22
  have B_22 := B_21.below b22
  have C_22 := C_21.below b22
  have ab_22 := ab_21.below b22
  have ba_22 := ba_21.below b22
  have bc_22 := bc_21.below b22
  have x1_22 := x1_21.below b22
  have y1_22 := y1_21.below b22
  have p1_22 := p1_21.below b22
  have q1_22 := q1_21.below b22
  have u1_22 := u1_21.below b22
  have v1_22 := v1_21.below b22
  have t1_22 := t1_21.below b22
  have s1_22 := s1_21.below b22
  have ac_22 := ac_21.below b22
  have t2_22 := t2_21.below b22
  have d1_22 := d1_21.below b22
  have o1_22 := o1_21.below b22
  have H22 := bon H21 b22
  clear b22 A_21 B_21 C_21 ab_21 ba_21 bc_21 x1_21 y1_21 p1_21 q1_21 u1_21 v1_21 t1_21 s1_21 ac_21 t2_21 d1_21 o1_21 H21
  have hc : (0 : Int) ≤ cmpI (x + y) x := by have := B_22.nonneg; rcases cmpI_cases (x + y) x with h | h | h <;> omega
  obtain ⟨z9, hz9⟩ : ∃ z9, cmpI (x + y) x = z9 := ⟨_, rfl⟩
  rw [hz9] at hc; rw [hz9]; clear hz9
  go_wp2_with fail
  refine (wakes1_calls _).mono ?_
  rintro e w23 ⟨rfl, b23⟩
  have H23 := bon H22 b23
  go_wp2_with fail
  go_ret
  exact ⟨rfl, H23⟩

theorem NatRing_law (w : World) (a0 : Option Addr) (l0 c0 : Nat) (z0 : List Int) (w0 : IsRow .u64 w a0 l0 c0 z0) (y0 : l0 * 8 ≤ 140737488351232) (a1 : Option Addr) (l1 c1 : Nat) (z1 : List Int) (w1 : IsRow .u64 w a1 l1 c1 z1) (y1 : l1 * 8 ≤ 140737488351232) (a2 : Option Addr) (l2 c2 : Nat) (z2 : List Int) (w2 : IsRow .u64 w a2 l2 c2 z2) (y2 : l2 * 8 ≤ 140737488351232) :
    Calls Try.prog 6 #[.slice a0 l0 c0, .slice a1 l1 c1, .slice a2 l2 c2] w fun e w' => e = .returned (.bool true) ∧ Below w.heap.size w w' := by
  by_cases h0 : (20 : Int) < l0
  · exact NatRing_long_a _ _ _ _ _ _ _ _ _ w h0
  · by_cases h1 : (20 : Int) < l1
    · exact NatRing_long_b _ _ _ _ _ _ _ _ _ w (by omega) h1
    · by_cases h2 : (20 : Int) < l2
      · exact NatRing_long_c _ _ _ _ _ _ _ _ _ w (by omega) (by omega) h2
      · obtain ⟨x, A⟩ := w0.dn 20 (by omega)
        obtain ⟨y, B⟩ := w1.dn 20 (by omega)
        obtain ⟨z, C⟩ := w2.dn 20 (by omega)
        exact NatRing_calls _ _ _ _ _ _ _ _ _ w (by omega) (by omega) (by omega) x y z A B C
end Go.Proofs.Ytokadjfakncdfaa
