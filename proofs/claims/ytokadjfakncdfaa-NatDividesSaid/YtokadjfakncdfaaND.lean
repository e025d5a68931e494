/- The walk of marlinspikelaw01.NatDivides. -/
import Derived.Test.YtokadjfakncdfaaN15
import Derived.Test.YtokadjfakncdfaaN16
import Derived.Test.YtokadjfakncdfaaNO
set_option linter.unusedVariables false
set_option linter.unusedSimpArgs false
namespace Go.Proofs.Ytokadjfakncdfaa
open Go.RowKit Go.Proofs.YtokadjfakncdfaaW.PrintWords Go.Proofs.YtokadjfakncdfaaW.PrintLast Go.Proofs.YtokadjfakncdfaaW.PrintMore
open PR

theorem CN.zero {w : World} {v : Value} {L : Nat} (h : CN w v 0 L) : ∃ A c, v = .slice A 0 c := by
  obtain ⟨ys, ⟨A, c, rfl, _⟩, h2, h3, h4⟩ := h.out
  have := (canon_nv_zero B64_pos h2).1 h3
  subst this
  exact ⟨A, c, rfl⟩

set_option maxRecDepth 100000 in
theorem NatDivides_long_a (a0 a1 : Option Addr) (l0 c0 l1 c1 : Nat) (w : World) (h0 : (20 : Int) < l0) :
    Calls Try.prog 7 #[.slice a0 l0 c0, .slice a1 l1 c1] w fun e w' => e = .returned (.bool true) ∧ Below w.heap.size w w' := by
  go_enter Try.func7, Try.ntmps7
  go_wp2_with fail
  refine (wakes1_calls _).mono ?_
  rintro e w1 ⟨rfl, b1⟩
  go_wp2_with fail
  go_ret
  exact ⟨rfl, b1⟩

set_option maxRecDepth 100000 in
theorem NatDivides_long_b (a0 a1 : Option Addr) (l0 c0 l1 c1 : Nat) (w : World) (h0 : (l0 : Int) ≤ 20) (h1 : (20 : Int) < l1) :
    Calls Try.prog 7 #[.slice a0 l0 c0, .slice a1 l1 c1] w fun e w' => e = .returned (.bool true) ∧ Below w.heap.size w w' := by
  go_enter Try.func7, Try.ntmps7
  go_wp2_with fail
  refine (wakes1_calls _).mono ?_
  rintro e w1 ⟨rfl, b1⟩
  go_wp2_with fail
  go_ret
  exact ⟨rfl, b1⟩

set_option maxRecDepth 100000 in
theorem NatDivides_zero (a0 a1 : Option Addr) (l0 c0 l1 c1 : Nat) (w : World) (h0 : (l0 : Int) ≤ 20) (h1 : (l1 : Int) ≤ 20)
    (x : Int) (A : DN w (.slice a0 l0 c0) x 20) (B : DN w (.slice a1 l1 c1) 0 20) :
    Calls Try.prog 7 #[.slice a0 l0 c0, .slice a1 l1 c1] w fun e w' => e = .returned (.bool true) ∧ Below w.heap.size w w' := by
  go_enter Try.func7, Try.ntmps7
  go_wp2_with fail
  refine (divmod_n' A B (by decide) (by decide)).mono ?_
  rintro e w1 ⟨rfl, b1⟩
  have A_1 := A.below b1
  have B_1 := B.below b1
  have H1 := b1
  clear b1 A B
  go_wp2_with fail
  refine (of_n B_1 (by decide)).mono ?_
  rintro e w2 ⟨vo, rfl, o1_2, b2⟩
  have A_2 := A_1.below b2
  have B_2 := B_1.below b2
  have H2 := bon H1 b2
  clear b2 A_1 B_1 H1
  obtain ⟨A9, c9, rfl⟩ := o1_2.zero
  go_wp2_with fail
  refine (wakes1_calls _).mono ?_
  rintro e w3 ⟨rfl, b3⟩
  have H3 := bon H2 b3
  go_wp2_with fail
  go_ret
  exact ⟨rfl, H3⟩

set_option maxRecDepth 100000 in
theorem NatDivides_pos (a0 a1 : Option Addr) (l0 c0 l1 c1 : Nat) (w : World) (h0 : (l0 : Int) ≤ 20) (h1 : (l1 : Int) ≤ 20)
    (x y : Int) (A : DN w (.slice a0 l0 c0) x 20) (B : DN w (.slice a1 l1 c1) y 20) (hy : 0 < y) :
    Calls Try.prog 7 #[.slice a0 l0 c0, .slice a1 l1 c1] w fun e w' => e = .returned (.bool true) ∧ Below w.heap.size w w' := by
  go_enter Try.func7, Try.ntmps7
  go_wp2_with fail
  refine (divmod_n A B (by decide) (by decide) hy).mono ?_
  rintro e w1 ⟨vq, vr, rfl, q1_1, r1_1, b1⟩
  have A_1 := A.below b1
  have B_1 := B.below b1
  have H1 := b1
  clear b1 A B
  go_wp2_with fail
  refine (mul_n q1_1.dn B_1 (by decide) (by decide)).mono ?_
  rintro e w2 ⟨vp, rfl, p1_2, b2⟩
  have A_2 := A_1.below b2
  have B_2 := B_1.below b2
  have q1_2 := q1_1.below b2
  have r1_2 := r1_1.below b2
  have H2 := bon H1 b2
  clear b2 A_1 B_1 q1_1 r1_1 H1
  go_wp2_with fail
  refine (add_n p1_2.dn r1_2.dn (by decide) (by decide)).mono ?_
  rintro e w3 ⟨vs, rfl, s1_3, b3⟩
  have A_3 := A_2.below b3
  have B_3 := B_2.below b3
  have q1_3 := q1_2.below b3
  have r1_3 := r1_2.below b3
  have H3 := bon H2 b3
  clear b3 A_2 B_2 q1_2 r1_2 p1_2 H2
  have e9 : x / y * y + x % y = x := by rw [Int.mul_comm]; exact Int.mul_ediv_add_emod x y
  rw [e9] at s1_3; clear e9
  go_wp2_with fail
  refine (divmod_n s1_3.dn B_3 (by decide) (by decide) hy).mono ?_
  rintro e w4 ⟨vo, vz, rfl, o1_4, z1_4, b4⟩
  have A_4 := A_3.below b4
  have B_4 := B_3.below b4
  have q1_4 := q1_3.below b4
  have r1_4 := r1_3.below b4
  have s1_4 := s1_3.below b4
  have H4 := bon H3 b4
  clear b4 A_3 B_3 q1_3 r1_3 s1_3 H3
  go_wp2_with fail
  refine (of_n A_4 (by decide)).mono ?_
  rintro e w5 ⟨va, rfl, a1_5, b5⟩
  have B_5 := B_4.below b5
  have q1_5 := q1_4.below b5
  have r1_5 := r1_4.below b5
  have s1_5 := s1_4.below b5
  have o1_5 := o1_4.below b5
  have z1_5 := z1_4.below b5
  have H5 := bon H4 b5
  clear b5 A_4 B_4 q1_4 r1_4 s1_4 o1_4 z1_4 H4
  go_wp2_with fail
  refine (same_t s1_5 a1_5 (by decide) rfl).mono ?_
  rintro e w6 ⟨rfl, b6⟩
  have B_6 := B_5.below b6
  have q1_6 := q1_5.below b6
  have r1_6 := r1_5.below b6
  have o1_6 := o1_5.below b6
  have z1_6 := z1_5.below b6
  have H6 := bon H5 b6
  clear b6 B_5 q1_5 r1_5 s1_5 o1_5 z1_5 a1_5 H5
  go_wp2_with fail
  refine (cmp_v r1_6.dn B_6 (by decide) (by decide) (cmpI_lt (Int.emod_lt_of_pos x hy))).mono ?_
  rintro e w7 ⟨rfl, b7⟩
  have q1_7 := q1_6.below b7
  have r1_7 := r1_6.below b7
  have o1_7 := o1_6.below b7
  have z1_7 := z1_6.below b7
  have H7 := bon H6 b7
  clear b7 B_6 q1_6 r1_6 o1_6 z1_6 H6
  go_wp2_with fail
  refine (same_t o1_7 q1_7 (by decide) rfl).mono ?_
  rintro e w8 ⟨rfl, b8⟩
  have r1_8 := r1_7.below b8
  have z1_8 := z1_7.below b8
  have H8 := bon H7 b8
  clear b8 q1_7 r1_7 o1_7 z1_7 H7
  go_wp2_with fail
  refine (same_t z1_8 r1_8 (by decide) rfl).mono ?_
  rintro e w9 ⟨rfl, b9⟩
  have H9 := bon H8 b9
  clear b9 r1_8 z1_8 H8
  go_wp2_with fail
  refine (wakes1_calls _).mono ?_
  rintro e w10 ⟨rfl, b10⟩
  have H10 := bon H9 b10
  go_wp2_with fail
  go_ret
  exact ⟨rfl, H10⟩

theorem NatDivides_law (w : World) (a0 : Option Addr) (l0 c0 : Nat) (z0 : List Int) (w0 : IsRow .u64 w a0 l0 c0 z0) (y0 : l0 * 8 ≤ 140737488351232) (a1 : Option Addr) (l1 c1 : Nat) (z1 : List Int) (w1 : IsRow .u64 w a1 l1 c1 z1) (y1 : l1 * 8 ≤ 140737488351232) :
    Calls Try.prog 7 #[.slice a0 l0 c0, .slice a1 l1 c1] w fun e w' => e = .returned (.bool true) ∧ Below w.heap.size w w' := by
  by_cases h0 : (20 : Int) < l0
  · exact NatDivides_long_a _ _ _ _ _ _ w h0
  · by_cases h1 : (20 : Int) < l1
    · exact NatDivides_long_b _ _ _ _ _ _ w (by omega) h1
    · obtain ⟨x, A⟩ := w0.dn 20 (by omega)
      obtain ⟨y, B⟩ := w1.dn 20 (by omega)
      have hn := B.nonneg
      by_cases h : y = 0
      · subst h
        exact NatDivides_zero _ _ _ _ _ _ w (by omega) (by omega) x A B
      · exact NatDivides_pos _ _ _ _ _ _ w (by omega) (by omega) x y A B (by omega)
end Go.Proofs.Ytokadjfakncdfaa
