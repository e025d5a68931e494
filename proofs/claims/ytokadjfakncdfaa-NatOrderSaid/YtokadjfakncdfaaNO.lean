/- The walk of marlinspikelaw01.NatOrder. -/
import Derived.Test.YtokadjfakncdfaaN15
import Derived.Test.YtokadjfakncdfaaN16
import Derived.Test.YtokadjfakncdfaaWRepsOne
set_option linter.unusedVariables false
set_option linter.unusedSimpArgs false
namespace Go.Proofs.Ytokadjfakncdfaa
open Go.RowKit Go.Proofs.YtokadjfakncdfaaW.PrintWords Go.Proofs.YtokadjfakncdfaaW.PrintLast Go.Proofs.YtokadjfakncdfaaW.PrintMore
open PR

theorem RO.lit1 (k : IntKind) (e : Nat) (x : Int) (w : World) : RO k e (w.alloc (.cells #[.int k x] e)) w.heap.size (.slice (some ⟨w.heap.size, 0, none⟩) 1 1) [x] := by
  refine ⟨fun b hb => ?_, [.int k x], ⟨rfl, .inr ⟨w.heap.size, 1, #[.int k x], rfl, Nat.le_refl _, heap_alloc_new w _, Nat.le_refl _, by simp [maxLen], rfl, rfl⟩⟩, Reps.one ?_ (Reps.none _ _)⟩
  · simp [Value.ownBlock] at hb
    omega
  · rfl
theorem RL.c {k : IntKind} {w : World} {a : Option Addr} {l c : Nat} {xs : List Int} (h : RL k w (.slice a l c) xs) : (Kd.int k).C w a xs.length xs := by
  obtain ⟨A, c', he, _, hC⟩ := h
  cases he
  exact hC
theorem RL.len {k : IntKind} {w : World} {a : Option Addr} {l c : Nat} {xs : List Int} (h : RL k w (.slice a l c) xs) : l = xs.length := by
  obtain ⟨A, c', he, _, hC⟩ := h
  cases he
  rfl
theorem cmpI_eq {x y : Int} (h : x = y) : cmpI x y = 0 := by rw [h, cmpI_self]
theorem cmp_v {w : World} {va vb : Value} {x y c : Int} {la lb : Nat} (ha : DN w va x la) (hb : DN w vb y lb) (h1 : la ≤ 2000) (h2 : lb ≤ 2000) (hc : cmpI x y = c) :
    Calls Try.prog 18 #[va, vb] w fun e w' => e = .returned (.int .i64 c) ∧ Below w.heap.size w w' := by
  subst hc
  exact cmp_n ha hb h1 h2

set_option maxRecDepth 100000 in
theorem NatOrder_long_a (a0 a1 a2 : Option Addr) (l0 c0 l1 c1 l2 c2 : Nat) (w : World) (h0 : (20 : Int) < l0) :
    Calls Try.prog 8 #[.slice a0 l0 c0, .slice a1 l1 c1, .slice a2 l2 c2] w fun e w' => e = .returned (.bool true) ∧ Below w.heap.size w w' := by
  go_enter Try.func8, Try.ntmps8
  go_wp2_with fail
  refine (wakes1_calls _).mono ?_
  rintro e w1 ⟨rfl, b1⟩
  go_wp2_with fail
  go_ret
  exact ⟨rfl, b1⟩

set_option maxRecDepth 100000 in
theorem NatOrder_long_b (a0 a1 a2 : Option Addr) (l0 c0 l1 c1 l2 c2 : Nat) (w : World) (h0 : (l0 : Int) ≤ 20) (h1 : (20 : Int) < l1) :
    Calls Try.prog 8 #[.slice a0 l0 c0, .slice a1 l1 c1, .slice a2 l2 c2] w fun e w' => e = .returned (.bool true) ∧ Below w.heap.size w w' := by
  go_enter Try.func8, Try.ntmps8
  go_wp2_with fail
  refine (wakes1_calls _).mono ?_
  rintro e w1 ⟨rfl, b1⟩
  go_wp2_with fail
  go_ret
  exact ⟨rfl, b1⟩

set_option maxRecDepth 100000 in
theorem NatOrder_long_c (a0 a1 a2 : Option Addr) (l0 c0 l1 c1 l2 c2 : Nat) (w : World) (h0 : (l0 : Int) ≤ 20) (h1 : (l1 : Int) ≤ 20) (h2 : (20 : Int) < l2) :
    Calls Try.prog 8 #[.slice a0 l0 c0, .slice a1 l1 c1, .slice a2 l2 c2] w fun e w' => e = .returned (.bool true) ∧ Below w.heap.size w w' := by
  go_enter Try.func8, Try.ntmps8
  go_wp2_with fail
  refine (wakes1_calls _).mono ?_
  rintro e w1 ⟨rfl, b1⟩
  go_wp2_with fail
  go_ret
  exact ⟨rfl, b1⟩

set_option maxRecDepth 100000 in
theorem NatOrder_lt (a0 a1 a2 : Option Addr) (l0 c0 l1 c1 l2 c2 : Nat) (w : World) (h0 : (l0 : Int) ≤ 20) (h1 : (l1 : Int) ≤ 20) (h2 : (l2 : Int) ≤ 20)
    (x y z : Int) (A : DN w (.slice a0 l0 c0) x 20) (B : DN w (.slice a1 l1 c1) y 20) (C : DN w (.slice a2 l2 c2) z 20) (hc : x < y) :
    Calls Try.prog 8 #[.slice a0 l0 c0, .slice a1 l1 c1, .slice a2 l2 c2] w fun e w' => e = .returned (.bool true) ∧ Below w.heap.size w w' := by
  go_enter Try.func8, Try.ntmps8
  go_wp2_with fail
  refine (sub_n' A B (by decide) (by decide) hc).mono ?_
  rintro e w1 ⟨rfl, b1⟩
  have A_1 := A.below b1
  have B_1 := B.below b1
  have C_1 := C.below b1
  have H1 := b1
  clear b1 A B C
  go_wp2_with fail
  refine (add_n A_1 C_1 (by decide) (by decide)).mono ?_
  rintro e w2 ⟨vx, rfl, x1_2, b2⟩
  have A_2 := A_1.below b2
  have B_2 := B_1.below b2
  have C_2 := C_1.below b2
  have H2 := bon H1 b2
  clear b2 A_1 B_1 C_1 H1
  go_wp2_with fail
  refine (add_n B_2 C_2 (by decide) (by decide)).mono ?_
  rintro e w3 ⟨vy, rfl, y1_3, b3⟩
  have A_3 := A_2.below b3
  have B_3 := B_2.below b3
  have x1_3 := x1_2.below b3
  have H3 := bon H2 b3
  clear b3 A_2 B_2 C_2 x1_2 H2
  go_wp2_with fail
  have S := one_below w3 (.cells #[.int .u64 0, .int .u64 1] 30)
  refine (mul_n (A_3.below S) (dn2 (heap_alloc_new _ _) (by decide) (by decide)) (by decide) (by decide)).mono ?_
  rintro e w4 ⟨vp, rfl, p1_4, b4⟩
  have s4 := bon S b4
  have A_4 := A_3.below s4
  have B_4 := B_3.below s4
  have x1_4 := x1_3.below s4
  have y1_4 := y1_3.below s4
  have H4 := bon H3 s4
  clear b4 s4 A_3 B_3 x1_3 y1_3 H3
  clear S
  obtain ⟨xs, hra, hda, hna, hla⟩ := A_4.out
  have HD := Aside0.mk (And.intro hda hna)
  have HR := Aside0.mk hra.c
  have hl9 : l0 = xs.length := hra.len
  clear hra hda hna
  subst hl9
  go_wp2_with (at_builtin; refine Kd.R_append_rows (Kd.int .u64) (w0 := w4) w4.heap.size rfl _ _ 31 30 (.int .u64 0) 8 rfl Try.underlying31 info30 rfl (by decide) (by omega) _ [0] xs a0 xs.length c0 (fun b => w4.heap.size ≤ b) (fun _ => False) rfl rfl (RO.lit1 .u64 30 0 w4) (Kd.C_alloc HR.out _) (fun x cs h => h) (fun _ h => h.elim) (fun b hb => by simp at hb; omega) (below_alloc (Below.refl _ _) _) (by simp) (by simp; omega) ?_; intro vup wu ho hb hg hat; have HU := Aside0.mk (And.intro (RL.of_R ho) hb); clear ho hb hg hat)
  have BU := HU.out.2
  have U : DN wu vup (0 + B64 * x) 21 := ⟨_, HU.out.1, Dig.nil.snoc (by decide) |>.append HD.out.1, by rw [List.singleton_append, nv_cons, HD.out.2], by simp; omega⟩
  have A_u := A_4.below BU
  have B_u := B_4.below BU
  have x1_u := x1_4.below BU
  have y1_u := y1_4.below BU
  have p1_u := p1_4.below BU
  have Hu := bon H4 BU
  clear BU HU HD HR A_4 B_4 x1_4 y1_4 p1_4 H4
  refine (cmp_v A_u B_u (by decide) (by decide) (cmpI_lt (by omega))).mono ?_
  rintro e w5 ⟨rfl, b5⟩
  have A_5 := A_u.below b5
  have B_5 := B_u.below b5
  have x1_5 := x1_u.below b5
  have y1_5 := y1_u.below b5
  have p1_5 := p1_u.below b5
  have U_5 := U.below b5
  have H5 := bon Hu b5
  clear b5 A_u B_u x1_u y1_u p1_u U Hu
  go_wp2_with fail
  refine (cmp_v x1_5.dn y1_5.dn (by decide) (by decide) (cmpI_lt (by omega))).mono ?_
  rintro e w6 ⟨rfl, b6⟩
  have A_6 := A_5.below b6
  have B_6 := B_5.below b6
  have p1_6 := p1_5.below b6
  have U_6 := U_5.below b6
  have H6 := bon H5 b6
  clear b6 A_5 B_5 x1_5 y1_5 p1_5 U_5 H5
  go_wp2_with fail
  refine (cmp_v A_6 B_6 (by decide) (by decide) (cmpI_lt (by omega))).mono ?_
  rintro e w7 ⟨rfl, b7⟩
  have A_7 := A_6.below b7
  have B_7 := B_6.below b7
  have p1_7 := p1_6.below b7
  have U_7 := U_6.below b7
  have H7 := bon H6 b7
  clear b7 A_6 B_6 p1_6 U_6 H6
  go_wp2_with fail
  refine (cmp_v B_7 A_7 (by decide) (by decide) (cmpI_gt (by omega))).mono ?_
  rintro e w8 ⟨rfl, b8⟩
  have A_8 := A_7.below b8
  have B_8 := B_7.below b8
  have p1_8 := p1_7.below b8
  have U_8 := U_7.below b8
  have H8 := bon H7 b8
  clear b8 A_7 B_7 p1_7 U_7 H7
  go_wp2_with fail
  refine (cmp_v A_8 B_8 (by decide) (by decide) (cmpI_lt (by omega))).mono ?_
  rintro e w9 ⟨rfl, b9⟩
  have p1_9 := p1_8.below b9
  have U_9 := U_8.below b9
  have H9 := bon H8 b9
  clear b9 A_8 B_8 p1_8 U_8 H8
  go_wp2_with fail
  refine (of_n U_9 (by decide)).mono ?_
  rintro e w10 ⟨vo, rfl, o1_10, b10⟩
  have p1_10 := p1_9.below b10
  have H10 := bon H9 b10
  clear b10 p1_9 U_9 H9
  go_wp2_with fail
  refine (same_t p1_10 o1_10 (by decide) (by rw [B64_eq]; omega)).mono ?_
  rintro e w11 ⟨rfl, b11⟩
  have H11 := bon H10 b11
  clear b11 p1_10 o1_10 H10
  go_wp2_with fail
  refine (wakes1_calls _).mono ?_
  rintro e w12 ⟨rfl, b12⟩
  have H12 := bon H11 b12
  go_wp2_with fail
  go_ret
  exact ⟨rfl, H12⟩

set_option maxRecDepth 100000 in
theorem NatOrder_eq (a0 a1 a2 : Option Addr) (l0 c0 l1 c1 l2 c2 : Nat) (w : World) (h0 : (l0 : Int) ≤ 20) (h1 : (l1 : Int) ≤ 20) (h2 : (l2 : Int) ≤ 20)
    (x y z : Int) (A : DN w (.slice a0 l0 c0) x 20) (B : DN w (.slice a1 l1 c1) y 20) (C : DN w (.slice a2 l2 c2) z 20) (hc : x = y) :
    Calls Try.prog 8 #[.slice a0 l0 c0, .slice a1 l1 c1, .slice a2 l2 c2] w fun e w' => e = .returned (.bool true) ∧ Below w.heap.size w w' := by
  go_enter Try.func8, Try.ntmps8
  go_wp2_with fail
  refine (sub_n A B (by decide) (by decide) (by omega)).mono ?_
  rintro e w1 ⟨vd, rfl, d1_1, b1⟩
  have A_1 := A.below b1
  have B_1 := B.below b1
  have C_1 := C.below b1
  have H1 := b1
  clear b1 A B C
  go_wp2_with fail
  refine (add_n A_1 C_1 (by decide) (by decide)).mono ?_
  rintro e w2 ⟨vx, rfl, x1_2, b2⟩
  have A_2 := A_1.below b2
  have B_2 := B_1.below b2
  have C_2 := C_1.below b2
  have H2 := bon H1 b2
  clear b2 A_1 B_1 C_1 d1_1 H1
  go_wp2_with fail
  refine (add_n B_2 C_2 (by decide) (by decide)).mono ?_
  rintro e w3 ⟨vy, rfl, y1_3, b3⟩
  have A_3 := A_2.below b3
  have B_3 := B_2.below b3
  have x1_3 := x1_2.below b3
  have H3 := bon H2 b3
  clear b3 A_2 B_2 C_2 x1_2 H2
  go_wp2_with fail
  have S := one_below w3 (.cells #[.int .u64 0, .int .u64 1] 30)
  refine (mul_n (A_3.below S) (dn2 (heap_alloc_new _ _) (by decide) (by decide)) (by decide) (by decide)).mono ?_
  rintro e w4 ⟨vp, rfl, p1_4, b4⟩
  have s4 := bon S b4
  have A_4 := A_3.below s4
  have B_4 := B_3.below s4
  have x1_4 := x1_3.below s4
  have y1_4 := y1_3.below s4
  have H4 := bon H3 s4
  clear b4 s4 A_3 B_3 x1_3 y1_3 H3
  clear S
  obtain ⟨xs, hra, hda, hna, hla⟩ := A_4.out
  have HD := Aside0.mk (And.intro hda hna)
  have HR := Aside0.mk hra.c
  have hl9 : l0 = xs.length := hra.len
  clear hra hda hna
  subst hl9
  go_wp2_with (at_builtin; refine Kd.R_append_rows (Kd.int .u64) (w0 := w4) w4.heap.size rfl _ _ 31 30 (.int .u64 0) 8 rfl Try.underlying31 info30 rfl (by decide) (by omega) _ [0] xs a0 xs.length c0 (fun b => w4.heap.size ≤ b) (fun _ => False) rfl rfl (RO.lit1 .u64 30 0 w4) (Kd.C_alloc HR.out _) (fun x cs h => h) (fun _ h => h.elim) (fun b hb => by simp at hb; omega) (below_alloc (Below.refl _ _) _) (by simp) (by simp; omega) ?_; intro vup wu ho hb hg hat; have HU := Aside0.mk (And.intro (RL.of_R ho) hb); clear ho hb hg hat)
  have BU := HU.out.2
  have U : DN wu vup (0 + B64 * x) 21 := ⟨_, HU.out.1, Dig.nil.snoc (by decide) |>.append HD.out.1, by rw [List.singleton_append, nv_cons, HD.out.2], by simp; omega⟩
  have A_u := A_4.below BU
  have B_u := B_4.below BU
  have x1_u := x1_4.below BU
  have y1_u := y1_4.below BU
  have p1_u := p1_4.below BU
  have Hu := bon H4 BU
  clear BU HU HD HR A_4 B_4 x1_4 y1_4 p1_4 H4
  refine (cmp_v A_u B_u (by decide) (by decide) (cmpI_eq (by omega))).mono ?_
  rintro e w5 ⟨rfl, b5⟩
  have A_5 := A_u.below b5
  have B_5 := B_u.below b5
  have x1_5 := x1_u.below b5
  have y1_5 := y1_u.below b5
  have p1_5 := p1_u.below b5
  have U_5 := U.below b5
  have H5 := bon Hu b5
  clear b5 A_u B_u x1_u y1_u p1_u U Hu
  go_wp2_with fail
  refine (cmp_v x1_5.dn y1_5.dn (by decide) (by decide) (cmpI_eq (by omega))).mono ?_
  rintro e w6 ⟨rfl, b6⟩
  have A_6 := A_5.below b6
  have B_6 := B_5.below b6
  have p1_6 := p1_5.below b6
  have U_6 := U_5.below b6
  have H6 := bon H5 b6
  clear b6 A_5 B_5 x1_5 y1_5 p1_5 U_5 H5
  go_wp2_with fail
  refine (cmp_v A_6 B_6 (by decide) (by decide) (cmpI_eq (by omega))).mono ?_
  rintro e w7 ⟨rfl, b7⟩
  have A_7 := A_6.below b7
  have B_7 := B_6.below b7
  have p1_7 := p1_6.below b7
  have U_7 := U_6.below b7
  have H7 := bon H6 b7
  clear b7 A_6 B_6 p1_6 U_6 H6
  go_wp2_with fail
  refine (cmp_v B_7 A_7 (by decide) (by decide) (cmpI_eq (by omega))).mono ?_
  rintro e w8 ⟨rfl, b8⟩
  have A_8 := A_7.below b8
  have B_8 := B_7.below b8
  have p1_8 := p1_7.below b8
  have U_8 := U_7.below b8
  have H8 := bon H7 b8
  clear b8 A_7 B_7 p1_7 U_7 H7
  go_wp2_with fail
  refine (cmp_v A_8 B_8 (by decide) (by decide) (cmpI_eq (by omega))).mono ?_
  rintro e w9 ⟨rfl, b9⟩
  have p1_9 := p1_8.below b9
  have U_9 := U_8.below b9
  have H9 := bon H8 b9
  clear b9 A_8 B_8 p1_8 U_8 H8
  go_wp2_with fail
  refine (of_n U_9 (by decide)).mono ?_
  rintro e w10 ⟨vo, rfl, o1_10, b10⟩
  have p1_10 := p1_9.below b10
  have H10 := bon H9 b10
  clear b10 p1_9 U_9 H9
  go_wp2_with fail
  refine (same_t p1_10 o1_10 (by decide) (by rw [B64_eq]; omega)).mono ?_
  rintro e w11 ⟨rfl, b11⟩
  have H11 := bon H10 b11
  clear b11 p1_10 o1_10 H10
  go_wp2_with fail
  refine (wakes1_calls _).mono ?_
  rintro e w12 ⟨rfl, b12⟩
  have H12 := bon H11 b12
  go_wp2_with fail
  go_ret
  exact ⟨rfl, H12⟩

set_option maxRecDepth 100000 in
theorem NatOrder_gt (a0 a1 a2 : Option Addr) (l0 c0 l1 c1 l2 c2 : Nat) (w : World) (h0 : (l0 : Int) ≤ 20) (h1 : (l1 : Int) ≤ 20) (h2 : (l2 : Int) ≤ 20)
    (x y z : Int) (A : DN w (.slice a0 l0 c0) x 20) (B : DN w (.slice a1 l1 c1) y 20) (C : DN w (.slice a2 l2 c2) z 20) (hc : y < x) :
    Calls Try.prog 8 #[.slice a0 l0 c0, .slice a1 l1 c1, .slice a2 l2 c2] w fun e w' => e = .returned (.bool true) ∧ Below w.heap.size w w' := by
  go_enter Try.func8, Try.ntmps8
  go_wp2_with fail
  refine (sub_n A B (by decide) (by decide) (by omega)).mono ?_
  rintro e w1 ⟨vd, rfl, d1_1, b1⟩
  have A_1 := A.below b1
  have B_1 := B.below b1
  have C_1 := C.below b1
  have H1 := b1
  clear b1 A B C
  go_wp2_with fail
  refine (add_n A_1 C_1 (by decide) (by decide)).mono ?_
  rintro e w2 ⟨vx, rfl, x1_2, b2⟩
  have A_2 := A_1.below b2
  have B_2 := B_1.below b2
  have C_2 := C_1.below b2
  have H2 := bon H1 b2
  clear b2 A_1 B_1 C_1 d1_1 H1
  go_wp2_with fail
  refine (add_n B_2 C_2 (by decide) (by decide)).mono ?_
  rintro e w3 ⟨vy, rfl, y1_3, b3⟩
  have A_3 := A_2.below b3
  have B_3 := B_2.below b3
  have x1_3 := x1_2.below b3
  have H3 := bon H2 b3
  clear b3 A_2 B_2 C_2 x1_2 H2
  go_wp2_with fail
  have S := one_below w3 (.cells #[.int .u64 0, .int .u64 1] 30)
  refine (mul_n (A_3.below S) (dn2 (heap_alloc_new _ _) (by decide) (by decide)) (by decide) (by decide)).mono ?_
  rintro e w4 ⟨vp, rfl, p1_4, b4⟩
  have s4 := bon S b4
  have A_4 := A_3.below s4
  have B_4 := B_3.below s4
  have x1_4 := x1_3.below s4
  have y1_4 := y1_3.below s4
  have H4 := bon H3 s4
  clear b4 s4 A_3 B_3 x1_3 y1_3 H3
  clear S
  obtain ⟨xs, hra, hda, hna, hla⟩ := A_4.out
  have HD := Aside0.mk (And.intro hda hna)
  have HR := Aside0.mk hra.c
  have hl9 : l0 = xs.length := hra.len
  clear hra hda hna
  subst hl9
  go_wp2_with (at_builtin; refine Kd.R_append_rows (Kd.int .u64) (w0 := w4) w4.heap.size rfl _ _ 31 30 (.int .u64 0) 8 rfl Try.underlying31 info30 rfl (by decide) (by omega) _ [0] xs a0 xs.length c0 (fun b => w4.heap.size ≤ b) (fun _ => False) rfl rfl (RO.lit1 .u64 30 0 w4) (Kd.C_alloc HR.out _) (fun x cs h => h) (fun _ h => h.elim) (fun b hb => by simp at hb; omega) (below_alloc (Below.refl _ _) _) (by simp) (by simp; omega) ?_; intro vup wu ho hb hg hat; have HU := Aside0.mk (And.intro (RL.of_R ho) hb); clear ho hb hg hat)
  have BU := HU.out.2
  have U : DN wu vup (0 + B64 * x) 21 := ⟨_, HU.out.1, Dig.nil.snoc (by decide) |>.append HD.out.1, by rw [List.singleton_append, nv_cons, HD.out.2], by simp; omega⟩
  have A_u := A_4.below BU
  have B_u := B_4.below BU
  have x1_u := x1_4.below BU
  have y1_u := y1_4.below BU
  have p1_u := p1_4.below BU
  have Hu := bon H4 BU
  clear BU HU HD HR A_4 B_4 x1_4 y1_4 p1_4 H4
  refine (cmp_v A_u B_u (by decide) (by decide) (cmpI_gt (by omega))).mono ?_
  rintro e w5 ⟨rfl, b5⟩
  have A_5 := A_u.below b5
  have B_5 := B_u.below b5
  have x1_5 := x1_u.below b5
  have y1_5 := y1_u.below b5
  have p1_5 := p1_u.below b5
  have U_5 := U.below b5
  have H5 := bon Hu b5
  clear b5 A_u B_u x1_u y1_u p1_u U Hu
  go_wp2_with fail
  refine (cmp_v x1_5.dn y1_5.dn (by decide) (by decide) (cmpI_gt (by omega))).mono ?_
  rintro e w6 ⟨rfl, b6⟩
  have A_6 := A_5.below b6
  have B_6 := B_5.below b6
  have p1_6 := p1_5.below b6
  have U_6 := U_5.below b6
  have H6 := bon H5 b6
  clear b6 A_5 B_5 x1_5 y1_5 p1_5 U_5 H5
  go_wp2_with fail
  refine (cmp_v A_6 B_6 (by decide) (by decide) (cmpI_gt (by omega))).mono ?_
  rintro e w7 ⟨rfl, b7⟩
  have A_7 := A_6.below b7
  have B_7 := B_6.below b7
  have p1_7 := p1_6.below b7
  have U_7 := U_6.below b7
  have H7 := bon H6 b7
  clear b7 A_6 B_6 p1_6 U_6 H6
  go_wp2_with fail
  refine (cmp_v B_7 A_7 (by decide) (by decide) (cmpI_lt (by omega))).mono ?_
  rintro e w8 ⟨rfl, b8⟩
  have A_8 := A_7.below b8
  have B_8 := B_7.below b8
  have p1_8 := p1_7.below b8
  have U_8 := U_7.below b8
  have H8 := bon H7 b8
  clear b8 A_7 B_7 p1_7 U_7 H7
  go_wp2_with fail
  refine (cmp_v A_8 B_8 (by decide) (by decide) (cmpI_gt (by omega))).mono ?_
  rintro e w9 ⟨rfl, b9⟩
  have p1_9 := p1_8.below b9
  have U_9 := U_8.below b9
  have H9 := bon H8 b9
  clear b9 A_8 B_8 p1_8 U_8 H8
  go_wp2_with fail
  refine (of_n U_9 (by decide)).mono ?_
  rintro e w10 ⟨vo, rfl, o1_10, b10⟩
  have p1_10 := p1_9.below b10
  have H10 := bon H9 b10
  clear b10 p1_9 U_9 H9
  go_wp2_with fail
  refine (same_t p1_10 o1_10 (by decide) (by rw [B64_eq]; omega)).mono ?_
  rintro e w11 ⟨rfl, b11⟩
  have H11 := bon H10 b11
  clear b11 p1_10 o1_10 H10
  go_wp2_with fail
  refine (wakes1_calls _).mono ?_
  rintro e w12 ⟨rfl, b12⟩
  have H12 := bon H11 b12
  go_wp2_with fail
  go_ret
  exact ⟨rfl, H12⟩

theorem NatOrder_law (w : World) (a0 : Option Addr) (l0 c0 : Nat) (z0 : List Int) (w0 : IsRow .u64 w a0 l0 c0 z0) (y0 : l0 * 8 ≤ 140737488351232) (a1 : Option Addr) (l1 c1 : Nat) (z1 : List Int) (w1 : IsRow .u64 w a1 l1 c1 z1) (y1 : l1 * 8 ≤ 140737488351232) (a2 : Option Addr) (l2 c2 : Nat) (z2 : List Int) (w2 : IsRow .u64 w a2 l2 c2 z2) (y2 : l2 * 8 ≤ 140737488351232) :
    Calls Try.prog 8 #[.slice a0 l0 c0, .slice a1 l1 c1, .slice a2 l2 c2] w fun e w' => e = .returned (.bool true) ∧ Below w.heap.size w w' := by
  by_cases h0 : (20 : Int) < l0
  · exact NatOrder_long_a _ _ _ _ _ _ _ _ _ w h0
  · by_cases h1 : (20 : Int) < l1
    · exact NatOrder_long_b _ _ _ _ _ _ _ _ _ w (by omega) h1
    · by_cases h2 : (20 : Int) < l2
      · exact NatOrder_long_c _ _ _ _ _ _ _ _ _ w (by omega) (by omega) h2
      · obtain ⟨x, A⟩ := w0.dn 20 (by omega)
        obtain ⟨y, B⟩ := w1.dn 20 (by omega)
        obtain ⟨z, C⟩ := w2.dn 20 (by omega)
        rcases Int.lt_trichotomy x y with h | h | h
        · exact NatOrder_lt _ _ _ _ _ _ _ _ _ w (by omega) (by omega) (by omega) x y z A B C h
        · exact NatOrder_eq _ _ _ _ _ _ _ _ _ w (by omega) (by omega) (by omega) x y z A B C h
        · exact NatOrder_gt _ _ _ _ _ _ _ _ _ w (by omega) (by omega) (by omega) x y z A B C h
end Go.Proofs.Ytokadjfakncdfaa
