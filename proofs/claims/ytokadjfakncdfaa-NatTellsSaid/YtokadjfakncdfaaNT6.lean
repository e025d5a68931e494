/- The walk of marlinspikelaw01.NatTells, joined: whatever the arguments, the law returns true. -/
import Derived.Test.YtokadjfakncdfaaGB
import Derived.Test.YtokadjfakncdfaaNT1
import Derived.Test.YtokadjfakncdfaaNT2
import Derived.Test.YtokadjfakncdfaaNT3
import Derived.Test.YtokadjfakncdfaaNT4
import Derived.Test.YtokadjfakncdfaaNT5
set_option linter.unusedVariables false
set_option linter.unusedSimpArgs false
namespace Go.Proofs.Ytokadjfakncdfaa
open Go.RowKit Go.Proofs.YtokadjfakncdfaaW.PrintWords Go.Proofs.YtokadjfakncdfaaW.PrintLast Go.Proofs.YtokadjfakncdfaaW.PrintMore
open PR

set_option maxRecDepth 100000 in
theorem NatTells_early_a (a0 a1 a3 : Option Addr) (c0 c1 c3 : Nat) (xa xb bs : List Int) (i n : Int) (w : World) (A : RL .u64 w (.slice a0 xa.length c0) xa) (B : RL .u64 w (.slice a1 xb.length c1) xb) (h : 100 < xa.length ∨ 100 < xb.length) :
    Calls Try.prog 9 #[.slice a0 xa.length c0, .slice a1 xb.length c1, .int .i64 i, .slice a3 bs.length c3, .int .i64 n] w fun e w' => e = .returned (.bool true) ∧ Below w.heap.size w w' := by
  have hg : decide (100 < xa.length ∨ 100 < xb.length) = true := by simpa using h
  have AA := Aside0.mk A
  have BB := Aside0.mk B
  clear A B h
  go_enter Try.func9, Try.ntmps9
  go_wp2_with fail
  refine (great_n AA.out BB.out).mono ?_
  rw [hg]
  rintro e w1 ⟨rfl, b1⟩
  have H1 := Aside0.mk b1
  clear b1
  go_wp2_with fail
  refine (wakes1_calls _).mono ?_
  rintro e w2 ⟨rfl, b2⟩
  have H2 := Aside0.mk (bon H1.out b2)
  clear b2
  go_wp2_with fail
  go_ret
  exact ⟨rfl, H2.out⟩

set_option maxRecDepth 100000 in
theorem NatTells_early_b (a0 a1 a3 : Option Addr) (c0 c1 c3 : Nat) (xa xb bs : List Int) (i n : Int) (w : World) (A : RL .u64 w (.slice a0 xa.length c0) xa) (B : RL .u64 w (.slice a1 xb.length c1) xb) (h : ¬ (100 < xa.length ∨ 100 < xb.length)) (h3 : (700 : Int) < (bs.length : Int)) :
    Calls Try.prog 9 #[.slice a0 xa.length c0, .slice a1 xb.length c1, .int .i64 i, .slice a3 bs.length c3, .int .i64 n] w fun e w' => e = .returned (.bool true) ∧ Below w.heap.size w w' := by
  have hg : decide (100 < xa.length ∨ 100 < xb.length) = false := by simpa using h
  have AA := Aside0.mk A
  have BB := Aside0.mk B
  clear A B h
  go_enter Try.func9, Try.ntmps9
  go_wp2_with fail
  refine (great_n AA.out BB.out).mono ?_
  rw [hg]
  rintro e w1 ⟨rfl, b1⟩
  have H1 := Aside0.mk b1
  clear b1
  go_wp2_with fail
  refine (wakes1_calls _).mono ?_
  rintro e w2 ⟨rfl, b2⟩
  have H2 := Aside0.mk (bon H1.out b2)
  clear b2
  go_wp2_with fail
  go_ret
  exact ⟨rfl, H2.out⟩

set_option maxRecDepth 100000 in
theorem NatTells_early_c (a0 a1 a3 : Option Addr) (c0 c1 c3 : Nat) (xa xb bs : List Int) (i n : Int) (w : World) (A : RL .u64 w (.slice a0 xa.length c0) xa) (B : RL .u64 w (.slice a1 xb.length c1) xb) (h : ¬ (100 < xa.length ∨ 100 < xb.length)) (h3 : (bs.length : Int) ≤ 700) (h4 : (700 : Int) < n) :
    Calls Try.prog 9 #[.slice a0 xa.length c0, .slice a1 xb.length c1, .int .i64 i, .slice a3 bs.length c3, .int .i64 n] w fun e w' => e = .returned (.bool true) ∧ Below w.heap.size w w' := by
  have hg : decide (100 < xa.length ∨ 100 < xb.length) = false := by simpa using h
  have AA := Aside0.mk A
  have BB := Aside0.mk B
  clear A B h
  go_enter Try.func9, Try.ntmps9
  go_wp2_with fail
  refine (great_n AA.out BB.out).mono ?_
  rw [hg]
  rintro e w1 ⟨rfl, b1⟩
  have H1 := Aside0.mk b1
  clear b1
  go_wp2_with fail
  refine (wakes1_calls _).mono ?_
  rintro e w2 ⟨rfl, b2⟩
  have H2 := Aside0.mk (bon H1.out b2)
  clear b2
  go_wp2_with fail
  go_ret
  exact ⟨rfl, H2.out⟩

theorem wf_i64' {x : Int} (h : (Lit.int .i64 x).wf = true) : -9223372036854775808 ≤ x ∧ x ≤ 9223372036854775807 := by
  simp [Lit.wf, IntKind.min, IntKind.max, IntKind.bits, IntKind.signed] at h
  omega

theorem NatTells_law (w : World) (a0 : Option Addr) (l0 c0 : Nat) (z0 : List Int) (w0 : IsRow .u64 w a0 l0 c0 z0) (y0 : l0 * 8 ≤ 140737488351232) (a1 : Option Addr) (l1 c1 : Nat) (z1 : List Int) (w1 : IsRow .u64 w a1 l1 c1 z1) (y1 : l1 * 8 ≤ 140737488351232)
    (i : Int) (w2 : (Lit.int .i64 i).wf = true) (a3 : Option Addr) (l3 c3 : Nat) (z3 : List Int) (w3 : IsRow .u8 w a3 l3 c3 z3) (y3 : l3 * 1 ≤ 140737488351232) (n : Int) (w4 : (Lit.int .i64 n).wf = true) :
    Calls Try.prog 9 #[.slice a0 l0 c0, .slice a1 l1 c1, .int .i64 i, .slice a3 l3 c3, .int .i64 n] w fun e w' => e = .returned (.bool true) ∧ Below w.heap.size w w' := by
  obtain ⟨xa, rfl, A, da⟩ := w0.u64
  obtain ⟨xb, rfl, B, db⟩ := w1.u64
  obtain ⟨bs, rfl, C, dc⟩ := w3.u8
  obtain ⟨i3, i2⟩ := wf_i64' w2
  obtain ⟨n3, n2⟩ := wf_i64' w4
  by_cases h : 100 < xa.length ∨ 100 < xb.length
  · exact NatTells_early_a _ _ _ _ _ _ xa xb bs i n w A B h
  by_cases h3 : (700 : Int) < (bs.length : Int)
  · exact NatTells_early_b _ _ _ _ _ _ xa xb bs i n w A B h h3
  by_cases h4 : (700 : Int) < n
  · exact NatTells_early_c _ _ _ _ _ _ xa xb bs i n w A B h (by omega) h4
  by_cases h5 : (80 : Int) < xa.length
  · exact NatTells_longa _ _ _ _ _ _ xa xb bs i n w A da B db C dc (by omega) (by omega) (by omega) (by omega) n3 i2 i3 h5
  by_cases h6 : (80 : Int) < xb.length
  · exact NatTells_longb _ _ _ _ _ _ xa xb bs i n w A da B db C dc (by omega) (by omega) (by omega) (by omega) n3 i2 i3 (by omega) h6
  by_cases h7 : nv B64 xa < nv B64 xb
  · exact NatTells_lt _ _ _ _ _ _ xa xb bs i n w A da B db C dc (by omega) (by omega) (by omega) (by omega) n3 i2 i3 (by omega) (by omega) h7
  by_cases h8 : nv B64 xb = 0
  · exact NatTells_zero _ _ _ _ _ _ xa xb bs i n w A da B db C dc (by omega) (by omega) (by omega) (by omega) n3 i2 i3 (by omega) (by omega) h8
  · have h9 := nv_nonneg B64_pos db
    exact NatTells_norm _ _ _ _ _ _ xa xb bs i n w A da B db C dc (by omega) (by omega) (by omega) (by omega) n3 i2 i3 (by omega) (by omega) ⟨by omega, by omega⟩
end Go.Proofs.Ytokadjfakncdfaa
