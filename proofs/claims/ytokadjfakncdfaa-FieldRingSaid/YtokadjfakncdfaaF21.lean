/- The walk of marlinspikelaw02.FieldRing. -/
import Derived.Test.YtokadjfakncdfaaF20
import Derived.Test.YtokadjfakncdfaaF18x6
set_option linter.unusedVariables false
set_option linter.unusedSimpArgs false
namespace Go.Proofs.Ytokadjfakncdfaa
open Go.RowKit Go.Proofs.YtokadjfakncdfaaW.PrintWords Go.Proofs.YtokadjfakncdfaaW.PrintLast Go.Proofs.YtokadjfakncdfaaW.PrintMore
set_option maxRecDepth 100000 in
theorem FieldRing_law (w : World) (a0 : Option Addr) (l0 c0 : Nat) (z0 : List Int) (w0 : IsRow .u64 w a0 l0 c0 z0) (y0 : l0 * 8 ≤ 140737488351232) (a1 : Option Addr) (l1 c1 : Nat) (z1 : List Int) (w1 : IsRow .u64 w a1 l1 c1 z1) (y1 : l1 * 8 ≤ 140737488351232) (a2 : Option Addr) (l2 c2 : Nat) (z2 : List Int) (w2 : IsRow .u64 w a2 l2 c2 z2) (y2 : l2 * 8 ≤ 140737488351232) (a3 : Option Addr) (l3 c3 : Nat) (z3 : List Int) (w3 : IsRow .u64 w a3 l3 c3 z3) (y3 : l3 * 8 ≤ 140737488351232) (b4 : Bool) :
    Calls Try.prog 11 #[.slice a0 l0 c0, .slice a1 l1 c1, .slice a2 l2 c2, .slice a3 l3 c3, .bool b4] w fun e w' => e = .returned (.bool true) ∧ Below w.heap.size w w' := by
  have LONG : ∀ (P : Prop), ((100 : Int) < l0 ∨ ((l0 : Int) ≤ 100 ∧ (100 : Int) < l1) ∨ ((l0 : Int) ≤ 100 ∧ (l1 : Int) ≤ 100 ∧ (100 : Int) < l2) ∨ ((l0 : Int) ≤ 100 ∧ (l1 : Int) ≤ 100 ∧ (l2 : Int) ≤ 100 ∧ (100 : Int) < l3)) ∨ ((l0 : Int) ≤ 100 ∧ (l1 : Int) ≤ 100 ∧ (l2 : Int) ≤ 100 ∧ (l3 : Int) ≤ 100) := fun _ => by omega
  obtain ⟨xs, _, hm, dm⟩ := w0.u64
  obtain ⟨as1, _, ha, da⟩ := w1.u64
  obtain ⟨bs1, _, hb, db⟩ := w2.u64
  obtain ⟨cs1, _, hc, dc⟩ := w3.u64
  have R4 := Aside0.mk (ring4_calls _ _ _ _ xs as1 bs1 cs1 w hm ha hb hc dm da db dc)
  have R6 := Aside0.mk (ring6_calls _ _ _ _ xs as1 bs1 cs1 w hm ha hb hc dm da db dc)
  have L := LONG True
  clear LONG hm ha hb hc dm da db dc w0 w1 w2 w3 y0 y1 y2 y3
  rcases L with (h0 | ⟨h0, h1⟩ | ⟨h0, h1, h2⟩ | ⟨h0, h1, h2, h3⟩) | ⟨h0, h1, h2, h3⟩
  iterate 4
    · go_enter Try.func11, Try.ntmps11
      go_wp2_with fail
      refine (wakes02_calls _).mono ?_
      rintro e w1 ⟨rfl, b1⟩
      have H1 := Aside0.mk b1
      clear b1
      go_wp2_with fail
      go_ret
      exact ⟨rfl, H1.out⟩
  cases b4
  · go_enter Try.func11, Try.ntmps11
    go_wp2_with fail
    refine R4.out.mono ?_
    rintro e w1 ⟨rfl, b1⟩
    have H1 := Aside0.mk b1
    clear b1
    go_wp2_with fail
    refine (wakes02_calls _).mono ?_
    rintro e w2 ⟨rfl, b2⟩
    have H2 := Aside0.mk (below_more H1.out b2)
    clear b2
    go_wp2_with fail
    go_ret
    exact ⟨rfl, H2.out⟩
  · go_enter Try.func11, Try.ntmps11
    go_wp2_with fail
    refine R6.out.mono ?_
    rintro e w1 ⟨rfl, b1⟩
    have H1 := Aside0.mk b1
    clear b1
    go_wp2_with fail
    refine (wakes02_calls _).mono ?_
    rintro e w2 ⟨rfl, b2⟩
    have H2 := Aside0.mk (below_more H1.out b2)
    clear b2
    go_wp2_with fail
    go_ret
    exact ⟨rfl, H2.out⟩
end Go.Proofs.Ytokadjfakncdfaa
