/- The walk of marlinspikelaw02.FieldTells. -/
import Derived.Test.YtokadjfakncdfaaHF20
import Derived.Test.YtokadjfakncdfaaHF24x4
import Derived.Test.YtokadjfakncdfaaHF24x6
set_option linter.unusedVariables false
set_option linter.unusedSimpArgs false
namespace Go.Proofs.Ytokadjfakncdfaa
open Go.RowKit Go.Proofs.YtokadjfakncdfaaW.PrintWords Go.Proofs.YtokadjfakncdfaaW.PrintLast Go.Proofs.YtokadjfakncdfaaW.PrintMore
theorem RL.slen {k : IntKind} {w : World} {a : Option Addr} {l c : Nat} {xs : List Int} (h : RL k w (.slice a l c) xs) : xs.length = l := by
  obtain ⟨A, c', e, _⟩ := h
  cases e
  rfl
set_option maxRecDepth 100000 in
theorem FieldTells_law (w : World) (a0 : Option Addr) (l0 c0 : Nat) (z0 : List Int) (w0 : IsRow .u64 w a0 l0 c0 z0) (y0 : l0 * 8 ≤ 140737488351232) (a1 : Option Addr) (l1 c1 : Nat) (z1 : List Int) (w1 : IsRow .u64 w a1 l1 c1 z1) (y1 : l1 * 8 ≤ 140737488351232) (a2 : Option Addr) (l2 c2 : Nat) (z2 : List Int) (w2 : IsRow .u64 w a2 l2 c2 z2) (y2 : l2 * 8 ≤ 140737488351232) (a3 : Option Addr) (l3 c3 : Nat) (z3 : List Int) (w3 : IsRow .u64 w a3 l3 c3 z3) (y3 : l3 * 8 ≤ 140737488351232) (b4 : Bool) :
    Calls Try.prog 12 #[.slice a0 l0 c0, .slice a1 l1 c1, .slice a2 l2 c2, .slice a3 l3 c3, .bool b4] w fun e w' => e = .returned (.bool true) ∧ Below w.heap.size w w' := by
  have LONG : ∀ (P : Prop), ((100 : Int) < l0 ∨ ((l0 : Int) ≤ 100 ∧ (100 : Int) < l1) ∨ ((l0 : Int) ≤ 100 ∧ (l1 : Int) ≤ 100 ∧ (100 : Int) < l2) ∨ ((l0 : Int) ≤ 100 ∧ (l1 : Int) ≤ 100 ∧ (l2 : Int) ≤ 100 ∧ (3 : Int) < l3)) ∨ ((l0 : Int) ≤ 100 ∧ (l1 : Int) ≤ 100 ∧ (l2 : Int) ≤ 100 ∧ (l3 : Int) ≤ 3) := fun _ => by omega
  obtain ⟨xs, _, hm, dm⟩ := w0.u64
  obtain ⟨as1, _, ha, da⟩ := w1.u64
  obtain ⟨bs1, _, hb, db⟩ := w2.u64
  obtain ⟨es1, _, he, de⟩ := w3.u64
  have e0 := hm.slen
  have e1 := ha.slen
  have e2 := hb.slen
  have e3 := he.slen
  have L := LONG True
  have R4 := Aside0.mk (fun (h0 : (l0 : Int) ≤ 100) (h1 : (l1 : Int) ≤ 100) (h2 : (l2 : Int) ≤ 100) (h3 : (l3 : Int) ≤ 3) => tells4_calls _ _ _ _ xs as1 bs1 es1 w hm ha hb he dm da db de (by omega) (by omega) (by omega) (by omega))
  have R6 := Aside0.mk (fun (h0 : (l0 : Int) ≤ 100) (h1 : (l1 : Int) ≤ 100) (h2 : (l2 : Int) ≤ 100) (h3 : (l3 : Int) ≤ 3) => tells6_calls _ _ _ _ xs as1 bs1 es1 w hm ha hb he dm da db de (by omega) (by omega) (by omega) (by omega))
  clear LONG e0 e1 e2 e3 hm ha hb he dm da db de w0 w1 w2 w3 y0 y1 y2 y3
  rcases L with (h0 | ⟨h0, h1⟩ | ⟨h0, h1, h2⟩ | ⟨h0, h1, h2, h3⟩) | ⟨h0, h1, h2, h3⟩
  iterate 4
    · go_enter Try.func12, Try.ntmps12
      go_wp2_with fail
      refine (wakes02_calls _).mono ?_
      rintro e w1 ⟨rfl, b1⟩
      have H1 := Aside0.mk b1
      clear b1
      go_wp2_with fail
      go_ret
      exact ⟨rfl, H1.out⟩
  have R4 := Aside0.mk (R4.out h0 h1 h2 h3)
  have R6 := Aside0.mk (R6.out h0 h1 h2 h3)
  cases b4
  · go_enter Try.func12, Try.ntmps12
    go_wp2_with fail
    refine R4.out.mono ?_
    rintro e w1 ⟨rfl, b1⟩
    have H1 := Aside0.mk b1
    clear b1
    go_wp2_with fail
    refine (wakes02_calls _).mono ?_
    rintro e w2 ⟨rfl, b2⟩
    have H2 := Aside0.mk (below_more H1.out b2)
    clear b2
    go_wp2_with fail
    go_ret
    exact ⟨rfl, H2.out⟩
  · go_enter Try.func12, Try.ntmps12
    go_wp2_with fail
    refine R6.out.mono ?_
    rintro e w1 ⟨rfl, b1⟩
    have H1 := Aside0.mk b1
    clear b1
    go_wp2_with fail
    refine (wakes02_calls _).mono ?_
    rintro e w2 ⟨rfl, b2⟩
    have H2 := Aside0.mk (below_more H1.out b2)
    clear b2
    go_wp2_with fail
    go_ret
    exact ⟨rfl, H2.out⟩
end Go.Proofs.Ytokadjfakncdfaa
