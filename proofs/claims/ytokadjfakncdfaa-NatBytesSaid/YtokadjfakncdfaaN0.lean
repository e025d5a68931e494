/- The words in which the contracts of this program are told. -/
import Derived.Test.YtokadjfakncdfaaPRx0
import Derived.Test.YtokadjfakncdfaaM1
import Derived.Laws.Externs
namespace Go.Proofs.Ytokadjfakncdfaa
open Go.RowKit Go.Proofs.YtokadjfakncdfaaW.PrintWords Go.Proofs.YtokadjfakncdfaaW.PrintLast Go.Proofs.YtokadjfakncdfaaW.PrintMore

/-- The value v is a slice that reads as xs. -/
def RL (k : IntKind) (w : World) (v : Value) (xs : List Int) : Prop :=
  ∃ A c, v = .slice A xs.length c ∧ xs.length ≤ c ∧ (Kd.int k).C w A xs.length xs
/-- The value v is a slice of the call's own (blocks from base on), of elements of type e, that holds xs. -/
abbrev RO (k : IntKind) (e : Nat) (w : World) (base : Nat) (v : Value) (xs : List Int) : Prop :=
  Kd.R (Kd.int k) e w base (fun b => base ≤ b) v xs

theorem RL.below {k : IntKind} {w w' : World} {v : Value} {xs : List Int} (h : RL k w v xs) (hb : Below w.heap.size w w') : RL k w' v xs := by
  obtain ⟨A, c, hv, hc, hC⟩ := h
  exact ⟨A, c, hv, hc, Kd.C_below hC hb⟩
theorem RL.nil {k : IntKind} {w : World} : RL k w (.slice none 0 0) [] := ⟨none, 0, rfl, Nat.le_refl _, Kd.C_nil _ _⟩
theorem RL.of_R {k : IntKind} {e : Nat} {w : World} {base : Nat} {ok : Nat → Prop} {v : Value} {xs : List Int} (h : Kd.R (Kd.int k) e w base ok v xs) : RL k w v xs := by
  obtain ⟨A, c, hv, hc, hC⟩ := Kd.R_reads h
  exact ⟨A, c, hv, hc, hC⟩
theorem RL.of_V {k : IntKind} {e : Nat} {w : World} {base : Nat} {ok : Nat → Prop} {v : Value} {xs : List Int} (h : Kd.V (Kd.int k) e w base ok v xs) : RL k w v xs := by
  obtain ⟨A, c, rfl⟩ := Kd.V_slice h
  obtain ⟨_, h2, h3⟩ := Kd.V_reads' h
  exact ⟨A, c, rfl, h2, h3⟩
theorem RL.max {k : IntKind} {w : World} {v : Value} {xs : List Int} (h : RL k w v xs) : xs.length ≤ 9223372036854775807 := by
  obtain ⟨A, c, hv, hc, hC⟩ := h
  exact Kd.C_max hC
end Go.Proofs.Ytokadjfakncdfaa
