/- A row's slices of slices of bytes, as they come in. -/
import Derived.Test.YtokadjfakncdfaaB9
set_option linter.unusedVariables false
set_option linter.unusedSimpArgs false
namespace Go.Proofs.Ytokadjfakncdfaa
open Go.RowKit Go.Proofs.YtokadjfakncdfaaW.PrintWords Go.Proofs.YtokadjfakncdfaaW.PrintLast Go.Proofs.YtokadjfakncdfaaW.PrintMore

theorem C_cells {W : World} {a : Addr} {xs : List Int} (hm : xs.length ≤ maxLen) (h : ∀ i, i < xs.length → W.cell? (a.add i) = some (.int .u8 (xs.getD i 0))) : (Kd.int .u8).C W (some a) xs.length xs := by
  refine ⟨rfl, by have e : maxLen = 9223372036854775807 := rfl; omega, fun _ => ⟨_, rfl, fun j p hj => ⟨[.int .u8 p], rfl, rfl, fun i u hu => ?_⟩⟩⟩
  have hi0 : i = 0 := by
    rcases Nat.eq_zero_or_pos i with h0 | h0
    · exact h0
    · rw [List.getElem?_eq_none (by simp; omega)] at hu; cases hu
  subst hi0
  have hu' : u = .int .u8 p := by simpa using hu.symm
  subst hu'
  have hjl : j < xs.length := (List.getElem?_eq_some_iff.1 hj).1
  have := h j hjl
  rw [List.getD_eq_getElem?_getD, hj] at this
  simp only [Kd.int, Kd.scalar, Nat.mul_one, Nat.add_zero]
  exact this
theorem rows_C {W : World} {a : Addr} {len cap : Nat} {A : Nat → Option Addr} {L C : Nat → Nat} {Z : Nat → List Int} (hl : len ≤ cap) (hm : cap ≤ maxLen)
    (hr : ∀ r, r < cap → W.cell? (a.add r) = some (.slice (A r) (L r) (C r)) ∧ L r ≤ C r ∧ C r ≤ maxLen ∧ (Z r).length = C r ∧ (∀ n ∈ Z r, (Lit.int .u8 n).wf = true) ∧ (A r = none → C r = 0) ∧ ∀ a', A r = some a' → 0 ≤ a'.block ∧ ∀ c, c < C r → W.cell? (a'.add c) = some (.int .u8 ((Z r).getD c 0))) :
    (Kd.slice 5 (Kd.int .u8)).C W (some a) len ((List.range len).map fun r => (Z r).take (L r)) := by
  refine ⟨by simp, by have e : maxLen = 9223372036854775807 := rfl; omega, fun _ => ⟨_, rfl, fun j p hj => ?_⟩⟩
  have hjl : j < len := by
    have := (List.getElem?_eq_some_iff.1 hj).1
    simpa using this
  have hp : p = (Z j).take (L j) := by
    rw [List.getElem?_map, List.getElem?_range hjl] at hj
    simpa using hj.symm
  subst hp
  obtain ⟨h1, h2, h3, h4, _, h6, h7⟩ := hr j (by omega)
  have hpl : ((Z j).take (L j)).length = L j := by rw [List.length_take]; omega
  have hin : (Kd.int .u8).C W (A j) ((Z j).take (L j)).length ((Z j).take (L j)) := by
    cases hA : A j with
    | none =>
      have h0 := h6 hA
      have : (Z j).take (L j) = [] := List.length_eq_zero_iff.1 (by rw [hpl]; omega)
      rw [this]
      exact Kd.C_nil _ _
    | some a' =>
      refine C_cells (by rw [hpl]; omega) fun i hi => ?_
      rw [(h7 a' hA).2 i (by omega)]
      rw [List.getD_eq_getElem?_getD, List.getD_eq_getElem?_getD, List.getElem?_take, if_pos (by omega)]
  refine ⟨[.slice (A j) ((Z j).take (L j)).length (C j)], rfl, ⟨A j, C j, rfl, by omega, hin⟩, fun i u hu => ?_⟩
  have hi0 : i = 0 := by
    rcases Nat.eq_zero_or_pos i with h0 | h0
    · exact h0
    · rw [List.getElem?_eq_none (by simp; omega)] at hu; cases hu
  subst hi0
  have hu' : u = .slice (A j) ((Z j).take (L j)).length (C j) := by simpa using hu.symm
  subst hu'
  rw [hpl]
  simpa [Kd.slice] using h1
end Go.Proofs.Ytokadjfakncdfaa
