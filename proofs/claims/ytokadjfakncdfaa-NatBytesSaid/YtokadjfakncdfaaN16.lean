/- What a row's slices say of the numbers that they hold. -/
import Derived.Test.YtokadjfakncdfaaN14
set_option linter.unusedVariables false
set_option linter.unusedSimpArgs false
namespace Go.Proofs.Ytokadjfakncdfaa
open Go.RowKit Go.Proofs.YtokadjfakncdfaaW.PrintWords Go.Proofs.YtokadjfakncdfaaW.PrintLast Go.Proofs.YtokadjfakncdfaaW.PrintMore

/-- A slice as a row gives it: all that it holds to its capacity. -/
def IsRow (k : IntKind) (w : World) (a : Option Addr) (len cap : Nat) (zs : List Int) : Prop :=
  (a = none ∧ len = 0 ∧ cap = 0 ∧ zs = []) ∨
  ∃ x, a = some x ∧ len ≤ cap ∧ cap ≤ maxLen ∧ zs.length = cap ∧ (∀ i, i < zs.length → w.cell? (x.add i) = some (.int k (zs.getD i 0))) ∧ ∀ n ∈ zs, (Lit.int k n).wf = true

theorem IsRow.rl {k : IntKind} {w : World} {a : Option Addr} {len cap : Nat} {zs : List Int} (h : IsRow k w a len cap zs) :
    ∃ l : List Int, l.length = len ∧ RL k w (.slice a len cap) l ∧ ∀ x ∈ l, (Lit.int k x).wf = true := by
  obtain ⟨l, rfl, h1, h2, h3, h4⟩ := ReadsInt.ofRowC h
  exact ⟨l, rfl, ⟨a, cap, rfl, h4, Kd.C_of_reads (d := (0 : Int)) (h1 := fun _ => rfl) h1⟩, h3⟩
theorem wf_u64 {x : Int} (h : (Lit.int .u64 x).wf = true) : 0 ≤ x ∧ x < B64 := by
  simp [Lit.wf, IntKind.min, IntKind.max, IntKind.bits, IntKind.signed] at h
  rw [B64_eq]
  omega
theorem wf_u8 {x : Int} (h : (Lit.int .u8 x).wf = true) : 0 ≤ x ∧ x < B8 := by
  simp [Lit.wf, IntKind.min, IntKind.max, IntKind.bits, IntKind.signed] at h
  unfold B8
  omega
theorem IsRow.u64 {w : World} {a : Option Addr} {len cap : Nat} {zs : List Int} (h : IsRow .u64 w a len cap zs) :
    ∃ l : List Int, l.length = len ∧ RL .u64 w (.slice a len cap) l ∧ Dig B64 l := by
  obtain ⟨l, h1, h2, h3⟩ := h.rl
  exact ⟨l, h1, h2, fun x hx => wf_u64 (h3 x hx)⟩
theorem IsRow.u8 {w : World} {a : Option Addr} {len cap : Nat} {zs : List Int} (h : IsRow .u8 w a len cap zs) :
    ∃ l : List Int, l.length = len ∧ RL .u8 w (.slice a len cap) l ∧ Dig B8 l := by
  obtain ⟨l, h1, h2, h3⟩ := h.rl
  exact ⟨l, h1, h2, fun x hx => wf_u8 (h3 x hx)⟩
theorem IsRow.dn {w : World} {a : Option Addr} {len cap : Nat} {zs : List Int} (h : IsRow .u64 w a len cap zs) (L : Nat) (hL : len ≤ L) : ∃ n, DN w (.slice a len cap) n L := by
  obtain ⟨l, h1, h2, h3⟩ := h.u64
  exact ⟨_, l, h2, h3, rfl, by omega⟩
end Go.Proofs.Ytokadjfakncdfaa
