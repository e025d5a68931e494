/- The reference of layer 15: order. -/
import Derived.Test.YtokadjfakncdfaaB4
set_option linter.unusedVariables false
set_option linter.unusedSimpArgs false
namespace Go.Proofs.Ytokadjfakncdfaa
open Go.RowKit Go.Proofs.YtokadjfakncdfaaW.PrintWords Go.Proofs.YtokadjfakncdfaaW.PrintLast Go.Proofs.YtokadjfakncdfaaW.PrintMore

/-- The i-th order, as letters. -/
def ordS (r : Nat) : ByteArray := ⟨((blkOrd.getD r []).map fun n => UInt8.ofNat (97 + n)).toArray⟩
theorem ordS_size (r : Nat) (hr : r < 10) : (ordS r).size = 16 := by
  have h : ∀ r, r < 10 → (ordS r).size = 16 := by decide
  exact h r hr
theorem ordS_get (r i : Nat) (hr : r < 10) (hi : i < 16) : (((ordS r).data[i]?.getD 0).toNat : Int) = 97 + (ordAt r i : Int) := by
  have h : ∀ r, r < 10 → ∀ i, i < 16 → ((ordS r).data[i]?.getD 0).toNat = 97 + ordAt r i := by decide
  have := h r hr i hi
  omega

set_option maxRecDepth 100000 in
set_option maxHeartbeats 4000000 in
theorem order15_calls (r : Nat) (hr : r < 10) (w : World) :
    Calls Try.prog 102 #[.int .i64 r] w fun e w' => e = .returned (.string (ordS r)) ∧ Below w.heap.size w w' := by
  have h : r = 0 ∨ r = 1 ∨ r = 2 ∨ r = 3 ∨ r = 4 ∨ r = 5 ∨ r = 6 ∨ r = 7 ∨ r = 8 ∨ r = 9 := by omega
  rcases h with rfl | rfl | rfl | rfl | rfl | rfl | rfl | rfl | rfl | rfl
  all_goals
    go_enter Try.func102, Try.ntmps102
    go_wp2_with fail
    go_ret
    exact ⟨rfl, below_alloc (Below.refl _ _) _⟩
end Go.Proofs.Ytokadjfakncdfaa
