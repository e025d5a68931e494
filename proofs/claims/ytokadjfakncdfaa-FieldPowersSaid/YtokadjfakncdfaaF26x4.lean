/- field: From, and a variable for what it gives, of 4 words. -/
import Derived.Test.YtokadjfakncdfaaFQ
set_option linter.unusedVariables false
set_option linter.unusedSimpArgs false
namespace Go.Proofs.Ytokadjfakncdfaa
open Go.RowKit Go.Proofs.YtokadjfakncdfaaW.PrintWords Go.Proofs.YtokadjfakncdfaaW.PrintLast Go.Proofs.YtokadjfakncdfaaW.PrintMore
theorem boxed4 (w : World) (x : Int) : Below w.heap.size w ((w.alloc (.cells (c64 (List.replicate 4 0)) 63)).setRow w.heap.size (c64 (dg 4 x))) ∧ Bx 4 63 ((w.alloc (.cells (c64 (List.replicate 4 0)) 63)).setRow w.heap.size (c64 (dg 4 x))) w.heap.size x :=
  ⟨below_setRow (below_alloc (Below.refl _ _) _) (Nat.le_refl _) _, ⟨setRow_heap _ _ _ _ 63 _ (heap_alloc_new w _)⟩⟩
theorem fromLit4 {g : Nat} {m : Int} {w : World} (gb : Nat) (hgb : w.heap.size = gb) (k : Int) (e : Nat) (hk : 0 ≤ k ∧ k < B64) (hF : Fd 4 121 (w.alloc (.cells #[.int .u64 k] e)) g m) :
    Calls Try.prog 48 #[.pointer (some ⟨g, 0, none⟩), .slice (some ⟨gb, 0, none⟩) 1 1] (w.alloc (.cells #[.int .u64 k] e)) fun e' w' => ∃ x ga, e' = .returned (.tuple #[elt 4 x, .int .i64 ga]) ∧ (ga = 0 ∧ x = mo 4 m k) ∧ Below (w.alloc (.cells #[.int .u64 k] e)).heap.size (w.alloc (.cells #[.int .u64 k] e)) w' := by
  subst hgb
  refine (fromOk4_calls g _ m k _ 1 _ hF (dn_one w k e hk) (by decide) rfl).mono ?_
  rintro e w' ⟨rfl, st⟩
  exact ⟨_, 0, rfl, ⟨rfl, rfl⟩, st⟩
theorem fromAll4 {g : Nat} {v : Value} {m : Int} {xs : List Int} {w : World} (hF : Fd 4 121 w g m) (hv : RL .u64 w v xs) (hd : Dig B64 xs) :
    Calls Try.prog 48 #[.pointer (some ⟨g, 0, none⟩), v] w fun e w' => ∃ x ga, e = .returned (.tuple #[elt 4 x, .int .i64 ga]) ∧ ((xs.length ≤ 80 → ga = 0 ∧ x = mo 4 m (nv B64 xs)) ∧ (80 < xs.length → ga = 11)) ∧ Below w.heap.size w w' := by
  by_cases h : xs.length ≤ 80
  · refine (fromOk4_calls g v m (nv B64 xs) _ xs.length w hF ⟨xs, hv, hd, rfl, Nat.le_refl _⟩ h rfl).mono ?_
    rintro e w' ⟨rfl, st⟩
    exact ⟨_, 0, rfl, ⟨fun _ => ⟨rfl, rfl⟩, fun h' => absurd h (by omega)⟩, st⟩
  · refine (fromLong4_calls g v xs w hv (by omega)).mono ?_
    rintro e w' ⟨rfl, st⟩
    exact ⟨_, 11, rfl, ⟨fun h' => absurd h' h, fun _ => rfl⟩, st⟩
end Go.Proofs.Ytokadjfakncdfaa
