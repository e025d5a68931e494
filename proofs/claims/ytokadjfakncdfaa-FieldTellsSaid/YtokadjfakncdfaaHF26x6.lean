/- field: From, and a variable for what it gives, of 6 words. -/
import Derived.Test.YtokadjfakncdfaaHFS
set_option linter.unusedVariables false
set_option linter.unusedSimpArgs false
namespace Go.Proofs.Ytokadjfakncdfaa
open Go.RowKit Go.Proofs.YtokadjfakncdfaaW.PrintWords Go.Proofs.YtokadjfakncdfaaW.PrintLast Go.Proofs.YtokadjfakncdfaaW.PrintMore
theorem boxed6 (w : World) (x : Int) : Below w.heap.size w ((w.alloc (.cells (c64 (List.replicate 6 0)) 62)).setRow w.heap.size (c64 (dg 6 x))) ∧ Bx 6 62 ((w.alloc (.cells (c64 (List.replicate 6 0)) 62)).setRow w.heap.size (c64 (dg 6 x))) w.heap.size x :=
  ⟨below_setRow (below_alloc (Below.refl _ _) _) (Nat.le_refl _) _, ⟨setRow_heap _ _ _ _ 62 _ (heap_alloc_new w _)⟩⟩
theorem fromAll6 {g : Nat} {v : Value} {m : Int} {xs : List Int} {w : World} (hF : Fd 6 145 w g m) (hv : RL .u64 w v xs) (hd : Dig B64 xs) :
    Calls Try.prog 77 #[.pointer (some ⟨g, 0, none⟩), v] w fun e w' => ∃ x ga, e = .returned (.tuple #[elt 6 x, .int .i64 ga]) ∧ ((xs.length ≤ 80 → ga = 0 ∧ x = mo 6 m (nv B64 xs)) ∧ (80 < xs.length → ga = 11)) ∧ Below w.heap.size w w' := by
  by_cases h : xs.length ≤ 80
  · refine (fromOk6_calls g v m (nv B64 xs) _ xs.length w hF ⟨xs, hv, hd, rfl, Nat.le_refl _⟩ h rfl).mono ?_
    rintro e w' ⟨rfl, st⟩
    exact ⟨_, 0, rfl, ⟨fun _ => ⟨rfl, rfl⟩, fun h' => absurd h (by omega)⟩, st⟩
  · refine (fromLong6_calls g v xs w hv (by omega)).mono ?_
    rintro e w' ⟨rfl, st⟩
    exact ⟨_, 11, rfl, ⟨fun h' => absurd h' h, fun _ => rfl⟩, st⟩
end Go.Proofs.Ytokadjfakncdfaa
