/- BlakeTells: the walk. -/
import Derived.Test.YtokadjfakncdfaaB14
import Derived.ChangeKeysEq
set_option linter.unusedVariables false
set_option linter.unusedSimpArgs false
namespace Go.Proofs.Ytokadjfakncdfaa
open Go.RowKit Go.Proofs.YtokadjfakncdfaaW.PrintWords Go.Proofs.YtokadjfakncdfaaW.PrintLast Go.Proofs.YtokadjfakncdfaaW.PrintMore

theorem eqItems_same (d : Nat) (s : List Int) (w : World) : ∀ is : List Nat, (∀ j ∈ is, j < s.length) → (Op.eqItems (d + 1) 5 1 (w8 s) (w8 s) is).run Try.prog w = .ok true w
  | [], _ => by simp [Op.eqItems]
  | j :: is, h => by
    have hj := h j (by simp)
    have px : (part 5 (w8 s) (j * 1)).run Try.prog w = .ok (.int .u8 (s.getD j 0)) w := by
      simp [part, isAgg, run_underlying Try.underlying5, w8, List.getD_eq_getElem?_getD, hj]
    simp only [Op.eqItems, Sem.run_bind, px, Result.andThen_ok]
    rw [run_equalIn_int w d 5 .u8 .u8 _ _ Try.underlying5]
    simp only [beq_self_eq_true, Bool.not_true, Bool.false_eq_true, if_false, Result.andThen_ok]
    exact eqItems_same d s w is (fun i hi => h i (by simp [hi]))
theorem info5e : ∃ i, Try.prog.info? 5 = some i := by
  cases h : Try.prog.info? 5 with
  | none => exact absurd h (by decide +kernel)
  | some i => exact ⟨i, rfl⟩
theorem cells5 : Try.prog.cellsOf 5 = 1 := by kernel_rfl
/-- A sum is itself. -/
theorem eql24_run (s : List Int) (hs : s.length = 32) (w : World) : (binOp .eql 24 (.agg (w8 s)) (.agg (w8 s))).run Try.prog w = .ok (.bool true) w := by
  obtain ⟨i, hi⟩ := info5e
  rw [run_eql_struct, run_equalIn_array w 9999 (w8 s) (w8 s) Try.underlying24 hi, cells5, eqItems_same 9998 s w _ (fun j hj => by rw [hs]; exact List.mem_range.1 hj)]
  rfl
theorem guard24 : Try.prog.eqGuardType Try.prog.depth 24 = false := by kernel_rfl
/-- A row of one slice, laid anew. -/
theorem row_one {w : World} {A : Option Addr} {c : Nat} {xs : List Int} (hc : xs.length ≤ c) (h : (Kd.int .u8).C w A xs.length xs) : (Kd.slice 5 (Kd.int .u8)).C (w.alloc (.cells #[.slice A xs.length c] 22)) (some ⟨w.heap.size, 0, none⟩) 1 [xs] :=
  row_new w [(A, c, xs)] (fun x hx => by
    simp only [List.mem_singleton] at hx
    subst hx
    exact ⟨hc, h⟩) (by simp)

set_option maxRecDepth 100000 in
set_option maxHeartbeats 4000000 in
theorem BlakeTells_law (w : World) (a0 : Option Addr) (l0 c0 : Nat) (z0 : List Int) (w0 : IsRow .u8 w a0 l0 c0 z0) (y0 : l0 * 1 ≤ 140737488351232) :
    Calls Try.prog 3 #[.slice a0 l0 c0] w fun e w' => e = .returned (.bool true) ∧ Below w.heap.size w w' := by
  by_cases h0 : (2000 : Int) < l0
  · clear w0
    go_enter Try.func3, Try.ntmps3
    go_wp2_with fail
    refine (wakes15_calls _).mono ?_
    rintro e w1 ⟨rfl, b1⟩
    have H1 := Aside0.mk b1
    clear b1
    go_wp2_with fail
    go_ret
    exact ⟨rfl, H1.out⟩
  · obtain ⟨bs, rfl, B, _⟩ := w0.u8
    obtain ⟨A, c, e, hc, hC⟩ := B
    cases e
    have HC := Aside0.mk (And.intro hc hC)
    clear w0 hC
    have ge := guard24
    go_enter Try.func3, Try.ntmps3
    go_wp2_with fail
    refine (sum_calls _ 1 [bs] _ (row_one HC.out.1 HC.out.2) (by simp; omega) (by simp)).mono ?_
    rintro e w1 ⟨rfl, b1⟩
    have e1 : [bs].flatten = bs := by simp
    rw [e1]
    obtain ⟨s, hs⟩ : ∃ s, sumB bs = s := ⟨_, rfl⟩
    have H1 := Aside0.mk ((below_alloc (Below.refl w.heap.size w) (.cells #[.slice a0 bs.length c0] 22)).trans (b1.mono (by simp)))
    have HS := Aside0.mk hs
    have eq := eql24_run s (by rw [← hs]; exact sumB_length _)
    rw [hs]
    clear b1 e1 hs
    go_wp2_with fail
    refine (ref15_calls _ bs _ ⟨_, _, rfl, HC.out.1, Kd.C_below HC.out.2 H1.out⟩ (by omega)).mono ?_
    rw [HS.out]
    rintro e w2 ⟨rfl, b2⟩
    have H2 := Aside0.mk (H1.out.trans (b2.mono H1.out.size))
    clear b2 H1
    go_wp2_with fail
    refine (wakes15_calls _).mono ?_
    rintro e w3 ⟨rfl, b3⟩
    have H3 := Aside0.mk (H2.out.trans (b3.mono H2.out.size))
    clear b3 H2
    go_wp2_with fail
    go_ret
    exact ⟨rfl, H3.out⟩
end Go.Proofs.Ytokadjfakncdfaa
