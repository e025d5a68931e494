/- nat: Clone, Of. -/
import Derived.Test.YtokadjfakncdfaaN0
import Derived.Lib.SliceRun
set_option linter.unusedVariables false
set_option linter.unusedSimpArgs false
namespace Go.Proofs.Ytokadjfakncdfaa
open Go.RowKit Go.Proofs.YtokadjfakncdfaaW.PrintWords Go.Proofs.YtokadjfakncdfaaW.PrintLast Go.Proofs.YtokadjfakncdfaaW.PrintMore
open PR

theorem RO.empty (k : IntKind) (e : Nat) (w : World) : RO k e (w.alloc (.cells #[] e)) w.heap.size (.slice (some ⟨w.heap.size, 0, none⟩) 0 0) [] := by
  refine ⟨fun b hb => ?_, [], ⟨rfl, .inr ⟨w.heap.size, 0, #[], rfl, Nat.le_refl _, heap_alloc_new w _, Nat.le_refl _, by simp [maxLen], rfl, rfl⟩⟩, Reps.none _ _⟩
  simp [Value.ownBlock] at hb
  omega

theorem clone_calls (v : Value) (xs : List Int) (w : World) (hv : RL .u64 w v xs) (hl : xs.length ≤ 1000000) :
    Calls Try.prog 67 #[v] w fun e w' => ∃ v', e = .returned v' ∧ RO .u64 30 w' w.heap.size v' xs ∧ Below w.heap.size w w' := by
  obtain ⟨A, c, rfl, hc, hC⟩ := hv
  cases A with
  | none =>
    have hx : xs = [] := by
      rcases Nat.eq_zero_or_pos xs.length with h0 | h0
      · exact List.eq_nil_of_length_eq_zero h0
      · obtain ⟨ad, h, _⟩ := hC.2.2 h0
        cases h
    subst hx
    have hq := fun w => Lib.run_eql_slice_nil (P := Try.prog) w 31 30 none 0 c 0 0 Try.underlying31
    clear hc hC
    go_enter Try.func67, Try.ntmps67
    go_wp2_with fail
    go_ret
    exact ⟨_, rfl, Kd.R_nil _ _ _ _ _, Below.refl _ _⟩
  | some ad =>
    have hq := fun w => Lib.run_eql_slice_nil (P := Try.prog) w 31 30 (some ad) xs.length c 0 0 Try.underlying31
    have HC := Aside0.mk hC
    clear hC
    go_enter Try.func67, Try.ntmps67
    go_wp2_with (at_builtin; refine Kd.R_append_rows (Kd.int .u64) (w0 := w) w.heap.size rfl _ _ 31 30 (.int .u64 0) 8 rfl Try.underlying31 info30 rfl (by decide) (by omega) _ [] xs (some ad) xs.length c (fun b => w.heap.size ≤ b) (fun _ => False) rfl rfl (RO.empty .u64 30 w) (Kd.C_alloc HC.out _) (fun x cs h => h) (fun _ h => h.elim) (fun b hb => by simp at hb; omega) (below_alloc (Below.refl _ _) _) (by simp) (by simp; omega) ?_; intro v1 w1 ho hb hg hat; have HO := Aside0.mk ho; have HB := Aside0.mk hb; clear ho hb hg hat)
    go_ret
    exact ⟨_, rfl, HO.out, HB.out⟩

theorem RL.take {k : IntKind} {w : World} {A : Option Addr} {c : Nat} {xs : List Int} (hc : xs.length ≤ c) (hC : (Kd.int k).C w A xs.length xs) (m : Nat) (hm : m ≤ xs.length) :
    RL k w (.slice A m c) (xs.take m) := by
  have h := Kd.C_take hC hm
  have e : (xs.take m).length = m := by simp [hm]
  exact ⟨A, c, by rw [e], by rw [e]; omega, h⟩

/-- The cell of an element. -/
theorem C_cell {k : IntKind} {w : World} {A : Option Addr} {xs : List Int} (h : (Kd.int k).C w A xs.length xs) (i : Nat) (hi : i < xs.length) :
    ∃ ad, A = some ad ∧ w.cell? (ad.add i) = some (.int k (xs.getD i 0)) := by
  obtain ⟨ad, e, hc⟩ := Kd.at_int h (i : Int) (by omega) (by omega)
  exact ⟨ad, e, hc⟩

theorem of_calls (v : Value) (xs : List Int) (w : World) (hv : RL .u64 w v xs) (hd : Dig B64 xs) (hl : xs.length ≤ 1000000) :
    Calls Try.prog 24 #[v] w fun e w' => ∃ v' ys, e = .returned v' ∧ RO .u64 30 w' w.heap.size v' ys ∧ Canon B64 ys ∧ nv B64 ys = nv B64 xs ∧ ys.length ≤ xs.length ∧ Below w.heap.size w w' := by
  obtain ⟨A, c, rfl, hc, hC⟩ := hv
  have HC := Aside0.mk hC
  have HD := Aside0.mk hd
  clear hC hd
  go_enter Try.func24, Try.ntmps24
  go_wp2_with fail
  go_loopg [0] xs.length (fun k v0 wr => ∃ m : Nat, m = k ∧ m ≤ xs.length ∧ v0 = .slice A m c ∧ Aside0 (nv B64 (xs.take m) = nv B64 xs) ∧ wr = w)
  case atStart => exact ⟨xs.length, rfl, Nat.le_refl _, rfl, ⟨by rw [List.take_length]⟩, rfl⟩
  case round =>
    obtain ⟨m, rfl, hm, rfl, HN, rfl⟩ := hrel
    by_cases h0 : m = 0
    · subst h0
      go_wp2_with fail
      refine (clone_calls _ (xs.take 0) _ (RL.take hc HC.out 0 (by omega)) (by simp)).mono ?_
      rintro e w' ⟨v', rfl, ho, hb⟩
      have HO := Aside0.mk ho
      have HB := Aside0.mk hb
      clear ho hb
      go_wp2_with fail
      go_ret
      exact ⟨_, xs.take 0, rfl, HO.out, canon_nil, HN.out, by simp, HB.out⟩
    · obtain ⟨j, rfl⟩ : ∃ j, m = j + 1 := ⟨m - 1, by omega⟩
      obtain ⟨ad, rfl, hcell⟩ := C_cell HC.out j (by omega)
      obtain ⟨y, hy⟩ : ∃ y, xs.getD j 0 = y := ⟨_, rfl⟩
      rw [hy] at hcell
      have HY := Aside0.mk hy
      clear hy
      by_cases hz : y = 0
      · subst hz
        go_wp2_with fail
        go_roundg j
        case measure => omega
        case rel =>
          refine ⟨j, rfl, by omega, rfl, ⟨?_⟩, rfl⟩
          rw [← HN.out, nv_take_succ, HY.out]; simp
      · have hz' : (y == 0) = false := by simpa using hz
        clear hz
        go_wp2_with fail
        refine (clone_calls _ (xs.take (j + 1)) _ (RL.take hc HC.out (j + 1) (by omega)) (by simp; omega)).mono ?_
        rintro e w' ⟨v', rfl, ho, hb⟩
        have HO := Aside0.mk ho
        have HB := Aside0.mk hb
        clear ho hb
        go_wp2_with fail
        go_ret
        refine ⟨_, xs.take (j + 1), rfl, HO.out, canon_of_last (HD.out.take _) j (by simp; omega) ?_, HN.out, by simp; omega, HB.out⟩
        rw [List.getD_eq_getElem?_getD, List.getElem?_take, if_pos (by omega), ← List.getD_eq_getElem?_getD, HY.out]
        simpa using hz'
end Go.Proofs.Ytokadjfakncdfaa
