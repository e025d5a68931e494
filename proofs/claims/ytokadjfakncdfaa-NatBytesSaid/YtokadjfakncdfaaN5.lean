/- nat: Add, Sub. -/
import Derived.Test.YtokadjfakncdfaaN4
import Derived.Test.YtokadjfakncdfaaN2
set_option linter.unusedVariables false
set_option linter.unusedSimpArgs false
namespace Go.Proofs.Ytokadjfakncdfaa
open Go.RowKit Go.Proofs.YtokadjfakncdfaaW.PrintWords Go.Proofs.YtokadjfakncdfaaW.PrintLast Go.Proofs.YtokadjfakncdfaaW.PrintMore
open PR

/-- A result of the call's own: a number in form. -/
def Num (w w' : World) (v : Value) (n : Int) : Prop := ∃ ys, RO .u64 30 w' w.heap.size v ys ∧ Canon B64 ys ∧ nv B64 ys = n ∧ ys.length ≤ 2000

theorem eachAdd_calls (va vb : Value) (a b : List Int) (w : World) (ha : RL .u64 w va a) (hb : RL .u64 w vb b) (da : Dig B64 a) (db : Dig B64 b) (la : a.length ≤ 1000) (lb : b.length ≤ 1000) :
    Calls Try.prog 63 #[va, vb, .func (.func 64) #[] #[]] w fun e w' => ∃ v', e = .returned v' ∧ Num w w' v' (nv B64 a + nv B64 b) ∧ Below w.heap.size w w' := by
  refine (each_calls 64 va vb a b w ha hb da db la lb (AddInv B64 a b) (AddInv.zero _ _ _) ?_).mono ?_
  · intro i acc c h hl hd hc
    obtain ⟨s, c', h1, h2, h3, h4⟩ := add64_run (a.getD i 0) (b.getD i 0) c (da.getD B64_pos i) (db.getD B64_pos i) hc
    exact ⟨s, c', h1, h2, h3, h.step hl h4⟩
  · rintro e w' ⟨v', ys, acc, c, rfl, ho, hc, hn, hd, hl, hcc, hP, hy, hw⟩
    exact ⟨v', rfl, ⟨ys, ho, hc, by rw [hn]; exact AddInv.done (by decide) da db hd hcc (by omega) (by omega) hl hP, by omega⟩, hw⟩
theorem eachSub_calls (va vb : Value) (a b : List Int) (w : World) (ha : RL .u64 w va a) (hb : RL .u64 w vb b) (da : Dig B64 a) (db : Dig B64 b) (la : a.length ≤ 1000) (lb : b.length ≤ 1000) (hle : nv B64 b ≤ nv B64 a) :
    Calls Try.prog 63 #[va, vb, .func (.func 66) #[] #[]] w fun e w' => ∃ v', e = .returned v' ∧ Num w w' v' (nv B64 a - nv B64 b) ∧ Below w.heap.size w w' := by
  refine (each_calls 66 va vb a b w ha hb da db la lb (SubInv B64 a b) (SubInv.zero _ _ _) ?_).mono ?_
  · intro i acc c h hl hd hc
    obtain ⟨s, c', h1, h2, h3, h4⟩ := sub64_run (a.getD i 0) (b.getD i 0) c (da.getD B64_pos i) (db.getD B64_pos i) hc
    exact ⟨s, c', h1, h2, h3, h.step hl h4⟩
  · rintro e w' ⟨v', ys, acc, c, rfl, ho, hc, hn, hd, hl, hcc, hP, hy, hw⟩
    exact ⟨v', rfl, ⟨ys, ho, hc, by rw [hn]; exact SubInv.done (by decide) da db hd hcc (by omega) (by omega) hl hle hP, by omega⟩, hw⟩

theorem Num.raise {w w1 w' : World} {v : Value} {n : Int} (h : Num w1 w' v n) (hb : Below w.heap.size w w1) : Num w w' v n := by
  obtain ⟨ys, ho, hc, hn, hl⟩ := h
  exact ⟨ys, Kd.R_mono (Kd.R_lower ho hb.size) (fun b hb' => Nat.le_trans hb.size hb'), hc, hn, hl⟩
theorem below_alloc1 (w : World) (o : Obj) : Below w.heap.size w (w.alloc o) := below_alloc (Below.refl _ _) o

theorem add_ok (va vb : Value) (a b : List Int) (w : World) (ha : RL .u64 w va a) (hb : RL .u64 w vb b) (da : Dig B64 a) (db : Dig B64 b) (la : a.length ≤ 80) (lb : b.length ≤ 80) :
    Calls Try.prog 20 #[va, vb] w fun e w' => ∃ v', e = .returned (.tuple #[v', .int .i64 0]) ∧ Num w w' v' (nv B64 a + nv B64 b) ∧ Below w.heap.size w w' := by
  obtain ⟨A, ca, rfl, hca, hCa⟩ := ha
  obtain ⟨A', cb, rfl, hcb, hCb⟩ := hb
  have HA := Aside0.mk (show RL .u64 w (.slice A a.length ca) a from ⟨A, ca, rfl, hca, hCa⟩)
  have HB := Aside0.mk (show RL .u64 w (.slice A' b.length cb) b from ⟨A', cb, rfl, hcb, hCb⟩)
  have DA := Aside0.mk da
  have DB := Aside0.mk db
  clear hCa hCb da db hca hcb
  have hlong : decide (80 < a.length ∨ 80 < b.length) = false := by simp; omega
  go_enter Try.func20, Try.ntmps20
  go_wp2_with fail
  refine (long2_calls A A' a.length b.length ca cb w (by omega) (by omega)).mono ?_
  rintro e w1 ⟨rfl, rfl⟩
  go_wp2_with fail
  refine (eachAdd_calls _ _ a b _ (HA.out.below (below_alloc1 _ _)) (HB.out.below (below_alloc1 _ _)) DA.out DB.out (by omega) (by omega)).mono ?_
  rintro e w1 ⟨v', rfl, hn, hw⟩
  have F := Aside0.mk (show Num w w1 v' (nv B64 a + nv B64 b) ∧ Below w.heap.size w w1 from ⟨hn.raise (below_alloc1 _ _), (below_alloc1 _ _).trans (hw.mono (below_alloc1 _ _).size)⟩)
  clear hn hw
  go_wp2_with fail
  go_ret2
  exact ⟨v', rfl, F.out⟩

theorem add_long (va vb : Value) (a b : List Int) (w : World) (ha : RL .u64 w va a) (hb : RL .u64 w vb b) (la : a.length ≤ 1000) (lb : b.length ≤ 1000) (hl : 80 < a.length ∨ 80 < b.length) :
    Calls Try.prog 20 #[va, vb] w fun e w' => e = .returned (.tuple #[.slice none 0 0, .int .i64 11]) ∧ Below w.heap.size w w' := by
  obtain ⟨A, ca, rfl, hca, hCa⟩ := ha
  obtain ⟨A', cb, rfl, hcb, hCb⟩ := hb
  clear hCa hCb hca hcb
  have hlong : decide (80 < a.length ∨ 80 < b.length) = true := by simpa using hl
  clear hl
  go_enter Try.func20, Try.ntmps20
  go_wp2_with fail
  refine (long2_calls A A' a.length b.length ca cb w (by omega) (by omega)).mono ?_
  rintro e w1 ⟨rfl, rfl⟩
  go_wp2_with fail
  go_ret2
  exact ⟨rfl, below_alloc1 _ _⟩

theorem sub_ok (va vb : Value) (a b : List Int) (w : World) (ha : RL .u64 w va a) (hb : RL .u64 w vb b) (da : Dig B64 a) (db : Dig B64 b) (la : a.length ≤ 80) (lb : b.length ≤ 80) (hle : nv B64 b ≤ nv B64 a) :
    Calls Try.prog 23 #[va, vb] w fun e w' => ∃ v', e = .returned (.tuple #[v', .int .i64 0]) ∧ Num w w' v' (nv B64 a - nv B64 b) ∧ Below w.heap.size w w' := by
  obtain ⟨A, ca, rfl, hca, hCa⟩ := ha
  obtain ⟨A', cb, rfl, hcb, hCb⟩ := hb
  have HA := Aside0.mk (show RL .u64 w (.slice A a.length ca) a from ⟨A, ca, rfl, hca, hCa⟩)
  have HB := Aside0.mk (show RL .u64 w (.slice A' b.length cb) b from ⟨A', cb, rfl, hcb, hCb⟩)
  have DA := Aside0.mk da
  have DB := Aside0.mk db
  have HLE := Aside0.mk hle
  clear hCa hCb da db hca hcb hle
  have hlong : decide (80 < a.length ∨ 80 < b.length) = false := by simp; omega
  go_enter Try.func23, Try.ntmps23
  go_wp2_with fail
  refine (long2_calls A A' a.length b.length ca cb w (by omega) (by omega)).mono ?_
  rintro e w1 ⟨rfl, rfl⟩
  go_wp2_with fail
  refine (cmp_calls _ _ a b _ (HA.out.below (below_alloc1 _ _)) (HB.out.below (below_alloc1 _ _)) DA.out DB.out (by omega) (by omega)).mono ?_
  rintro e w1 ⟨rfl, hw⟩
  have HW := Aside0.mk (show Below w.heap.size w w1 from (below_alloc1 _ _).trans (hw.mono (below_alloc1 _ _).size))
  clear hw
  obtain ⟨r, hr, hr0⟩ : ∃ r, cmpI (nv B64 a) (nv B64 b) = r ∧ 0 ≤ r := ⟨_, rfl, by have := HLE.out; rcases cmpI_cases (nv B64 a) (nv B64 b) with ⟨h, _⟩ | ⟨_, e⟩ | ⟨_, e⟩ <;> omega⟩
  rw [hr]
  clear hr
  go_wp2_with fail
  refine (eachSub_calls _ _ a b _ (HA.out.below HW.out) (HB.out.below HW.out) DA.out DB.out (by omega) (by omega) HLE.out).mono ?_
  rintro e w2 ⟨v', rfl, hn, hw⟩
  have F := Aside0.mk (show Num w w2 v' (nv B64 a - nv B64 b) ∧ Below w.heap.size w w2 from ⟨hn.raise HW.out, HW.out.trans (hw.mono HW.out.size)⟩)
  clear hn hw
  go_wp2_with fail
  go_ret2
  exact ⟨v', rfl, F.out⟩

theorem sub_less (va vb : Value) (a b : List Int) (w : World) (ha : RL .u64 w va a) (hb : RL .u64 w vb b) (da : Dig B64 a) (db : Dig B64 b) (la : a.length ≤ 80) (lb : b.length ≤ 80) (hlt : nv B64 a < nv B64 b) :
    Calls Try.prog 23 #[va, vb] w fun e w' => e = .returned (.tuple #[.slice none 0 0, .int .i64 1]) ∧ Below w.heap.size w w' := by
  obtain ⟨A, ca, rfl, hca, hCa⟩ := ha
  obtain ⟨A', cb, rfl, hcb, hCb⟩ := hb
  have HA := Aside0.mk (show RL .u64 w (.slice A a.length ca) a from ⟨A, ca, rfl, hca, hCa⟩)
  have HB := Aside0.mk (show RL .u64 w (.slice A' b.length cb) b from ⟨A', cb, rfl, hcb, hCb⟩)
  have DA := Aside0.mk da
  have DB := Aside0.mk db
  have HLT := Aside0.mk hlt
  clear hCa hCb da db hca hcb hlt
  have hlong : decide (80 < a.length ∨ 80 < b.length) = false := by simp; omega
  go_enter Try.func23, Try.ntmps23
  go_wp2_with fail
  refine (long2_calls A A' a.length b.length ca cb w (by omega) (by omega)).mono ?_
  rintro e w1 ⟨rfl, rfl⟩
  go_wp2_with fail
  refine (cmp_calls _ _ a b _ (HA.out.below (below_alloc1 _ _)) (HB.out.below (below_alloc1 _ _)) DA.out DB.out (by omega) (by omega)).mono ?_
  rintro e w1 ⟨rfl, hw⟩
  have HW := Aside0.mk (show Below w.heap.size w w1 from (below_alloc1 _ _).trans (hw.mono (below_alloc1 _ _).size))
  clear hw
  rw [cmpI_lt HLT.out]
  go_wp2_with fail
  go_ret2
  exact ⟨rfl, HW.out⟩

theorem sub_long (va vb : Value) (a b : List Int) (w : World) (ha : RL .u64 w va a) (hb : RL .u64 w vb b) (la : a.length ≤ 1000) (lb : b.length ≤ 1000) (hl : 80 < a.length ∨ 80 < b.length) :
    Calls Try.prog 23 #[va, vb] w fun e w' => e = .returned (.tuple #[.slice none 0 0, .int .i64 11]) ∧ Below w.heap.size w w' := by
  obtain ⟨A, ca, rfl, hca, hCa⟩ := ha
  obtain ⟨A', cb, rfl, hcb, hCb⟩ := hb
  clear hCa hCb hca hcb
  have hlong : decide (80 < a.length ∨ 80 < b.length) = true := by simpa using hl
  clear hl
  go_enter Try.func23, Try.ntmps23
  go_wp2_with fail
  refine (long2_calls A A' a.length b.length ca cb w (by omega) (by omega)).mono ?_
  rintro e w1 ⟨rfl, rfl⟩
  go_wp2_with fail
  go_ret2
  exact ⟨rfl, below_alloc1 _ _⟩
end Go.Proofs.Ytokadjfakncdfaa
