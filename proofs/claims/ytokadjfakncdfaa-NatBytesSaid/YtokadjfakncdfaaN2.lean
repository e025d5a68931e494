/- nat: Cmp, long. -/
import Derived.Test.YtokadjfakncdfaaN1
import Derived.Test.YtokadjfakncdfaaM2
set_option linter.unusedVariables false
set_option linter.unusedSimpArgs false
namespace Go.Proofs.Ytokadjfakncdfaa
open Go.RowKit Go.Proofs.YtokadjfakncdfaaW.PrintWords Go.Proofs.YtokadjfakncdfaaW.PrintLast Go.Proofs.YtokadjfakncdfaaW.PrintMore
open PR

theorem reverse_calls (w0 w : World) (hB : Below w0.heap.size w0 w) (v : Value) (x : List Int) (h : RO .u64 30 w w0.heap.size v x) (hl : x.length ≤ 1000000) :
    Calls Try.prog 60 #[v] w fun e w' => e = .returned (.tuple #[]) ∧ RO .u64 30 w' w0.heap.size v x.reverse ∧ Below w0.heap.size w0 w' ∧ Kept w w' (fun k => some k = v.ownBlock) := by
  obtain ⟨k, hk⟩ := rev_f x (by omega)
  refine (slices_Reverse_uint64_uint64.calls k (fun k => some k = v.ownBlock) v x x.reverse w0 w hB (Kd.R_tight rfl h) hk).mono ?_
  rintro e w' ⟨rfl, ho, hb, hk⟩
  exact ⟨rfl, Kd.R_reok rfl ho (fun k hk => Kd.R_base h k hk), hb, hk⟩

theorem compare_calls (va vb : Value) (x y : List Int) (w : World) (ha : RL .u64 w va x.reverse) (hb : RL .u64 w vb y.reverse) (hl : x.length = y.length) (dx : Dig B64 x) (dy : Dig B64 y) (lx : x.length ≤ 1000000) :
    Calls Try.prog 61 #[va, vb] w fun e w' => e = .returned (.int .i64 (cmpI (nv B64 x) (nv B64 y))) ∧ Below w.heap.size w w' := by
  obtain ⟨A, c, rfl, hc, hC⟩ := ha
  obtain ⟨A', c', rfl, hc', hC'⟩ := hb
  obtain ⟨k, hk⟩ := cmp_f B64_pos x y hl (by omega) dx dy
  refine (slices_Compare_uint64_uint64.calls k A c x.reverse A' c' y.reverse _ w hC hc hC' hc' hk).mono ?_
  rintro e w' ⟨rfl, hd⟩
  exact ⟨rfl, hd.below⟩

theorem cmp_calls (va vb : Value) (a b : List Int) (w : World) (ha : RL .u64 w va a) (hb : RL .u64 w vb b) (da : Dig B64 a) (db : Dig B64 b) (la : a.length ≤ 1000000) (lb : b.length ≤ 1000000) :
    Calls Try.prog 18 #[va, vb] w fun e w' => e = .returned (.int .i64 (cmpI (nv B64 a) (nv B64 b))) ∧ Below w.heap.size w w' := by
  have HA := Aside0.mk ha
  have HB := Aside0.mk hb
  have DA := Aside0.mk da
  have DB := Aside0.mk db
  clear ha hb da db
  go_enter Try.func18, Try.ntmps18
  go_wp2_with fail
  refine (of_calls va a w HA.out DA.out la).mono ?_
  rintro e w1 ⟨v1, x, rfl, o1, c1, n1, l1, b1⟩
  have O1 := Aside0.mk o1
  have C1 := Aside0.mk c1
  have N1 := Aside0.mk n1
  have B1 := Aside0.mk b1
  clear o1 c1 n1 b1
  go_wp2_with fail
  refine (of_calls vb b w1 (HB.out.below B1.out) DB.out lb).mono ?_
  rintro e w2 ⟨v2, y, rfl, o2, c2, n2, l2, b2⟩
  have O2 := Aside0.mk o2
  have C2 := Aside0.mk c2
  have N2 := Aside0.mk n2
  have O1' := Aside0.mk (Kd.R_below O1.out b2)
  have HNE := Aside0.mk (show ∀ k, some k = v2.ownBlock → ¬ some k = v1.ownBlock from fun k h h' => by
    have e1 := Kd.R_base o2 k h.symm
    have e2 := Kd.R_lt O1.out k h'.symm
    omega)
  have O2' := Aside0.mk (show RO .u64 30 w2 w.heap.size v2 y from Kd.R_mono (Kd.R_lower o2 B1.out.size) (fun k hk => Nat.le_trans B1.out.size hk))
  have B2 := Aside0.mk (B1.out.trans (b2.mono B1.out.size))
  clear o2 c2 n2 b2
  obtain ⟨A1, k1, rfl⟩ := Kd.R_slice O1.out
  obtain ⟨A2, k2, rfl⟩ := Kd.R_slice O2.out
  by_cases hl : x.length = y.length
  · have T := Aside0.mk hl
    have t : ((x.length : Int) != (y.length : Int)) = false := by simp [hl]
    clear hl
    go_wp2_with fail
    refine (reverse_calls w w2 B2.out _ x O1'.out (by omega)).mono ?_
    rintro e w3 ⟨rfl, o3, b3, k3⟩
    have O3 := Aside0.mk o3
    have B3 := Aside0.mk b3
    have O4 := Aside0.mk (show RO .u64 30 w3 w.heap.size _ y from Kd.R_reok rfl (Kd.R_kept (Kd.R_tight rfl O2'.out) k3 HNE.out) (fun k hk => Kd.R_base O2'.out k hk))
    clear o3 b3 k3
    go_wp2_with fail
    refine (reverse_calls w w3 B3.out _ y O4.out (by omega)).mono ?_
    rintro e w4 ⟨rfl, o5, b5, k5⟩
    have O5 := Aside0.mk o5
    have B5 := Aside0.mk b5
    have O6 := Aside0.mk (show RO .u64 30 w4 w.heap.size _ x.reverse from Kd.R_reok rfl (Kd.R_kept (Kd.R_tight rfl O3.out) k5 (fun k h h' => HNE.out k h' h)) (fun k hk => Kd.R_base O3.out k hk))
    clear o5 b5 k5
    go_wp2_with fail
    refine (compare_calls _ _ x y w4 (RL.of_R O6.out) (RL.of_R O5.out) T.out C1.out.1 C2.out.1 (by omega)).mono ?_
    rintro e w5 ⟨rfl, b6⟩
    have B6 := Aside0.mk (B5.out.trans (b6.mono B5.out.size))
    clear b6
    go_wp2_with fail
    go_ret
    exact ⟨by rw [N1.out, N2.out]; rfl, B6.out⟩
  · have T := Aside0.mk hl
    have t : ((x.length : Int) != (y.length : Int)) = true := by simp; omega
    clear hl
    by_cases hlt : x.length < y.length
    · go_wp2_with fail
      go_ret
      exact ⟨by rw [← N1.out, ← N2.out, cmpI_lt (canon_len_lt B64_pos C1.out.1 C2.out hlt)]; rfl, B2.out⟩
    · have hgt : y.length < x.length := by have := T.out; omega
      go_wp2_with fail
      go_ret
      exact ⟨by rw [← N1.out, ← N2.out, cmpI_gt (canon_len_lt B64_pos C2.out.1 C1.out hgt)]; rfl, B2.out⟩
end Go.Proofs.Ytokadjfakncdfaa
