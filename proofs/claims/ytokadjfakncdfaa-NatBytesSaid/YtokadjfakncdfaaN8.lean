/- nat: Bits. -/
import Derived.Test.YtokadjfakncdfaaN5
import Derived.Test.YtokadjfakncdfaaN6
set_option linter.unusedVariables false
set_option linter.unusedSimpArgs false
namespace Go.Proofs.Ytokadjfakncdfaa
open Go.RowKit Go.Proofs.YtokadjfakncdfaaW.PrintWords Go.Proofs.YtokadjfakncdfaaW.PrintLast Go.Proofs.YtokadjfakncdfaaW.PrintMore
open PR

theorem B64_pow (n : Nat) : B64 ^ n = ((2 ^ (64 * n) : Nat) : Int) := by
  rw [Nat.pow_mul, Int.natCast_pow]; rfl
/-- The number of bits of a number in form, by its last word. -/
theorem bits_top {ys : List Int} (h : Canon B64 ys) (n r : Nat) (hn : n + 1 = ys.length) (hr : LenN (ys.getD n 0).toNat r) : LenN (nv B64 ys).toNat (r + 64 * n) := by
  have h1 := nv_take_succ B64 ys n
  rw [hn, List.take_length] at h1
  have h2 := nv_lt B64_pos (h.1.take n)
  have h3 := nv_nonneg B64_pos (h.1.take n)
  have h4 := h.1.getD B64_pos n
  rw [List.length_take, Nat.min_eq_left (by omega)] at h2
  have ht : ys.getD n 0 ≠ 0 := by
    intro e
    refine h.2 ?_
    rw [List.getLast?_eq_getElem?, ← show n = ys.length - 1 by omega]
    rw [List.getD_eq_getElem?_getD, List.getElem?_eq_getElem (by omega)] at e
    rw [List.getElem?_eq_getElem (by omega)]
    exact congrArg some e
  obtain ⟨lo, hlo⟩ := Int.eq_ofNat_of_zero_le h3
  obtain ⟨t, htt⟩ := Int.eq_ofNat_of_zero_le h4.1
  rw [hlo] at h1 h2
  rw [htt] at h1 hr ht
  rw [B64_pow] at h1 h2
  have e : (nv B64 ys).toNat = lo + 2 ^ (64 * n) * t := by
    rw [h1, ← Int.natCast_mul, ← Int.natCast_add]; rfl
  rw [e]
  have h5 : lo < 2 ^ (64 * n) := by omega
  have h6 : (lo + 2 ^ (64 * n) * t) / 2 ^ (64 * n) = t := by
    rw [Nat.add_mul_div_left _ _ (Nat.two_pow_pos _), Nat.div_eq_of_lt h5, Nat.zero_add]
  refine LenN.shift ?_ ?_
  · rw [h6]; exact hr
  · rw [h6]; omega

theorem bits_calls (va : Value) (a : List Int) (w : World) (ha : RL .u64 w va a) (da : Dig B64 a) (la : a.length ≤ 1000) :
    Calls Try.prog 30 #[va] w fun e w' => ∃ r : Nat, e = .returned (.int .i64 r) ∧ LenN (nv B64 a).toNat r ∧ r ≤ 64 * a.length ∧ Below w.heap.size w w' := by
  have HA := Aside0.mk ha
  have DA := Aside0.mk da
  clear ha da
  go_enter Try.func30, Try.ntmps30
  go_wp2_with fail
  refine (of_calls va a w HA.out DA.out (by omega)).mono ?_
  rintro e w1 ⟨v1, x, rfl, o1, c1, n1, l1, b1⟩
  have O1 := Aside0.mk o1
  have C1 := Aside0.mk c1
  have N1 := Aside0.mk n1
  have B1 := Aside0.mk b1
  clear c1 n1 b1 o1
  obtain ⟨A1, k1, rfl⟩ := Kd.R_slice O1.out
  by_cases h0 : x.length = 0
  · have hx : x = [] := List.eq_nil_of_length_eq_zero h0
    subst hx
    go_wp2_with fail
    go_ret
    exact ⟨0, rfl, by rw [← N1.out]; simp [nv, LenN], by omega, B1.out⟩
  · obtain ⟨n, hn⟩ : ∃ n, n + 1 = x.length := ⟨x.length - 1, by omega⟩
    obtain ⟨_, _, hC⟩ := Kd.R_reads' O1.out
    obtain ⟨ad, rfl, hcell⟩ := C_cell hC n (by omega)
    obtain ⟨y, hy⟩ : ∃ y, x.getD n 0 = y := ⟨_, rfl⟩
    rw [hy] at hcell
    have HY := Aside0.mk hy
    have HD := Aside0.mk (HY.out ▸ C1.out.1.getD B64_pos n)
    have HN := Aside0.mk hn
    have t0 : ((x.length : Int) == 0) = false := by rw [beq_eq_false_iff_ne]; omega
    have e2 : ((x.length : Int) - 1).toNat = n := by omega
    have b2 : (0 : Int) ≤ (x.length : Int) - 1 := by omega
    clear hy hC hn h0
    go_wp2_with fail
    refine (len64_calls y HD.out.1 HD.out.2 _).mono ?_
    rintro e w2 ⟨r, rfl, hr, hr64, rfl⟩
    have HR := Aside0.mk hr
    clear hr
    go_wp2_with fail
    go_ret
    refine ⟨r + 64 * n, ?_, ?_, by have := HN.out; omega, B1.out⟩
    · have := HN.out
      exact congrArg (fun z => Ending.returned (.int .i64 z)) (by omega)
    · rw [← N1.out]
      exact bits_top C1.out n r HN.out (by rw [HY.out]; exact HR.out)
end Go.Proofs.Ytokadjfakncdfaa
