/- nat: Bit. -/
import Derived.Test.YtokadjfakncdfaaN8
import Derived.WalkSmall
set_option linter.unusedVariables false
set_option linter.unusedSimpArgs false
namespace Go.Proofs.Ytokadjfakncdfaa
open Go.RowKit Go.Proofs.YtokadjfakncdfaaW.PrintWords Go.Proofs.YtokadjfakncdfaaW.PrintLast Go.Proofs.YtokadjfakncdfaaW.PrintMore
open PR

/-- The bit of worth 2^i. -/
def nbit (n : Int) (i : Nat) : Int := n / ((2 ^ i : Nat) : Int) % 2

/-- A bit of a number is that of its word. -/
theorem nbit_word {a : List Int} (da : Dig B64 a) (i : Nat) : nbit (nv B64 a) i = a.getD (i / 64) 0 / ((2 ^ (i % 64) : Nat) : Int) % 2 := by
  unfold nbit
  by_cases h : i / 64 < a.length
  · have h1 := nv_split B64 a (i / 64) (by omega)
    have h2 := nv_lt B64_pos (da.take (i / 64))
    have h3 := nv_nonneg B64_pos (da.take (i / 64))
    rw [List.length_take, Nat.min_eq_left (by omega)] at h2
    have e1 : a.drop (i / 64) = a.getD (i / 64) 0 :: a.drop (i / 64 + 1) := by
      rw [List.drop_eq_getElem_cons h, List.getD_eq_getElem?_getD, List.getElem?_eq_getElem h]; rfl
    rw [e1, nv_cons] at h1
    have h4 := da.getD B64_pos (i / 64)
    have h5 := nv_nonneg B64_pos (da.drop (i / 64 + 1))
    obtain ⟨t, ht⟩ := Int.eq_ofNat_of_zero_le h4.1
    obtain ⟨q, hq⟩ := Int.eq_ofNat_of_zero_le h5
    obtain ⟨lo, hlo⟩ := Int.eq_ofNat_of_zero_le h3
    rw [ht, hq, hlo] at h1
    rw [ht]
    rw [hlo, B64_pow] at h2
    rw [h1, B64_pow, B64_eq]
    have e2 : (lo : Int) + ((2 ^ (64 * (i / 64)) : Nat) : Int) * ((t : Int) + 18446744073709551616 * (q : Int)) = ((lo + 2 ^ (64 * (i / 64)) * (t + 18446744073709551616 * q) : Nat) : Int) := by
      simp [Int.natCast_add, Int.natCast_mul]
    rw [e2, ← Int.natCast_ediv, ← Int.natCast_ediv]
    have e3 : (2 : Nat) ^ i = 2 ^ (64 * (i / 64)) * 2 ^ (i % 64) := by rw [← Nat.pow_add]; congr 1; omega
    have hlo0 : lo / 2 ^ (64 * (i / 64)) = 0 := Nat.div_eq_of_lt (Int.ofNat_lt.1 h2)
    rw [e3, ← Nat.div_div_eq_div_mul, Nat.add_mul_div_left _ _ (Nat.two_pow_pos _), hlo0, Nat.zero_add]
    have e4 : (18446744073709551616 : Nat) = 2 ^ (i % 64) * (2 * 2 ^ (63 - i % 64)) := by
      rw [show (2 : Nat) * 2 ^ (63 - i % 64) = 2 ^ (64 - i % 64) by rw [← Nat.pow_succ']; congr 1; omega, ← Nat.pow_add, show i % 64 + (64 - i % 64) = 64 by omega]
    rw [e4, Nat.mul_assoc, Nat.add_mul_div_left _ _ (Nat.two_pow_pos _)]
    rw [Nat.mul_assoc 2]
    omega
  · have e : a.getD (i / 64) 0 = 0 := by rw [List.getD_eq_getElem?_getD, List.getElem?_eq_none (by omega)]; rfl
    rw [e]
    have h1 := nv_lt B64_pos da
    have h2 := nv_nonneg B64_pos da
    rw [B64_pow] at h1
    have h3 : (2 : Nat) ^ (64 * a.length) ≤ 2 ^ i := Nat.pow_le_pow_right (by omega) (by omega)
    rw [Int.ediv_eq_zero_of_lt h2 (by omega)]
    simp

theorem bit_calls (va : Value) (a : List Int) (i : Nat) (w : World) (ha : RL .u64 w va a) (da : Dig B64 a) (la : a.length ≤ 1000000) (hi : i ≤ 1000000000) :
    Calls Try.prog 33 #[va, .int .i64 i] w fun e w' => e = .returned (.int .u64 (nbit (nv B64 a) i)) ∧ w' = w := by
  obtain ⟨A, c, rfl, hc, hC⟩ := ha
  rw [nbit_word da]
  by_cases h : i / 64 < a.length
  · obtain ⟨ad, rfl, hcell⟩ := C_cell hC _ h
    obtain ⟨x, hx⟩ : ∃ x, a.getD (i / 64) 0 = x := ⟨_, rfl⟩
    rw [hx] at hcell ⊢
    have HX := Aside0.mk (hx ▸ da.getD B64_pos (i / 64))
    have HC := Aside0.mk hC
    clear hx da hC
    go_enter Try.func33, Try.ntmps33
    go_wp2_with fail
    go_ret
    refine ⟨?_, rfl⟩
    obtain ⟨X, rfl⟩ := Int.eq_ofNat_of_zero_le HX.out.1
    have h2 := HX.out.2
    rw [B64_eq] at h2
    have e : ((X : Int) / 2 ^ (i % 64)) = ((X / 2 ^ (i % 64) : Nat) : Int) := by
      rw [Int.natCast_ediv, Int.natCast_pow]; rfl
    have h3 : X / 2 ^ (i % 64) ≤ X := Nat.div_le_self _ _
    refine congrArg (fun z => Ending.returned (.int .u64 z)) ?_
    show bits .and .u64 ((X : Int) / 2 ^ (i % 64)) 1 = _
    rw [e, and_one_u64 _ (Int.natCast_nonneg _) (by have := Int.ofNat_le.2 h3; omega), ← Int.natCast_ediv]
  · have e : a.getD (i / 64) 0 = 0 := by rw [List.getD_eq_getElem?_getD, List.getElem?_eq_none (by omega)]; rfl
    rw [e]
    have HC := Aside0.mk hC
    clear e da hC
    have h' : (a.length : Int) ≤ (i : Int) / 64 := by omega
    go_enter Try.func33, Try.ntmps33
    go_wp2_with fail
    go_ret
    exact ⟨by simp, rfl⟩
/-- The bits of a number, the highest first, with their places: k of them. -/
def downs (n : Int) (r k : Nat) : List (Nat × Int) := (List.range k).map fun j => (r - 1 - j, nbit n (r - 1 - j))
theorem downs_succ (n : Int) (r k : Nat) : downs n r (k + 1) = downs n r k ++ [(r - 1 - k, nbit n (r - 1 - k))] := by simp [downs, List.range_succ]
theorem downs_length (n : Int) (r k : Nat) : (downs n r k).length = k := by simp [downs]

end Go.Proofs.Ytokadjfakncdfaa
