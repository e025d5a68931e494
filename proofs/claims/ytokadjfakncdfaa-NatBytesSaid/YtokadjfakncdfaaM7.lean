/- Plain laws of a number's bytes and bits. -/
import Derived.Test.YtokadjfakncdfaaN17
import Derived.Test.YtokadjfakncdfaaN9
set_option linter.unusedVariables false
set_option linter.unusedSimpArgs false
namespace Go.Proofs.Ytokadjfakncdfaa

theorem bytesOf_dig (n : Int) (k : Nat) : Dig B8 (bytesOf n k) := by
  intro x hx
  obtain ⟨i, _, rfl⟩ := List.mem_map.1 hx
  exact nby_range _ _
theorem B8_pow (i : Nat) : B8 ^ i = ((2 ^ (8 * i) : Nat) : Int) := by rw [Nat.pow_mul, Int.natCast_pow]; rfl
/-- Digits to base 256 of a number: the number of its first bytes. -/
theorem nv_bytes (x : Int) (hx : 0 ≤ x) (k : Nat) : nv B8 ((List.range k).map (nby x)) = x % B8 ^ k := by
  induction k with
  | zero => simp [nv]
  | succ k ih =>
    rw [List.range_succ, List.map_append, List.map_cons, List.map_nil, nv_snoc, ih, List.length_map, List.length_range, Int.pow_succ]
    unfold nby
    rw [← B8_pow]
    have hp := pow_pos' B8_pos k
    obtain ⟨P, hP⟩ : ∃ P, B8 ^ k = P := ⟨_, rfl⟩
    rw [hP] at hp ⊢
    unfold B8
    have h1 := Int.mul_ediv_add_emod x P
    have h2 := Int.mul_ediv_add_emod (x / P) 256
    have h3 := Int.emod_nonneg x (show P ≠ 0 by omega)
    have h4 := Int.emod_lt_of_pos x hp
    have h5 : x / P / 256 = x / (P * 256) := Int.ediv_ediv_of_nonneg (by omega)
    have h6 := Int.mul_ediv_add_emod x (P * 256)
    have h7 : P * 256 * (x / (P * 256)) = P * (256 * (x / P / 256)) := by rw [h5, Int.mul_assoc]
    have h8 : P * (x / P) = P * (256 * (x / P / 256)) + P * (x / P % 256) := by rw [← Int.mul_add, h2]
    omega
theorem bytesOf_rev (x : Int) (k : Nat) : (bytesOf x k).reverse = (List.range k).map (nby x) := by
  refine List.ext_getElem? fun i => ?_
  by_cases h : i < k
  · rw [List.getElem?_reverse (by rw [bytesOf_length]; exact h), bytesOf_length]
    simp [bytesOf, List.getElem?_map, List.getElem?_range, h, show k - 1 - i < k by omega, show k - 1 - (k - 1 - i) = i by omega]
  · rw [List.getElem?_eq_none (by simp [bytesOf_length]; omega), List.getElem?_eq_none (by simp; omega)]
theorem nv_bytesOf (x : Int) (hx : 0 ≤ x) (k : Nat) (hk : x < B8 ^ k) : nv B8 (bytesOf x k).reverse = x := by
  rw [bytesOf_rev, nv_bytes x hx, Int.emod_eq_of_lt hx hk]
theorem bytesOf_nv {xs : List Int} (h : Dig B8 xs) : bytesOf (nv B8 xs.reverse) xs.length = xs := by
  have h1 := nv_nonneg B8_pos h.reverse
  have h2 := nv_lt B8_pos h.reverse
  have e : (bytesOf (nv B8 xs.reverse) xs.length).reverse = xs.reverse := by
    refine nv_inj B8_pos (bytesOf_dig _ _).reverse h.reverse (by simp [bytesOf_length]) ?_
    exact nv_bytesOf _ h1 _ (by rw [List.length_reverse] at h2; exact h2)
  have := congrArg List.reverse e
  simpa using this
theorem lenN_lt {x : Int} (hx : 0 ≤ x) {r : Nat} (h : LenN x.toNat r) : x < ((2 ^ r : Nat) : Int) := by
  have := h.1
  omega
theorem top_byte {x : Int} (hx : 0 ≤ x) {r : Nat} (h : LenN x.toNat r) (hr : 0 < (r + 7) / 8) : nby x ((r + 7) / 8 - 1) ≠ 0 := by
  obtain ⟨X, rfl⟩ := Int.eq_ofNat_of_zero_le hx
  rw [Int.toNat_natCast] at h
  obtain ⟨h1, h2⟩ := h
  have h3 : 2 ^ (r - 1) ≤ X := by omega
  obtain ⟨q, hq⟩ : ∃ q, q = (r + 7) / 8 - 1 := ⟨_, rfl⟩
  unfold nby
  rw [← hq, ← Int.natCast_ediv]
  have h4 : 2 ^ (8 * q) ≤ 2 ^ (r - 1) := Nat.pow_le_pow_right (by omega) (by omega)
  have h5 : 0 < X / 2 ^ (8 * q) := Nat.div_pos (by omega) (Nat.two_pow_pos _)
  have h6 : X / 2 ^ (8 * q) < 256 := by
    rw [Nat.div_lt_iff_lt_mul (Nat.two_pow_pos _)]
    refine Nat.lt_of_lt_of_le h1 ?_
    rw [show (256 : Nat) = 2 ^ 8 from rfl, ← Nat.pow_add]
    exact Nat.pow_le_pow_right (by omega) (by omega)
  omega
theorem nbit_top {x : Int} (hx : 0 ≤ x) {r : Nat} (h : LenN x.toNat r) : nbit x r = 0 := by
  unfold nbit
  rw [Int.ediv_eq_zero_of_lt hx (lenN_lt hx h)]
  rfl
theorem nbit_last {x : Int} (hx : 0 ≤ x) {r : Nat} (h : LenN x.toNat (r + 1)) : nbit x r = 1 := by
  obtain ⟨X, rfl⟩ := Int.eq_ofNat_of_zero_le hx
  rw [Int.toNat_natCast] at h
  obtain ⟨h1, h2⟩ := h
  have h3 : 2 ^ r ≤ X := by
    rcases h2 with h2 | h2
    · omega
    · simpa using h2
  unfold nbit
  rw [← Int.natCast_ediv]
  have h5 : 1 ≤ X / 2 ^ r := Nat.div_pos h3 (Nat.two_pow_pos _)
  have h6 : X / 2 ^ r < 2 := by
    rw [Nat.div_lt_iff_lt_mul (Nat.two_pow_pos _)]
    rw [Nat.pow_succ] at h1
    omega
  omega
/-- A bit of a number is one of a byte's. -/
theorem nbit_byte (x : Int) (hx : 0 ≤ x) (i : Nat) : nbit x i = nby x (i / 8) / ((2 ^ (i % 8) : Nat) : Int) % 2 := by
  obtain ⟨X, rfl⟩ := Int.eq_ofNat_of_zero_le hx
  unfold nbit nby
  rw [← Int.natCast_ediv, ← Int.natCast_ediv]
  have e3 : (2 : Nat) ^ i = 2 ^ (8 * (i / 8)) * 2 ^ (i % 8) := by rw [← Nat.pow_add]; congr 1; omega
  rw [e3, ← Nat.div_div_eq_div_mul]
  obtain ⟨Y, hY⟩ : ∃ Y, X / 2 ^ (8 * (i / 8)) = Y := ⟨_, rfl⟩
  rw [hY]
  have e4 : ((Y : Int) % 256) = ((Y % 256 : Nat) : Int) := by omega
  rw [e4, ← Int.natCast_ediv]
  have e5 : Y = Y % 256 + 256 * (Y / 256) := by omega
  have e6 : (256 : Nat) = 2 ^ (i % 8) * (2 * 2 ^ (7 - i % 8)) := by
    rw [← Nat.pow_succ', ← Nat.pow_add, show i % 8 + (7 - i % 8 + 1) = 8 by omega]
  have e7 : Y / 2 ^ (i % 8) = Y % 256 / 2 ^ (i % 8) + 2 * (2 ^ (7 - i % 8) * (Y / 256)) := by
    conv => lhs; rw [e5, show 256 * (Y / 256) = 2 ^ (i % 8) * (2 * (2 ^ (7 - i % 8) * (Y / 256))) by rw [← Nat.mul_assoc, ← Nat.mul_assoc, Nat.mul_assoc (2 ^ (i % 8)), ← e6]]
    rw [Nat.add_mul_div_left _ _ (Nat.two_pow_pos _)]
  rw [e7]
  omega
end Go.Proofs.Ytokadjfakncdfaa
