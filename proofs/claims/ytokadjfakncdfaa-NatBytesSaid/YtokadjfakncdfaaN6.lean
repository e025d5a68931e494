/- math/bits: Len64, Mul64, as they are called. -/
import Derived.Test.YtokadjfakncdfaaN0
import Derived.Lib.Mul64
import Derived.Laws.Bits64b
set_option linter.unusedVariables false
set_option linter.unusedSimpArgs false
namespace Go.Proofs.Ytokadjfakncdfaa
open Go.RowKit Go.Proofs.YtokadjfakncdfaaW.PrintWords Go.Proofs.YtokadjfakncdfaaW.PrintLast Go.Proofs.YtokadjfakncdfaaW.PrintMore
open PR

/-- n has r bits. -/
def LenN (n r : Nat) : Prop := n < 2 ^ r ∧ (r = 0 ∨ 2 ^ (r - 1) ≤ n)
instance (n r : Nat) : Decidable (LenN n r) := by unfold LenN; infer_instance

theorem LenN.shift {n r k : Nat} (h : LenN (n / 2 ^ k) r) (h0 : 0 < n / 2 ^ k) : LenN n (r + k) := by
  obtain ⟨h1, h2⟩ := h
  have hp : 0 < 2 ^ k := Nat.two_pow_pos k
  have hr : r ≠ 0 := by rintro rfl; simp only [Nat.pow_zero] at h1; omega
  refine ⟨?_, .inr ?_⟩
  · rw [Nat.pow_add]; exact (Nat.div_lt_iff_lt_mul hp).1 h1
  · have h3 : 2 ^ (r - 1) ≤ n / 2 ^ k := by omega
    rw [show r + k - 1 = (r - 1) + k by omega, Nat.pow_add]
    exact (Nat.le_div_iff_mul_le hp).1 h3
theorem LenN.uniq {n r s : Nat} (h : LenN n r) (h' : LenN n s) : r = s := by
  obtain ⟨h1, h2⟩ := h
  obtain ⟨h3, h4⟩ := h'
  rcases Nat.lt_trichotomy r s with hl | hl | hl
  · have := Nat.pow_le_pow_right (n := 2) (by omega) (show r ≤ s - 1 by omega); omega
  · exact hl
  · have := Nat.pow_le_pow_right (n := 2) (by omega) (show s ≤ r - 1 by omega); omega

def len8T : Array UInt8 := #[0, 1, 2, 2, 3, 3, 3, 3, 4, 4, 4, 4, 4, 4, 4, 4, 5, 5, 5, 5, 5, 5, 5, 5, 5, 5, 5, 5, 5, 5, 5, 5, 6, 6, 6, 6, 6, 6, 6, 6, 6, 6, 6, 6, 6, 6, 6, 6, 6,
    6, 6, 6, 6, 6, 6, 6, 6, 6, 6, 6, 6, 6, 6, 6, 7, 7, 7, 7, 7, 7, 7, 7, 7, 7, 7, 7, 7, 7, 7, 7, 7, 7, 7, 7, 7, 7, 7, 7, 7, 7, 7, 7, 7, 7, 7, 7, 7, 7, 7,
    7, 7, 7, 7, 7, 7, 7, 7, 7, 7, 7, 7, 7, 7, 7, 7, 7, 7, 7, 7, 7, 7, 7, 7, 7, 7, 7, 7, 7, 8, 8, 8, 8, 8, 8, 8, 8, 8, 8, 8, 8, 8, 8, 8, 8, 8, 8, 8, 8, 8,
    8, 8, 8, 8, 8, 8, 8, 8, 8, 8, 8, 8, 8, 8, 8, 8, 8, 8, 8, 8, 8, 8, 8, 8, 8, 8, 8, 8, 8, 8, 8, 8, 8, 8, 8, 8, 8, 8, 8, 8, 8, 8, 8, 8, 8, 8, 8, 8, 8, 8,
    8, 8, 8, 8, 8, 8, 8, 8, 8, 8, 8, 8, 8, 8, 8, 8, 8, 8, 8, 8, 8, 8, 8, 8, 8, 8, 8, 8, 8, 8, 8, 8, 8, 8, 8, 8, 8, 8, 8, 8, 8, 8, 8, 8, 8, 8, 8, 8, 8, 8,
    8, 8, 8, 8, 8, 8, 8]
theorem len8_size : len8T.size = 256 := by decide +kernel
theorem len8_ok : ∀ i : Fin 256, LenN i.val ((len8T[i.val]'(Nat.lt_of_lt_of_eq i.isLt len8_size.symm)).toNat) ∧ (len8T[i.val]'(Nat.lt_of_lt_of_eq i.isLt len8_size.symm)).toNat ≤ 8 := by decide +kernel
theorem len8_at (i : Nat) (h : i < 256) (h' : i < (ByteArray.mk #[0, 1, 2, 2, 3, 3, 3, 3, 4, 4, 4, 4, 4, 4, 4, 4, 5, 5, 5, 5, 5, 5, 5, 5, 5, 5, 5, 5, 5, 5, 5, 5, 6, 6, 6, 6, 6, 6, 6, 6, 6, 6, 6, 6, 6, 6, 6, 6, 6,
    6, 6, 6, 6, 6, 6, 6, 6, 6, 6, 6, 6, 6, 6, 6, 7, 7, 7, 7, 7, 7, 7, 7, 7, 7, 7, 7, 7, 7, 7, 7, 7, 7, 7, 7, 7, 7, 7, 7, 7, 7, 7, 7, 7, 7, 7, 7, 7, 7, 7,
    7, 7, 7, 7, 7, 7, 7, 7, 7, 7, 7, 7, 7, 7, 7, 7, 7, 7, 7, 7, 7, 7, 7, 7, 7, 7, 7, 7, 7, 8, 8, 8, 8, 8, 8, 8, 8, 8, 8, 8, 8, 8, 8, 8, 8, 8, 8, 8, 8, 8,
    8, 8, 8, 8, 8, 8, 8, 8, 8, 8, 8, 8, 8, 8, 8, 8, 8, 8, 8, 8, 8, 8, 8, 8, 8, 8, 8, 8, 8, 8, 8, 8, 8, 8, 8, 8, 8, 8, 8, 8, 8, 8, 8, 8, 8, 8, 8, 8, 8, 8,
    8, 8, 8, 8, 8, 8, 8, 8, 8, 8, 8, 8, 8, 8, 8, 8, 8, 8, 8, 8, 8, 8, 8, 8, 8, 8, 8, 8, 8, 8, 8, 8, 8, 8, 8, 8, 8, 8, 8, 8, 8, 8, 8, 8, 8, 8, 8, 8, 8, 8,
    8, 8, 8, 8, 8, 8, 8]).size) : LenN i ((ByteArray.mk #[0, 1, 2, 2, 3, 3, 3, 3, 4, 4, 4, 4, 4, 4, 4, 4, 5, 5, 5, 5, 5, 5, 5, 5, 5, 5, 5, 5, 5, 5, 5, 5, 6, 6, 6, 6, 6, 6, 6, 6, 6, 6, 6, 6, 6, 6, 6, 6, 6,
    6, 6, 6, 6, 6, 6, 6, 6, 6, 6, 6, 6, 6, 6, 6, 7, 7, 7, 7, 7, 7, 7, 7, 7, 7, 7, 7, 7, 7, 7, 7, 7, 7, 7, 7, 7, 7, 7, 7, 7, 7, 7, 7, 7, 7, 7, 7, 7, 7, 7,
    7, 7, 7, 7, 7, 7, 7, 7, 7, 7, 7, 7, 7, 7, 7, 7, 7, 7, 7, 7, 7, 7, 7, 7, 7, 7, 7, 7, 7, 8, 8, 8, 8, 8, 8, 8, 8, 8, 8, 8, 8, 8, 8, 8, 8, 8, 8, 8, 8, 8,
    8, 8, 8, 8, 8, 8, 8, 8, 8, 8, 8, 8, 8, 8, 8, 8, 8, 8, 8, 8, 8, 8, 8, 8, 8, 8, 8, 8, 8, 8, 8, 8, 8, 8, 8, 8, 8, 8, 8, 8, 8, 8, 8, 8, 8, 8, 8, 8, 8, 8,
    8, 8, 8, 8, 8, 8, 8, 8, 8, 8, 8, 8, 8, 8, 8, 8, 8, 8, 8, 8, 8, 8, 8, 8, 8, 8, 8, 8, 8, 8, 8, 8, 8, 8, 8, 8, 8, 8, 8, 8, 8, 8, 8, 8, 8, 8, 8, 8, 8, 8,
    8, 8, 8, 8, 8, 8, 8])[i]'h').toNat ∧ ((ByteArray.mk #[0, 1, 2, 2, 3, 3, 3, 3, 4, 4, 4, 4, 4, 4, 4, 4, 5, 5, 5, 5, 5, 5, 5, 5, 5, 5, 5, 5, 5, 5, 5, 5, 6, 6, 6, 6, 6, 6, 6, 6, 6, 6, 6, 6, 6, 6, 6, 6, 6,
    6, 6, 6, 6, 6, 6, 6, 6, 6, 6, 6, 6, 6, 6, 6, 7, 7, 7, 7, 7, 7, 7, 7, 7, 7, 7, 7, 7, 7, 7, 7, 7, 7, 7, 7, 7, 7, 7, 7, 7, 7, 7, 7, 7, 7, 7, 7, 7, 7, 7,
    7, 7, 7, 7, 7, 7, 7, 7, 7, 7, 7, 7, 7, 7, 7, 7, 7, 7, 7, 7, 7, 7, 7, 7, 7, 7, 7, 7, 7, 8, 8, 8, 8, 8, 8, 8, 8, 8, 8, 8, 8, 8, 8, 8, 8, 8, 8, 8, 8, 8,
    8, 8, 8, 8, 8, 8, 8, 8, 8, 8, 8, 8, 8, 8, 8, 8, 8, 8, 8, 8, 8, 8, 8, 8, 8, 8, 8, 8, 8, 8, 8, 8, 8, 8, 8, 8, 8, 8, 8, 8, 8, 8, 8, 8, 8, 8, 8, 8, 8, 8,
    8, 8, 8, 8, 8, 8, 8, 8, 8, 8, 8, 8, 8, 8, 8, 8, 8, 8, 8, 8, 8, 8, 8, 8, 8, 8, 8, 8, 8, 8, 8, 8, 8, 8, 8, 8, 8, 8, 8, 8, 8, 8, 8, 8, 8, 8, 8, 8, 8, 8,
    8, 8, 8, 8, 8, 8, 8])[i]'h').toNat ≤ 8 := len8_ok ⟨i, h⟩

theorem len64_end (x : Int) (h0 : 0 ≤ x) (k : Nat) (i : Int) (T : Nat) (hi : x / (2 ^ k : Nat) = i) (hpos : k = 0 ∨ 0 < i) (ht : LenN i.toNat T) : LenN x.toNat (T + k) := by
  have e : x.toNat / 2 ^ k = i.toNat := by
    obtain ⟨n, rfl⟩ := Int.eq_ofNat_of_zero_le h0
    rw [← hi, ← Int.natCast_ediv]; rfl
  rcases hpos with rfl | hpos
  · simp at e; rw [e]; exact ht
  · rw [← e] at ht
    exact ht.shift (by omega)

set_option maxRecDepth 100000 in
theorem len64_calls (x : Int) (h0 : 0 ≤ x) (h1 : x < B64) (w : World) :
    Calls Try.prog 70 #[.int .u64 x] w fun e w' => ∃ r : Nat, e = .returned (.int .i64 r) ∧ LenN x.toNat r ∧ r ≤ 64 ∧ w' = w := by
  have H1 := Aside0.mk h1
  clear h1
  go_enter Try.func70, Try.ntmps70
  go_wp2_with fail
  · go_ret
    have h1 : x < 18446744073709551616 := H1.out
    simp only [Array.getD_eq_getD_getElem?, List.getElem?_toArray, List.getElem?_cons_zero, List.getElem?_cons_succ, Option.getD_some]
    generalize hT : UInt8.toNat _ = T
    have L : LenN (x / 4294967296 / 65536 / 256 % 256).toNat T ∧ T ≤ 8 := by rw [← hT]; exact len8_at _ (by omega) _
    obtain ⟨L1, L2⟩ := L
    clear hT
    refine ⟨T + 56, ?_, len64_end x h0 56 (x / 4294967296 / 65536 / 256 % 256) T (by omega) (by omega) L1, by omega, trivial⟩
    congr 2
    unfold wrap64
    omega
  · go_ret
    have h1 : x < 18446744073709551616 := H1.out
    simp only [Array.getD_eq_getD_getElem?, List.getElem?_toArray, List.getElem?_cons_zero, List.getElem?_cons_succ, Option.getD_some]
    generalize hT : UInt8.toNat _ = T
    have L : LenN (x / 4294967296 / 65536).toNat T ∧ T ≤ 8 := by rw [← hT]; exact len8_at _ (by omega) _
    obtain ⟨L1, L2⟩ := L
    clear hT
    refine ⟨T + 48, ?_, len64_end x h0 48 (x / 4294967296 / 65536) T (by omega) (by omega) L1, by omega, trivial⟩
    congr 2
    unfold wrap64
    omega
  · go_ret
    have h1 : x < 18446744073709551616 := H1.out
    simp only [Array.getD_eq_getD_getElem?, List.getElem?_toArray, List.getElem?_cons_zero, List.getElem?_cons_succ, Option.getD_some]
    generalize hT : UInt8.toNat _ = T
    have L : LenN (x / 4294967296 / 256).toNat T ∧ T ≤ 8 := by rw [← hT]; exact len8_at _ (by omega) _
    obtain ⟨L1, L2⟩ := L
    clear hT
    refine ⟨T + 40, ?_, len64_end x h0 40 (x / 4294967296 / 256) T (by omega) (by omega) L1, by omega, trivial⟩
    congr 2
    unfold wrap64
    omega
  · go_ret
    have h1 : x < 18446744073709551616 := H1.out
    simp only [Array.getD_eq_getD_getElem?, List.getElem?_toArray, List.getElem?_cons_zero, List.getElem?_cons_succ, Option.getD_some]
    generalize hT : UInt8.toNat _ = T
    have L : LenN (x / 4294967296).toNat T ∧ T ≤ 8 := by rw [← hT]; exact len8_at _ (by omega) _
    obtain ⟨L1, L2⟩ := L
    clear hT
    refine ⟨T + 32, ?_, len64_end x h0 32 (x / 4294967296) T (by omega) (by omega) L1, by omega, trivial⟩
    congr 2
    unfold wrap64
    omega
  · go_ret
    have h1 : x < 18446744073709551616 := H1.out
    simp only [Array.getD_eq_getD_getElem?, List.getElem?_toArray, List.getElem?_cons_zero, List.getElem?_cons_succ, Option.getD_some]
    generalize hT : UInt8.toNat _ = T
    have L : LenN (x / 65536 / 256).toNat T ∧ T ≤ 8 := by rw [← hT]; exact len8_at _ (by omega) _
    obtain ⟨L1, L2⟩ := L
    clear hT
    refine ⟨T + 24, ?_, len64_end x h0 24 (x / 65536 / 256) T (by omega) (by omega) L1, by omega, trivial⟩
    congr 2
    unfold wrap64
    omega
  · go_ret
    have h1 : x < 18446744073709551616 := H1.out
    simp only [Array.getD_eq_getD_getElem?, List.getElem?_toArray, List.getElem?_cons_zero, List.getElem?_cons_succ, Option.getD_some]
    generalize hT : UInt8.toNat _ = T
    have L : LenN (x / 65536).toNat T ∧ T ≤ 8 := by rw [← hT]; exact len8_at _ (by omega) _
    obtain ⟨L1, L2⟩ := L
    clear hT
    refine ⟨T + 16, ?_, len64_end x h0 16 (x / 65536) T (by omega) (by omega) L1, by omega, trivial⟩
    congr 2
    unfold wrap64
    omega
  · go_ret
    have h1 : x < 18446744073709551616 := H1.out
    simp only [Array.getD_eq_getD_getElem?, List.getElem?_toArray, List.getElem?_cons_zero, List.getElem?_cons_succ, Option.getD_some]
    generalize hT : UInt8.toNat _ = T
    have L : LenN (x / 256).toNat T ∧ T ≤ 8 := by rw [← hT]; exact len8_at _ (by omega) _
    obtain ⟨L1, L2⟩ := L
    clear hT
    refine ⟨T + 8, ?_, len64_end x h0 8 (x / 256) T (by omega) (by omega) L1, by omega, trivial⟩
    congr 2
    unfold wrap64
    omega
  · go_ret
    have h1 : x < 18446744073709551616 := H1.out
    simp only [Array.getD_eq_getD_getElem?, List.getElem?_toArray, List.getElem?_cons_zero, List.getElem?_cons_succ, Option.getD_some]
    generalize hT : UInt8.toNat _ = T
    have L : LenN (x).toNat T ∧ T ≤ 8 := by rw [← hT]; exact len8_at _ (by omega) _
    obtain ⟨L1, L2⟩ := L
    clear hT
    refine ⟨T + 0, ?_, len64_end x h0 0 (x) T (by omega) (by omega) L1, by omega, trivial⟩
    congr 2
    unfold wrap64
    omega

theorem maskN (a : Nat) (ha : a < 18446744073709551616) : bits .and .u64 (a : Int) 4294967295 = ((a % 4294967296 : Nat) : Int) := by
  have h := bits_and_u64_nat a 4294967295 ha (by omega)
  have e : a &&& 4294967295 = a % 4294967296 := Nat.and_two_pow_sub_one_eq_mod a 32
  rw [e] at h
  exact h
theorem wrapN (a : Nat) (ha : a < 18446744073709551616) : IntKind.u64.wrap (a : Int) = (a : Int) := by rw [IntKind.wrap_u64]; omega
theorem wrapM (a : Nat) : IntKind.u64.wrap (a : Int) = ((a % 18446744073709551616 : Nat) : Int) := by rw [IntKind.wrap_u64]; omega
theorem divN (a : Nat) : (a : Int) / 4294967296 = ((a / 4294967296 : Nat) : Int) := by omega

set_option maxHeartbeats 1000000 in
/-- The high and the low word of a product. -/
theorem mul64_calls (x y : Int) (hx : 0 ≤ x ∧ x < B64) (hy : 0 ≤ y ∧ y < B64) (w : World) :
    Calls Try.prog 65 #[.int .u64 x, .int .u64 y] w fun e w' => ∃ hi lo : Int, e = .returned (.tuple #[.int .u64 hi, .int .u64 lo]) ∧ (0 ≤ hi ∧ hi < B64) ∧ (0 ≤ lo ∧ lo < B64) ∧ B64 * hi + lo = x * y ∧ w' = w := by
  obtain ⟨X, rfl⟩ := Int.eq_ofNat_of_zero_le hx.1
  obtain ⟨Y, rfl⟩ := Int.eq_ofNat_of_zero_le hy.1
  rw [B64_eq] at *
  have hX : X < 18446744073709551616 := by omega
  have hY : Y < 18446744073709551616 := by omega
  obtain ⟨bd, bt, bw, hhi⟩ := Lib.mul64_hi X Y hX hY
  have ba := Lib.half_mul_le (a := X / 4294967296) (b := Y / 4294967296) (by omega) (by omega)
  have bb := Lib.half_mul_le (a := X / 4294967296) (b := Y % 4294967296) (by omega) (by omega)
  have bc := Lib.half_mul_le (a := X % 4294967296) (b := Y / 4294967296) (by omega) (by omega)
  have ba' : X / 4294967296 * (Y / 4294967296) < 18446744073709551616 := by omega
  have bb' : X / 4294967296 * (Y % 4294967296) < 18446744073709551616 := by omega
  have bc' : X % 4294967296 * (Y / 4294967296) < 18446744073709551616 := by omega
  have bh1 : X / 4294967296 * (Y / 4294967296) + (X / 4294967296 * (Y % 4294967296) + X % 4294967296 * (Y % 4294967296) / 4294967296) / 4294967296 < 18446744073709551616 := by omega
  have bh : X / 4294967296 * (Y / 4294967296) + (X / 4294967296 * (Y % 4294967296) + X % 4294967296 * (Y % 4294967296) / 4294967296) / 4294967296 + ((X / 4294967296 * (Y % 4294967296) + X % 4294967296 * (Y % 4294967296) / 4294967296) % 4294967296 + X % 4294967296 * (Y / 4294967296)) / 4294967296 < 18446744073709551616 := by omega
  have bbs := Aside0.mk (And.intro ba' (And.intro bb' (And.intro bc' (And.intro bh1 bh))))
  have hhiB : X * Y / 18446744073709551616 < 18446744073709551616 := by rw [← hhi]; omega
  have hh := Aside0.mk (And.intro hhi (And.intro hhiB (And.intro bd (And.intro bt bw))))
  clear hx hy hhi hhiB bd bt bw ba bb bc ba' bb' bc' bh1 bh
  go_enter Try.func65, Try.ntmps65
  go_wp2
  obtain ⟨ba', bb', bc', bh1, bh⟩ := bbs.out
  obtain ⟨hhi, hhiB, bd, bt, bw⟩ := hh.out
  simp only [maskN X hX, maskN Y hY, divN, ← Int.natCast_mul, ← Int.natCast_add, wrapN _ bd, wrapN _ bb', wrapN _ bt, maskN _ bt, wrapN _ bc', wrapN _ bw, wrapN _ ba', wrapN _ bh1, wrapN _ bh, wrapM (X * Y)]
  rw [hhi]
  go_ret2
  refine ⟨((X * Y / 18446744073709551616 : Nat) : Int), ((X * Y % 18446744073709551616 : Nat) : Int), rfl, ⟨by omega, by omega⟩, ⟨by omega, by omega⟩, by omega, rfl⟩
end Go.Proofs.Ytokadjfakncdfaa
