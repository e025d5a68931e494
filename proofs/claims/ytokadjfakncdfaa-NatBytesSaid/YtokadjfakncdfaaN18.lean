/- nat: eight bytes as a word. -/
import Derived.Test.YtokadjfakncdfaaN1
import Derived.Test.YtokadjfakncdfaaN5
set_option linter.unusedVariables false
set_option linter.unusedSimpArgs false
namespace Go.Proofs.Ytokadjfakncdfaa
open Go.RowKit Go.Proofs.YtokadjfakncdfaaW.PrintWords Go.Proofs.YtokadjfakncdfaaW.PrintLast Go.Proofs.YtokadjfakncdfaaW.PrintMore
open PR

theorem or_low (a b : Nat) (h : b < 256) : a * 256 ||| b = a * 256 + b := by
  have := Nat.two_pow_add_eq_or_of_lt (i := 8) (b := b) (by simpa using h) a
  rw [show (2 : Nat) ^ 8 = 256 from rfl] at this
  rw [Nat.mul_comm, this]

theorem be_lt {xs : List Int} (h : Dig B8 xs) : 0 ≤ nv B8 xs.reverse ∧ nv B8 xs.reverse < 256 ^ xs.length := by
  have h1 := nv_lt B8_pos h.reverse
  have h2 := nv_nonneg B8_pos h.reverse
  rw [List.length_reverse] at h1
  exact ⟨h2, h1⟩
theorem be_succ (xs : List Int) (i : Nat) (h : i < xs.length) : nv B8 (xs.take (i + 1)).reverse = nv B8 (xs.take i).reverse * 256 + xs.getD i 0 := by
  rw [take_snoc' xs i h, List.reverse_append, List.reverse_singleton, List.singleton_append, nv_cons]
  unfold B8
  omega
theorem or_low_i (a b : Int) (ha : 0 ≤ a) (ha' : a < 72057594037927936) (hb : 0 ≤ b) (hb' : b < 256) : bits .or .u64 (IntKind.u64.wrap (a * 256)) (IntKind.u64.wrap b) = a * 256 + b := by
  obtain ⟨m, rfl⟩ := Int.eq_ofNat_of_zero_le ha
  obtain ⟨n, rfl⟩ := Int.eq_ofNat_of_zero_le hb
  rw [IntKind.wrap_u64, IntKind.wrap_u64, show ((m : Int) * 256) % 18446744073709551616 = ((m * 256 : Nat) : Int) by omega, show (n : Int) % 18446744073709551616 = (n : Int) by omega, bits_or_u64_nat _ _ (by omega) (by omega), or_low _ _ (by omega)]
  omega
set_option maxRecDepth 100000 in
theorem uint64_calls (v : Value) (xs : List Int) (w : World) (hx : RL .u8 w v xs) (hd : Dig B8 xs) (hl : xs.length = 8) :
    Calls Try.prog 59 #[.agg #[], v] w fun e w' => e = .returned (.int .u64 (nv B8 xs.reverse)) ∧ Below w.heap.size w w' := by
  obtain ⟨A, c, rfl, hc, hC⟩ := hx
  rw [hl]
  obtain ⟨ad, rfl, _⟩ := C_cell hC 0 (by omega)
  have HC := Aside0.mk hC
  have HD := Aside0.mk hd
  have HL := Aside0.mk hl
  rw [hl] at hc
  clear hC hd hl
  go_enter Try.func59, Try.ntmps59
  go_wp2_with fail
  go_loopg [11, 5] 8 (fun kk v11 v5 wr => ∃ (i : Nat), i + kk = 8 ∧ v11 = .int .i64 i ∧ v5 = .int .u64 (nv B8 (xs.take i).reverse) ∧ Aside0 (Below w.heap.size w wr))
  case atStart => exact ⟨0, by omega, rfl, rfl, ⟨below_alloc1 _ _⟩⟩
  case round =>
    obtain ⟨i, hi, rfl, rfl, HW⟩ := hrel
    obtain ⟨n, hn⟩ : ∃ n, nv B8 (xs.take i).reverse = n := ⟨_, rfl⟩
    rw [hn]
    by_cases h0 : i < 8
    · obtain ⟨ad', he, hcell⟩ := C_cell (Kd.C_below HC.out HW.out) i (by have := HL.out; omega)
      cases he
      obtain ⟨x, hx⟩ : ∃ x, xs.getD i 0 = x := ⟨_, rfl⟩
      rw [hx] at hcell
      have HN := Aside0.mk hn
      have HX := Aside0.mk hx
      clear hn hx
      go_wp2_with fail
      go_roundg (gk - 1)
      case measure => omega
      case rel =>
        have hlen := HL.out
        have hx1 := HX.out ▸ HD.out.getD B8_pos i
        have hn1 := be_lt (HD.out.take i)
        rw [HN.out, List.length_take, Nat.min_eq_left (by omega)] at hn1
        have hp : (256 : Int) ^ i ≤ 256 ^ 7 := pow_le_pow' (by omega) (by omega)
        have h256 : (256 : Int) ^ 7 = 72057594037927936 := by decide
        refine ⟨i + 1, by omega, by go_num, ?_, HW⟩
        rw [be_succ xs i (by omega), HN.out, HX.out]
        exact congrArg (fun z => Value.int .u64 z) (or_low_i n x hn1.1 (by omega) hx1.1 hx1.2)
    · obtain rfl : i = 8 := by omega
      have HN := Aside0.mk hn
      clear hn
      go_wp2_with fail
      go_ret
      refine ⟨?_, HW.out⟩
      rw [← HN.out, List.take_of_length_le (by have := HL.out; omega)]
      rfl
end Go.Proofs.Ytokadjfakncdfaa
