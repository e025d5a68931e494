/- nat: Bytes. -/
import Derived.Test.YtokadjfakncdfaaN7
import Derived.Test.YtokadjfakncdfaaN8
import Derived.Test.YtokadjfakncdfaaN9
import Derived.Test.YtokadjfakncdfaaN14
set_option linter.unusedVariables false
set_option linter.unusedSimpArgs false
namespace Go.Proofs.Ytokadjfakncdfaa
open Go.RowKit Go.Proofs.YtokadjfakncdfaaW.PrintWords Go.Proofs.YtokadjfakncdfaaW.PrintLast Go.Proofs.YtokadjfakncdfaaW.PrintMore
open PR

/-- The i-th byte of a number, the lowest is the 0-th. -/
def nby (n : Int) (i : Nat) : Int := n / ((2 ^ (8 * i) : Nat) : Int) % 256
def bytesOf (n : Int) (k : Nat) : List Int := (List.range k).map fun i => nby n (k - 1 - i)
theorem bytesOf_length (n : Int) (k : Nat) : (bytesOf n k).length = k := by simp [bytesOf]
theorem bytesOf_getD (n : Int) (k i : Nat) (h : i < k) : (bytesOf n k).getD i 0 = nby n (k - 1 - i) := by
  simp [bytesOf, List.getD_eq_getElem?_getD, h]
theorem nby_range (n : Int) (i : Nat) : 0 ≤ nby n i ∧ nby n i < 256 := by unfold nby; omega

theorem nby_word {a : List Int} (da : Dig B64 a) (i : Nat) : nby (nv B64 a) i = a.getD (i / 8) 0 / ((2 ^ (8 * (i % 8)) : Nat) : Int) % 256 := by
  unfold nby
  by_cases h : i / 8 < a.length
  · have h1 := nv_split B64 a (i / 8) (by omega)
    have h2 := nv_lt B64_pos (da.take (i / 8))
    have h3 := nv_nonneg B64_pos (da.take (i / 8))
    rw [List.length_take, Nat.min_eq_left (by omega)] at h2
    have e1 : a.drop (i / 8) = a.getD (i / 8) 0 :: a.drop (i / 8 + 1) := by
      rw [List.drop_eq_getElem_cons h, List.getD_eq_getElem?_getD, List.getElem?_eq_getElem h]; rfl
    rw [e1, nv_cons] at h1
    have h4 := da.getD B64_pos (i / 8)
    have h5 := nv_nonneg B64_pos (da.drop (i / 8 + 1))
    obtain ⟨t, ht⟩ := Int.eq_ofNat_of_zero_le h4.1
    obtain ⟨q, hq⟩ := Int.eq_ofNat_of_zero_le h5
    obtain ⟨lo, hlo⟩ := Int.eq_ofNat_of_zero_le h3
    rw [ht, hq, hlo] at h1
    rw [ht]
    rw [hlo, B64_pow] at h2
    rw [h1, B64_pow, B64_eq]
    have e2 : (lo : Int) + ((2 ^ (64 * (i / 8)) : Nat) : Int) * ((t : Int) + 18446744073709551616 * (q : Int)) = ((lo + 2 ^ (64 * (i / 8)) * (t + 18446744073709551616 * q) : Nat) : Int) := by
      simp [Int.natCast_add, Int.natCast_mul]
    rw [e2, ← Int.natCast_ediv, ← Int.natCast_ediv]
    have e3 : (2 : Nat) ^ (8 * i) = 2 ^ (64 * (i / 8)) * 2 ^ (8 * (i % 8)) := by rw [← Nat.pow_add]; congr 1; omega
    have hlo0 : lo / 2 ^ (64 * (i / 8)) = 0 := Nat.div_eq_of_lt (Int.ofNat_lt.1 h2)
    rw [e3, ← Nat.div_div_eq_div_mul, Nat.add_mul_div_left _ _ (Nat.two_pow_pos _), hlo0, Nat.zero_add]
    have e4 : (18446744073709551616 : Nat) = 2 ^ (8 * (i % 8)) * (256 * 2 ^ (56 - 8 * (i % 8))) := by
      rw [show (256 : Nat) * 2 ^ (56 - 8 * (i % 8)) = 2 ^ (64 - 8 * (i % 8)) by rw [show (256 : Nat) = 2 ^ 8 from rfl, ← Nat.pow_add]; congr 1; omega, ← Nat.pow_add, show 8 * (i % 8) + (64 - 8 * (i % 8)) = 64 by omega]
    rw [e4, Nat.mul_assoc, Nat.add_mul_div_left _ _ (Nat.two_pow_pos _)]
    rw [Nat.mul_assoc 256]
    omega
  · have e : a.getD (i / 8) 0 = 0 := by rw [List.getD_eq_getElem?_getD, List.getElem?_eq_none (by omega)]; rfl
    rw [e]
    have h1 := nv_lt B64_pos da
    have h2 := nv_nonneg B64_pos da
    rw [B64_pow] at h1
    have h3 : (2 : Nat) ^ (64 * a.length) ≤ 2 ^ (8 * i) := Nat.pow_le_pow_right (by omega) (by omega)
    rw [Int.ediv_eq_zero_of_lt h2 (by omega)]
    simp

/-- The bytes laid so far: i of n. -/
structure InvB (x : Int) (n i : Nat) (out : List Int) : Prop where
  len : out.length = n
  done : ∀ j, j < i → out.getD j 0 = nby x (n - 1 - j)
  rest : ∀ j, i ≤ j → out.getD j 0 = 0
theorem InvB.start (x : Int) (n : Nat) : InvB x n 0 (List.replicate n 0) := ⟨by simp, fun j h => by omega, fun j _ => by
  rw [List.getD_eq_getElem?_getD, List.getElem?_replicate]; split <;> rfl⟩
theorem InvB.set {x : Int} {n i : Nat} {out : List Int} (h : InvB x n i out) (hi : i < n) (y : Int) (hy : y = nby x (n - 1 - i)) : InvB x n (i + 1) (out.set i y) := by
  refine ⟨by rw [List.length_set, h.len], fun j hj => ?_, fun j hj => ?_⟩
  · rw [getD_set _ _ _ _ (by rw [h.len]; omega)]
    split
    · next e => rw [hy, show i = j by omega]
    · exact h.done j (by omega)
  · rw [getD_set _ _ _ _ (by rw [h.len]; omega)]
    rw [if_neg (by omega)]
    exact h.rest j (by omega)
theorem InvB.skip {x : Int} {n i : Nat} {out : List Int} (h : InvB x n i out) (hy : nby x (n - 1 - i) = 0) : InvB x n (i + 1) out := by
  refine ⟨h.len, fun j hj => ?_, fun j hj => h.rest j (by omega)⟩
  by_cases e : j = i
  · subst e; rw [hy]; exact h.rest j (Nat.le_refl _)
  · exact h.done j (by omega)
theorem InvB.all {x : Int} {n : Nat} {out : List Int} (h : InvB x n n out) : out = bytesOf x n :=
  ext_getD (by rw [h.len, bytesOf_length]) fun j hj => by rw [h.done j (by rw [← h.len]; exact hj), bytesOf_getD _ _ _ (by rw [← h.len]; exact hj)]
theorem info5' : (Try.prog.info? 5).map (fun i => (i.zero, i.size, i.bytes)) = some (some (.int .u8 0), 1, 1) := by kernel_rfl

set_option maxRecDepth 100000 in
theorem bytes_ok (va : Value) (a : List Int) (n r : Nat) (w : World) (ha : RL .u64 w va a) (da : Dig B64 a) (la : a.length ≤ 80) (hn : n ≤ 640) (hr : LenN (nv B64 a).toNat r) (hrn : r ≤ 8 * n) :
    Calls Try.prog 40 #[va, .int .i64 n] w fun e w' => ∃ v', e = .returned (.tuple #[v', .int .i64 0]) ∧ RL .u8 w' v' (bytesOf (nv B64 a) n) ∧ Below w.heap.size w w' := by
  obtain ⟨A, c, rfl, hc, hC⟩ := ha
  have HA := Aside0.mk (show RL .u64 w (.slice A a.length c) a from ⟨A, c, rfl, hc, hC⟩)
  have HC := Aside0.mk hC
  have DA := Aside0.mk da
  have HR := Aside0.mk hr
  clear hC da hr
  have hlong : decide (80 < a.length) = false := by simp; omega
  go_enter Try.func40, Try.ntmps40
  go_wp2_with fail
  refine (long1s_calls A a.length c w (by omega)).mono ?_
  rintro e w1 ⟨rfl, hw1⟩
  have B1 := Aside0.mk (show Below w.heap.size w w1 by rw [hw1]; exact below_alloc1 _ _)
  clear hw1
  go_wp2_with fail
  refine (bits_calls _ a _ (HA.out.below B1.out) DA.out (by omega)).mono ?_
  rintro e w2 ⟨s, rfl, hs, _, b2⟩
  obtain rfl : r = s := HR.out.uniq hs
  have B2 := Aside0.mk (B1.out.trans (b2.mono B1.out.size))
  clear b2 hs B1
  go_wp2_with ((with_reducible refine gate_dst (N := 28) rfl ?_); refine Kd.R_make (Kd.int .u8) (w0 := w) w.heap.size 5 rfl (N := 28) rfl 22 _ _ rfl (n : Int) rfl rfl Try.underlying22 (.int .u8 0) 1 info5' rfl (by decide) (by omega) 0 (ok := fun k => w.heap.size ≤ k) (okp := fun _ => False) rfl (fun _ hk => hk.elim) B2.out.size (by omega) (by omega) B2.out B2.out.size ?_; intro v6 w3 ho hw hg hn9; have HO1 := Aside0.mk (show RO .u8 5 w3 w.heap.size v6 (List.replicate n 0) from by rw [Int.toNat_natCast] at ho; exact ho); have HW := Aside0.mk hw; clear ho hw hg hn9; obtain ⟨A6, c6, rfl⟩ := Kd.R_slice HO1.out; rw [List.length_replicate] at HO1; simp only [List.length_replicate])
  go_loopg [31] n (fun kk v31 wr => ∃ (i : Nat) (out : List Int), i + kk = n ∧ v31 = .int .i64 i ∧ Aside0 (InvB (nv B64 a) n i out) ∧ Aside0 (RO .u8 5 wr w.heap.size (.slice A6 n c6) out) ∧ Aside0 (Below w.heap.size w wr))
  case atStart => exact ⟨0, List.replicate n 0, by omega, rfl, ⟨InvB.start _ _⟩, HO1, HW⟩
  case round =>
    clear HO1 HW B2
    obtain ⟨i, out, hi, rfl, HP, HO, HW⟩ := hrel
    by_cases h0 : i < n
    · obtain ⟨K, hK⟩ : ∃ K, K = n - 1 - i := ⟨_, rfl⟩
      have hk0 : (n : Int) - 1 - (i : Int) = (K : Int) := by omega
      have hk1 : K ≤ 640 := by omega
      have HK := Aside0.mk hK
      clear hK
      obtain ⟨g, cap, eo, hg, hlt, cells, hcells⟩ := Kd.R_form HO.out (by have := HP.out.1; omega)
      have EM := HP.out.1
      have HG := Aside0.mk hg
      rw [EM] at eo
      have EM' := Aside0.mk EM
      clear EM hg hcells hlt cells
      cases eo
      by_cases h1 : K / 8 < a.length
      · obtain ⟨ad, rfl, hcell⟩ := C_cell (Kd.C_below HC.out HW.out) _ h1
        obtain ⟨x, hx⟩ : ∃ x, a.getD (K / 8) 0 = x := ⟨_, rfl⟩
        rw [hx] at hcell
        have HX := Aside0.mk hx
        have HXB := Aside0.mk (hx ▸ DA.out.getD B64_pos (K / 8))
        clear hx
        obtain ⟨hcello, hfro⟩ := Kd.R_celln 0 HO.out (i : Int) (by omega) (by have := EM'.out; omega)
        rw [Int.toNat_natCast] at hcello hfro
        go_wp2_with fail
        go_roundg (gk - 1)
        case measure => omega
        case rel =>
          refine ⟨i + 1, out.set i (x / 2 ^ (8 * (K % 8)) % 256), by omega, by go_num, ⟨HP.out.set h0 _ ?_⟩, ⟨?_⟩, ⟨below_set HW.out HG.out⟩⟩
          · rw [← HK.out, nby_word DA.out, HX.out, Int.natCast_pow]
            rfl
          · have := Kd.R_putn HO.out (i : Int) (x / 2 ^ (8 * (K % 8)) % 256)
            rw [Int.toNat_natCast] at this
            exact this
      · have h1' : (a.length : Int) ≤ (K : Int) / 8 := by omega
        go_wp2_with fail
        go_roundg (gk - 1)
        case measure => omega
        case rel =>
          refine ⟨i + 1, out, by omega, by go_num, ⟨HP.out.skip ?_⟩, HO, HW⟩
          rw [← HK.out, nby_word DA.out, List.getD_eq_getElem?_getD, List.getElem?_eq_none (by omega)]
          simp
    · obtain rfl : i = n := by omega
      go_wp2_with fail
      go_ret2
      exact ⟨_, rfl, by rw [← HP.out.all]; exact RL.of_R HO.out, HW.out⟩

set_option maxRecDepth 100000 in
theorem bytes_arg (va : Value) (a : List Int) (n : Int) (r : Nat) (w : World) (ha : RL .u64 w va a) (da : Dig B64 a) (la : a.length ≤ 80) (hn : n ≤ 640) (hn0 : 0 ≤ n) (hr : LenN (nv B64 a).toNat r) (hrn : 8 * n < r) :
    Calls Try.prog 40 #[va, .int .i64 n] w fun e w' => e = .returned (.tuple #[.slice none 0 0, .int .i64 1]) ∧ Below w.heap.size w w' := by
  obtain ⟨A, c, rfl, hc, hC⟩ := ha
  have HA := Aside0.mk (show RL .u64 w (.slice A a.length c) a from ⟨A, c, rfl, hc, hC⟩)
  have DA := Aside0.mk da
  have HR := Aside0.mk hr
  clear hC da hr
  have hlong : decide (80 < a.length) = false := by simp; omega
  go_enter Try.func40, Try.ntmps40
  go_wp2_with fail
  refine (long1s_calls A a.length c w (by omega)).mono ?_
  rintro e w1 ⟨rfl, hw1⟩
  have B1 := Aside0.mk (show Below w.heap.size w w1 by rw [hw1]; exact below_alloc1 _ _)
  clear hw1
  go_wp2_with fail
  refine (bits_calls _ a _ (HA.out.below B1.out) DA.out (by omega)).mono ?_
  rintro e w2 ⟨s, rfl, hs, _, b2⟩
  obtain rfl : r = s := HR.out.uniq hs
  have B2 := Aside0.mk (B1.out.trans (b2.mono B1.out.size))
  clear b2 hs B1
  go_wp2_with fail
  go_ret2
  exact ⟨rfl, B2.out⟩

set_option maxRecDepth 100000 in
theorem bytes_neg (va : Value) (a : List Int) (n : Int) (w : World) (ha : RL .u64 w va a) (la : a.length ≤ 80) (hn : n < 0) :
    Calls Try.prog 40 #[va, .int .i64 n] w fun e w' => e = .returned (.tuple #[.slice none 0 0, .int .i64 1]) ∧ Below w.heap.size w w' := by
  obtain ⟨A, c, rfl, hc, hC⟩ := ha
  clear hC
  have hlong : decide (80 < a.length) = false := by simp; omega
  go_enter Try.func40, Try.ntmps40
  go_wp2_with fail
  refine (long1s_calls A a.length c w (by omega)).mono ?_
  rintro e w1 ⟨rfl, hw1⟩
  have B1 := Aside0.mk (show Below w.heap.size w w1 by rw [hw1]; exact below_alloc1 _ _)
  clear hw1
  go_wp2_with fail
  go_ret2
  exact ⟨rfl, B1.out⟩

set_option maxRecDepth 100000 in
theorem bytes_long (va : Value) (a : List Int) (n : Int) (w : World) (ha : RL .u64 w va a) (la : a.length ≤ 1000) (hl : 80 < a.length) :
    Calls Try.prog 40 #[va, .int .i64 n] w fun e w' => e = .returned (.tuple #[.slice none 0 0, .int .i64 11]) ∧ Below w.heap.size w w' := by
  obtain ⟨A, c, rfl, hc, hC⟩ := ha
  clear hC
  have hlong : decide (80 < a.length) = true := by simp; omega
  go_enter Try.func40, Try.ntmps40
  go_wp2_with fail
  refine (long1s_calls A a.length c w (by omega)).mono ?_
  rintro e w1 ⟨rfl, hw1⟩
  have B1 := Aside0.mk (show Below w.heap.size w w1 by rw [hw1]; exact below_alloc1 _ _)
  clear hw1
  go_wp2_with fail
  go_ret2
  exact ⟨rfl, B1.out⟩

set_option maxRecDepth 100000 in
theorem bytes_long' (va : Value) (a : List Int) (n : Int) (w : World) (ha : RL .u64 w va a) (la : a.length ≤ 80) (hn : 640 < n) :
    Calls Try.prog 40 #[va, .int .i64 n] w fun e w' => e = .returned (.tuple #[.slice none 0 0, .int .i64 11]) ∧ Below w.heap.size w w' := by
  obtain ⟨A, c, rfl, hc, hC⟩ := ha
  clear hC
  have hlong : decide (80 < a.length) = false := by simp; omega
  go_enter Try.func40, Try.ntmps40
  go_wp2_with fail
  refine (long1s_calls A a.length c w (by omega)).mono ?_
  rintro e w1 ⟨rfl, hw1⟩
  have B1 := Aside0.mk (show Below w.heap.size w w1 by rw [hw1]; exact below_alloc1 _ _)
  clear hw1
  go_wp2_with fail
  go_ret2
  exact ⟨rfl, B1.out⟩
end Go.Proofs.Ytokadjfakncdfaa
