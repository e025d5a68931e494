/- Fields: plain laws, what a field is in memory, words as cells, regions that leave their order open. -/
import Derived.Test.YtokadjfakncdfaaGA
import Derived.StillTailTactics
import Derived.Outline
import Derived.Laws.CopyOwn
import Derived.Laws.Rows
import Derived.Laws.Tables
import Derived.Test.YtokadjfakncdfaaGB
import Derived.ChangeKeysEq
import Derived.Deep.QuietTactic
import Derived.Deep.RegionHeld3
import Derived.Deep.DrawnRows
import Derived.WalkSmall
section
set_option linter.unusedVariables false
set_option linter.unusedSimpArgs false
namespace Go.Proofs.Ytokadjfakncdfaa

/-- The digits of a number, n of them. -/
def dg (n : Nat) (x : Int) : List Int := (List.range n).map fun i => x / B64 ^ i % B64
theorem dg_length (n : Nat) (x : Int) : (dg n x).length = n := by simp [dg]
theorem dg_dig (n : Nat) (x : Int) : Dig B64 (dg n x) := by
  intro y hy
  obtain ⟨i, _, rfl⟩ := List.mem_map.1 hy
  exact ⟨Int.emod_nonneg _ (by decide), Int.emod_lt_of_pos _ (by decide)⟩
theorem dg_succ (n : Nat) (x : Int) : dg (n + 1) x = dg n x ++ [x / B64 ^ n % B64] := by simp [dg, List.range_succ]
theorem emod_mul' (x : Int) {p b : Int} (hp : 0 < p) (hb : 0 < b) : x % (p * b) = x % p + p * (x / p % b) := by
  have h1 := Int.emod_add_mul_ediv x p
  have h2 := Int.emod_add_mul_ediv (x / p) b
  have h3 := Int.emod_nonneg x (Int.ne_of_gt hp)
  have h4 := Int.emod_lt_of_pos x hp
  have h5 := Int.emod_nonneg (x / p) (Int.ne_of_gt hb)
  have h6 := Int.emod_lt_of_pos (x / p) hb
  have e : x = x % p + p * (x / p % b) + p * b * (x / p / b) := by grind
  have h7 := Int.mul_le_mul_of_nonneg_left (show x / p % b ≤ b - 1 by omega) (Int.le_of_lt hp)
  have h8 := Int.mul_nonneg (Int.le_of_lt hp) h5
  rw [Int.mul_sub, Int.mul_one] at h7
  conv => lhs; rw [e]
  rw [Int.add_mul_emod_self_left, Int.emod_eq_of_lt (by omega) (by omega)]
theorem dg_nv (n : Nat) (x : Int) : nv B64 (dg n x) = x % B64 ^ n := by
  induction n with
  | zero => simp [dg, nv, Int.emod_one]
  | succ n ih =>
    rw [dg_succ, nv_snoc, ih, dg_length, Int.pow_succ, emod_mul' x (pow_pos' B64_pos n) B64_pos]
theorem dg_nv_lt (n : Nat) (x : Int) (h0 : 0 ≤ x) (h1 : x < B64 ^ n) : nv B64 (dg n x) = x := by
  rw [dg_nv, Int.emod_eq_of_lt h0 h1]
theorem dg_of {n : Nat} {xs : List Int} (h : Dig B64 xs) (hl : xs.length = n) : dg n (nv B64 xs) = xs := by
  refine nv_inj B64_pos (dg_dig _ _) h (by rw [dg_length, hl]) ?_
  have h1 := nv_lt B64_pos h
  rw [hl] at h1
  rw [dg_nv_lt _ _ (nv_nonneg B64_pos h) h1]
theorem dg_of' {n : Nat} {x : Int} {xs : List Int} (h : Dig B64 xs) (hl : xs.length = n) (hx : nv B64 xs = x) : xs = dg n x := by
  rw [← hx, dg_of h hl]
theorem dg_inj {n : Nat} {x y : Int} (h0 : 0 ≤ x) (h1 : x < B64 ^ n) (h2 : 0 ≤ y) (h3 : y < B64 ^ n) : dg n x = dg n y ↔ x = y := by
  refine ⟨fun h => ?_, fun h => by rw [h]⟩
  rw [← dg_nv_lt n x h0 h1, h, dg_nv_lt n y h2 h3]
theorem dg_getD (n : Nat) (x : Int) (i : Nat) (h : i < n) : (dg n x).getD i 0 = x / B64 ^ i % B64 := by
  simp [dg, List.getD_eq_getElem?_getD, h]
theorem nv_digit {a : List Int} (da : Dig B64 a) (i : Nat) : nv B64 a / B64 ^ i % B64 = a.getD i 0 := by
  induction i generalizing a with
  | zero =>
    match a, da with
    | [], _ => simp [nv]
    | x :: xs, da =>
      have := da.head
      rw [nv_cons, Int.pow_zero, Int.ediv_one, Int.add_mul_emod_self_left, Int.emod_eq_of_lt this.1 this.2]; rfl
  | succ i ih =>
    match a, da with
    | [], _ => simp [nv]
    | x :: xs, da =>
      have := da.head
      rw [nv_cons, Int.pow_succ, Int.mul_comm (B64 ^ i), ← Int.ediv_ediv_of_nonneg (Int.le_of_lt B64_pos), Int.add_mul_ediv_left _ _ (by decide), Int.ediv_eq_zero_of_lt this.1 this.2, Int.zero_add, ih da.tail]
      simp
theorem dg_nv_eq (n : Nat) {a : List Int} (da : Dig B64 a) : dg n (nv B64 a) = (List.range n).map fun i => a.getD i 0 := by
  unfold dg
  exact List.map_congr_left fun i _ => nv_digit da i

/-- Of one rest by m. -/
def Cg (m a b : Int) : Prop := ∃ k, a = b + m * k
theorem Cg.refl (m a : Int) : Cg m a a := ⟨0, by grind⟩
theorem Cg.of_eq {m a b : Int} (h : a = b) : Cg m a b := h ▸ Cg.refl m a
theorem Cg.symm {m a b : Int} (h : Cg m a b) : Cg m b a := by
  obtain ⟨k, h⟩ := h
  exact ⟨-k, by grind⟩
theorem Cg.trans {m a b c : Int} (h : Cg m a b) (h' : Cg m b c) : Cg m a c := by
  obtain ⟨k, h⟩ := h
  obtain ⟨j, h'⟩ := h'
  exact ⟨k + j, by grind⟩
theorem Cg.add {m a b c d : Int} (h : Cg m a b) (h' : Cg m c d) : Cg m (a + c) (b + d) := by
  obtain ⟨k, h⟩ := h
  obtain ⟨j, h'⟩ := h'
  exact ⟨k + j, by grind⟩
theorem Cg.sub {m a b c d : Int} (h : Cg m a b) (h' : Cg m c d) : Cg m (a - c) (b - d) := by
  obtain ⟨k, h⟩ := h
  obtain ⟨j, h'⟩ := h'
  exact ⟨k - j, by grind⟩
theorem Cg.mul {m a b c d : Int} (h : Cg m a b) (h' : Cg m c d) : Cg m (a * c) (b * d) := by
  obtain ⟨k, h⟩ := h
  obtain ⟨j, h'⟩ := h'
  exact ⟨k * c + b * j, by grind⟩
theorem Cg.neg {m a b : Int} (h : Cg m a b) : Cg m (-a) (-b) := by
  obtain ⟨k, h⟩ := h
  exact ⟨-k, by grind⟩
theorem Cg.pow {m a b : Int} (h : Cg m a b) (n : Nat) : Cg m (a ^ n) (b ^ n) := by
  induction n with
  | zero => exact Cg.of_eq (by simp)
  | succ n ih => rw [Int.pow_succ, Int.pow_succ]; exact ih.mul h
theorem Cg.mod (m a : Int) : Cg m (a % m) a := ⟨-(a / m), by have := Int.emod_add_mul_ediv a m; grind⟩
theorem Cg.emod {m a b : Int} (h : Cg m a b) : a % m = b % m := by
  obtain ⟨k, rfl⟩ := h
  rw [Int.add_mul_emod_self_left]
theorem Cg.of_emod {m a b : Int} (h : a % m = b % m) : Cg m a b := (Cg.mod m a).symm.trans (h ▸ Cg.mod m b)
theorem Cg.zero_mul (m k : Int) : Cg m (m * k) 0 := ⟨k, by grind⟩
theorem Cg.emod_of {m a b : Int} (h : Cg m a b) (h0 : 0 ≤ a) (h1 : a < m) : a = b % m := by
  rw [← h.emod, Int.emod_eq_of_lt h0 h1]

/-- What 2^(64 n) is to be taken with to be 1. -/
def rinv (n : Nat) (m : Int) : Int := ((m + 1) / 2) ^ (64 * n)
theorem B64_pow2 (n : Nat) : B64 ^ n = 2 ^ (64 * n) := by
  rw [B64_eq, show (18446744073709551616 : Int) = 2 ^ 64 by decide, ← Int.pow_mul]
theorem mul_rinv (n : Nat) (m : Int) (ho : m % 2 = 1) : Cg m (B64 ^ n * rinv n m) 1 := by
  have h1 : Cg m (2 * ((m + 1) / 2)) 1 := ⟨1, by omega⟩
  have h2 := h1.pow (64 * n)
  rw [Int.one_pow, Int.mul_pow] at h2
  rw [B64_pow2]
  exact h2
/-- 2^(64 n) goes out of a congruence. -/
theorem Cg.cancel {n : Nat} {m a b : Int} (ho : m % 2 = 1) (h : Cg m (a * B64 ^ n) (b * B64 ^ n)) : Cg m a b := by
  have h1 := (mul_rinv n m ho)
  have h2 := h.mul (Cg.refl m (rinv n m))
  have e1 : Cg m (a * B64 ^ n * rinv n m) a := by
    have := (Cg.refl m a).mul h1
    rwa [Int.mul_one, ← Int.mul_assoc] at this
  have e2 : Cg m (b * B64 ^ n * rinv n m) b := by
    have := (Cg.refl m b).mul h1
    rwa [Int.mul_one, ← Int.mul_assoc] at this
  exact e1.symm.trans (h2.trans e2)
/-- What stands for the number a. -/
def mo (n : Nat) (m a : Int) : Int := a * B64 ^ n % m
theorem mo_cg (n : Nat) (m a : Int) : Cg m (mo n m a) (a * B64 ^ n) := Cg.mod _ _
theorem mo_bd (n : Nat) {m : Int} (a : Int) (h : 0 < m) : 0 ≤ mo n m a ∧ mo n m a < m := ⟨Int.emod_nonneg _ (by omega), Int.emod_lt_of_pos _ h⟩
theorem mo_congr {n : Nat} {m a b : Int} (h : Cg m a b) : mo n m a = mo n m b := (h.mul (Cg.refl m _)).emod
theorem mo_eq {n : Nat} {m a b : Int} (ho : m % 2 = 1) : mo n m a = mo n m b ↔ a % m = b % m :=
  ⟨fun h => (Cg.cancel (n := n) ho (Cg.of_emod h)).emod, fun h => mo_congr (Cg.of_emod h)⟩
theorem mo_of {n : Nat} {m a x : Int} (h : Cg m x (a * B64 ^ n)) (h0 : 0 ≤ x) (h1 : x < m) : x = mo n m a := h.emod_of h0 h1
theorem mo_zero (n : Nat) (m : Int) : mo n m 0 = 0 := by simp [mo]
theorem mo_add (n : Nat) (m a b : Int) : (mo n m a + mo n m b) % m = mo n m (a + b) := by
  have h := (mo_cg n m a).add (mo_cg n m b)
  rw [← Int.add_mul] at h
  exact h.emod
theorem mo_neg (n : Nat) (m a : Int) : (m - mo n m a) % m = mo n m (-a) := by
  have h : Cg m (m - mo n m a) (-a * B64 ^ n) := by
    have h1 := (mo_cg n m a).neg
    rw [Int.neg_mul]
    exact Cg.trans ⟨1, by grind⟩ h1
  exact h.emod
/-- What the product divided by 2^(64 n) is. -/
theorem mo_mul {n : Nat} {m a b z : Int} (ho : m % 2 = 1) (h : Cg m (z * B64 ^ n) (mo n m a * mo n m b)) (h0 : 0 ≤ z) (h1 : z < m) : z = mo n m (a * b) := by
  refine mo_of (Cg.cancel (n := n) ho (h.trans ?_)) h0 h1
  have := (mo_cg n m a).mul (mo_cg n m b)
  exact this.trans (Cg.of_eq (by grind))
/-- A number taken with the square is what stands for it. -/
theorem mo_from {n : Nat} {m a z sq : Int} (ho : m % 2 = 1) (hs : Cg m sq (B64 ^ n * B64 ^ n)) (h : Cg m (z * B64 ^ n) (a * sq)) (h0 : 0 ≤ z) (h1 : z < m) : z = mo n m a := by
  refine mo_of (Cg.cancel (n := n) ho (h.trans ?_)) h0 h1
  exact ((Cg.refl m a).mul hs).trans (Cg.of_eq (by grind))
/-- What stands for a number, taken with 1, is the number. -/
theorem mo_out {n : Nat} {m a z : Int} (ho : m % 2 = 1) (h : Cg m (z * B64 ^ n) (mo n m a * 1)) (h0 : 0 ≤ z) (h1 : z < m) : z = a % m := by
  refine Cg.emod_of (Cg.cancel (n := n) ho (h.trans ?_)) h0 h1
  rw [Int.mul_one]
  exact mo_cg _ _ _

/-- A power, bit by bit: the bits of e from i up are taken. -/
theorem pow_bit (a : Int) (e : Nat) : a ^ e = a ^ (e / 2) * a ^ (e / 2) * (if e % 2 = 1 then a else 1) := by
  rw [← Int.pow_add]
  have : e = e / 2 + e / 2 + e % 2 := by omega
  by_cases h : e % 2 = 1
  · rw [if_pos h, ← Int.pow_succ]
    congr 1; omega
  · rw [if_neg h, Int.mul_one]
    congr 1; omega
end Go.Proofs.Ytokadjfakncdfaa
end

section
set_option linter.unusedVariables false
set_option linter.unusedSimpArgs false
namespace Go.Proofs.Ytokadjfakncdfaa
open Go.RowKit Go.Proofs.YtokadjfakncdfaaW.PrintWords Go.Proofs.YtokadjfakncdfaaW.PrintLast Go.Proofs.YtokadjfakncdfaaW.PrintMore
/-- Words as a block's cells. -/
def c64 (v : List Int) : Array Value := (v.map (Value.int .u64)).toArray
theorem c64_size (v : List Int) : (c64 v).size = v.length := by simp [c64]
theorem c64_all (v : List Int) : (c64 v).all (·.oneCell') = true := by
  simp [c64, Array.all_eq_true]
  intro i h
  rfl
theorem c64_set (v : List Int) (i : Nat) (x : Int) : (c64 v).setIfInBounds i (.int .u64 x) = c64 (v.set i x) := by
  simp [c64, List.map_set]
theorem c64_get (v : List Int) (i : Nat) (h : i < v.length) : (c64 v)[i]? = some (.int .u64 (v.getD i 0)) := by
  simp [c64, List.getD_eq_getElem?_getD, h]
theorem c64_cell {W : World} {B e : Nat} {v : List Int} (h : W.heap[B]? = some (.cells (c64 v) e (0, 0))) (i : Nat) (hi : i < v.length) : W.cell? ⟨B, i, none⟩ = some (.int .u64 (v.getD i 0)) :=
  (blk_cell h i).trans (c64_get v i hi)
theorem c64_blk {W : World} {B e : Nat} {v : List Int} (h : W.heap[B]? = some (.cells (c64 v) e (0, 0))) (i : Nat) (x : Int) :
    (W.setCell ⟨B, i, none⟩ (.int .u64 x)).heap[B]? = some (.cells (c64 (v.set i x)) e (0, 0)) := by
  rw [← c64_set]
  exact blk_set h i _
theorem c64_inj {v w : List Int} : c64 v = c64 w ↔ v = w := by
  refine ⟨fun h => ?_, fun h => by rw [h]⟩
  have h1 : v.map (Value.int .u64) = w.map (Value.int .u64) := by simpa [c64] using h
  exact List.map_inj_right (fun a b e => by cases e; rfl) |>.1 h1
/-- A row of which the first i are f's, the others g's. -/
def fillN (n : Nat) (f g : Nat → Int) (i : Nat) : List Int := (List.range n).map fun j => if j < i then f j else g j
theorem fillN_length (n : Nat) (f g : Nat → Int) (i : Nat) : (fillN n f g i).length = n := by simp [fillN]
theorem fillN_set (n : Nat) (f g : Nat → Int) (i : Nat) (x : Int) (hx : x = f i) : (fillN n f g i).set i x = fillN n f g (i + 1) := by
  subst hx
  refine List.ext_getElem (by simp [fillN]) fun j h1 h2 => ?_
  have hj : j < n := by simpa [fillN] using h2
  rw [List.getElem_set]
  by_cases e : i = j
  · subst e
    simp [fillN]
  · rw [if_neg e]
    simp only [fillN, List.getElem_map, List.getElem_range]
    by_cases h : j < i
    · rw [if_pos h, if_pos (by omega)]
    · rw [if_neg h, if_neg (by omega)]
theorem fillN_skip (n : Nat) (f g : Nat → Int) (i : Nat) (hx : g i = f i) : fillN n f g i = fillN n f g (i + 1) := by
  unfold fillN
  refine List.map_congr_left fun j hj => ?_
  by_cases h : j < i
  · rw [if_pos h, if_pos (by omega)]
  · by_cases e : j = i
    · subst e; rw [if_neg h, if_pos (by omega), hx]
    · rw [if_neg h, if_neg (by omega)]
theorem fillN_all (n : Nat) (f g : Nat → Int) : fillN n f g n = (List.range n).map f := by
  unfold fillN
  refine List.map_congr_left fun j hj => ?_
  rw [if_pos (List.mem_range.1 hj)]
/-- Where own rows stand, from block g on: their types and their words. -/
def BB (g : Nat) (W : World) (rows : List (Nat × List Int)) : Prop := ∀ i T xs, rows[i]? = some (T, xs) → W.heap[g + i]? = some (.cells (c64 xs) T (0, 0))
theorem BB.lt {g : Nat} {W : World} {rows : List (Nat × List Int)} (h : BB g W rows) (i : Nat) (hi : i < rows.length) : g + i < W.heap.size :=
  blk_lt (h i rows[i].1 rows[i].2 (by rw [List.getElem?_eq_getElem hi]))
/-- A walk's own rows, and that nothing else has turned. -/
structure SB (w W : World) (rows : List (Nat × List Int)) : Prop where
  R : BB w.heap.size W rows
  B : Below w.heap.size w W
structure SB0 (w W : World) (rows : List (Nat × List Int)) : Prop where
  S : SB w W rows
  N : W.heap.size = w.heap.size + rows.length
theorem SB0.nil (w : World) : SB0 w w [] := ⟨⟨fun i T xs h => by simp at h, Below.refl _ _⟩, rfl⟩
theorem SB0.alloc {w W : World} {rows : List (Nat × List Int)} (h : SB0 w W rows) (T : Nat) (xs : List Int) : SB0 w (W.alloc (.cells (c64 xs) T)) (rows ++ [(T, xs)]) := by
  refine ⟨⟨fun i T' ys e => ?_, below_alloc h.S.B _⟩, by simp [h.N]; omega⟩
  by_cases hi : i < rows.length
  · rw [List.getElem?_append_left hi] at e
    rw [Below.heap_alloc _ _ _ (by have := h.N; omega)]
    exact h.S.R i T' ys e
  · by_cases hi' : i = rows.length
    · subst hi'
      rw [List.getElem?_append_right (Nat.le_refl _), Nat.sub_self] at e
      cases e
      rw [← h.N]
      exact heap_alloc_new _ _
    · rw [List.getElem?_append_right (by omega), List.getElem?_eq_none (by simp; omega)] at e
      cases e
theorem SB.set {w W : World} {rows : List (Nat × List Int)} (h : SB w W rows) (i T : Nat) (xs : List Int) (hi : rows[i]? = some (T, xs)) (k : Nat) (x : Int) :
    SB w (W.setCell ⟨w.heap.size + i, k, none⟩ (.int .u64 x)) (rows.set i (T, xs.set k x)) := by
  have hl : i < rows.length := by
    rcases Nat.lt_or_ge i rows.length with h1 | h1
    · exact h1
    · rw [List.getElem?_eq_none h1] at hi; cases hi
  refine ⟨fun j T' ys e => ?_, below_set h.B (by omega)⟩
  by_cases hj : i = j
  · subst hj
    rw [List.getElem?_set_self hl] at e
    cases e
    exact c64_blk (h.R i T xs hi) k x
  · rw [List.getElem?_set_ne hj] at e
    rw [Below.heap_setCell W _ _ _ (by simp; omega)]
    exact h.R j T' ys e
theorem SB.setRow {w W : World} {rows : List (Nat × List Int)} (h : SB w W rows) (i T : Nat) (xs : List Int) (hi : rows[i]? = some (T, xs)) (ys : List Int) :
    SB w (W.setRow (w.heap.size + i) (c64 ys)) (rows.set i (T, ys)) := by
  have hl : i < rows.length := by
    rcases Nat.lt_or_ge i rows.length with h1 | h1
    · exact h1
    · rw [List.getElem?_eq_none h1] at hi; cases hi
  refine ⟨fun j T' zs e => ?_, below_setRow h.B (by omega) _⟩
  by_cases hj : i = j
  · subst hj
    rw [List.getElem?_set_self hl] at e
    cases e
    exact setRow_heap _ _ _ _ T _ (h.R i T xs hi)
  · rw [List.getElem?_set_ne hj] at e
    rw [setRow_other _ _ _ _ (by omega)]
    exact h.R j T' zs e
theorem SB.drew {w W : World} {rows : List (Nat × List Int)} (h : SB w W rows) : SB w W.drew rows := ⟨h.R, h.B.trans (below_drew (Below.refl _ _))⟩
theorem SB.below {w W W' : World} {rows : List (Nat × List Int)} (h : SB w W rows) (hb : Below W.heap.size W W') : SB w W' rows :=
  ⟨fun i T xs e => (hb.block _ (blk_lt (h.R i T xs e))).trans (h.R i T xs e), h.B.trans (hb.mono h.B.size)⟩
theorem info63 : (Try.prog.info? 63).map (·.size) = some 4 := by kernel_rfl
theorem info62 : (Try.prog.info? 62).map (·.size) = some 6 := by kernel_rfl
theorem c64_info {t n : Nat} {z : List Int} (i : (Try.prog.info? t).map (·.size) = some n) (h : z.length = n) : (Try.prog.info? t).map (·.size) = some (c64 z).size := by
  rw [i, c64_size, h]
theorem c64_sizes {y z : List Int} (h : y.length = z.length) : (c64 y).size = (c64 z).size := by rw [c64_size, c64_size, h]

theorem nv_set_take {B : Int} {zs : List Int} {i : Nat} (h : i < zs.length) (s : Int) : nv B ((zs.set i s).take (i + 1)) = nv B (zs.take i) + B ^ i * s := by
  rw [nv_take_succ, List.getD_eq_getElem?_getD, List.getElem?_set_self h, Option.getD_some, List.take_set_of_le (Nat.le_refl i)]
/-- How far a subtraction word by word has come. -/
structure Bor (n : Nat) (xs ys zs : List Int) (i : Nat) (b : Int) : Prop where
  L : zs.length = n
  D : Dig B64 zs
  B : b = 0 ∨ b = 1
  V : nv B64 (zs.take i) + nv B64 (ys.take i) = nv B64 (xs.take i) + B64 ^ i * b
theorem Bor.start (n : Nat) (xs ys : List Int) : Bor n xs ys (List.replicate n 0) 0 0 := ⟨by simp, Dig.replicate B64_pos n, .inl rfl, by simp [nv]⟩
theorem Bor.step {n : Nat} {xs ys zs : List Int} {i : Nat} {b s b' : Int} (h : Bor n xs ys zs i b) (hi : i < n) (hs : 0 ≤ s ∧ s < B64) (hb : b' = 0 ∨ b' = 1) (hv : s + ys.getD i 0 + b = xs.getD i 0 + B64 * b') : Bor n xs ys (zs.set i s) (i + 1) b' := by
  refine ⟨by rw [List.length_set, h.L], h.D.set hs i, hb, ?_⟩
  rw [nv_set_take (by rw [h.L]; exact hi), nv_take_succ, nv_take_succ]
  have := h.V
  grind
theorem Bor.done {n : Nat} {xs ys zs : List Int} {b : Int} (h : Bor n xs ys zs n b) (dx : Dig B64 xs) (dy : Dig B64 ys) (hx : xs.length = n) (hy : ys.length = n) :
    zs = dg n (nv B64 xs - nv B64 ys) ∧ (b = 1 ↔ nv B64 xs < nv B64 ys) := by
  have h1 := h.V
  rw [List.take_of_length_le (Nat.le_of_eq h.L), List.take_of_length_le (Nat.le_of_eq hx), List.take_of_length_le (Nat.le_of_eq hy)] at h1
  have h2 := nv_lt B64_pos h.D
  have h3 := nv_nonneg B64_pos h.D
  have h4 := nv_lt B64_pos dx
  have h5 := nv_nonneg B64_pos dx
  have h6 := nv_lt B64_pos dy
  have h7 := nv_nonneg B64_pos dy
  rw [h.L] at h2
  rw [hx] at h4
  rw [hy] at h6
  refine ⟨nv_inj B64_pos h.D (dg_dig _ _) (by rw [h.L, dg_length]) ?_, ?_⟩
  · rw [dg_nv]
    refine (Cg.emod_of ⟨b, by grind⟩ h3 h2)
  · rcases h.B with rfl | rfl <;> omega
/-- How far an addition word by word has come. -/
structure Car (n : Nat) (xs ys zs : List Int) (i : Nat) (b : Int) : Prop where
  L : zs.length = n
  D : Dig B64 zs
  B : b = 0 ∨ b = 1
  V : nv B64 (zs.take i) + B64 ^ i * b = nv B64 (xs.take i) + nv B64 (ys.take i)
theorem Car.start (n : Nat) (xs ys : List Int) : Car n xs ys (List.replicate n 0) 0 0 := ⟨by simp, Dig.replicate B64_pos n, .inl rfl, by simp [nv]⟩
theorem Car.step {n : Nat} {xs ys zs : List Int} {i : Nat} {b s b' : Int} (h : Car n xs ys zs i b) (hi : i < n) (hs : 0 ≤ s ∧ s < B64) (hb : b' = 0 ∨ b' = 1) (hv : s + B64 * b' = xs.getD i 0 + ys.getD i 0 + b) : Car n xs ys (zs.set i s) (i + 1) b' := by
  refine ⟨by rw [List.length_set, h.L], h.D.set hs i, hb, ?_⟩
  rw [nv_set_take (by rw [h.L]; exact hi), nv_take_succ, nv_take_succ]
  have := h.V
  grind
theorem Car.done {n : Nat} {xs ys zs : List Int} {b : Int} (h : Car n xs ys zs n b) (hx : xs.length = n) (hy : ys.length = n) :
    nv B64 zs + B64 ^ n * b = nv B64 xs + nv B64 ys := by
  have h1 := h.V
  rwa [List.take_of_length_le (Nat.le_of_eq h.L), List.take_of_length_le (Nat.le_of_eq hx), List.take_of_length_le (Nat.le_of_eq hy)] at h1

/-- The cells of a field: its modulus, that as words, the square, one, and the inverse. -/
def fcells (n : Nat) (m sq on inv : Int) (wv : Value) : Array Value := (((c64 (dg n m)).push wv ++ c64 (dg n sq)) ++ c64 (dg n on)).push (.int .u64 inv)
theorem fcells_m {n : Nat} {m sq on inv : Int} {wv : Value} (i : Nat) (h : i < n) : (fcells n m sq on inv wv)[i]? = some (.int .u64 ((dg n m).getD i 0)) := by
  have h1 : i < (c64 (dg n m)).size := by rw [c64_size, dg_length]; exact h
  unfold fcells
  rw [Array.getElem?_push_lt (by simp; omega), ← Array.getElem?_eq_getElem, Array.getElem?_append_left (by simp; omega), Array.getElem?_append_left (by simp; omega), Array.getElem?_push_lt h1, ← Array.getElem?_eq_getElem h1]
  exact c64_get _ _ (by rw [dg_length]; exact h)
end Go.Proofs.Ytokadjfakncdfaa
end

section
set_option linter.unusedVariables false
set_option linter.unusedSimpArgs false
namespace Go.Proofs.Ytokadjfakncdfaa
open Go.RowKit Go.Proofs.YtokadjfakncdfaaW.PrintWords Go.Proofs.YtokadjfakncdfaaW.PrintLast Go.Proofs.YtokadjfakncdfaaW.PrintMore
theorem mul64_c (x y : Int) (hx : 0 ≤ x ∧ x < B64) (hy : 0 ≤ y ∧ y < B64) : ∃ hi lo : Int, (∀ w, Calls Try.prog 65 #[.int .u64 x, .int .u64 y] w fun e w' => e = .returned (.tuple #[.int .u64 hi, .int .u64 lo]) ∧ w' = w) ∧ (0 ≤ hi ∧ hi < B64) ∧ (0 ≤ lo ∧ lo < B64) ∧ B64 * hi + lo = x * y := by
  have h1 := Int.mul_nonneg hx.1 hy.1
  have h2 := Int.mul_le_mul (show x ≤ B64 - 1 by omega) (show y ≤ B64 - 1 by omega) hy.1 (by decide)
  refine ⟨x * y / B64, x * y % B64, fun w => (mul64_calls x y hx hy w).mono ?_, ?_, ?_, ?_⟩
  · rintro e w' ⟨hi, lo, rfl, a, b, c, rfl⟩
    rw [B64_eq] at *
    have e1 : x * y / 18446744073709551616 = hi := by omega
    have e2 : x * y % 18446744073709551616 = lo := by omega
    exact ⟨by rw [e1, e2], rfl⟩
  · rw [B64_eq] at *; omega
  · exact ⟨Int.emod_nonneg _ (by decide), Int.emod_lt_of_pos _ B64_pos⟩
  · have := Int.emod_add_mul_ediv (x * y) B64
    omega
end Go.Proofs.Ytokadjfakncdfaa
end

section
set_option linter.unusedVariables false
set_option linter.unusedSimpArgs false
namespace Go.Proofs.Ytokadjfakncdfaa
open Go.RowKit Go.Proofs.YtokadjfakncdfaaW.PrintWords Go.Proofs.YtokadjfakncdfaaW.PrintLast Go.Proofs.YtokadjfakncdfaaW.PrintMore
/-- What is asked of a modulus. -/
structure FP (n : Nat) (m : Int) : Prop where
  odd : m % 2 = 1
  lo : 3 ≤ m
  hi : 2 * m < B64 ^ n
theorem FP.pos {n : Nat} {m : Int} (h : FP n m) : 0 < m := by have := h.lo; omega
theorem FP.lt {n : Nat} {m : Int} (h : FP n m) : m < B64 ^ n := by have := h.lo; have := h.hi; omega
theorem FP.nn {n : Nat} {m : Int} (h : FP n m) : 0 ≤ m ∧ m < B64 ^ n := ⟨by have := h.lo; omega, h.lt⟩
/-- A field of the modulus m lies in block g. -/
structure Fd (n T : Nat) (W : World) (g : Nat) (m : Int) : Prop where
  mk ::
  out : ∃ (inv : Int) (wv : Value), W.heap[g]? = some (.cells (fcells n m (B64 ^ n * B64 ^ n % m) (B64 ^ n % m) inv wv) T (0, 0)) ∧ CN W wv m 80 ∧ (0 ≤ inv ∧ inv < B64) ∧ Cg B64 (inv * m) (-1) ∧ FP n m
theorem Fd.below {n T : Nat} {W W' : World} {g : Nat} {m : Int} (h : Fd n T W g m) (hb : Below W.heap.size W W') : Fd n T W' g m := by
  obtain ⟨inv, wv, h1, h2, h3⟩ := h.out
  exact ⟨inv, wv, (hb.block g (blk_lt h1)).trans h1, h2.below hb, h3⟩
theorem Fd.fp {n T : Nat} {W : World} {g : Nat} {m : Int} (h : Fd n T W g m) : FP n m := by
  obtain ⟨inv, wv, h1, h2, h3, h4, h5⟩ := h.out
  exact h5
/-- The element that stands for x. -/
def elt (n : Nat) (x : Int) : Value := .agg (c64 (dg n x))
/-- The end of an addition. -/
theorem add_last {n : Nat} {m X Y c : Int} {zs : List Int} (hm : FP n m) (hX : 0 ≤ X ∧ X < m) (hY : 0 ≤ Y ∧ Y < m) (dz : Dig B64 zs) (lz : zs.length = n) (hc : c = 0 ∨ c = 1) (h : nv B64 zs + B64 ^ n * c = X + Y) :
    (if c = 0 ∧ nv B64 zs < m then zs else dg n (nv B64 zs - m)) = dg n ((X + Y) % m) := by
  have h1 := hm.hi
  have h2 := nv_nonneg B64_pos dz
  have h3 := nv_lt B64_pos dz
  have h4 := hm.lo
  rw [lz] at h3
  obtain rfl : c = 0 := by rcases hc with rfl | rfl <;> omega
  rw [Int.mul_zero, Int.add_zero] at h
  by_cases hl : nv B64 zs < m
  · rw [if_pos ⟨rfl, hl⟩, ← h, Int.emod_eq_of_lt h2 hl, dg_of dz lz]
  · rw [if_neg (fun h => hl h.2), ← h, ← Int.emod_eq_of_lt (a := nv B64 zs - m) (b := m) (by omega) (by omega), Int.sub_emod_right]
theorem eqItems64 (d : Nat) (s t : List Int) (hl : s.length = t.length) (w : World) : ∀ is : List Nat, (∀ j ∈ is, j < s.length) → (Op.eqItems (d + 1) 30 1 (c64 s) (c64 t) is).run Try.prog w = .ok (decide (∀ j ∈ is, s.getD j 0 = t.getD j 0)) w
  | [], _ => by simp [Op.eqItems]
  | j :: is, h => by
    have hj := h j (by simp)
    have px : (part 30 (c64 s) (j * 1)).run Try.prog w = .ok (.int .u64 (s.getD j 0)) w := by
      simp [part, isAgg, run_underlying Try.underlying30, c64, List.getD_eq_getElem?_getD, hj]
    have py : (part 30 (c64 t) (j * 1)).run Try.prog w = .ok (.int .u64 (t.getD j 0)) w := by
      simp [part, isAgg, run_underlying Try.underlying30, c64, List.getD_eq_getElem?_getD, hl ▸ hj]
    simp only [Op.eqItems, Sem.run_bind, px, py, Result.andThen_ok]
    rw [run_equalIn_int w d 30 .u64 .u64 _ _ Try.underlying30]
    have ih := eqItems64 d s t hl w is (fun i hi => h i (by simp [hi]))
    by_cases e : s.getD j 0 = t.getD j 0
    · rw [e]
      simp only [beq_self_eq_true, Bool.not_true, Bool.false_eq_true, if_false, Result.andThen_ok]
      have e2 : (decide (∀ i ∈ j :: is, s.getD i 0 = t.getD i 0)) = decide (∀ i ∈ is, s.getD i 0 = t.getD i 0) := decide_eq_decide.2 (by simp only [List.forall_mem_cons, e, true_and])
      rw [ih, e2]
    · have e' : (s.getD j 0 == t.getD j 0) = false := by simpa using e
      rw [e']
      simp [List.forall_mem_cons]
      intro h'
      simp [List.getD_eq_getElem?_getD] at e
      exact absurd h' e
theorem info30e : ∃ i, Try.prog.info? 30 = some i := by
  cases h : Try.prog.info? 30 with
  | none => exact absurd h (by decide +kernel)
  | some i => exact ⟨i, rfl⟩
theorem cells30 : Try.prog.cellsOf 30 = 1 := by kernel_rfl
theorem list_all_eq {s t : List Int} (hl : s.length = t.length) : (∀ j ∈ List.range s.length, s.getD j 0 = t.getD j 0) ↔ s = t := by
  refine ⟨fun h => List.ext_getElem hl fun i h1 h2 => ?_, fun h => by rw [h]; intros; rfl⟩
  have := h i (List.mem_range.2 h1)
  rwa [List.getD_eq_getElem?_getD, List.getD_eq_getElem?_getD, List.getElem?_eq_getElem h1, List.getElem?_eq_getElem h2] at this
theorem eq63 (s t : List Int) (hs : s.length = 4) (ht : t.length = 4) (w : World) : (Op.equalIn 10000 63 (.agg (c64 s)) (.agg (c64 t))).run Try.prog w = .ok (decide (s = t)) w := by
  obtain ⟨i, hi⟩ := info30e
  rw [run_equalIn_array w 9999 (c64 s) (c64 t) Try.underlying63 hi, cells30, eqItems64 9998 s t (by rw [hs, ht]) w _ (fun j hj => by rw [hs]; exact List.mem_range.1 hj)]
  have e2 : (decide (∀ j ∈ List.range 4, s.getD j 0 = t.getD j 0)) = decide (s = t) := decide_eq_decide.2 (by rw [← hs]; exact list_all_eq (hs.trans ht.symm))
  rw [e2]
theorem eq62 (s t : List Int) (hs : s.length = 6) (ht : t.length = 6) (w : World) : (Op.equalIn 10000 62 (.agg (c64 s)) (.agg (c64 t))).run Try.prog w = .ok (decide (s = t)) w := by
  obtain ⟨i, hi⟩ := info30e
  rw [run_equalIn_array w 9999 (c64 s) (c64 t) Try.underlying62 hi, cells30, eqItems64 9998 s t (by rw [hs, ht]) w _ (fun j hj => by rw [hs]; exact List.mem_range.1 hj)]
  have e2 : (decide (∀ j ∈ List.range 6, s.getD j 0 = t.getD j 0)) = decide (s = t) := decide_eq_decide.2 (by rw [← hs]; exact list_all_eq (hs.trans ht.symm))
  rw [e2]
theorem guard63 : Try.prog.eqGuardType Try.prog.depth 63 = false := by kernel_rfl
theorem guard62 : Try.prog.eqGuardType Try.prog.depth 62 = false := by kernel_rfl
/-- A guarded load of a row. -/
theorem wpList_load_rowG {P : Program} {ops : Array Oper} {rest : List Oper} {o : Oper} {a : Act} {w : World} {Q : Exit → Act → World → Prop} (hw : Region.wanted o (yielded ops a.tmps) = true) (ty : TypeId) (x : Operand) (ho : o.op = .load ty x)
    (g : Nat) (hx : a.eval x = .pointer (some ⟨g, 0, none⟩)) (t : TypeId) (cs : Array Value) (fr : Nat × Nat) (d : TypeDesc) (hg : w.heap[g]? = some (.cells cs t fr))
    (hu : P.underlying ty = some d) (hd : (match d with | .struct _ | .array _ _ => true | _ => false) = true) (hi : (P.info? ty).map (·.size) = some cs.size)
    (h : wpList P ops Q rest (a.put o.dst (.agg cs)) w) : wpList P ops Q (o :: rest) a w := by
  show (if Region.wanted o (yielded ops a.tmps) then _ else _)
  rw [if_pos hw]
  exact Or.inl (wp_load_row ty x ho g hx t cs fr d hg hu hd hi h)
/-- A variable at block b that holds the element of x. -/
structure Bx (n T : Nat) (w : World) (b : Nat) (x : Int) : Prop where
  mk ::
  out : w.heap[b]? = some (.cells (c64 (dg n x)) T (0, 0))
theorem Bx.below {n T : Nat} {w w' : World} {b : Nat} {x : Int} (h : Bx n T w b x) (hb : Below w.heap.size w w') : Bx n T w' b x := ⟨(hb.block b (blk_lt h.out)).trans h.out⟩
theorem elt_load63 {w : World} {b : Nat} {x : Int} (h : Bx 4 63 w b x) : (loadVar 63 ⟨b, 0, none⟩).run Try.prog w = .ok (elt 4 x) w :=
  run_loadVar_row w b 63 63 _ (0, 0) _ h.out Try.underlying63 rfl (c64_info info63 (dg_length _ _))
theorem elt_load62 {w : World} {b : Nat} {x : Int} (h : Bx 6 62 w b x) : (loadVar 62 ⟨b, 0, none⟩).run Try.prog w = .ok (elt 6 x) w :=
  run_loadVar_row w b 62 62 _ (0, 0) _ h.out Try.underlying62 rfl (c64_info info62 (dg_length _ _))
end Go.Proofs.Ytokadjfakncdfaa
end

section
set_option linter.unusedVariables false
set_option linter.unusedSimpArgs false
namespace Go.Proofs.Ytokadjfakncdfaa
open Go.RowKit Go.Proofs.YtokadjfakncdfaaW.PrintWords Go.Proofs.YtokadjfakncdfaaW.PrintLast Go.Proofs.YtokadjfakncdfaaW.PrintMore
theorem tkG {P : Program} {Q : Exit → Act → World → Prop} {md : Region.Mode} {S : World → Prop} {ops : Array Oper} {v : Value} {fuel : Nat} {listed : Array Bool} {a : Act} {w : World} (i : Nat) {o : Oper} (hi : ops[i]? = some o)
    (hs : Region.noSelect ops = true) (hf : Region.free md ops listed i = true) (hr : (Region.ready md ops listed).contains i = true)
    (hQ : ∀ c a w, Q (.panic c) (a.put o.dst v) w → Q (.panic c) a w) (hy : YieldsIf P ops S o v a) (hS : S w)
    (h : wpAnyH P md ops Q S fuel (listed.setIfInBounds i true) (a.put o.dst v) w) : wpAnyH P md ops Q S (fuel + 1) listed a w := wpAnyH_take hi hs hf hr hQ hy hS h
theorem brG {P : Program} {Q : Exit → Act → World → Prop} {md : Region.Mode} {S : World → Prop} {ops : Array Oper} {fuel : Nat} {listed : Array Bool} {a : Act} {w : World} (i : Nat) {o : Oper} (hi : ops[i]? = some o)
    (hr : Region.ready md ops listed = [i])
    (h : ∀ K' : Act → World → Prop, Shut (∀ a w, S w → (S w → wpAnyH P md ops Q S fuel (listed.setIfInBounds i true) a w) → K' a w) → if Region.wanted o (yielded ops a.tmps) = true then Oper.wp P o a w K' Q else K' (a.put o.dst undef) w) :
    wpAnyH P md ops Q S (fuel + 1) listed a w := wpAnyH_ready hr (by simp) (AllReadyH.cons hi h AllReadyH.nil)
theorem loadG {P : Program} {o : Oper} {a : Act} {w : World} {v : Value} (ty : TypeId) (x : Operand) (ho : o.op = .load ty x) (p : Addr) (hx : a.eval x = .pointer (some p)) (h : (loadVar ty p).run P w = .ok v w) : (execOp a.eval o).run P w = .ok (.value v) w := by
  unfold execOp
  simp only [ho, hx, Instr.loadAt, Instr.sureAddr, Sem.run_bind, Sem.run_pure, Result.andThen_ok, h]
theorem below_more {w a b : World} (h : Below w.heap.size w a) (k : Below a.heap.size a b) : Below w.heap.size w b := h.trans (k.mono h.size)
theorem SB.drewN {w W : World} {rows : List (Nat × List Int)} (h : SB w W rows) (k : Nat) : SB w (W.drewN k) rows := ⟨h.R, below_drewN h.B k⟩
theorem wantedN {ops : Array Oper} {tmps : Array Value} {o : Oper} (hg : o.guard = none) : Region.wanted o (yielded ops tmps) = true := by
  unfold Region.wanted; rw [hg]
theorem wantedG {ops : Array Oper} {tmps : Array Value} {o oj : Oper} {d : Tmp} (j : Nat) (want : Bool) (hg : o.guard = some (j, want)) (hj : ops[j]? = some oj) (hd : oj.dst = some d) (hb : tmps[d]? = some (.bool want)) : Region.wanted o (yielded ops tmps) = true := by
  unfold Region.wanted
  rw [hg]
  simp only [yielded, hj, Option.bind_some, hd, hb, beq_self_eq_true]
theorem notWanted {ops : Array Oper} {tmps : Array Value} {o oj : Oper} {d : Tmp} (j : Nat) (want b : Bool) (hg : o.guard = some (j, want)) (hj : ops[j]? = some oj) (hd : oj.dst = some d) (hb : tmps[d]? = some (.bool b)) (hne : b ≠ want) : Region.wanted o (yielded ops tmps) = false := by
  unfold Region.wanted
  rw [hg]
  simp only [yielded, hj, Option.bind_some, hd, hb]
  simpa using hne
theorem notWantedU {ops : Array Oper} {tmps : Array Value} {o oj : Oper} {d : Tmp} (j : Nat) (want : Bool) (hg : o.guard = some (j, want)) (hj : ops[j]? = some oj) (hd : oj.dst = some d) (hb : tmps[d]? = some undef) : Region.wanted o (yielded ops tmps) = false := by
  unfold Region.wanted
  rw [hg]
  simp only [yielded, hj, Option.bind_some, hd, hb]
  rfl
end Go.Proofs.Ytokadjfakncdfaa
end

section
set_option linter.unusedVariables false
set_option linter.unusedSimpArgs false
namespace Go.Proofs.Ytokadjfakncdfaa
open Go.RowKit Go.Proofs.YtokadjfakncdfaaW.PrintWords Go.Proofs.YtokadjfakncdfaaW.PrintLast Go.Proofs.YtokadjfakncdfaaW.PrintMore
theorem getD_set_self {l : List Int} {i : Nat} (h : i < l.length) (x : Int) : (l.set i x).getD i 0 = x := by
  rw [List.getD_eq_getElem?_getD, List.getElem?_set_self h, Option.getD_some]
theorem getD_set_ne {l : List Int} {i j : Nat} (h : i ≠ j) (x : Int) : (l.set i x).getD j 0 = l.getD j 0 := by
  rw [List.getD_eq_getElem?_getD, List.getElem?_set_ne h, ← List.getD_eq_getElem?_getD]
theorem take_set_ge {l : List Int} {i k : Nat} (h : k ≤ i) (x : Int) : (l.set i x).take k = l.take k := List.take_set_of_le h
/-- Within a round: k words of x times y are added. -/
structure In1 (n : Nat) (xs t0 ts : List Int) (y : Int) (k : Nat) (c : Int) : Prop where
  L : ts.length = 8
  D : Dig B64 ts
  C : 0 ≤ c ∧ c < B64
  V : nv B64 (ts.take k) + B64 ^ k * c = nv B64 (t0.take k) + y * nv B64 (xs.take k)
  U : ∀ j, k ≤ j → ts.getD j 0 = t0.getD j 0
theorem In1.start {n : Nat} {xs t0 : List Int} {y : Int} (l : t0.length = 8) (d : Dig B64 t0) : In1 n xs t0 t0 y 0 0 :=
  ⟨l, d, ⟨Int.le_refl 0, by decide⟩, by simp [nv], fun _ _ => rfl⟩
theorem In1.step {n : Nat} {xs t0 ts : List Int} {y : Int} {k : Nat} {c s c' : Int} (h : In1 n xs t0 ts y k c) (hk : k < 8) (hs : 0 ≤ s ∧ s < B64) (hc : 0 ≤ c' ∧ c' < B64)
    (hv : B64 * c' + s = xs.getD k 0 * y + ts.getD k 0 + c) : In1 n xs t0 (ts.set k s) y (k + 1) c' := by
  refine ⟨by rw [List.length_set, h.L], h.D.set hs k, hc, ?_, fun j hj => ?_⟩
  · rw [nv_set_take (by rw [h.L]; exact hk), nv_take_succ, nv_take_succ]
    rw [h.U k (Nat.le_refl k)] at hv
    have := h.V
    grind
  · rw [getD_set_ne (by omega)]
    exact h.U j (by omega)
/-- Behind the n words the carry goes into the next one. -/
theorem In1.done {n : Nat} {xs t0 ts : List Int} {y c s top : Int} (h : In1 n xs t0 ts y n c) (hn : n < 8) (hx : xs.length = n) (hv : s + B64 * top = ts.getD n 0 + c) :
    nv B64 ((ts.set n s).take (n + 1)) + B64 ^ (n + 1) * top = nv B64 (t0.take (n + 1)) + y * nv B64 xs := by
  rw [nv_set_take (by rw [h.L]; exact hn), nv_take_succ, Int.pow_succ]
  have h1 := h.V
  rw [List.take_of_length_le (l := xs) (Nat.le_of_eq hx)] at h1
  rw [h.U n (Nat.le_refl n)] at hv
  grind
/-- Within a round: w times the modulus is added, and a word goes out. -/
structure In2 (n : Nat) (ms t1 ts : List Int) (w : Int) (k : Nat) (c : Int) : Prop where
  L : ts.length = 8
  D : Dig B64 ts
  C : 0 ≤ c ∧ c < B64
  V : nv B64 (ts.take (k - 1)) * B64 + B64 ^ k * c = nv B64 (t1.take k) + w * nv B64 (ms.take k)
  U : ∀ j, k ≤ j → ts.getD j 0 = t1.getD j 0
theorem In2.start {n : Nat} {ms t1 : List Int} {w c : Int} (l : t1.length = 8) (d : Dig B64 t1) (hc : 0 ≤ c ∧ c < B64) (hv : B64 * c = ms.getD 0 0 * w + t1.getD 0 0) : In2 n ms t1 t1 w 1 c := by
  refine ⟨l, d, hc, ?_, fun _ _ => rfl⟩
  rw [show (1 : Nat) = 0 + 1 from rfl, nv_take_succ, nv_take_succ]
  simp [nv]
  grind
theorem In2.step {n : Nat} {ms t1 ts : List Int} {w : Int} {k : Nat} {c s c' : Int} (h : In2 n ms t1 ts w k c) (h1 : 1 ≤ k) (hk : k < 8) (hs : 0 ≤ s ∧ s < B64) (hc : 0 ≤ c' ∧ c' < B64)
    (hv : B64 * c' + s = w * ms.getD k 0 + ts.getD k 0 + c) : In2 n ms t1 (ts.set (k - 1) s) w (k + 1) c' := by
  obtain ⟨q, rfl⟩ : ∃ q, k = q + 1 := ⟨k - 1, by omega⟩
  have hV := h.V
  simp only [Nat.add_sub_cancel] at hV ⊢
  refine ⟨by rw [List.length_set, h.L], h.D.set hs q, hc, ?_, fun j hj => ?_⟩
  · simp only [Nat.add_sub_cancel]
    rw [nv_set_take (by rw [h.L]; omega), nv_take_succ _ _ (q + 1), nv_take_succ _ _ (q + 1), Int.pow_succ _ (q + 1)]
    rw [h.U (q + 1) (Nat.le_refl _)] at hv
    rw [Int.pow_succ] at hV ⊢
    grind
  · rw [getD_set_ne (by omega)]
    exact h.U j (by omega)
theorem In2.done {n : Nat} {ms t1 ts : List Int} {w c s d : Int} (h : In2 n ms t1 ts w n c) (h0 : 1 ≤ n) (hn : n < 8) (hm : ms.length = n) (hv : s + B64 * d = ts.getD n 0 + c) :
    nv B64 (((ts.set (n - 1) s).set n d).take (n + 1)) * B64 = nv B64 (t1.take (n + 1)) + w * nv B64 ms := by
  obtain ⟨q, rfl⟩ : ∃ q, n = q + 1 := ⟨n - 1, by omega⟩
  have hV := h.V
  simp only [Nat.add_sub_cancel] at hV ⊢
  rw [nv_set_take (by rw [List.length_set, h.L]; omega), nv_set_take (by rw [h.L]; omega), nv_take_succ _ t1 (q + 1)]
  rw [List.take_of_length_le (l := ms) (Nat.le_of_eq hm)] at hV
  rw [h.U (q + 1) (Nat.le_refl _)] at hv
  rw [Int.pow_succ] at hV ⊢
  grind
/-- Between two rounds. -/
structure Mid (n : Nat) (m X : Int) (ys ts : List Int) (i : Nat) : Prop where
  L : ts.length = 8
  D : Dig B64 ts
  V : Cg m (nv B64 (ts.take (n + 1)) * B64 ^ i) (X * nv B64 (ys.take i))
  B : nv B64 (ts.take (n + 1)) < 2 * m
theorem Mid.start (n : Nat) {m X : Int} (ys : List Int) (hm : 0 < m) : Mid n m X ys (List.replicate 8 0) 0 := by
  have e : nv B64 ((List.replicate 8 0 : List Int).take (n + 1)) = 0 := by rw [List.take_replicate, nv_replicate]
  refine ⟨rfl, Dig.replicate B64_pos 8, ?_, by rw [e]; omega⟩
  rw [e]
  exact Cg.of_eq (by simp [nv])
theorem top_zero {n : Nat} {m X y top T0 T1 : Int} (hp : FP n m) (hX : 0 ≤ X ∧ X < m) (hy : 0 ≤ y ∧ y < B64) (ht : top = 0 ∨ top = 1) (h0 : 0 ≤ T1) (hB : T0 < 2 * m)
    (h : T1 + B64 ^ (n + 1) * top = T0 + y * X) : top = 0 := by
  rcases ht with rfl | rfl
  · rfl
  · have h1 := hp.hi
    have h2 := hp.lo
    rw [Int.pow_succ, Int.mul_one, B64_eq] at *
    have h3 := Int.mul_le_mul_of_nonneg_left (show X ≤ m by omega) hy.1
    have h4 := Int.mul_le_mul_of_nonneg_right (show y ≤ 18446744073709551615 by omega) (show 0 ≤ m by omega)
    omega
theorem Mid.next {n : Nat} {m X : Int} {ys ts ts' : List Int} {i : Nat} {w : Int} (h : Mid n m X ys ts i) (hp : FP n m) (hX : 0 ≤ X ∧ X < m) (hy : Dig B64 ys) (hw : 0 ≤ w ∧ w < B64) (l : ts'.length = 8) (d : Dig B64 ts')
    (hv : nv B64 (ts'.take (n + 1)) * B64 = nv B64 (ts.take (n + 1)) + ys.getD i 0 * X + w * m) : Mid n m X ys ts' (i + 1) := by
  have hb := h.B
  have h2 := hp.lo
  have hy' := hy.getD B64_pos i
  refine ⟨l, d, ?_, ?_⟩
  · obtain ⟨q, hq⟩ := h.V
    refine ⟨q + w * B64 ^ i, ?_⟩
    rw [nv_take_succ _ ys i, Int.pow_succ]
    generalize nv B64 (ts'.take (n + 1)) = T' at *
    generalize nv B64 (ts.take (n + 1)) = T at *
    generalize ys.getD i 0 = y at *
    generalize B64 ^ i = P at *
    have : T' * (P * B64) = (T' * B64) * P := by grind
    rw [this, hv]
    grind
  · generalize nv B64 (ts'.take (n + 1)) = T' at *
    generalize nv B64 (ts.take (n + 1)) = T at *
    generalize ys.getD i 0 = y at *
    have h3 := Int.mul_le_mul_of_nonneg_left (show X ≤ m by omega) hy'.1
    rw [B64_eq] at *
    have h4 := Int.mul_le_mul_of_nonneg_right (show y ≤ 18446744073709551615 by omega) (show 0 ≤ m by omega)
    have h5 := Int.mul_le_mul_of_nonneg_right (show w ≤ 18446744073709551615 by omega) (show 0 ≤ m by omega)
    omega
/-- What stands behind the last round. -/
theorem Mid.done {n : Nat} {m X : Int} {ys ts : List Int} (h : Mid n m X ys ts n) (hp : FP n m) (hn : n < 8) (ly : ys.length = n) :
    ts.getD n 0 = 0 ∧ Cg m (nv B64 (ts.take n) * B64 ^ n) (X * nv B64 ys) ∧ nv B64 (ts.take n) < 2 * m := by
  have h1 := h.V
  have h2 := h.B
  rw [List.take_of_length_le (l := ys) (Nat.le_of_eq ly)] at h1
  rw [nv_take_succ] at h1 h2
  have h3 := h.D.getD B64_pos n
  have h4 := nv_nonneg B64_pos (h.D.take n)
  have h5 := hp.hi
  have h6 := pow_pos' B64_pos n
  have e : ts.getD n 0 = 0 := by
    rcases Int.lt_or_le 0 (ts.getD n 0) with h7 | h7
    · have h8 := Int.mul_le_mul_of_nonneg_left (show 1 ≤ ts.getD n 0 by omega) (Int.le_of_lt h6)
      omega
    · omega
  rw [e, Int.mul_zero, Int.add_zero] at h1 h2
  exact ⟨e, h1, h2⟩
/-- The end of a product. -/
theorem mul_last {n : Nat} {m P : Int} {zs : List Int} (hm : FP n m) (dz : Dig B64 zs) (lz : zs.length = n) (h : Cg m (nv B64 zs * B64 ^ n) P) (h2 : nv B64 zs < 2 * m) :
    ∃ Z, (if (0 : Int) = 0 ∧ nv B64 zs < m then zs else dg n (nv B64 zs - m)) = dg n Z ∧ Cg m (Z * B64 ^ n) P ∧ 0 ≤ Z ∧ Z < m := by
  have h3 := nv_nonneg B64_pos dz
  by_cases hl : nv B64 zs < m
  · refine ⟨nv B64 zs, ?_, h, h3, hl⟩
    rw [if_pos ⟨rfl, hl⟩, dg_of dz lz]
  · refine ⟨nv B64 zs - m, by rw [if_neg (fun h => hl h.2)], ?_, by omega, by omega⟩
    rw [Int.sub_mul]
    obtain ⟨q, hq⟩ := h
    exact ⟨q - B64 ^ n, by grind⟩
/-- The word w makes the lowest word go. -/
theorem low_goes {m0 inv t w : Int} (hi : Cg B64 (inv * m0) (-1)) (hw : w = t * inv % B64) {hi' lo s d : Int} (h1 : B64 * hi' + lo = w * m0) (h2 : s + B64 * d = lo + t) (hs : 0 ≤ s ∧ s < B64) : B64 * (hi' + d) = w * m0 + t := by
  obtain ⟨q, hq⟩ := hi
  have h3 : Cg B64 w (t * inv) := hw ▸ Cg.mod _ _
  obtain ⟨r, hr⟩ := h3
  have h4 : s = B64 * (t * q + r * m0 - hi' - d) + 0 := by grind
  have h5 : s % B64 = 0 := by rw [h4, Int.add_zero, Int.mul_emod_right]
  rw [Int.emod_eq_of_lt hs.1 hs.2] at h5
  grind

theorem fcells_size (n : Nat) (m sq on inv : Int) (wv : Value) : (fcells n m sq on inv wv).size = 3 * n + 2 := by
  simp [fcells, c64_size, dg_length]; omega
theorem fcells_inv (n : Nat) (m sq on inv : Int) (wv : Value) : (fcells n m sq on inv wv)[3 * n + 1]? = some (.int .u64 inv) := by
  have e : 3 * n + 1 = (((c64 (dg n m)).push wv ++ c64 (dg n sq)) ++ c64 (dg n on)).size := by simp [c64_size, dg_length]; omega
  unfold fcells
  rw [e]
  simp
theorem fcells_wv (n : Nat) (m sq on inv : Int) (wv : Value) : (fcells n m sq on inv wv)[n]? = some wv := by
  have e : n = (c64 (dg n m)).size := by simp [c64_size, dg_length]
  unfold fcells
  rw [Array.getElem?_push, if_neg (by simp [c64_size, dg_length]; omega), Array.getElem?_append_left (by simp [c64_size, dg_length] <;> omega), Array.getElem?_append_left (by simp [c64_size, dg_length]), Array.getElem?_push, if_pos e]
theorem fcells_sq (n : Nat) (m sq on inv : Int) (wv : Value) (i : Nat) (h : i < n) : (fcells n m sq on inv wv)[n + 1 + i]? = some (.int .u64 ((dg n sq).getD i 0)) := by
  have e : ((c64 (dg n m)).push wv).size = n + 1 := by simp [c64_size, dg_length]
  unfold fcells
  rw [Array.getElem?_push, if_neg (by simp [c64_size, dg_length]; omega), Array.getElem?_append_left (by simp [c64_size, dg_length]; omega), Array.getElem?_append_right (by rw [e]; omega), e, Nat.add_sub_cancel_left]
  exact c64_get _ _ (by rw [dg_length]; exact h)
theorem fcells_on (n : Nat) (m sq on inv : Int) (wv : Value) (i : Nat) (h : i < n) : (fcells n m sq on inv wv)[2 * n + 1 + i]? = some (.int .u64 ((dg n on).getD i 0)) := by
  have e : ((c64 (dg n m)).push wv ++ c64 (dg n sq)).size = 2 * n + 1 := by simp [c64_size, dg_length]; omega
  unfold fcells
  rw [Array.getElem?_push, if_neg (by simp [c64_size, dg_length]; omega), Array.getElem?_append_right (by rw [e]; omega), e, Nat.add_sub_cancel_left]
  exact c64_get _ _ (by rw [dg_length]; exact h)
theorem low_cg {n : Nat} (hn : 0 < n) {m inv : Int} (h : Cg B64 (inv * m) (-1)) : Cg B64 (inv * (dg n m).getD 0 0) (-1) := by
  rw [dg_getD n m 0 hn, Int.pow_zero, Int.ediv_one]
  exact ((Cg.refl _ inv).mul (Cg.mod B64 m)).trans h
end Go.Proofs.Ytokadjfakncdfaa
end

section
set_option linter.unusedVariables false
set_option linter.unusedSimpArgs false
namespace Go.Proofs.Ytokadjfakncdfaa
open Go.RowKit Go.Proofs.YtokadjfakncdfaaW.PrintWords Go.Proofs.YtokadjfakncdfaaW.PrintLast Go.Proofs.YtokadjfakncdfaaW.PrintMore
open PR
theorem pow_digits (n : Nat) : nv B64 (List.replicate n 0 ++ [1]) = B64 ^ n := by
  rw [nv_snoc, nv_replicate, List.length_replicate, Int.zero_add, Int.mul_one]
set_option maxRecDepth 100000 in
theorem shifted_calls (n : Nat) (hn : n ≤ 50) (w : World) :
    Calls Try.prog 92 #[.int .i64 n] w fun e w' => ∃ v, e = .returned v ∧ DN w' v (B64 ^ n) (n + 1) ∧ Below w.heap.size w w' := by
  go_enter Try.func92, Try.ntmps92
  go_wp2_with (first | ((with_reducible refine gate_dst (N := 4) rfl ?_); refine Kd.R_make (Kd.int .u64) (w0 := w) w.heap.size 30 rfl (N := 4) rfl 31 _ _ rfl (n : Int) rfl rfl Try.underlying31 (.int .u64 0) 8 info30 rfl (by decide) (by omega) 0 (ok := fun k => w.heap.size ≤ k) (okp := fun _ => False) rfl (fun _ hk => hk.elim) (Nat.le_refl _) (by omega) (by omega) (Below.refl _ _) (Nat.le_refl _) ?_; intro v4 w2 ho hw hg hn4; rw [Int.toNat_natCast] at ho; have HO := Aside0.mk ho; have HW := Aside0.mk hw; clear ho hw hg hn4) | (at_builtin; refine Kd.R_append (Kd.int .u64) (w0 := w) w.heap.size rfl _ _ 31 30 (.int .u64 0) 8 rfl Try.underlying31 info30 rfl (by decide) (by omega) v4 (List.replicate n 0) 1 [.int .u64 1] (fun b => w.heap.size ≤ b) (fun _ => False) rfl rfl rfl (fun _ hk => hk.elim) (fun b hb => Nat.le_trans HW.out.size hb) HO.out HW.out HW.out.size (by simp; omega) ?_; intro v1 w1 ho hb hg hat; have HO' := Aside0.mk ho; have HW' := Aside0.mk hb; clear ho hb hg hat))
  go_ret
  exact ⟨_, rfl, ⟨_, RL.of_R HO'.out, (Dig.replicate B64_pos n).snoc (by decide), pow_digits n, by simp⟩, HW'.out⟩
/-- Six steps find what m is to be taken with to be 1 by 2^64. -/
theorem newton_step {m k : Int} {e : Nat} (h : Cg (2 ^ e) (k * m) 1) : Cg (2 ^ (e + e)) (k * (2 - m * k) * m) 1 := by
  obtain ⟨q, hq⟩ := h
  refine ⟨-(q * q), ?_⟩
  rw [Int.pow_add]
  grind
theorem Cg.weaken {a b x y : Int} (h : Cg (a * b) x y) : Cg a x y := by
  obtain ⟨q, hq⟩ := h
  exact ⟨b * q, by grind⟩
theorem newton_mod {m k k' : Int} {e : Nat} (he : e ≤ 64) (hk : Cg B64 k' k) (h : Cg (2 ^ e) (k * m) 1) : Cg (2 ^ e) (k' * m) 1 := by
  have e1 : B64 = 2 ^ e * 2 ^ (64 - e) := by rw [← Int.pow_add, show e + (64 - e) = 64 by omega]; rfl
  rw [e1] at hk
  exact (hk.weaken.mul (Cg.refl _ m)).trans h
/-- What stands behind i steps. -/
def Nwt (m k : Int) (i : Nat) : Prop := 0 ≤ k ∧ k < B64 ∧ Cg (2 ^ (2 ^ i)) (k * m) 1
theorem Nwt.start {m : Int} (ho : m % 2 = 1) : Nwt m 1 0 := ⟨by decide, by decide, ⟨m / 2, by simp; omega⟩⟩
theorem Nwt.step {m m0 k : Int} {i : Nat} (h : Nwt m k i) (hi : i < 6) (hm : Cg B64 m0 m) : Nwt m (k * ((2 - m0 * k % B64) % B64) % B64) (i + 1) := by
  obtain ⟨h0, h1, h2⟩ := h
  refine ⟨Int.emod_nonneg _ (by decide), Int.emod_lt_of_pos _ B64_pos, ?_⟩
  have h3 := newton_step h2
  rw [show 2 ^ i + 2 ^ i = 2 ^ (i + 1) by rw [Nat.pow_succ]; omega] at h3
  have h4 : 2 ^ (i + 1) ≤ 64 := by
    have : i = 0 ∨ i = 1 ∨ i = 2 ∨ i = 3 ∨ i = 4 ∨ i = 5 := by omega
    rcases this with rfl | rfl | rfl | rfl | rfl | rfl <;> decide
  refine newton_mod h4 ?_ h3
  refine (Cg.mod _ _).trans ((Cg.refl _ k).mul ((Cg.mod _ _).trans ?_))
  exact (Cg.refl _ 2).sub ((Cg.mod _ _).trans (hm.mul (Cg.refl _ k)))
theorem Nwt.done {m k : Int} (h : Nwt m k 6) : Cg B64 (k * m) 1 := h.2.2
theorem B64_half (n : Nat) (h : 0 < n) : B64 ^ n = ((2 * 2 ^ (64 * n - 1) : Nat) : Int) := by
  rw [B64_pow2, show (2 : Nat) * 2 ^ (64 * n - 1) = 2 ^ (64 * n) by rw [← Nat.pow_succ']; congr 1; omega]
  simp
theorem bits_hi {n r : Nat} {m : Int} (hn : 0 < n) (h0 : 0 ≤ m) (hr : LenN m.toNat r) (hb : 2 * m < B64 ^ n) (h2 : 2 ≤ r) : (r : Int) < 64 * n := by
  obtain ⟨h1, h3⟩ := hr
  rcases Nat.lt_or_ge r (64 * n) with h6 | h6
  · omega
  · exfalso
    have h7 : 2 ^ (64 * n - 1) ≤ 2 ^ (r - 1) := Nat.pow_le_pow_right (by decide) (by omega)
    rw [B64_half n hn] at hb
    generalize 2 ^ (64 * n - 1) = P at *
    generalize 2 ^ (r - 1) = Q at *
    generalize 2 ^ r = U at *
    omega
theorem bits_lo {n r : Nat} {m : Int} (hn : 0 < n) (h0 : 0 ≤ m) (hr : LenN m.toNat r) (hb : B64 ^ n ≤ 2 * m) : 64 * n ≤ r := by
  obtain ⟨h1, h3⟩ := hr
  rcases Nat.lt_or_ge r (64 * n) with h6 | h6
  · exfalso
    have h7 : 2 ^ r ≤ 2 ^ (64 * n - 1) := Nat.pow_le_pow_right (by decide) (by omega)
    rw [B64_half n hn] at hb
    generalize 2 ^ (64 * n - 1) = P at *
    generalize 2 ^ (r - 1) = Q at *
    generalize 2 ^ r = U at *
    omega
  · exact h6
theorem bits_two {r : Nat} {m : Int} (h3 : 2 ≤ m) (hr : LenN m.toNat r) : ¬ (r : Int) < 2 := fun h => by
  have h1 := hr.1
  have h2 : 2 ^ r ≤ 2 ^ 1 := Nat.pow_le_pow_right (by decide) (by omega)
  generalize 2 ^ r = U at *
  omega
theorem FP.len {n : Nat} {m : Int} {xs : List Int} (hn : 0 < n) (dx : Dig B64 xs) (hx : nv B64 xs = m) (hp : FP n m) : ∃ r : Nat, LenN m.toNat r ∧ ¬ ((r : Int) < 2) ∧ (r : Int) < 64 * n := by
  obtain ⟨r, h1, h3⟩ := lenN_of dx
  rw [hx] at h1
  have h4 := hp.lo
  have h2 := bits_two (show 2 ≤ m by omega) h1
  exact ⟨r, h1, h2, bits_hi hn (by omega) h1 hp.hi (by omega)⟩
theorem CN.mono {w : World} {v : Value} {n : Int} {L L' : Nat} (h : CN w v n L) (hl : L ≤ L') : CN w v n L' := by
  obtain ⟨ys, h1, h2, h3, h4⟩ := h.out
  exact ⟨ys, h1, h2, h3, Nat.le_trans h4 hl⟩
theorem CN.slice {w : World} {v : Value} {n : Int} {L : Nat} (h : CN w v n L) : ∃ A k c, v = .slice A k c := by
  obtain ⟨ys, h1, h2⟩ := h.out
  obtain ⟨A, c, e, _⟩ := h1
  exact ⟨A, _, c, e⟩
theorem bit0_calls {w : World} {v : Value} {m : Int} {la : Nat} (b : Int) (hb : m % 2 = b) (h : DN w v m la) (hl : la ≤ 100) : Calls Try.prog 33 #[v, .int .i64 0] w fun e w' => e = .returned (.int .u64 b) ∧ w' = w := by
  obtain ⟨xs, h1, h2, h3, h4⟩ := h.out
  have := bit_calls v xs 0 w h1 h2 (by omega) (by omega)
  rw [h3] at this
  unfold nbit at this
  simp only [Nat.pow_zero, Int.natCast_one, Int.ediv_one] at this
  rw [hb] at this
  exact this
end Go.Proofs.Ytokadjfakncdfaa
end

section
set_option linter.unusedVariables false
set_option linter.unusedSimpArgs false
namespace Go.Proofs.Ytokadjfakncdfaa
open Go.RowKit Go.Proofs.YtokadjfakncdfaaW.PrintWords Go.Proofs.YtokadjfakncdfaaW.PrintLast Go.Proofs.YtokadjfakncdfaaW.PrintMore
theorem run_loadVar_part {P : Program} (w : World) (g o : Nat) (t ty : TypeId) (cs : Array Value) (xs : List Int) (d : TypeDesc) (hg : w.heap[g]? = some (.cells cs t (0, 0)))
    (hu : P.underlying ty = some d) (hd : (match d with | .struct _ | .array _ _ => true | _ => false) = true) (hi : (P.info? ty).map (·.size) = some xs.length)
    (hc : ∀ j, j < xs.length → cs[o + j]? = some (.int .u64 (xs.getD j 0))) :
    (loadVar ty ⟨g, o, none⟩).run P w = .ok (.agg (c64 xs)) w := by
  have hl : (loadCells ⟨g, o, none⟩ (xs.map (Value.int .u64)).length).run P w = .ok (xs.map (Value.int .u64)).toArray w :=
    run_loadCells_list (P := P) w ⟨g, o, none⟩ (xs.map (Value.int .u64)) (fun j v hv => by
      have hj : j < xs.length := by
        rcases Nat.lt_or_ge j xs.length with h | h
        · exact h
        · rw [List.getElem?_eq_none (by simpa using h)] at hv; cases hv
      have hadd : (⟨g, o, none⟩ : Addr).add j = ⟨g, o + j, none⟩ := by unfold Addr.add; split <;> simp_all
      rw [hadd, cell_of_row w g (o + j) cs t (0, 0) hg, hc j hj]
      have : (xs.map (Value.int .u64))[j]? = some (.int .u64 (xs.getD j 0)) := by simp [List.getD_eq_getElem?_getD, hj]
      rw [← hv, this])
  cases hq : P.info? ty with
  | none => simp [hq] at hi
  | some i =>
    have hs : i.size = xs.length := by simpa [hq] using hi
    have hagg : (isAgg ty).run P w = .ok true w := by
      unfold isAgg
      rw [Sem.run_bind, run_underlying hu w]
      cases d <;> simp_all
    rw [List.length_map] at hl
    simp [loadVar, Sem.run_bind, hagg, sizeOf, typeInfo, hq, hs, hl, c64]
theorem results_cell_tmp {P : Program} {fn : Func} {p q : Tmp} {ty : TypeId} (h : fn.results = #[.cell p ty, .tmp q]) (tmps : Array Value) (w : World) (g : Nat) (t : TypeId) (cs : Array Value) (fr : Nat × Nat) (d : TypeDesc) (v : Value)
    (hp : tmps.getD p undef = .pointer (some ⟨g, 0, none⟩)) (hq : tmps.getD q undef = v) (hg : w.heap[g]? = some (.cells cs t fr))
    (hu : P.underlying ty = some d) (hd : (match d with | .struct _ | .array _ _ => true | _ => false) = true) (hi : (P.info? ty).map (·.size) = some cs.size) :
    (results fn tmps).run P w = .ok (.tuple #[.agg cs, v]) w := by
  have hp' : tmps[p]?.getD undef = .pointer (some ⟨g, 0, none⟩) := by simpa using hp
  have hq' : tmps[q]?.getD undef = v := by simpa using hq
  simp [results, h, hp', hq', asAddr, run_loadVar_row w g t ty cs fr d hg hu hd hi]
/-- A block's cells, kept. -/
structure Fr (w : World) (g T : Nat) (cs : Array Value) : Prop where
  mk ::
  out : ∀ w', Below w.heap.size w w' → w'.heap[g]? = some (.cells cs T (0, 0))
theorem Fr.of {w : World} {g T : Nat} {cs : Array Value} (h : w.heap[g]? = some (.cells cs T (0, 0))) : Fr w g T cs := ⟨fun w' hb => (hb.block g (blk_lt h)).trans h⟩
theorem size_boxed (w : World) (o : Obj) (g : Nat) (cs : Array Value) : ((w.alloc o).setRow g cs).heap.size = w.heap.size + 1 := by simp
theorem dn_one (w : World) (k : Int) (e : Nat) (hk : 0 ≤ k ∧ k < B64) : DN (w.alloc (.cells #[.int .u64 k] e)) (.slice (some ⟨w.heap.size, 0, none⟩) 1 1) k 1 := by
  have := DN.lits (W := w.alloc (.cells #[.int .u64 k] e)) (g := w.heap.size) (e := e) [k] (heap_alloc_new w _) 1 (Nat.le_refl _) (by decide) (Dig.nil.cons hk)
  rwa [show nv B64 [k] = k by simp [nv]] at this
end Go.Proofs.Ytokadjfakncdfaa
end
