/- The contracts of nat, told by numbers alone: what the walks of the laws go by. -/
import Derived.Test.YtokadjfakncdfaaN7
import Derived.Test.YtokadjfakncdfaaN8
import Derived.Test.YtokadjfakncdfaaN12
import Derived.Test.YtokadjfakncdfaaN13
set_option linter.unusedVariables false
set_option linter.unusedSimpArgs false
namespace Go.Proofs.Ytokadjfakncdfaa
open Go.RowKit Go.Proofs.YtokadjfakncdfaaW.PrintWords Go.Proofs.YtokadjfakncdfaaW.PrintLast Go.Proofs.YtokadjfakncdfaaW.PrintMore

/-- v reads as words of the number n, at most L of them. -/
structure DN (w : World) (v : Value) (n : Int) (L : Nat) : Prop where
  mk ::
  out : ∃ ys, RL .u64 w v ys ∧ Dig B64 ys ∧ nv B64 ys = n ∧ ys.length ≤ L
/-- The same, in form. -/
structure CN (w : World) (v : Value) (n : Int) (L : Nat) : Prop where
  mk ::
  out : ∃ ys, RL .u64 w v ys ∧ Canon B64 ys ∧ nv B64 ys = n ∧ ys.length ≤ L

theorem CN.dn {w : World} {v : Value} {n : Int} {L : Nat} (h : CN w v n L) : DN w v n L := by
  obtain ⟨ys, h1, h2, h3, h4⟩ := h.out
  exact ⟨ys, h1, h2.1, h3, h4⟩
theorem DN.below {w w' : World} {v : Value} {n : Int} {L : Nat} (h : DN w v n L) (hb : Below w.heap.size w w') : DN w' v n L := by
  obtain ⟨ys, h1, h2, h3, h4⟩ := h.out
  exact ⟨ys, h1.below hb, h2, h3, h4⟩
theorem CN.below {w w' : World} {v : Value} {n : Int} {L : Nat} (h : CN w v n L) (hb : Below w.heap.size w w') : CN w' v n L := by
  obtain ⟨ys, h1, h2, h3, h4⟩ := h.out
  exact ⟨ys, h1.below hb, h2, h3, h4⟩
theorem DN.mono {w : World} {v : Value} {n : Int} {L L' : Nat} (h : DN w v n L) (hl : L ≤ L') : DN w v n L' := by
  obtain ⟨ys, h1, h2, h3, h4⟩ := h.out
  exact ⟨ys, h1, h2, h3, Nat.le_trans h4 hl⟩
theorem DN.nonneg {w : World} {v : Value} {n : Int} {L : Nat} (h : DN w v n L) : 0 ≤ n := by
  obtain ⟨ys, h1, h2, h3, h4⟩ := h.out
  rw [← h3]; exact nv_nonneg B64_pos h2
theorem DN.lt {w : World} {v : Value} {n : Int} {L : Nat} (h : DN w v n L) : n < B64 ^ L := by
  obtain ⟨ys, h1, h2, h3, h4⟩ := h.out
  have := nv_lt B64_pos h2
  have := pow_le_pow' B64_pos h4
  omega
theorem Num.cn {w w' : World} {v : Value} {n : Int} (h : Num w w' v n) (L : Nat) (hn : n < B64 ^ L) : CN w' v n L := by
  obtain ⟨ys, h1, h2, h3, h4⟩ := h
  exact ⟨ys, RL.of_R h1, h2, h3, canon_len (by decide) h2 (by omega)⟩
theorem CN.lits {e : Nat} {W : World} {g : Nat} (xs : List Int) (h : W.heap[g]? = some (.cells (xs.map (Value.int .u64)).toArray e (0, 0))) (L : Nat) (hl : xs.length ≤ L) (hL : L ≤ 1000) (hd : Dig B64 xs) (hc : xs.getLast? ≠ some 0) :
    CN W (.slice (some ⟨g, 0, none⟩) xs.length xs.length) (nv B64 xs) L := ⟨xs, RL.lits h (by omega), ⟨hd, hc⟩, rfl, hl⟩
theorem DN.lits {e : Nat} {W : World} {g : Nat} (xs : List Int) (h : W.heap[g]? = some (.cells (xs.map (Value.int .u64)).toArray e (0, 0))) (L : Nat) (hl : xs.length ≤ L) (hL : L ≤ 1000) (hd : Dig B64 xs) :
    DN W (.slice (some ⟨g, 0, none⟩) xs.length xs.length) (nv B64 xs) L := ⟨xs, RL.lits h (by omega), hd, rfl, hl⟩

theorem add_n {w : World} {va vb : Value} {x y : Int} {la lb : Nat} (ha : DN w va x la) (hb : DN w vb y lb) (h1 : la ≤ 80) (h2 : lb ≤ 80) :
    Calls Try.prog 20 #[va, vb] w fun e w' => ∃ v', e = .returned (.tuple #[v', .int .i64 0]) ∧ CN w' v' (x + y) (max la lb + 1) ∧ Below w.heap.size w w' := by
  have e1 := ha.lt
  have e2 := hb.lt
  obtain ⟨xs, a1, a2, rfl, a4⟩ := ha.out
  obtain ⟨ys, b1, b2, rfl, b4⟩ := hb.out
  refine (add_ok va vb xs ys w a1 b1 a2 b2 (by omega) (by omega)).mono ?_
  rintro e w' ⟨v', he, hn, hb'⟩
  refine ⟨v', he, hn.cn _ ?_, hb'⟩
  have h3 := pow_le_pow' B64_pos (Nat.le_max_left la lb)
  have h4 := pow_le_pow' B64_pos (Nat.le_max_right la lb)
  have h5 := pow_pos' B64_pos (max la lb)
  rw [Int.pow_succ, B64_eq] at *
  omega
theorem mul_n {w : World} {va vb : Value} {x y : Int} {la lb : Nat} (ha : DN w va x la) (hb : DN w vb y lb) (h1 : la ≤ 80) (h2 : lb ≤ 80) :
    Calls Try.prog 22 #[va, vb] w fun e w' => ∃ v', e = .returned (.tuple #[v', .int .i64 0]) ∧ CN w' v' (x * y) (la + lb) ∧ Below w.heap.size w w' := by
  have e1 := ha.lt
  have e2 := hb.lt
  have e3 := ha.nonneg
  have e4 := hb.nonneg
  obtain ⟨xs, a1, a2, rfl, a4⟩ := ha.out
  obtain ⟨ys, b1, b2, rfl, b4⟩ := hb.out
  refine (mul_ok va vb xs ys w a1 b1 a2 b2 (by omega) (by omega)).mono ?_
  rintro e w' ⟨v', he, hn, hb'⟩
  refine ⟨v', he, hn.cn _ ?_, hb'⟩
  have h5 := pow_pos' B64_pos la
  rw [Int.pow_add]
  have h6 := Int.mul_le_mul_of_nonneg_left (Int.le_of_lt e2) e3
  have h7 := Int.mul_lt_mul_of_pos_right e1 (pow_pos' B64_pos lb)
  exact Int.lt_of_le_of_lt h6 h7
theorem sub_n {w : World} {va vb : Value} {x y : Int} {la lb : Nat} (ha : DN w va x la) (hb : DN w vb y lb) (h1 : la ≤ 80) (h2 : lb ≤ 80) (hle : y ≤ x) :
    Calls Try.prog 23 #[va, vb] w fun e w' => ∃ v', e = .returned (.tuple #[v', .int .i64 0]) ∧ CN w' v' (x - y) la ∧ Below w.heap.size w w' := by
  have e1 := ha.lt
  have e4 := hb.nonneg
  obtain ⟨xs, a1, a2, rfl, a4⟩ := ha.out
  obtain ⟨ys, b1, b2, rfl, b4⟩ := hb.out
  refine (sub_ok va vb xs ys w a1 b1 a2 b2 (by omega) (by omega) hle).mono ?_
  rintro e w' ⟨v', he, hn, hb'⟩
  exact ⟨v', he, hn.cn _ (by omega), hb'⟩
theorem sub_n' {w : World} {va vb : Value} {x y : Int} {la lb : Nat} (ha : DN w va x la) (hb : DN w vb y lb) (h1 : la ≤ 80) (h2 : lb ≤ 80) (hlt : x < y) :
    Calls Try.prog 23 #[va, vb] w fun e w' => e = .returned (.tuple #[.slice none 0 0, .int .i64 1]) ∧ Below w.heap.size w w' := by
  obtain ⟨xs, a1, a2, rfl, a4⟩ := ha.out
  obtain ⟨ys, b1, b2, rfl, b4⟩ := hb.out
  exact sub_less va vb xs ys w a1 b1 a2 b2 (by omega) (by omega) hlt
theorem divmod_n {w : World} {va vb : Value} {x y : Int} {la lb : Nat} (ha : DN w va x la) (hb : DN w vb y lb) (h1 : la ≤ 80) (h2 : lb ≤ 80) (hpos : 0 < y) :
    Calls Try.prog 25 #[va, vb] w fun e w' => ∃ vq vr, e = .returned (.tuple #[vq, vr, .int .i64 0]) ∧ CN w' vq (x / y) la ∧ CN w' vr (x % y) lb ∧ Below w.heap.size w w' := by
  have e1 := ha.lt
  have e2 := hb.lt
  have e3 := ha.nonneg
  obtain ⟨xs, a1, a2, rfl, a4⟩ := ha.out
  obtain ⟨ys, b1, b2, rfl, b4⟩ := hb.out
  refine (divmod_ok va vb xs ys w a1 b1 a2 b2 (by omega) (by omega) hpos).mono ?_
  rintro e w' ⟨vq, vr, he, hq, hr, hb'⟩
  refine ⟨vq, vr, he, hq.cn _ ?_, hr.cn _ ?_, hb'⟩
  · have := Int.ediv_le_self (nv B64 ys) e3
    omega
  · have := Int.emod_lt_of_pos (nv B64 xs) hpos
    omega
theorem divmod_n' {w : World} {va vb : Value} {x : Int} {la lb : Nat} (ha : DN w va x la) (hb : DN w vb 0 lb) (h1 : la ≤ 80) (h2 : lb ≤ 80) :
    Calls Try.prog 25 #[va, vb] w fun e w' => e = .returned (.tuple #[.slice none 0 0, .slice none 0 0, .int .i64 20]) ∧ Below w.heap.size w w' := by
  obtain ⟨xs, a1, a2, rfl, a4⟩ := ha.out
  obtain ⟨ys, b1, b2, hz, b4⟩ := hb.out
  exact divmod_zero va vb xs ys w a1 b1 b2 (by omega) (by omega) hz
theorem of_n {w : World} {va : Value} {x : Int} {la : Nat} (ha : DN w va x la) (h1 : la ≤ 2000) :
    Calls Try.prog 24 #[va] w fun e w' => ∃ v', e = .returned v' ∧ CN w' v' x la ∧ Below w.heap.size w w' := by
  obtain ⟨xs, a1, a2, rfl, a4⟩ := ha.out
  refine (of_calls va xs w a1 a2 (by omega)).mono ?_
  rintro e w' ⟨v', ys, he, o, c, n, l, hb'⟩
  exact ⟨v', he, ⟨ys, RL.of_R o, c, n, by omega⟩, hb'⟩
theorem same_n {w : World} {va vb : Value} {x y : Int} {la lb : Nat} (ha : CN w va x la) (hb : CN w vb y lb) (h1 : la ≤ 2000) :
    Calls Try.prog 21 #[va, vb] w fun e w' => e = .returned (.bool (decide (x = y))) ∧ Below w.heap.size w w' := by
  obtain ⟨xs, a1, a2, rfl, a4⟩ := ha.out
  obtain ⟨ys, b1, b2, rfl, b4⟩ := hb.out
  refine (same_calls va vb xs ys w a1 b1 (by omega)).mono ?_
  rintro e w' ⟨rfl, hb'⟩
  refine ⟨?_, hb'⟩
  have : decide (xs = ys) = decide (nv B64 xs = nv B64 ys) := by
    by_cases h : xs = ys
    · simp [h]
    · have : nv B64 xs ≠ nv B64 ys := fun e => h (canon_inj B64_pos a2 b2 e)
      simp [h, this]
  rw [this]
theorem same_t {w : World} {va vb : Value} {x y : Int} {la lb : Nat} (ha : CN w va x la) (hb : CN w vb y lb) (h1 : la ≤ 2000) (he : x = y) :
    Calls Try.prog 21 #[va, vb] w fun e w' => e = .returned (.bool true) ∧ Below w.heap.size w w' := by
  subst he
  refine (same_n ha hb h1).mono ?_
  rintro e w' ⟨rfl, hb'⟩
  exact ⟨by simp, hb'⟩
theorem cmp_n {w : World} {va vb : Value} {x y : Int} {la lb : Nat} (ha : DN w va x la) (hb : DN w vb y lb) (h1 : la ≤ 2000) (h2 : lb ≤ 2000) :
    Calls Try.prog 18 #[va, vb] w fun e w' => e = .returned (.int .i64 (cmpI x y)) ∧ Below w.heap.size w w' := by
  obtain ⟨xs, a1, a2, rfl, a4⟩ := ha.out
  obtain ⟨ys, b1, b2, rfl, b4⟩ := hb.out
  exact cmp_calls va vb xs ys w a1 b1 a2 b2 (by omega) (by omega)
theorem bits_n {w : World} {va : Value} {x : Int} {la : Nat} (ha : DN w va x la) (h1 : la ≤ 1000) (r : Nat) (hr : LenN x.toNat r) :
    Calls Try.prog 30 #[va] w fun e w' => e = .returned (.int .i64 r) ∧ Below w.heap.size w w' := by
  obtain ⟨xs, a1, a2, rfl, a4⟩ := ha.out
  refine (bits_calls va xs w a1 a2 (by omega)).mono ?_
  rintro e w' ⟨s, rfl, hs, _, hb'⟩
  rw [hr.uniq hs]
  exact ⟨rfl, hb'⟩
end Go.Proofs.Ytokadjfakncdfaa
