/- Plain laws: division, bit by bit. -/
import Derived.Test.YtokadjfakncdfaaN9
import Derived.Laws.Bits64b
set_option linter.unusedVariables false
namespace Go.Proofs.Ytokadjfakncdfaa

/-- One step of the division by b: a bit w of worth 2^i comes. -/
def divStep (b : Int) (s : List Int × Int) (x : Nat × Int) : List Int × Int :=
  if b ≤ 2 * s.2 + x.2 then (s.1.set (x.1 / 64) (bits .or .u64 (s.1.getD (x.1 / 64) 0) ((2 ^ (x.1 % 64) : Nat) : Int)), 2 * s.2 + x.2 - b) else (s.1, 2 * s.2 + x.2)
def divAll (b : Int) (n : Nat) (pre : List (Nat × Int)) : List Int × Int := pre.foldl (divStep b) (List.replicate n 0, 0)
theorem divAll_snoc (b : Int) (n : Nat) (pre : List (Nat × Int)) (x : Nat × Int) : divAll b n (pre ++ [x]) = divStep b (divAll b n pre) x := by simp [divAll]

theorem or_fits (x : Int) (hx : 0 ≤ x ∧ x < B64) (s : Nat) (hs : s < 64) : 0 ≤ bits .or .u64 x ((2 ^ s : Nat) : Int) ∧ bits .or .u64 x ((2 ^ s : Nat) : Int) < B64 := by
  obtain ⟨t, rfl⟩ := Int.eq_ofNat_of_zero_le hx.1
  rw [B64_eq] at hx
  have h1 : (2 : Nat) ^ s < 18446744073709551616 := by
    have := Nat.pow_lt_pow_right (a := 2) (by omega) hs
    omega
  have h2 : t < 18446744073709551616 := by omega
  rw [bits_or_u64_nat t _ h2 h1, B64_eq]
  have h3 : t ||| 2 ^ s < 2 ^ 64 := Nat.or_lt_two_pow (by omega) (by omega)
  omega

/-- What holds of the two along the way. -/
def DivOk (b : Int) (n : Nat) (s : List Int × Int) : Prop := s.1.length = n ∧ Dig B64 s.1 ∧ 0 ≤ s.2 ∧ s.2 < b
theorem DivOk.step {b : Int} {n : Nat} {s : List Int × Int} (h : DivOk b n s) (hb : 0 < b) {x : Nat × Int} (hx : x.2 = 0 ∨ x.2 = 1) : DivOk b n (divStep b s x) := by
  obtain ⟨h1, h2, h3, h4⟩ := h
  unfold divStep
  split
  · exact ⟨by simp [h1], h2.set (or_fits _ (h2.getD B64_pos _) _ (Nat.mod_lt _ (by omega))) _, by dsimp only; omega, by dsimp only; omega⟩
  · exact ⟨h1, h2, by dsimp only; omega, by dsimp only; omega⟩
theorem DivOk.all {b : Int} (hb : 0 < b) (n : Nat) (pre : List (Nat × Int)) (h : ∀ x ∈ pre, x.2 = 0 ∨ x.2 = 1) : DivOk b n (divAll b n pre) := by
  unfold divAll
  have : ∀ (pre : List (Nat × Int)) (s : List Int × Int), (∀ x ∈ pre, x.2 = 0 ∨ x.2 = 1) → DivOk b n s → DivOk b n (pre.foldl (divStep b) s) := by
    intro pre
    induction pre with
    | nil => intro s _ hs; exact hs
    | cons x pre ih => intro s hp hs; exact ih _ (fun y hy => hp y (List.mem_cons_of_mem _ hy)) (hs.step hb (hp x List.mem_cons_self))
  exact this pre _ h ⟨by simp, Dig.replicate B64_pos _, by simp, hb⟩

theorem nbit_cases (n : Int) (i : Nat) : nbit n i = 0 ∨ nbit n i = 1 := by unfold nbit; omega

/-- A word of a number that 2^(i+1) divides, and a bit of worth 2^i more. -/
theorem or_adds {q : List Int} (dq : Dig B64 q) (i : Nat) (hi : i / 64 < q.length) (Z : Int) (hZ : 0 ≤ Z) (hq : nv B64 q = ((2 ^ (i + 1) : Nat) : Int) * Z) :
    nv B64 (q.set (i / 64) (bits .or .u64 (q.getD (i / 64) 0) ((2 ^ (i % 64) : Nat) : Int))) = nv B64 q + ((2 ^ i : Nat) : Int) := by
  have h1 := nv_split B64 q (i / 64) (by omega)
  have h2 := nv_lt B64_pos (dq.take (i / 64))
  have h3 := nv_nonneg B64_pos (dq.take (i / 64))
  rw [List.length_take, Nat.min_eq_left (by omega)] at h2
  have e1 : q.drop (i / 64) = q.getD (i / 64) 0 :: q.drop (i / 64 + 1) := by
    rw [List.drop_eq_getElem_cons hi, List.getD_eq_getElem?_getD, List.getElem?_eq_getElem hi]; rfl
  rw [e1, nv_cons] at h1
  have h4 := dq.getD B64_pos (i / 64)
  have h5 := nv_nonneg B64_pos (dq.drop (i / 64 + 1))
  obtain ⟨t, ht⟩ := Int.eq_ofNat_of_zero_le h4.1
  obtain ⟨u, hu⟩ := Int.eq_ofNat_of_zero_le h5
  obtain ⟨lo, hlo⟩ := Int.eq_ofNat_of_zero_le h3
  obtain ⟨z, rfl⟩ := Int.eq_ofNat_of_zero_le hZ
  rw [ht, hu, hlo] at h1
  rw [hlo, B64_pow] at h2
  rw [ht] at h4
  rw [hq, B64_pow, B64_eq] at h1
  have h6 : 2 ^ (i + 1) * z = lo + 2 ^ (64 * (i / 64)) * (t + 18446744073709551616 * u) := by
    have : ((2 ^ (i + 1) * z : Nat) : Int) = ((lo + 2 ^ (64 * (i / 64)) * (t + 18446744073709551616 * u) : Nat) : Int) := by
      rw [Int.natCast_mul, h1]; simp [Int.natCast_add, Int.natCast_mul]
    exact Int.ofNat_inj.1 this
  have e3 : (2 : Nat) ^ (i + 1) = 2 ^ (64 * (i / 64)) * 2 ^ (i % 64 + 1) := by rw [← Nat.pow_add]; congr 1; omega
  have h7 : t + 18446744073709551616 * u = 2 ^ (i % 64 + 1) * z := by
    have hlo0 : lo / 2 ^ (64 * (i / 64)) = 0 := Nat.div_eq_of_lt (Int.ofNat_lt.1 h2)
    have := congrArg (· / 2 ^ (64 * (i / 64))) h6
    simp only [Nat.add_mul_div_left _ _ (Nat.two_pow_pos _), hlo0, Nat.zero_add] at this
    rw [← this, e3, Nat.mul_assoc, Nat.mul_div_cancel_left _ (Nat.two_pow_pos _)]
  have e4 : (18446744073709551616 : Nat) = 2 ^ (i % 64 + 1) * 2 ^ (63 - i % 64) := by
    rw [← Nat.pow_add, show i % 64 + 1 + (63 - i % 64) = 64 by omega]
  have h8 : 2 ^ (i % 64 + 1) ∣ t := by
    have d1 : 2 ^ (i % 64 + 1) ∣ t + 18446744073709551616 * u := ⟨z, h7⟩
    have d2 : 2 ^ (i % 64 + 1) ∣ 18446744073709551616 * u := by rw [e4, Nat.mul_assoc]; exact Nat.dvd_mul_right _ _
    exact (Nat.dvd_add_left d2).1 d1
  obtain ⟨c, rfl⟩ := h8
  have h9 : (2 : Nat) ^ (i % 64) < 18446744073709551616 := by
    have := Nat.pow_lt_pow_right (a := 2) (by omega) (show i % 64 < 64 by omega)
    omega
  have h10 : 2 ^ (i % 64 + 1) * c < 18446744073709551616 := by have := h4.2; rw [B64_eq] at this; exact Int.ofNat_lt.1 this
  have h11 : 2 ^ (i % 64 + 1) * c ||| 2 ^ (i % 64) = 2 ^ (i % 64 + 1) * c + 2 ^ (i % 64) :=
    (Nat.two_pow_add_eq_or_of_lt (Nat.pow_lt_pow_right (by omega) (by omega)) c).symm
  rw [ht, bits_or_u64_nat _ _ h10 h9, h11, nv_set _ _ _ _ hi, ht, Int.natCast_add]
  rw [show ((2 ^ (i % 64 + 1) * c : Nat) : Int) + ((2 ^ (i % 64) : Nat) : Int) - ((2 ^ (i % 64 + 1) * c : Nat) : Int) = ((2 ^ (i % 64) : Nat) : Int) by omega]
  rw [B64_pow, ← Int.natCast_mul, ← Nat.pow_add, show 64 * (i / 64) + i % 64 = i by omega]

/-- Behind k of N bits. -/
theorem divAll_inv {a b : Int} (ha : 0 ≤ a) (hb : 0 < b) (n N : Nat) (hN : N ≤ 64 * n) (hlt : a < ((2 ^ N : Nat) : Int)) : ∀ k, k ≤ N →
    nv B64 (divAll b n (downs a N k)).1 = ((2 ^ (N - k) : Nat) : Int) * (a / ((2 ^ (N - k) : Nat) : Int) / b) ∧ (divAll b n (downs a N k)).2 = a / ((2 ^ (N - k) : Nat) : Int) % b := by
  intro k
  induction k with
  | zero =>
    intro _
    have e : a / ((2 ^ (N - 0) : Nat) : Int) = 0 := Int.ediv_eq_zero_of_lt ha hlt
    rw [e]
    simp [downs, divAll, nv_replicate]
  | succ k ih =>
    intro hk
    obtain ⟨i1, i2⟩ := ih (by omega)
    have hok := DivOk.all hb n (downs a N k) (fun x hx => by
      simp only [downs, List.mem_map] at hx
      obtain ⟨j, _, rfl⟩ := hx
      exact nbit_cases _ _)
    rw [downs_succ, divAll_snoc]
    obtain ⟨m, hm⟩ : ∃ m, N - k = m + 1 := ⟨N - k - 1, by omega⟩
    have hm2 : N - (k + 1) = m := by omega
    have hm3 : N - 1 - k = m := by omega
    rw [hm] at i1 i2
    rw [hm2, hm3]
    obtain ⟨p, hp⟩ : ∃ p, a / ((2 ^ (m + 1) : Nat) : Int) = p := ⟨_, rfl⟩
    have hp0 : 0 ≤ p := by rw [← hp]; exact Int.ediv_nonneg ha (Int.natCast_nonneg _)
    rw [hp] at i1 i2
    have hbit : a / ((2 ^ m : Nat) : Int) = 2 * p + nbit a m := by
      unfold nbit
      have e : a / ((2 ^ (m + 1) : Nat) : Int) = a / ((2 ^ m : Nat) : Int) / 2 := by
        rw [Nat.pow_succ, Int.natCast_mul, Int.ediv_ediv_of_nonneg (Int.natCast_nonneg _)]; rfl
      rw [← hp, e]
      omega
    rw [hbit]
    obtain ⟨w, hw⟩ : ∃ w, nbit a m = w := ⟨_, rfl⟩
    have hw2 : w = 0 ∨ w = 1 := hw ▸ nbit_cases a m
    rw [hw]
    have hQ := Int.mul_ediv_add_emod p b
    obtain ⟨Q, hQ'⟩ : ∃ Q, p / b = Q := ⟨_, rfl⟩
    have hQ0 : 0 ≤ Q := by rw [← hQ']; exact Int.ediv_nonneg hp0 (by omega)
    obtain ⟨R, hR⟩ : ∃ R, p % b = R := ⟨_, rfl⟩
    have hR0 : 0 ≤ R := by rw [← hR]; exact Int.emod_nonneg _ (by omega)
    have hR1 : R < b := by rw [← hR]; exact Int.emod_lt_of_pos _ hb
    rw [hQ', hR] at hQ
    rw [hQ'] at i1
    rw [hR] at i2
    have hsum : 2 * p + w = b * (2 * Q) + (2 * R + w) := by rw [← hQ]; grind
    unfold divStep
    dsimp only
    rw [i2]
    by_cases hc : b ≤ 2 * R + w
    · rw [if_pos hc]
      have e1 : 2 * p + w = b * (2 * Q + 1) + (2 * R + w - b) := by rw [hsum]; grind
      have eq1 : (2 * p + w) / b = 2 * Q + 1 := by
        rw [e1, Int.add_comm, Int.add_mul_ediv_left _ _ (by omega), Int.ediv_eq_zero_of_lt (by omega) (by omega)]; omega
      have eq2 : (2 * p + w) % b = 2 * R + w - b := by
        rw [e1, Int.add_comm, Int.add_mul_emod_self_left, Int.emod_eq_of_lt (by omega) (by omega)]
      refine ⟨?_, eq2.symm⟩
      dsimp only
      rw [or_adds hok.2.1 m (by rw [hok.1]; omega) Q hQ0 i1, i1, eq1, Nat.pow_succ, Int.natCast_mul]
      grind
    · rw [if_neg hc]
      have eq1 : (2 * p + w) / b = 2 * Q := by
        rw [hsum, Int.add_comm, Int.add_mul_ediv_left _ _ (by omega), Int.ediv_eq_zero_of_lt (by omega) (by omega)]; omega
      have eq2 : (2 * p + w) % b = 2 * R + w := by
        rw [hsum, Int.add_comm, Int.add_mul_emod_self_left, Int.emod_eq_of_lt (by omega) (by omega)]
      refine ⟨?_, eq2.symm⟩
      dsimp only
      rw [i1, eq1, Nat.pow_succ, Int.natCast_mul]
      grind
theorem divAll_done {a b : Int} (ha : 0 ≤ a) (hb : 0 < b) (n N : Nat) (hN : N ≤ 64 * n) (hlt : a < ((2 ^ N : Nat) : Int)) :
    nv B64 (divAll b n (downs a N N)).1 = a / b ∧ (divAll b n (downs a N N)).2 = a % b := by
  have := divAll_inv ha hb n N hN hlt N (Nat.le_refl _)
  rw [Nat.sub_self] at this
  simpa using this
end Go.Proofs.Ytokadjfakncdfaa
