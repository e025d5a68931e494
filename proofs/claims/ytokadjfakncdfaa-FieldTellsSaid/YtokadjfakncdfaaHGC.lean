/- The reference of layer 1: its plain laws and its contracts. -/
import Derived.Test.YtokadjfakncdfaaHGA
import Derived.Test.YtokadjfakncdfaaHPRx
import Derived.Test.YtokadjfakncdfaaHGB
import Derived.Laws.Bits64b
section
set_option linter.unusedVariables false
set_option linter.unusedSimpArgs false
namespace Go.Proofs.Ytokadjfakncdfaa
open Go.RowKit Go.Proofs.YtokadjfakncdfaaW.PrintWords Go.Proofs.YtokadjfakncdfaaW.PrintLast Go.Proofs.YtokadjfakncdfaaW.PrintMore
open PR
theorem rd_nat (xs : List Int) (i : Nat) : rd xs (i : Int) = xs.getD i 0 := by unfold rd; rw [Int.toNat_natCast]
theorem trim_f : ∀ (n : Nat) (xs : List Int), xs.length = n → n ≤ 1000000000 → Dig B16 xs → ∀ k, n < k → ∃ ys, marlinspikeref01_trim.f k xs = some ys ∧ Canon B16 ys ∧ nv B16 ys = nv B16 xs ∧ ys.length ≤ xs.length := by
  intro n
  induction n with
  | zero =>
    intro xs h _ hd k hk
    obtain ⟨k, rfl⟩ : ∃ m, k = m + 1 := ⟨k - 1, by omega⟩
    have : xs = [] := List.eq_nil_of_length_eq_zero h
    subst this
    exact ⟨[], by simp [marlinspikeref01_trim.f, marlinspikeref01_trim.l0], canon_nil, rfl, Nat.le_refl _⟩
  | succ n ih =>
    intro xs h hn hd k hk
    obtain ⟨k, rfl⟩ : ∃ m, k = m + 1 := ⟨k - 1, by omega⟩
    unfold marlinspikeref01_trim.f
    simp only [marlinspikeref01_trim.l0]
    rw [if_pos (by omega), w64 (by omega) (by omega), if_pos (by omega), if_pos (by omega), show (xs.length : Int) - 1 = (n : Int) by omega, rd_nat]
    by_cases c : xs.getD n 0 = 0
    · rw [if_pos c, if_pos (by omega), Int.toNat_natCast]
      obtain ⟨ys, h1, h2, h3, h4⟩ := ih (xs.take n) (by rw [List.length_take]; omega) (by omega) (hd.take n) k (by omega)
      refine ⟨ys, h1, h2, by rw [h3, nv_dropLast n h.symm c], ?_⟩
      rw [List.length_take] at h4
      omega
    · rw [if_neg c]
      exact ⟨xs, rfl, canon_of_last hd n h.symm c, rfl, Nat.le_refl _⟩
theorem words_l1 : ∀ (n : Nat) (xs : List Int), xs.length = n → n ≤ 1000000000 → Dig B64 xs → ∀ k, n < k → ∃ ys, marlinspikeref01_Words.l1 k xs = some ys ∧ Canon B64 ys ∧ nv B64 ys = nv B64 xs ∧ ys.length ≤ xs.length := by
  intro n
  induction n with
  | zero =>
    intro xs h _ hd k hk
    obtain ⟨k, rfl⟩ : ∃ m, k = m + 1 := ⟨k - 1, by omega⟩
    have : xs = [] := List.eq_nil_of_length_eq_zero h
    subst this
    exact ⟨[], by simp [marlinspikeref01_Words.l1], canon_nil, rfl, Nat.le_refl _⟩
  | succ n ih =>
    intro xs h hn hd k hk
    obtain ⟨k, rfl⟩ : ∃ m, k = m + 1 := ⟨k - 1, by omega⟩
    simp only [marlinspikeref01_Words.l1]
    rw [if_pos (by omega), w64 (by omega) (by omega), if_pos (by omega), if_pos (by omega), show (xs.length : Int) - 1 = (n : Int) by omega, rd_nat]
    by_cases c : xs.getD n 0 = 0
    · rw [if_pos c, if_pos (by omega), Int.toNat_natCast]
      obtain ⟨ys, h1, h2, h3, h4⟩ := ih (xs.take n) (by rw [List.length_take]; omega) (by omega) (hd.take n) k (by omega)
      refine ⟨ys, h1, h2, by rw [h3, nv_dropLast n h.symm c], ?_⟩
      rw [List.length_take] at h4
      omega
    · rw [if_neg c]
      exact ⟨xs, rfl, canon_of_last hd n h.symm c, rfl, Nat.le_refl _⟩
theorem getD_beyond (xs : List Int) (i : Nat) (h : xs.length ≤ i) : xs.getD i 0 = 0 := by
  rw [List.getD_eq_getElem?_getD, List.getElem?_eq_none h]; rfl
theorem at_f (xs : List Int) (i : Nat) : marlinspikeref01_at.f xs (i : Int) = some (xs.getD i 0) := by
  unfold marlinspikeref01_at.f
  by_cases h : i < xs.length
  · rw [if_pos (by omega), if_pos (by omega), rd_nat]
  · rw [if_neg (by omega), getD_beyond _ _ (by omega)]
theorem take_len (xs : List Int) (i : Nat) (h : xs.length ≤ i) : xs.take i = xs := List.take_of_length_le h
theorem plus_l0 {a b : List Int} (da : Dig B16 a) (db : Dig B16 b) (M : Nat) (ha : a.length ≤ M) (hb : b.length ≤ M) (hM : M ≤ 1000000) : ∀ (d i : Nat) (out : List Int) (c : Int) (k : Nat), i + d = M + 1 → 2 * d + M + 10 ≤ k →
    out.length = i → Dig B16 out → (c = 0 ∨ c = 1) → (d = 0 → c = 0) → nv B16 out + B16 ^ i * c = nv B16 (a.take i) + nv B16 (b.take i) →
    ∃ ys, marlinspikeref01_Plus.l0 k a b out c (i : Int) = some ys ∧ Canon B16 ys ∧ nv B16 ys = nv B16 a + nv B16 b ∧ ys.length ≤ M + 1 := by
  intro d
  induction d with
  | zero =>
    intro i out c k hi hk ho hd hc h0 hv
    obtain ⟨k, rfl⟩ : ∃ m, k = m + 1 + 1 := ⟨k - 2, by omega⟩
    obtain rfl := h0 rfl
    simp only [marlinspikeref01_Plus.l0]
    rw [if_neg (by omega), if_neg (by omega)]
    simp only [marlinspikeref01_Plus.j1, show decide ((0 : Int) > 0) = false from rfl, Bool.false_eq_true, if_false]
    obtain ⟨ys, h1, h2, h3, h4⟩ := trim_f out.length out rfl (by omega) hd k (by omega)
    refine ⟨ys, by rw [h1]; rfl, h2, ?_, by omega⟩
    rw [take_len a i (by omega), take_len b i (by omega)] at hv
    rw [h3]
    omega
  | succ d ih =>
    intro i out c k hi hk ho hd hc h0 hv
    obtain ⟨k, rfl⟩ : ∃ m, k = m + 1 + 1 := ⟨k - 2, by omega⟩
    have go : ∃ ys, marlinspikeref01_Plus.j1 (k + 1) a b out c (i : Int) true = some ys ∧ Canon B16 ys ∧ nv B16 ys = nv B16 a + nv B16 b ∧ ys.length ≤ M + 1 := by
      have h1 := da.getD B16_pos i
      have h2 := db.getD B16_pos i
      simp only [marlinspikeref01_Plus.j1, if_true]
      rw [at_f, at_f]
      simp only [Option.bind_some]
      rw [if_pos (by omega), w64 (by omega) (by omega), show (i : Int) + 1 = ((i + 1 : Nat) : Int) by omega]
      obtain ⟨x, hx⟩ : ∃ x, a.getD i 0 = x := ⟨_, rfl⟩
      obtain ⟨y, hy⟩ : ∃ y, b.getD i 0 = y := ⟨_, rfl⟩
      rw [hx] at h1 ⊢
      rw [hy] at h2 ⊢
      unfold B16 at h1 h2
      have e1 : (x + y + c) % 4294967296 / 65536 = (x + y + c) / 65536 := by omega
      rw [e1]
      refine ih (i + 1) _ _ k (by omega) (by omega) (by simp; omega) (hd.snoc (by unfold B16; omega)) (by omega) ?_ ?_
      · intro hd0
        have ex : x = 0 := by rw [← hx]; exact getD_beyond _ _ (by omega)
        have ey : y = 0 := by rw [← hy]; exact getD_beyond _ _ (by omega)
        omega
      · rw [nv_snoc, nv_take_succ, nv_take_succ, hx, hy, ho, Int.pow_succ]
        have e2 : (x + y + c) % 65536 + 65536 * ((x + y + c) / 65536) = x + y + c := by omega
        have e3 : B16 ^ i * ((x + y + c) % 65536) + B16 ^ i * B16 * ((x + y + c) / 65536) = B16 ^ i * (x + y + c) := by
          rw [Int.mul_assoc, ← Int.mul_add]
          unfold B16
          rw [e2]
        have e4 : B16 ^ i * (x + y + c) = B16 ^ i * x + B16 ^ i * y + B16 ^ i * c := by rw [Int.mul_add, Int.mul_add]
        omega
    simp only [marlinspikeref01_Plus.l0]
    by_cases c1 : (i : Int) < (a.length : Int)
    · rw [if_pos c1]; exact go
    · rw [if_neg c1]
      by_cases c2 : (i : Int) < (b.length : Int)
      · rw [if_pos c2]; exact go
      · rw [if_neg c2]
        by_cases c3 : c > 0
        · rw [decide_eq_true c3]; exact go
        · rw [decide_eq_false c3]
          obtain rfl : c = 0 := by omega
          simp only [marlinspikeref01_Plus.j1, Bool.false_eq_true, if_false]
          obtain ⟨ys, h1, h2, h3, h4⟩ := trim_f out.length out rfl (by omega) hd k (by omega)
          refine ⟨ys, by rw [h1]; rfl, h2, ?_, by omega⟩
          rw [take_len a i (by omega), take_len b i (by omega)] at hv
          rw [h3]
          omega
theorem plus_f {a b : List Int} (da : Dig B16 a) (db : Dig B16 b) (M : Nat) (ha : a.length ≤ M) (hb : b.length ≤ M) (hM : M ≤ 1000000) (k : Nat) (hk : 3 * M + 20 ≤ k) :
    ∃ ys, marlinspikeref01_Plus.f k a b = some ys ∧ Canon B16 ys ∧ nv B16 ys = nv B16 a + nv B16 b ∧ ys.length ≤ M + 1 :=
  plus_l0 da db M ha hb hM (M + 1) 0 [] 0 k (by omega) (by omega) rfl Dig.nil (.inl rfl) (by omega) (by simp [nv])
theorem minus_l0 {a b : List Int} (da : Dig B16 a) (db : Dig B16 b) (hle : nv B16 b ≤ nv B16 a) (hM : a.length ≤ 1000000) : ∀ (d i : Nat) (out : List Int) (c : Int) (k : Nat), i + d = a.length → d + a.length + 5 ≤ k →
    out.length = i → Dig B16 out → (c = 0 ∨ c = 1) → nv B16 out + nv B16 (b.take i) = nv B16 (a.take i) + B16 ^ i * c →
    ∃ ys, marlinspikeref01_Minus.l0 k a b out c (i : Int) = some ys ∧ Canon B16 ys ∧ nv B16 ys = nv B16 a - nv B16 b ∧ ys.length ≤ a.length := by
  intro d
  induction d with
  | zero =>
    intro i out c k hi hk ho hd hc hv
    obtain ⟨k, rfl⟩ : ∃ m, k = m + 1 := ⟨k - 1, by omega⟩
    simp only [marlinspikeref01_Minus.l0]
    rw [if_neg (by omega)]
    obtain ⟨ys, h1, h2, h3, h4⟩ := trim_f out.length out rfl (by omega) hd k (by omega)
    refine ⟨ys, by rw [h1]; rfl, h2, ?_, by omega⟩
    obtain rfl : i = a.length := by omega
    rw [take_len a _ (Nat.le_refl _)] at hv
    have hb0 : nv B16 (b.take a.length) = nv B16 b := by
      have h5 := nv_lt B16_pos da
      by_cases hbl : b.length ≤ a.length
      · rw [take_len _ _ hbl]
      · have h6 := nv_split B16 b a.length (by omega)
        have h7 := nv_nonneg B16_pos (db.take a.length)
        have h8 := nv_nonneg B16_pos (db.drop a.length)
        have h9 := pow_pos' B16_pos a.length
        by_cases hz : nv B16 (b.drop a.length) = 0
        · rw [hz] at h6; omega
        · have : B16 ^ a.length * 1 ≤ B16 ^ a.length * nv B16 (b.drop a.length) := Int.mul_le_mul_of_nonneg_left (by omega) (Int.le_of_lt h9)
          omega
    rw [hb0] at hv
    have h5 := nv_lt B16_pos hd
    rw [ho] at h5
    rw [h3]
    rcases hc with rfl | rfl
    · omega
    · omega
  | succ d ih =>
    intro i out c k hi hk ho hd hc hv
    obtain ⟨k, rfl⟩ : ∃ m, k = m + 1 := ⟨k - 1, by omega⟩
    have h1 := da.getD B16_pos i
    have h2 := db.getD B16_pos i
    simp only [marlinspikeref01_Minus.l0]
    rw [if_pos (by omega), if_pos (by omega), at_f, rd_nat]
    simp only [Option.bind_some]
    rw [if_pos (by omega), w64 (by omega) (by omega), show (i : Int) + 1 = ((i + 1 : Nat) : Int) by omega]
    obtain ⟨x, hx⟩ : ∃ x, a.getD i 0 = x := ⟨_, rfl⟩
    obtain ⟨y, hy⟩ : ∃ y, b.getD i 0 = y := ⟨_, rfl⟩
    rw [hx] at h1 ⊢
    rw [hy] at h2 ⊢
    unfold B16 at h1 h2
    obtain ⟨s, hs⟩ : ∃ s, 65536 + x - y - c = s := ⟨_, rfl⟩
    rw [hs]
    have hs0 : 0 ≤ s ∧ s < 131072 := by omega
    have e1 : (1 - s % 4294967296 / 65536) % 4294967296 = 1 - s / 65536 := by omega
    rw [e1]
    refine ih (i + 1) _ _ k (by omega) (by omega) (by simp; omega) (hd.snoc (by unfold B16; omega)) (by omega) ?_
    rw [nv_snoc, nv_take_succ, nv_take_succ, hx, hy, ho, Int.pow_succ]
    have e2 : s % 65536 + y + c = x + 65536 * (1 - s / 65536) := by omega
    have e3 : B16 ^ i * (s % 65536) + B16 ^ i * y + B16 ^ i * c = B16 ^ i * x + B16 ^ i * B16 * (1 - s / 65536) := by
      rw [Int.mul_assoc, ← Int.mul_add, ← Int.mul_add, ← Int.mul_add, e2]
      rfl
    omega
theorem minus_f {a b : List Int} (da : Dig B16 a) (db : Dig B16 b) (hle : nv B16 b ≤ nv B16 a) (hM : a.length ≤ 1000000) (k : Nat) (hk : 2 * a.length + 10 ≤ k) :
    ∃ ys, marlinspikeref01_Minus.f k a b = some ys ∧ Canon B16 ys ∧ nv B16 ys = nv B16 a - nv B16 b ∧ ys.length ≤ a.length :=
  minus_l0 da db hle hM a.length 0 [] 0 k (by omega) (by omega) rfl Dig.nil (.inl rfl) (by simp [nv])
theorem less_l0 {a b : List Int} (da : Dig B16 a) (db : Dig B16 b) (hl : a.length = b.length) (hM : a.length ≤ 1000000) : ∀ (i k : Nat), i ≤ a.length → i < k → a.drop i = b.drop i →
    marlinspikeref01_Less.l0 k a b ((i : Int) - 1) = some (decide (nv B16 a < nv B16 b)) := by
  intro i
  induction i with
  | zero =>
    intro k hi hk h
    obtain ⟨k, rfl⟩ : ∃ m, k = m + 1 := ⟨k - 1, by omega⟩
    simp only [marlinspikeref01_Less.l0]
    rw [if_neg (by omega)]
    simp only [List.drop_zero] at h
    subst h
    simp
  | succ i ih =>
    intro k hi hk h
    obtain ⟨k, rfl⟩ : ∃ m, k = m + 1 := ⟨k - 1, by omega⟩
    simp only [marlinspikeref01_Less.l0]
    rw [show ((i + 1 : Nat) : Int) - 1 = (i : Int) by omega, if_pos (by omega), if_pos (by omega), if_pos (by omega), if_pos (by omega), rd_nat, rd_nat]
    by_cases c : a.getD i 0 = b.getD i 0
    · rw [if_pos c, w64 (by omega) (by omega)]
      refine ih k (by omega) (by omega) ?_
      have e1 : a.drop i = a.getD i 0 :: a.drop (i + 1) := by
        rw [List.drop_eq_getElem_cons (by omega), List.getD_eq_getElem?_getD, List.getElem?_eq_getElem (by omega)]; rfl
      have e2 : b.drop i = b.getD i 0 :: b.drop (i + 1) := by
        rw [List.drop_eq_getElem_cons (by omega), List.getD_eq_getElem?_getD, List.getElem?_eq_getElem (by omega)]; rfl
      rw [e1, e2, c, h]
    · rw [if_neg c]
      have h1 := cmpI_top B16_pos da db hl i (by omega) h c
      congr 1
      rcases Int.lt_trichotomy (a.getD i 0) (b.getD i 0) with h2 | h2 | h2
      · rw [cmpI_lt h2] at h1
        rcases cmpI_cases (nv B16 a) (nv B16 b) with h3 | h3 | h3
        · simp only [h2, h3.1]
        · omega
        · omega
      · exact absurd h2 c
      · rw [cmpI_gt h2] at h1
        rcases cmpI_cases (nv B16 a) (nv B16 b) with h3 | h3 | h3
        · omega
        · omega
        · rw [decide_eq_false (by omega), decide_eq_false (by omega)]
theorem less_f {a b : List Int} (ha : Canon B16 a) (hb : Canon B16 b) (hM : a.length ≤ 1000000) (hM' : b.length ≤ 1000000) (k : Nat) (hk : a.length < k) :
    marlinspikeref01_Less.f k a b = some (decide (nv B16 a < nv B16 b)) := by
  unfold marlinspikeref01_Less.f
  by_cases h : (a.length : Int) = (b.length : Int)
  · rw [if_pos h, w64 (by omega) (by omega)]
    exact less_l0 ha.1 hb.1 (by omega) hM a.length k (Nat.le_refl _) hk (by rw [List.drop_length, List.drop_of_length_le (by omega)])
  · rw [if_neg h]
    congr 1
    by_cases h1 : a.length < b.length
    · rw [decide_eq_true (by omega), decide_eq_true (canon_len_lt B16_pos ha.1 hb h1)]
    · have := canon_len_lt B16_pos hb.1 ha (by omega)
      rw [decide_eq_false (by omega), decide_eq_false (by omega)]
end Go.Proofs.Ytokadjfakncdfaa
end
section
set_option linter.unusedVariables false
set_option linter.unusedSimpArgs false
namespace Go.Proofs.Ytokadjfakncdfaa
open Go.RowKit Go.Proofs.YtokadjfakncdfaaW.PrintWords Go.Proofs.YtokadjfakncdfaaW.PrintLast Go.Proofs.YtokadjfakncdfaaW.PrintMore
open PR
theorem prod_lt {x y : Int} (hx : 0 ≤ x ∧ x < 65536) (hy : 0 ≤ y ∧ y < 65536) : 0 ≤ x * y ∧ x * y ≤ 4294836225 := by
  have h1 := Int.mul_nonneg hx.1 hy.1
  have h2 : x * y ≤ 65535 * 65535 := Int.mul_le_mul (by omega) (by omega) hy.1 (by omega)
  exact ⟨h1, by omega⟩
theorem wrap_id {z : Int} (h : 0 ≤ z) (h' : z < 18446744073709551616) : IntKind.u64.wrap z = z := by rw [IntKind.wrap_u64]; omega
theorem times_s {o x y c : Int} (ho : 0 ≤ o ∧ o < 65536) (hx : 0 ≤ x ∧ x < 65536) (hy : 0 ≤ y ∧ y < 65536) (hc : 0 ≤ c ∧ c < 65536) :
    IntKind.u64.wrap ((IntKind.u64.wrap ((IntKind.u64.wrap o) + (IntKind.u64.wrap ((IntKind.u64.wrap x) * (IntKind.u64.wrap y))))) + c) = o + x * y + c := by
  have h := prod_lt hx hy
  rw [wrap_id (z := x) (by omega) (by omega), wrap_id (z := y) (by omega) (by omega), wrap_id (z := o) (by omega) (by omega), wrap_id (z := x * y) (by omega) (by omega), wrap_id (z := o + x * y) (by omega) (by omega), wrap_id (by omega) (by omega)]
theorem times_lo {s : Int} (h : 0 ≤ s) : (Int.tmod s 65536) % 4294967296 = s % 65536 := by rw [Int.tmod_eq_emod_of_nonneg h]; omega
theorem times_hi {s : Int} (h : 0 ≤ s) (h' : s < 18446744073709551616) : IntKind.u64.wrap (Int.tdiv s 65536) = s / 65536 := by
  rw [Int.tdiv_eq_ediv_of_nonneg h, wrap_id (by omega) (by omega)]
theorem set_self (xs : List Int) (j : Nat) (y : Int) (h : xs.getD j 0 = y) : xs.set j y = xs := by
  refine List.ext_getElem? fun i => ?_
  rw [List.getElem?_set]
  split
  · next e =>
    subst e
    split
    · next h' =>
      rw [List.getD_eq_getElem?_getD, List.getElem?_eq_getElem h'] at h
      rw [List.getElem?_eq_getElem h', ← h]; rfl
    · next h' => rw [List.getElem?_eq_none (by omega)]
  · rfl
theorem snoc_getD (a : List Int) (i : Nat) (h : i < a.length) : (a ++ [0]).getD i 0 = a.getD i 0 := by
  rw [List.getD_eq_getElem?_getD, List.getD_eq_getElem?_getD, List.getElem?_append_left h]
theorem times_l1 {a b : List Int} (da : Dig B16 a) (db : Dig B16 b) (la : a.length ≤ 10000) (lb : b.length ≤ 10000) (i : Nat) (hi : i < a.length) (K : Nat) (R : List Int → Prop)
    (cont : ∀ out k, MulOut B16 (a ++ [0]) b (i + 1) out → K ≤ k → ∃ ys, marlinspikeref01_Times.l0 k a b out ((i + 1 : Nat) : Int) = some ys ∧ R ys) :
    ∀ (d j : Nat) (out : List Int) (c : Int) (k : Nat), j + d = b.length → d + 2 + K + 1 ≤ k → MulIn B16 (a ++ [0]) b i j out c → ∃ ys, marlinspikeref01_Times.l1 k a b out (i : Int) c (j : Int) = some ys ∧ R ys := by
  intro d
  induction d with
  | zero =>
    intro j out c k hj hk h
    obtain rfl : j = b.length := by omega
    obtain ⟨k, rfl⟩ : ∃ m, k = m + 1 := ⟨k - 1, by omega⟩
    have hlen : out.length = a.length + 1 + b.length := by have := h.1; simpa using this
    have hc := h.2.2.1
    have hz := h.2.2.2.1 (i + b.length) (Nat.le_refl _)
    have hL := h.leave B16_pos (by simp; omega)
    simp only [marlinspikeref01_Times.l1]
    rw [if_neg (by omega)]
    by_cases c0 : c > 0
    · rw [if_pos c0, w64 (x := (i : Int) + (b.length : Int)) (by omega) (by omega), show (i : Int) + (b.length : Int) = ((i + b.length : Nat) : Int) by omega, if_pos (by omega), if_pos (by omega), if_pos (by omega), if_pos (by omega), at_f, rd_nat, rd_nat, hz, getD_beyond b _ (Nat.le_refl _)]
      simp only [Option.bind_some]
      have hx := da.getD B16_pos i
      unfold B16 at hx hc
      have hs := times_s (o := 0) (y := 0) (c := c) ⟨by omega, by omega⟩ hx ⟨by omega, by omega⟩ hc
      rw [hs, show (0 : Int) + a.getD i 0 * 0 + c = c by omega, times_lo hc.1, times_hi hc.1 (by omega), Int.toNat_natCast, w64 (x := (b.length : Int) + 1) (by omega) (by omega), show c % 65536 = c by omega, show c / 65536 = 0 by omega]
      obtain ⟨k, rfl⟩ : ∃ m, k = m + 1 := ⟨k - 1, by omega⟩
      simp only [marlinspikeref01_Times.l1]
      rw [if_neg (by omega), if_neg (by omega), w64 (by omega) (by omega), show (i : Int) + 1 = ((i + 1 : Nat) : Int) by omega]
      exact cont _ _ hL (by omega)
    · rw [if_neg c0, w64 (by omega) (by omega), show (i : Int) + 1 = ((i + 1 : Nat) : Int) by omega]
      obtain rfl : c = 0 := by have := hc.1; omega
      rw [set_self _ _ _ hz] at hL
      exact cont _ _ hL (by omega)
  | succ d ih =>
    intro j out c k hj hk h
    obtain ⟨k, rfl⟩ : ∃ m, k = m + 1 := ⟨k - 1, by omega⟩
    have hlen : out.length = a.length + 1 + b.length := by have := h.1; simpa using this
    have hc := h.2.2.1
    have ho := h.2.1.getD B16_pos (i + j)
    have hx := da.getD B16_pos i
    have hy := db.getD B16_pos j
    simp only [marlinspikeref01_Times.l1]
    rw [if_pos (by omega), w64 (x := (i : Int) + (j : Int)) (by omega) (by omega), show (i : Int) + (j : Int) = ((i + j : Nat) : Int) by omega, if_pos (by omega), if_pos (by omega), if_pos (by omega), if_pos (by omega), at_f, rd_nat, rd_nat]
    simp only [Option.bind_some]
    have hs := times_s (o := out.getD (i + j) 0) (x := a.getD i 0) (y := b.getD j 0) (c := c) ho hx hy hc
    have hp := prod_lt hx hy
    obtain ⟨s, hss⟩ : ∃ s, out.getD (i + j) 0 + a.getD i 0 * b.getD j 0 + c = s := ⟨_, rfl⟩
    rw [hss] at hs
    unfold B16 at hc ho
    have hs0 : 0 ≤ s ∧ s < 4294967296 := by omega
    rw [hs, times_lo hs0.1, times_hi hs0.1 (by omega), Int.toNat_natCast, w64 (by omega) (by omega), show (j : Int) + 1 = ((j + 1 : Nat) : Int) by omega]
    refine ih (j + 1) _ _ k (by omega) (by omega) (h.step B16_pos (by simp; omega) (by omega) (by unfold B16; omega) (by unfold B16; omega) ?_)
    rw [snoc_getD a i hi]
    unfold B16
    omega
theorem times_l0 {a b : List Int} (da : Dig B16 a) (db : Dig B16 b) (la : a.length ≤ 10000) (lb : b.length ≤ 10000) : ∀ (d i : Nat) (out : List Int) (k : Nat), i + d = a.length → d * (b.length + 6) + a.length + b.length + 5 ≤ k → MulOut B16 (a ++ [0]) b i out →
    ∃ ys, marlinspikeref01_Times.l0 k a b out (i : Int) = some ys ∧ Canon B16 ys ∧ nv B16 ys = nv B16 a * nv B16 b ∧ ys.length ≤ a.length + b.length + 1 := by
  intro d
  induction d with
  | zero =>
    intro i out k hi hk h
    obtain ⟨k, rfl⟩ : ∃ m, k = m + 1 := ⟨k - 1, by omega⟩
    simp only [marlinspikeref01_Times.l0]
    rw [if_neg (by omega)]
    have hlen : out.length = a.length + 1 + b.length := by have := h.1; simpa using this
    obtain ⟨ys, h1, h2, h3, h4⟩ := trim_f out.length out rfl (by omega) h.2.1 k (by omega)
    refine ⟨ys, by rw [h1]; rfl, h2, ?_, by omega⟩
    obtain rfl : i = a.length := by omega
    rw [h3, h.2.2.2, List.take_left]
  | succ d ih =>
    intro i out k hi hk h
    obtain ⟨k, rfl⟩ : ∃ m, k = m + 1 := ⟨k - 1, by omega⟩
    simp only [marlinspikeref01_Times.l0]
    rw [if_pos (by omega)]
    have e : (d + 1) * (b.length + 6) = d * (b.length + 6) + (b.length + 6) := Nat.succ_mul _ _
    exact times_l1 da db la lb i (by omega) (d * (b.length + 6) + a.length + b.length + 5) _ (fun out k ho hk => ih (i + 1) out k (by omega) hk ho) b.length 0 out 0 k (by omega) (by omega) (h.enter B16_pos)
theorem times_f {a b : List Int} (da : Dig B16 a) (db : Dig B16 b) (la : a.length ≤ 1000) (lb : b.length ≤ 1000) : ∃ k0, ∀ k, k0 ≤ k →
    ∃ ys, marlinspikeref01_Times.f k a b = some ys ∧ Canon B16 ys ∧ nv B16 ys = nv B16 a * nv B16 b ∧ ys.length ≤ a.length + b.length + 1 := by
  refine ⟨a.length * (b.length + 6) + a.length + b.length + 5, fun k hk => ?_⟩
  unfold marlinspikeref01_Times.f
  rw [w64 (x := (a.length : Int) + (b.length : Int)) (by omega) (by omega), w64 (by omega) (by omega), if_pos (by omega), if_pos (by omega), show ((a.length : Int) + (b.length : Int) + 1).toNat = (a ++ [0]).length + b.length by simp; omega]
  exact times_l0 da db (by omega) (by omega) a.length 0 _ k (by omega) hk (MulOut.zero B16_pos _ _)
end Go.Proofs.Ytokadjfakncdfaa
end
section
set_option linter.unusedVariables false
set_option linter.unusedSimpArgs false
namespace Go.Proofs.Ytokadjfakncdfaa
open Go.RowKit Go.Proofs.YtokadjfakncdfaaW.PrintWords Go.Proofs.YtokadjfakncdfaaW.PrintLast Go.Proofs.YtokadjfakncdfaaW.PrintMore
open PR
theorem B16_eq : B16 = 65536 := rfl
theorem B16_pow (n : Nat) : B16 ^ n = ((2 ^ (16 * n) : Nat) : Int) := by rw [Nat.pow_mul, Int.natCast_pow]; rfl
theorem wrap32 (z : Int) : IntKind.u32.wrap z = z % 4294967296 := by
  unfold IntKind.wrap
  simp [IntKind.bits, IntKind.signed, IntKind.min, IntKind.max]
theorem bits_or_u32 (a b : Nat) (ha : a < 4294967296) (hb : b < 4294967296) : bits .or .u32 (a : Int) (b : Int) = ((a ||| b : Nat) : Int) := by
  have hx : a ||| b < 2 ^ 32 := Nat.or_lt_two_pow (by omega) (by omega)
  have h1 : (BitVec.ofInt 32 (a : Int)).toNat = a := by
    rw [BitVec.ofInt_natCast, BitVec.toNat_ofNat]; exact Nat.mod_eq_of_lt (by omega)
  have h2 : (BitVec.ofInt 32 (b : Int)).toNat = b := by
    rw [BitVec.ofInt_natCast, BitVec.toNat_ofNat]; exact Nat.mod_eq_of_lt (by omega)
  show IntKind.u32.wrap ((BitVec.ofInt 32 (a : Int) ||| BitVec.ofInt 32 (b : Int)).toNat : Int) = _
  rw [BitVec.toNat_or, h1, h2, wrap32]
  omega
theorem bits_and_u32 (a b : Nat) (ha : a < 4294967296) (hb : b < 4294967296) : bits .and .u32 (a : Int) (b : Int) = ((a &&& b : Nat) : Int) := by
  have hx : a &&& b < 2 ^ 32 := Nat.and_lt_two_pow _ (by omega)
  have h1 : (BitVec.ofInt 32 (a : Int)).toNat = a := by
    rw [BitVec.ofInt_natCast, BitVec.toNat_ofNat]; exact Nat.mod_eq_of_lt (by omega)
  have h2 : (BitVec.ofInt 32 (b : Int)).toNat = b := by
    rw [BitVec.ofInt_natCast, BitVec.toNat_ofNat]; exact Nat.mod_eq_of_lt (by omega)
  show IntKind.u32.wrap ((BitVec.ofInt 32 (a : Int) &&& BitVec.ofInt 32 (b : Int)).toNat : Int) = _
  rw [BitVec.toNat_and, h1, h2, wrap32]
  omega
theorem and_one_u32 (y : Int) (h0 : 0 ≤ y) (h1 : y < 4294967296) : bits .and .u32 y 1 = y % 2 := by
  obtain ⟨n, rfl⟩ := Int.eq_ofNat_of_zero_le h0
  have := bits_and_u32 n 1 (by omega) (by omega)
  rw [show ((1 : Nat) : Int) = 1 from rfl] at this
  rw [this, Nat.and_one_is_mod]
  omega
theorem nbit_word16 {a : List Int} (da : Dig B16 a) (i : Nat) : nbit (nv B16 a) i = a.getD (i / 16) 0 / ((2 ^ (i % 16) : Nat) : Int) % 2 := by
  unfold nbit
  by_cases h : i / 16 < a.length
  · have h1 := nv_split B16 a (i / 16) (by omega)
    have h2 := nv_lt B16_pos (da.take (i / 16))
    have h3 := nv_nonneg B16_pos (da.take (i / 16))
    rw [List.length_take, Nat.min_eq_left (by omega)] at h2
    have e1 : a.drop (i / 16) = a.getD (i / 16) 0 :: a.drop (i / 16 + 1) := by
      rw [List.drop_eq_getElem_cons h, List.getD_eq_getElem?_getD, List.getElem?_eq_getElem h]; rfl
    rw [e1, nv_cons] at h1
    have h4 := da.getD B16_pos (i / 16)
    have h5 := nv_nonneg B16_pos (da.drop (i / 16 + 1))
    obtain ⟨t, ht⟩ := Int.eq_ofNat_of_zero_le h4.1
    obtain ⟨q, hq⟩ := Int.eq_ofNat_of_zero_le h5
    obtain ⟨lo, hlo⟩ := Int.eq_ofNat_of_zero_le h3
    rw [ht, hq, hlo] at h1
    rw [ht]
    rw [hlo, B16_pow] at h2
    rw [h1, B16_pow, B16_eq]
    have e2 : (lo : Int) + ((2 ^ (16 * (i / 16)) : Nat) : Int) * ((t : Int) + 65536 * (q : Int)) = ((lo + 2 ^ (16 * (i / 16)) * (t + 65536 * q) : Nat) : Int) := by
      simp [Int.natCast_add, Int.natCast_mul]
    rw [e2, ← Int.natCast_ediv, ← Int.natCast_ediv]
    have e3 : (2 : Nat) ^ i = 2 ^ (16 * (i / 16)) * 2 ^ (i % 16) := by rw [← Nat.pow_add]; congr 1; omega
    have hlo0 : lo / 2 ^ (16 * (i / 16)) = 0 := Nat.div_eq_of_lt (Int.ofNat_lt.1 h2)
    rw [e3, ← Nat.div_div_eq_div_mul, Nat.add_mul_div_left _ _ (Nat.two_pow_pos _), hlo0, Nat.zero_add]
    have e4 : (65536 : Nat) = 2 ^ (i % 16) * (2 * 2 ^ (15 - i % 16)) := by
      rw [show (2 : Nat) * 2 ^ (15 - i % 16) = 2 ^ (16 - i % 16) by rw [← Nat.pow_succ']; congr 1; omega, ← Nat.pow_add, show i % 16 + (16 - i % 16) = 16 by omega]
    rw [e4, Nat.mul_assoc, Nat.add_mul_div_left _ _ (Nat.two_pow_pos _)]
    rw [Nat.mul_assoc 2]
    omega
  · have e : a.getD (i / 16) 0 = 0 := by rw [List.getD_eq_getElem?_getD, List.getElem?_eq_none (by omega)]; rfl
    rw [e]
    have h1 := nv_lt B16_pos da
    have h2 := nv_nonneg B16_pos da
    rw [B16_pow] at h1
    have h3 : (2 : Nat) ^ (16 * a.length) ≤ 2 ^ i := Nat.pow_le_pow_right (by omega) (by omega)
    rw [Int.ediv_eq_zero_of_lt h2 (by omega)]
    simp
theorem or_adds16 {q : List Int} (dq : Dig B16 q) (i : Nat) (hi : i / 16 < q.length) (Z : Int) (hZ : 0 ≤ Z) (hq : nv B16 q = ((2 ^ (i + 1) : Nat) : Int) * Z) :
    nv B16 (q.set (i / 16) (bits .or .u32 (q.getD (i / 16) 0) ((2 ^ (i % 16) : Nat) : Int))) = nv B16 q + ((2 ^ i : Nat) : Int) := by
  have h1 := nv_split B16 q (i / 16) (by omega)
  have h2 := nv_lt B16_pos (dq.take (i / 16))
  have h3 := nv_nonneg B16_pos (dq.take (i / 16))
  rw [List.length_take, Nat.min_eq_left (by omega)] at h2
  have e1 : q.drop (i / 16) = q.getD (i / 16) 0 :: q.drop (i / 16 + 1) := by
    rw [List.drop_eq_getElem_cons hi, List.getD_eq_getElem?_getD, List.getElem?_eq_getElem hi]; rfl
  rw [e1, nv_cons] at h1
  have h4 := dq.getD B16_pos (i / 16)
  have h5 := nv_nonneg B16_pos (dq.drop (i / 16 + 1))
  obtain ⟨t, ht⟩ := Int.eq_ofNat_of_zero_le h4.1
  obtain ⟨u, hu⟩ := Int.eq_ofNat_of_zero_le h5
  obtain ⟨lo, hlo⟩ := Int.eq_ofNat_of_zero_le h3
  obtain ⟨z, rfl⟩ := Int.eq_ofNat_of_zero_le hZ
  rw [ht, hu, hlo] at h1
  rw [hlo, B16_pow] at h2
  rw [ht] at h4
  rw [hq, B16_pow, B16_eq] at h1
  have h6 : 2 ^ (i + 1) * z = lo + 2 ^ (16 * (i / 16)) * (t + 65536 * u) := by
    have : ((2 ^ (i + 1) * z : Nat) : Int) = ((lo + 2 ^ (16 * (i / 16)) * (t + 65536 * u) : Nat) : Int) := by
      rw [Int.natCast_mul, h1]; simp [Int.natCast_add, Int.natCast_mul]
    exact Int.ofNat_inj.1 this
  have e3 : (2 : Nat) ^ (i + 1) = 2 ^ (16 * (i / 16)) * 2 ^ (i % 16 + 1) := by rw [← Nat.pow_add]; congr 1; omega
  have h7 : t + 65536 * u = 2 ^ (i % 16 + 1) * z := by
    have hlo0 : lo / 2 ^ (16 * (i / 16)) = 0 := Nat.div_eq_of_lt (Int.ofNat_lt.1 h2)
    have := congrArg (· / 2 ^ (16 * (i / 16))) h6
    simp only [Nat.add_mul_div_left _ _ (Nat.two_pow_pos _), hlo0, Nat.zero_add] at this
    rw [← this, e3, Nat.mul_assoc, Nat.mul_div_cancel_left _ (Nat.two_pow_pos _)]
  have e4 : (65536 : Nat) = 2 ^ (i % 16 + 1) * 2 ^ (15 - i % 16) := by
    rw [← Nat.pow_add, show i % 16 + 1 + (15 - i % 16) = 16 by omega]
  have h8 : 2 ^ (i % 16 + 1) ∣ t := by
    have d1 : 2 ^ (i % 16 + 1) ∣ t + 65536 * u := ⟨z, h7⟩
    have d2 : 2 ^ (i % 16 + 1) ∣ 65536 * u := by rw [e4, Nat.mul_assoc]; exact Nat.dvd_mul_right _ _
    exact (Nat.dvd_add_left d2).1 d1
  obtain ⟨c, rfl⟩ := h8
  have h9 : (2 : Nat) ^ (i % 16) < 65536 := by
    have := Nat.pow_lt_pow_right (a := 2) (by omega) (show i % 16 < 16 by omega)
    omega
  have h10 : 2 ^ (i % 16 + 1) * c < 65536 := by have := h4.2; rw [B16_eq] at this; exact Int.ofNat_lt.1 this
  have h11 : 2 ^ (i % 16 + 1) * c ||| 2 ^ (i % 16) = 2 ^ (i % 16 + 1) * c + 2 ^ (i % 16) :=
    (Nat.two_pow_add_eq_or_of_lt (Nat.pow_lt_pow_right (by omega) (by omega)) c).symm
  rw [ht, bits_or_u32 _ _ (by omega) (by omega), h11, nv_set _ _ _ _ hi, ht, Int.natCast_add]
  rw [show ((2 ^ (i % 16 + 1) * c : Nat) : Int) + ((2 ^ (i % 16) : Nat) : Int) - ((2 ^ (i % 16 + 1) * c : Nat) : Int) = ((2 ^ (i % 16) : Nat) : Int) by omega]
  rw [B16_pow, ← Int.natCast_mul, ← Nat.pow_add, show 16 * (i / 16) + i % 16 = i by omega]
theorem bit_f {xs : List Int} (h : Dig B16 xs) (i : Nat) (hi : i ≤ 1000000000) : marlinspikeref01_bit.f xs (i : Int) = some (nbit (nv B16 xs) i) := by
  unfold marlinspikeref01_bit.f
  rw [Int.tdiv_eq_ediv_of_nonneg (by omega), Int.tmod_eq_emod_of_nonneg (by omega), w64 (by omega) (by omega), show (i : Int) / 16 = ((i / 16 : Nat) : Int) by omega, at_f]
  simp only [Option.bind_some]
  rw [if_pos (by omega), show (i : Int) % 16 = ((i % 16 : Nat) : Int) by omega, nbit_word16 h]
  have hx := h.getD B16_pos (i / 16)
  obtain ⟨X, hX⟩ := Int.eq_ofNat_of_zero_le hx.1
  rw [hX] at hx ⊢
  unfold B16 at hx
  have e : shr .u32 (X : Int) ((i % 16 : Nat) : Int) = ((X / 2 ^ (i % 16) : Nat) : Int) := by
    unfold shr
    rw [Int.toNat_natCast, Nat.min_eq_left (by show i % 16 ≤ 32; omega), Int.natCast_ediv, Int.natCast_pow]
    rfl
  have h3 : X / 2 ^ (i % 16) ≤ X := Nat.div_le_self _ _
  rw [e, ← Int.natCast_ediv]
  obtain ⟨Y, hY⟩ : ∃ Y, X / 2 ^ (i % 16) = Y := ⟨_, rfl⟩
  rw [hY] at h3 ⊢
  rw [and_one_u32 _ (by omega) (by omega)]
theorem mod_pow_succ (X i : Nat) : X % 2 ^ (i + 1) = X % 2 ^ i + 2 ^ i * (X / 2 ^ i % 2) := by
  rw [Nat.pow_succ, Nat.mod_mul]
theorem lenN_step {X i n : Nat} (h : LenN (X % 2 ^ i) n) : LenN (X % 2 ^ (i + 1)) (if X / 2 ^ i % 2 = 1 then i + 1 else n) := by
  have h1 := mod_pow_succ X i
  have h2 := Nat.mod_lt X (Nat.two_pow_pos i)
  split
  · next c =>
    rw [c, Nat.mul_one] at h1
    rw [h1]
    refine ⟨by rw [Nat.pow_succ]; omega, .inr ?_⟩
    rw [Nat.add_sub_cancel]
    omega
  · next c =>
    have c' : X / 2 ^ i % 2 = 0 := by omega
    rw [c', Nat.mul_zero, Nat.add_zero] at h1
    rw [h1]
    exact h
theorem bits_l0 {xs : List Int} (h : Dig B16 xs) (hl : xs.length ≤ 100000) (X : Nat) (hX : nv B16 xs = (X : Int)) : ∀ (d i n : Nat) (k : Nat), i + d = 16 * xs.length → d + 1 ≤ k → LenN (X % 2 ^ i) n →
    ∃ r : Nat, marlinspikeref01_Bits.l0 k xs (n : Int) (i : Int) = some (r : Int) ∧ LenN X r := by
  intro d
  induction d with
  | zero =>
    intro i n k hi hk hn
    obtain ⟨k, rfl⟩ : ∃ m, k = m + 1 := ⟨k - 1, by omega⟩
    simp only [marlinspikeref01_Bits.l0]
    rw [w64 (by omega) (by omega), if_neg (by omega)]
    refine ⟨n, rfl, ?_⟩
    have h1 := nv_lt B16_pos h
    rw [hX, B16_pow, show 16 * xs.length = i by omega] at h1
    rw [Nat.mod_eq_of_lt (Int.ofNat_lt.1 h1)] at hn
    exact hn
  | succ d ih =>
    intro i n k hi hk hn
    obtain ⟨k, rfl⟩ : ∃ m, k = m + 1 := ⟨k - 1, by omega⟩
    simp only [marlinspikeref01_Bits.l0]
    rw [w64 (x := 16 * (xs.length : Int)) (by omega) (by omega), if_pos (by omega), bit_f h i (by omega)]
    simp only [Option.bind_some]
    have hst := lenN_step hn
    have hb : nbit (nv B16 xs) i = ((X / 2 ^ i % 2 : Nat) : Int) := by
      unfold nbit
      rw [hX, ← Int.natCast_ediv]
      rfl
    rw [hb, w64 (by omega) (by omega), show (i : Int) + 1 = ((i + 1 : Nat) : Int) by omega]
    by_cases c : X / 2 ^ i % 2 = 1
    · rw [if_pos c] at hst
      rw [if_pos (by omega)]
      exact ih (i + 1) (i + 1) k (by omega) (by omega) hst
    · rw [if_neg c] at hst
      rw [if_neg (by omega)]
      exact ih (i + 1) n k (by omega) (by omega) hst
theorem bits_f {xs : List Int} (h : Dig B16 xs) (hl : xs.length ≤ 100000) (r : Nat) (hr : LenN (nv B16 xs).toNat r) (k : Nat) (hk : 16 * xs.length + 1 ≤ k) : marlinspikeref01_Bits.f k xs = some (r : Int) := by
  have h0 := nv_nonneg B16_pos h
  obtain ⟨s, h1, h2⟩ := bits_l0 h hl (nv B16 xs).toNat (by omega) (16 * xs.length) 0 0 k (by omega) hk ⟨by simp [Nat.mod_one], .inl rfl⟩
  rw [hr.uniq h2]
  exact h1
/-- The division, bit by bit: behind the bits from i on. -/
theorem over_l0 {a b : List Int} (ha : Dig B16 a) (hb : Canon B16 b) (hpos : 0 < nv B16 b) (la : a.length ≤ 1000) (lb : b.length ≤ 1000) : ∀ (i : Nat) (q r : List Int) (k : Nat), i ≤ 16 * a.length → 2 * i + 8000 ≤ k →
    q.length = a.length → Dig B16 q → Canon B16 r → nv B16 r = nv B16 a / ((2 ^ i : Nat) : Int) % nv B16 b → nv B16 q = ((2 ^ i : Nat) : Int) * (nv B16 a / ((2 ^ i : Nat) : Int) / nv B16 b) →
    ∃ ys zs, marlinspikeref01_Over.l0 k a b q r ((i : Int) - 1) = some (ys, zs) ∧ Canon B16 ys ∧ Canon B16 zs ∧ nv B16 ys = nv B16 a / nv B16 b ∧ nv B16 zs = nv B16 a % nv B16 b ∧ ys.length ≤ a.length ∧ zs.length ≤ b.length := by
  have hA := nv_nonneg B16_pos ha
  have hbl := nv_lt B16_pos hb.1
  intro i
  induction i with
  | zero =>
    intro q r k hi hk hq hdq hr e1 e2
    obtain ⟨k, rfl⟩ : ∃ m, k = m + 1 := ⟨k - 1, by omega⟩
    simp only [marlinspikeref01_Over.l0]
    rw [if_neg (by omega)]
    obtain ⟨ys, h1, h2, h3, h4⟩ := trim_f q.length q rfl (by omega) hdq k (by omega)
    have hd1 : nv B16 a / ((2 ^ 0 : Nat) : Int) = nv B16 a := by simp
    rw [hd1] at e1 e2
    refine ⟨ys, r, by rw [h1]; rfl, h2, hr, by rw [h3, e2]; simp, e1, by omega, ?_⟩
    have := Int.emod_lt_of_pos (nv B16 a) hpos
    exact canon_len (by decide) hr (by omega)
  | succ i ih =>
    intro q r k hi hk hq hdq hr e1 e2
    obtain ⟨k, rfl⟩ : ∃ m, k = m + 1 := ⟨k - 1, by omega⟩
    simp only [marlinspikeref01_Over.l0]
    rw [show ((i + 1 : Nat) : Int) - 1 = (i : Int) by omega, if_pos (by omega), bit_f ha i (by omega)]
    have hmod := Int.emod_lt_of_pos (nv B16 a / ((2 ^ (i + 1) : Nat) : Int)) hpos
    have hmod0 := Int.emod_nonneg (nv B16 a / ((2 ^ (i + 1) : Nat) : Int)) (show nv B16 b ≠ 0 by omega)
    have hrl : r.length ≤ 1000 := Nat.le_trans (canon_len (by decide) hr (by omega)) lb
    obtain ⟨r2, p1, p2, p3, p4⟩ := plus_f hr.1 hr.1 1000 hrl hrl (by omega) k (by omega)
    rw [p1]
    simp only [Option.bind_some]
    obtain ⟨R, hR⟩ : ∃ R, nv B16 a / ((2 ^ (i + 1) : Nat) : Int) % nv B16 b = R := ⟨_, rfl⟩
    obtain ⟨Q, hQ⟩ : ∃ Q, nv B16 a / ((2 ^ (i + 1) : Nat) : Int) / nv B16 b = Q := ⟨_, rfl⟩
    obtain ⟨w, hw⟩ : ∃ w, nbit (nv B16 a) i = w := ⟨_, rfl⟩
    have hw01 := hw ▸ nbit_cases (nv B16 a) i
    have hQ0 : 0 ≤ Q := by rw [← hQ]; exact Int.ediv_nonneg (Int.ediv_nonneg hA (Int.natCast_nonneg _)) (by omega)
    have hdm := Int.mul_ediv_add_emod (nv B16 a / ((2 ^ (i + 1) : Nat) : Int)) (nv B16 b)
    rw [hR, hQ] at hdm
    have hhalf : nv B16 a / ((2 ^ i : Nat) : Int) = 2 * (nv B16 a / ((2 ^ (i + 1) : Nat) : Int)) + w := by
      rw [← hw]
      unfold nbit
      have e : nv B16 a / ((2 ^ (i + 1) : Nat) : Int) = nv B16 a / ((2 ^ i : Nat) : Int) / 2 := by
        rw [Nat.pow_succ, Int.natCast_mul, ← Int.ediv_ediv_of_nonneg (Int.natCast_nonneg _)]
        rfl
      rw [e]
      omega
    rw [hR] at e1 hmod hmod0
    rw [hQ] at e2
    obtain ⟨T, hT⟩ : ∃ T, nv B16 a / ((2 ^ (i + 1) : Nat) : Int) = T := ⟨_, rfl⟩
    rw [hT] at hdm hhalf
    obtain ⟨bn, hbn⟩ : ∃ bn, nv B16 b = bn := ⟨_, rfl⟩
    rw [hbn] at hdm hmod hpos
    -- behind the bit
    have key : ∀ (r3 : List Int) (k : Nat), 2 * i + 1 + 8000 ≤ k → Canon B16 r3 → nv B16 r3 = 2 * R + w → r3.length ≤ 1002 →
        ∃ ys zs, marlinspikeref01_Over.j1 k a b q r3 (i : Int) = some (ys, zs) ∧ Canon B16 ys ∧ Canon B16 zs ∧ nv B16 ys = nv B16 a / nv B16 b ∧ nv B16 zs = nv B16 a % nv B16 b ∧ ys.length ≤ a.length ∧ zs.length ≤ b.length := by
      intro r3 k hk hc hv hl3
      obtain ⟨k, rfl⟩ : ∃ m, k = m + 1 := ⟨k - 1, by omega⟩
      simp only [marlinspikeref01_Over.j1]
      rw [less_f hc hb (by omega) (by omega) k (by omega)]
      simp only [Option.bind_some]
      by_cases c : nv B16 r3 < nv B16 b
      · rw [decide_eq_true c, if_pos rfl, w64 (by omega) (by omega)]
        rw [hbn, hv] at c
        have u1 : (2 * T + w) / bn = 2 * Q := by
          rw [← hdm, show 2 * (bn * Q + R) + w = 2 * R + w + bn * (2 * Q) by grind, Int.add_mul_ediv_left _ _ (by omega), Int.ediv_eq_zero_of_lt (by omega) c]; omega
        have u2 : (2 * T + w) % bn = 2 * R + w := by
          rw [← hdm, show 2 * (bn * Q + R) + w = 2 * R + w + bn * (2 * Q) by grind, Int.add_mul_emod_self_left, Int.emod_eq_of_lt (by omega) c]
        refine ih q r3 k (by omega) (by omega) hq hdq hc ?_ ?_
        · rw [hhalf, hbn, u2, hv]
        · rw [hhalf, hbn, u1, e2, Nat.pow_succ, Int.natCast_mul]
          grind
      · rw [decide_eq_false c, if_neg (by simp)]
        have hle3 : nv B16 b ≤ nv B16 r3 := Int.not_lt.1 c
        obtain ⟨r4, m1, m2, m3, m4⟩ := minus_f hc.1 hb.1 hle3 (by omega) k (by omega)
        rw [m1, Option.bind_some]
        rw [Int.tdiv_eq_ediv_of_nonneg (by omega), Int.tmod_eq_emod_of_nonneg (by omega), w64 (x := (i : Int) / 16) (by omega) (by omega), show (i : Int) / 16 = ((i / 16 : Nat) : Int) by omega, if_pos (by omega), if_pos (by omega), if_pos (by omega), w64 (by omega) (by omega), rd_nat, Int.toNat_natCast, show (i : Int) % 16 = ((i % 16 : Nat) : Int) by omega]
        rw [hbn, hv] at c
        have hshl : shl .u32 1 ((i % 16 : Nat) : Int) = ((2 ^ (i % 16) : Nat) : Int) := by
          unfold shl
          rw [Int.toNat_natCast, Nat.min_eq_left (by show i % 16 ≤ 32; omega), wrap32, Int.one_mul]
          have := Nat.pow_lt_pow_right (a := 2) (by omega) (show i % 16 < 16 by omega)
          rw [show (2 : Int) ^ (i % 16) = ((2 ^ (i % 16) : Nat) : Int) by rw [Int.natCast_pow]; rfl]
          obtain ⟨Y, hY⟩ : ∃ Y, 2 ^ (i % 16) = Y := ⟨_, rfl⟩
          rw [hY] at this ⊢
          omega
        rw [hshl]
        have hadd := or_adds16 hdq i (by omega) Q hQ0 e2
        have u1 : (2 * T + w) / bn = 2 * Q + 1 := by
          rw [← hdm, show 2 * (bn * Q + R) + w = (2 * R + w - bn) + bn * (2 * Q + 1) by grind, Int.add_mul_ediv_left _ _ (by omega), Int.ediv_eq_zero_of_lt (by omega) (by omega)]; omega
        have u2 : (2 * T + w) % bn = 2 * R + w - bn := by
          rw [← hdm, show 2 * (bn * Q + R) + w = (2 * R + w - bn) + bn * (2 * Q + 1) by grind, Int.add_mul_emod_self_left, Int.emod_eq_of_lt (by omega) (by omega)]
        have hfit : 0 ≤ bits .or .u32 (q.getD (i / 16) 0) ((2 ^ (i % 16) : Nat) : Int) ∧ bits .or .u32 (q.getD (i / 16) 0) ((2 ^ (i % 16) : Nat) : Int) < B16 := by
          have hx := hdq.getD B16_pos (i / 16)
          obtain ⟨X, hX⟩ := Int.eq_ofNat_of_zero_le hx.1
          rw [hX] at hx ⊢
          unfold B16 at hx ⊢
          have hp := Nat.pow_lt_pow_right (a := 2) (by omega) (show i % 16 < 16 by omega)
          rw [bits_or_u32 _ _ (by omega) (by omega)]
          have := Nat.or_lt_two_pow (n := 16) (x := X) (y := 2 ^ (i % 16)) (by omega) (by omega)
          omega
        refine ih _ r4 k (by omega) (by omega) (by simp [hq]) (hdq.set hfit _) m2 ?_ ?_
        · rw [hhalf, hbn, u2, m3, hv, hbn]
        · rw [hadd, hhalf, hbn, u1, e2, Nat.pow_succ, Int.natCast_mul]
          grind
    by_cases c : w = 1
    · rw [hw, if_pos c]
      have d1 : Dig B16 [1] := Dig.nil.cons (by unfold B16; omega)
      obtain ⟨r3, s1, s2, s3, s4⟩ := plus_f p2.1 d1 1001 (by omega) (by simp) (by omega) k (by omega)
      rw [s1]
      simp only [Option.bind_some]
      exact key r3 k (by omega) s2 (by rw [s3, p3, e1]; simp [nv]; omega) (by omega)
    · rw [hw, if_neg c]
      exact key r2 k (by omega) p2 (by rw [p3, e1]; omega) (by omega)
theorem over_f {a b : List Int} (ha : Dig B16 a) (hb : Canon B16 b) (hpos : 0 < nv B16 b) (la : a.length ≤ 1000) (lb : b.length ≤ 1000) (k : Nat) (hk : 50000 ≤ k) :
    ∃ ys zs, marlinspikeref01_Over.f k a b = some (ys, zs) ∧ Canon B16 ys ∧ Canon B16 zs ∧ nv B16 ys = nv B16 a / nv B16 b ∧ nv B16 zs = nv B16 a % nv B16 b ∧ ys.length ≤ a.length ∧ zs.length ≤ b.length := by
  have hA := nv_nonneg B16_pos ha
  have h1 := nv_lt B16_pos ha
  rw [B16_pow] at h1
  have e0 : nv B16 a / ((2 ^ (16 * a.length) : Nat) : Int) = 0 := Int.ediv_eq_zero_of_lt hA h1
  unfold marlinspikeref01_Over.f
  rw [if_pos (by omega), if_pos (by omega), w64 (x := 16 * (a.length : Int)) (by omega) (by omega), w64 (by omega) (by omega), Int.toNat_natCast, show 16 * (a.length : Int) - 1 = ((16 * a.length : Nat) : Int) - 1 by omega]
  exact over_l0 ha hb hpos la lb (16 * a.length) _ [] k (Nat.le_refl _) (by omega) (by simp) (Dig.replicate B16_pos _) canon_nil (by rw [e0]; simp [nv]) (by rw [e0]; simp [nv_replicate])
end Go.Proofs.Ytokadjfakncdfaa
end
section
set_option linter.unusedVariables false
set_option linter.unusedSimpArgs false
namespace Go.Proofs.Ytokadjfakncdfaa
open Go.RowKit Go.Proofs.YtokadjfakncdfaaW.PrintWords Go.Proofs.YtokadjfakncdfaaW.PrintLast Go.Proofs.YtokadjfakncdfaaW.PrintMore
open PR
theorem B16_4 (i : Nat) : B16 ^ (4 * i) = B64 ^ i := by
  rw [Int.pow_mul]; rfl
theorem dig_at (w : Int) (hw : 0 ≤ w ∧ w < B64) (j : Nat) (hj : j < 4) : bits .and .u64 (shr .u64 w (16 * (j : Int))) 65535 % 4294967296 = w / ((2 ^ (16 * j) : Nat) : Int) % 65536 := by
  obtain ⟨W, rfl⟩ := Int.eq_ofNat_of_zero_le hw.1
  have hw2 := hw.2
  rw [show B64 = 18446744073709551616 from rfl] at hw2
  have e : shr .u64 (W : Int) (16 * (j : Int)) = ((W / 2 ^ (16 * j) : Nat) : Int) := by
    unfold shr
    rw [show (16 * (j : Int)).toNat = 16 * j by omega, Nat.min_eq_left (by show 16 * j ≤ 64; omega), Int.natCast_ediv, Int.natCast_pow]
    rfl
  have h3 : W / 2 ^ (16 * j) ≤ W := Nat.div_le_self _ _
  obtain ⟨Y, hY⟩ : ∃ Y, W / 2 ^ (16 * j) = Y := ⟨_, rfl⟩
  rw [e, ← Int.natCast_ediv, hY]
  rw [hY] at h3
  have := bits_and_u64_nat Y 65535 (by omega) (by omega)
  rw [show ((65535 : Nat) : Int) = 65535 from rfl] at this
  rw [this, show (65535 : Nat) = 2 ^ 16 - 1 from rfl, Nat.and_two_pow_sub_one_eq_mod]
  omega
theorem digits_step (a out : List Int) (da : Dig B64 a) (i j : Nat) (k : Nat) (hi : i < a.length) (hj : j < 4) (hl : a.length ≤ 100000) (ho : out.length ≤ 1000000) :
    marlinspikeref01_Digits.l1 (k + 1) a out (i : Int) (j : Int) = marlinspikeref01_Digits.l1 k a (out ++ [a.getD i 0 / ((2 ^ (16 * j) : Nat) : Int) % 65536]) (i : Int) ((j + 1 : Nat) : Int) := by
  rw [marlinspikeref01_Digits.l1]
  rw [if_pos (by omega), if_pos (by omega), if_pos (by omega), w64 (x := 16 * (j : Int)) (by omega) (by omega), if_pos (by omega), if_pos (by omega), rd_nat, dig_at _ (da.getD B64_pos i) j hj, w64 (by omega) (by omega), show (j : Int) + 1 = ((j + 1 : Nat) : Int) by omega]
theorem digits_l0 {a : List Int} (da : Dig B64 a) (hl : a.length ≤ 1000) : ∀ (d i : Nat) (out : List Int) (k : Nat), i + d = a.length → 6 * d + 4 * a.length + 5 ≤ k →
    out.length = 4 * i → Dig B16 out → nv B16 out = nv B64 (a.take i) →
    ∃ ys, marlinspikeref01_Digits.l0 k a out (i : Int) = some ys ∧ Canon B16 ys ∧ nv B16 ys = nv B64 a ∧ ys.length ≤ 4 * a.length := by
  intro d
  induction d with
  | zero =>
    intro i out k hi hk ho hd hv
    obtain ⟨k, rfl⟩ : ∃ m, k = m + 1 := ⟨k - 1, by omega⟩
    rw [marlinspikeref01_Digits.l0]
    rw [if_neg (by omega)]
    obtain ⟨ys, h1, h2, h3, h4⟩ := trim_f out.length out rfl (by omega) hd k (by omega)
    refine ⟨ys, by rw [h1, Option.bind_some], h2, ?_, by omega⟩
    rw [h3, hv, take_len a i (by omega)]
  | succ d ih =>
    intro i out k hi hk ho hd hv
    obtain ⟨k, rfl⟩ : ∃ m, k = m + 1 + 1 + 1 + 1 + 1 + 1 := ⟨k - 6, by omega⟩
    rw [marlinspikeref01_Digits.l0]
    rw [if_pos (by omega), show (0 : Int) = ((0 : Nat) : Int) from rfl]
    obtain ⟨w, hw⟩ : ∃ w, a.getD i 0 = w := ⟨_, rfl⟩
    have hwb := hw ▸ da.getD B64_pos i
    rw [digits_step a out da i 0 _ (by omega) (by omega) (by omega) (by omega)]
    rw [digits_step a _ da i 1 _ (by omega) (by omega) (by omega) (by simp; omega)]
    rw [digits_step a _ da i 2 _ (by omega) (by omega) (by omega) (by simp; omega)]
    rw [digits_step a _ da i 3 _ (by omega) (by omega) (by omega) (by simp; omega)]
    rw [marlinspikeref01_Digits.l1, if_neg (by omega), w64 (by omega) (by omega), show (i : Int) + 1 = ((i + 1 : Nat) : Int) by omega, hw]
    simp only [Nat.mul_zero, Nat.pow_zero, Nat.reduceMul, Nat.reducePow, Nat.reduceAdd]
    unfold B64 at hwb
    have hdd : ∀ z : Int, 0 ≤ z % 65536 ∧ z % 65536 < B16 := fun z => by unfold B16; omega
    refine ih (i + 1) _ k (by omega) (by omega) (by simp; omega) ((((hd.snoc (hdd _)).snoc (hdd _)).snoc (hdd _)).snoc (hdd _)) ?_
    rw [nv_snoc, nv_snoc, nv_snoc, nv_snoc, nv_take_succ, hw, ← B16_4, hv]
    simp only [List.length_append, List.length_cons, List.length_nil, ho, Nat.zero_add]
    have p1 : B16 ^ (4 * i + 1) = B16 ^ (4 * i) * 65536 := by rw [Int.pow_succ]; rfl
    have p2 : B16 ^ (4 * i + 1 + 1) = B16 ^ (4 * i) * 4294967296 := by rw [Int.pow_succ, p1, Int.mul_assoc]; rfl
    have p3 : B16 ^ (4 * i + 1 + 1 + 1) = B16 ^ (4 * i) * 281474976710656 := by rw [Int.pow_succ, p2, Int.mul_assoc]; rfl
    rw [p1, p2, p3]
    obtain ⟨P, hP⟩ : ∃ P, B16 ^ (4 * i) = P := ⟨_, rfl⟩
    rw [hP]
    have e : w = w / ((1 : Nat) : Int) % 65536 + 65536 * (w / ((65536 : Nat) : Int) % 65536) + 4294967296 * (w / ((4294967296 : Nat) : Int) % 65536) + 281474976710656 * (w / ((281474976710656 : Nat) : Int) % 65536) := by omega
    obtain ⟨d0, h0⟩ : ∃ z, w / ((1 : Nat) : Int) % 65536 = z := ⟨_, rfl⟩
    obtain ⟨d1, h1⟩ : ∃ z, w / ((65536 : Nat) : Int) % 65536 = z := ⟨_, rfl⟩
    obtain ⟨d2, h2⟩ : ∃ z, w / ((4294967296 : Nat) : Int) % 65536 = z := ⟨_, rfl⟩
    obtain ⟨d3, h3⟩ : ∃ z, w / ((281474976710656 : Nat) : Int) % 65536 = z := ⟨_, rfl⟩
    rw [h0, h1, h2, h3] at e ⊢
    rw [e]
    grind
theorem digits_f {a : List Int} (da : Dig B64 a) (hl : a.length ≤ 1000) (k : Nat) (hk : 10 * a.length + 5 ≤ k) :
    ∃ ys, marlinspikeref01_Digits.f k a = some ys ∧ Canon B16 ys ∧ nv B16 ys = nv B64 a ∧ ys.length ≤ 4 * a.length :=
  digits_l0 da hl a.length 0 [] k (by omega) (by omega) rfl Dig.nil (by simp [nv])
end Go.Proofs.Ytokadjfakncdfaa
end
section
set_option linter.unusedVariables false
set_option linter.unusedSimpArgs false
namespace Go.Proofs.Ytokadjfakncdfaa
open Go.RowKit Go.Proofs.YtokadjfakncdfaaW.PrintWords Go.Proofs.YtokadjfakncdfaaW.PrintLast Go.Proofs.YtokadjfakncdfaaW.PrintMore
open PR
/-- A digit laid above all that a word holds so far. -/
theorem or_above {q : List Int} (dq : Dig B64 q) (i : Nat) (hi : i / 4 < q.length) (hq : nv B64 q < B16 ^ i) (y : Int) (hy : 0 ≤ y ∧ y < 65536) :
    ∃ v, bits .or .u64 (q.getD (i / 4) 0) (shl .u64 (IntKind.u64.wrap y) (16 * ((i % 4 : Nat) : Int))) = v ∧ (0 ≤ v ∧ v < B64) ∧ nv B64 (q.set (i / 4) v) = nv B64 q + B16 ^ i * y := by
  have hx := dq.getD B64_pos (i / 4)
  obtain ⟨X, hX⟩ := Int.eq_ofNat_of_zero_le hx.1
  obtain ⟨Y, rfl⟩ := Int.eq_ofNat_of_zero_le hy.1
  have hsp := nv_split B64 q (i / 4) (by omega)
  have e1 : q.drop (i / 4) = q.getD (i / 4) 0 :: q.drop (i / 4 + 1) := by
    rw [List.drop_eq_getElem_cons hi, List.getD_eq_getElem?_getD, List.getElem?_eq_getElem hi]; rfl
  have h1 := nv_nonneg B64_pos (dq.take (i / 4))
  have h2 := nv_nonneg B64_pos (dq.drop (i / 4 + 1))
  have hp := pow_pos' B64_pos (i / 4)
  have e2 : B16 ^ i = B64 ^ (i / 4) * ((2 ^ (16 * (i % 4)) : Nat) : Int) := by
    rw [← B16_4, ← B16_pow, ← Int.pow_add]
    congr 1
    omega
  -- what the word holds is less
  have hlt : X < 2 ^ (16 * (i % 4)) := by
    rw [e1, nv_cons, hX] at hsp
    have h3 : B64 ^ (i / 4) * (X : Int) ≤ nv B64 q := by
      have h4 : 0 ≤ B64 ^ (i / 4) * (B64 * nv B64 (q.drop (i / 4 + 1))) := Int.mul_nonneg (Int.le_of_lt hp) (Int.mul_nonneg (by decide) h2)
      rw [hsp, Int.mul_add]
      omega
    rw [e2] at hq
    have := Int.lt_of_mul_lt_mul_left (Int.lt_of_le_of_lt h3 hq) (Int.le_of_lt hp)
    exact Int.ofNat_lt.1 this
  obtain ⟨s, hs⟩ : ∃ s, s = 16 * (i % 4) := ⟨_, rfl⟩
  have hs48 : s ≤ 48 := by omega
  have hYs : Y * 2 ^ s < 18446744073709551616 := by
    have h5 : Y < 2 ^ 16 := by omega
    have h6 : Y * 2 ^ s < 2 ^ 16 * 2 ^ s := Nat.mul_lt_mul_of_pos_right h5 (Nat.two_pow_pos _)
    rw [← Nat.pow_add] at h6
    have h7 : (2 : Nat) ^ (16 + s) ≤ 2 ^ 64 := Nat.pow_le_pow_right (by omega) (by omega)
    omega
  have eshl : shl .u64 (IntKind.u64.wrap (Y : Int)) (16 * ((i % 4 : Nat) : Int)) = ((Y * 2 ^ s : Nat) : Int) := by
    unfold shl
    rw [IntKind.wrap_u64, IntKind.wrap_u64, show (16 * ((i % 4 : Nat) : Int)).toNat = s by omega, Nat.min_eq_left (by show s ≤ 64; omega), show (Y : Int) % 18446744073709551616 = (Y : Int) by omega,
      show (Y : Int) * 2 ^ s = ((Y * 2 ^ s : Nat) : Int) by rw [Int.natCast_mul, Int.natCast_pow]; rfl]
    omega
  rw [← hs] at hlt
  have hX64 : X < 18446744073709551616 := by
    have : (2 : Nat) ^ s ≤ 2 ^ 48 := Nat.pow_le_pow_right (by omega) hs48
    omega
  refine ⟨((X + Y * 2 ^ s : Nat) : Int), ?_, ?_, ?_⟩
  · rw [hX, eshl, bits_or_u64_nat _ _ hX64 hYs]
    have := Nat.two_pow_add_eq_or_of_lt hlt Y
    rw [Nat.or_comm, Nat.mul_comm Y, ← this, Nat.add_comm]
  · have h5 : Y < 2 ^ 16 := by omega
    have h6 : X + Y * 2 ^ s < 2 ^ s * 2 ^ 16 := by
      have : (Y + 1) * 2 ^ s ≤ 2 ^ 16 * 2 ^ s := Nat.mul_le_mul_right _ h5
      rw [Nat.succ_mul] at this
      rw [Nat.mul_comm (2 ^ s)]
      omega
    rw [← Nat.pow_add] at h6
    have h7 : (2 : Nat) ^ (s + 16) ≤ 2 ^ 64 := Nat.pow_le_pow_right (by omega) (by omega)
    rw [B64_eq]
    omega
  · rw [nv_set _ _ _ _ hi, hX, e2, ← hs, Int.natCast_add, show (X : Int) + ((Y * 2 ^ s : Nat) : Int) - (X : Int) = ((Y * 2 ^ s : Nat) : Int) by omega, Int.natCast_mul]
    grind
theorem words_l0 {a : List Int} (da : Dig B16 a) (hl : a.length ≤ 4000) : ∀ (d i : Nat) (out : List Int) (k : Nat), i + d = a.length → d + a.length + 8 ≤ k →
    out.length = (i + 3) / 4 → Dig B64 out → nv B64 out = nv B16 (a.take i) →
    ∃ ys, marlinspikeref01_Words.l0 k a out (i : Int) = some ys ∧ Canon B64 ys ∧ nv B64 ys = nv B16 a ∧ ys.length ≤ (a.length + 3) / 4 := by
  intro d
  induction d with
  | zero =>
    intro i out k hi hk ho hd hv
    obtain ⟨k, rfl⟩ : ∃ m, k = m + 1 := ⟨k - 1, by omega⟩
    rw [marlinspikeref01_Words.l0]
    rw [if_neg (by omega)]
    obtain ⟨ys, h1, h2, h3, h4⟩ := words_l1 out.length out rfl (by omega) hd k (by omega)
    refine ⟨ys, h1, h2, ?_, ?_⟩
    · rw [h3, hv, take_len a i (by omega)]
    · rw [ho] at h4
      obtain rfl : i = a.length := by omega
      exact h4
  | succ d ih =>
    intro i out k hi hk ho hd hv
    obtain ⟨k, rfl⟩ : ∃ m, k = m + 1 := ⟨k - 1, by omega⟩
    have hy := da.getD B16_pos i
    obtain ⟨y, hyy⟩ : ∃ y, a.getD i 0 = y := ⟨_, rfl⟩
    rw [hyy] at hy
    have hvl : nv B64 out < B16 ^ i := by
      rw [hv]
      have := nv_lt B16_pos (da.take i)
      rw [List.length_take, Nat.min_eq_left (by omega)] at this
      exact this
    rw [marlinspikeref01_Words.l0]
    rw [if_pos (by omega), Int.tmod_eq_emod_of_nonneg (by omega), Int.tdiv_eq_ediv_of_nonneg (by omega), w64 (x := (i : Int) / 4) (by omega) (by omega), show (i : Int) / 4 = ((i / 4 : Nat) : Int) by omega, show (i : Int) % 4 = ((i % 4 : Nat) : Int) by omega]
    rw [w64 (x := 16 * ((i % 4 : Nat) : Int)) (by omega) (by omega), w64 (x := (i : Int) + 1) (by omega) (by omega), show (i : Int) + 1 = ((i + 1 : Nat) : Int) by omega]
    by_cases c : i % 4 = 0
    · rw [if_pos (by omega), if_pos (by omega), Option.bind_some, if_pos (by omega), if_pos (by simp; omega), if_pos (by omega), if_pos (by omega), rd_nat, rd_nat, Int.toNat_natCast, hyy]
      have hd0 : Dig B64 (out ++ [0]) := hd.snoc (by decide)
      have hv0 : nv B64 (out ++ [0]) = nv B64 out := by rw [nv_snoc]; simp
      obtain ⟨v, hv1, hv2, hv3⟩ := or_above hd0 i (by simp; omega) (by rw [hv0]; exact hvl) y hy
      rw [hv1]
      exact ih (i + 1) _ k (by omega) (by omega) (by simp; omega) (hd0.set hv2 _) (by rw [hv3, hv0, hv, nv_take_succ, hyy])
    · rw [if_neg (by omega), if_pos (by omega), if_pos (by omega), if_pos (by omega), if_pos (by omega), rd_nat, rd_nat, Int.toNat_natCast, hyy]
      obtain ⟨v, hv1, hv2, hv3⟩ := or_above hd i (by omega) hvl y hy
      rw [hv1]
      exact ih (i + 1) _ k (by omega) (by omega) (by simp; omega) (hd.set hv2 _) (by rw [hv3, hv, nv_take_succ, hyy])
theorem words_f {a : List Int} (da : Dig B16 a) (hl : a.length ≤ 4000) (k : Nat) (hk : 2 * a.length + 8 ≤ k) :
    ∃ ys, marlinspikeref01_Words.f k a = some ys ∧ Canon B64 ys ∧ nv B64 ys = nv B16 a ∧ ys.length ≤ (a.length + 3) / 4 :=
  words_l0 da hl a.length 0 [] k (by omega) (by omega) rfl Dig.nil (by simp [nv])
end Go.Proofs.Ytokadjfakncdfaa
end
section
set_option linter.unusedVariables false
set_option linter.unusedSimpArgs false
namespace Go.Proofs.Ytokadjfakncdfaa
open Go.RowKit Go.Proofs.YtokadjfakncdfaaW.PrintWords Go.Proofs.YtokadjfakncdfaaW.PrintLast Go.Proofs.YtokadjfakncdfaaW.PrintMore
open PR
/-- v reads as digits, in form, of the number n, at most L of them. -/
structure DG (w : World) (v : Value) (n : Int) (L : Nat) : Prop where
  mk ::
  out : ∃ ys, RL .u32 w v ys ∧ Canon B16 ys ∧ nv B16 ys = n ∧ ys.length ≤ L
theorem DG.below {w w' : World} {v : Value} {n : Int} {L : Nat} (h : DG w v n L) (hb : Below w.heap.size w w') : DG w' v n L := by
  obtain ⟨ys, h1, h2, h3, h4⟩ := h.out
  exact ⟨ys, h1.below hb, h2, h3, h4⟩
theorem DG.of_V {w : World} {v : Value} {ys : List Int} {e base : Nat} {ok : Nat → Prop} (h : Kd.V (Kd.int .u32) e w base ok v ys) (hc : Canon B16 ys) (L : Nat) (hl : ys.length ≤ L) : DG w v (nv B16 ys) L := ⟨ys, RL.of_V h, hc, rfl, hl⟩
theorem digits_n {w : World} {va : Value} {x : Int} {la : Nat} (ha : DN w va x la) (h1 : la ≤ 1000) :
    Calls Try.prog 27 #[va] w fun e w' => ∃ v', e = .returned v' ∧ DG w' v' x (4 * la) ∧ Below w.heap.size w w' := by
  obtain ⟨xs, ⟨A, c, rfl, hc, hC⟩, d, rfl, hl⟩ := ha.out
  obtain ⟨ys, hf, c1, n1, l1⟩ := digits_f d (by omega) _ (Nat.le_refl _)
  refine (marlinspikeref01_Digits.calls _ A c xs ys w hC hc hf).mono ?_
  rintro e w' ⟨v', rfl, hv, hb⟩
  exact ⟨v', rfl, n1 ▸ DG.of_V hv c1 _ (by omega), hb⟩
theorem words_n {w : World} {va : Value} {x : Int} {la : Nat} (ha : DG w va x la) (h1 : la ≤ 4000) :
    Calls Try.prog 32 #[va] w fun e w' => ∃ v', e = .returned v' ∧ CN w' v' x ((la + 3) / 4) ∧ Below w.heap.size w w' := by
  obtain ⟨xs, ⟨A, c, rfl, hc, hC⟩, d, rfl, hl⟩ := ha.out
  obtain ⟨ys, hf, c1, n1, l1⟩ := words_f d.1 (by omega) _ (Nat.le_refl _)
  refine (marlinspikeref01_Words.calls _ A c xs ys w hC hc hf).mono ?_
  rintro e w' ⟨v', rfl, hv, hb⟩
  exact ⟨v', rfl, ⟨ys, RL.of_R hv, c1, n1, by omega⟩, hb⟩
theorem plus_n {w : World} {va vb : Value} {x y : Int} {L : Nat} (ha : DG w va x L) (hb : DG w vb y L) (h1 : L ≤ 4000) :
    Calls Try.prog 34 #[va, vb] w fun e w' => ∃ v', e = .returned v' ∧ DG w' v' (x + y) (L + 1) ∧ Below w.heap.size w w' := by
  obtain ⟨xs, ⟨A, c, rfl, hc, hC⟩, d, rfl, hl⟩ := ha.out
  obtain ⟨zs, ⟨A', c', rfl, hc', hC'⟩, d', rfl, hl'⟩ := hb.out
  obtain ⟨ys, hf, c1, n1, l1⟩ := plus_f d.1 d'.1 L hl hl' (by omega) _ (Nat.le_refl _)
  refine (marlinspikeref01_Plus.calls _ A c xs A' c' zs ys w hC hc hC' hc' hf).mono ?_
  rintro e w' ⟨v', rfl, hv, hb⟩
  exact ⟨v', rfl, n1 ▸ DG.of_V hv c1 _ l1, hb⟩
theorem minus_n {w : World} {va vb : Value} {x y : Int} {L L' : Nat} (ha : DG w va x L) (hb : DG w vb y L') (h1 : L ≤ 4000) (hle : y ≤ x) :
    Calls Try.prog 37 #[va, vb] w fun e w' => ∃ v', e = .returned v' ∧ DG w' v' (x - y) L ∧ Below w.heap.size w w' := by
  obtain ⟨xs, ⟨A, c, rfl, hc, hC⟩, d, rfl, hl⟩ := ha.out
  obtain ⟨zs, ⟨A', c', rfl, hc', hC'⟩, d', rfl, hl'⟩ := hb.out
  obtain ⟨ys, hf, c1, n1, l1⟩ := minus_f d.1 d'.1 hle (by omega) _ (Nat.le_refl _)
  refine (marlinspikeref01_Minus.calls _ A c xs A' c' zs ys w hC hc hC' hc' hf).mono ?_
  rintro e w' ⟨v', rfl, hv, hb⟩
  exact ⟨v', rfl, n1 ▸ DG.of_V hv c1 _ (by omega), hb⟩
theorem times_n {w : World} {va vb : Value} {x y : Int} {L L' : Nat} (ha : DG w va x L) (hb : DG w vb y L') (h1 : L ≤ 1000) (h2 : L' ≤ 1000) :
    Calls Try.prog 35 #[va, vb] w fun e w' => ∃ v', e = .returned v' ∧ DG w' v' (x * y) (L + L' + 1) ∧ Below w.heap.size w w' := by
  obtain ⟨xs, ⟨A, c, rfl, hc, hC⟩, d, rfl, hl⟩ := ha.out
  obtain ⟨zs, ⟨A', c', rfl, hc', hC'⟩, d', rfl, hl'⟩ := hb.out
  obtain ⟨k0, hk⟩ := times_f d.1 d'.1 (by omega) (by omega)
  obtain ⟨ys, hf, c1, n1, l1⟩ := hk k0 (Nat.le_refl _)
  refine (marlinspikeref01_Times.calls _ A c xs A' c' zs ys w hC hc hC' hc' hf).mono ?_
  rintro e w' ⟨v', rfl, hv, hb⟩
  exact ⟨v', rfl, n1 ▸ DG.of_V hv c1 _ (by omega), hb⟩
theorem less_n {w : World} {va vb : Value} {x y : Int} {L L' : Nat} (ha : DG w va x L) (hb : DG w vb y L') (h1 : L ≤ 4000) (h2 : L' ≤ 4000) :
    Calls Try.prog 36 #[va, vb] w fun e w' => e = .returned (.bool (decide (x < y))) ∧ Below w.heap.size w w' := by
  obtain ⟨xs, ⟨A, c, rfl, hc, hC⟩, d, rfl, hl⟩ := ha.out
  obtain ⟨zs, ⟨A', c', rfl, hc', hC'⟩, d', rfl, hl'⟩ := hb.out
  refine (marlinspikeref01_Less.calls (xs.length + 1) A c xs A' c' zs _ w hC hc hC' hc' (less_f d d' (by omega) (by omega) _ (by omega))).mono ?_
  rintro e w' ⟨rfl, hb⟩
  exact ⟨rfl, hb.below⟩
theorem over_n {w : World} {va vb : Value} {x y : Int} {L L' : Nat} (ha : DG w va x L) (hb : DG w vb y L') (h1 : L ≤ 1000) (h2 : L' ≤ 1000) (hy : 0 < y) :
    Calls Try.prog 38 #[va, vb] w fun e w' => ∃ v1 v2, e = .returned (.tuple #[v1, v2]) ∧ DG w' v1 (x / y) L ∧ DG w' v2 (x % y) L' ∧ Below w.heap.size w w' := by
  obtain ⟨xs, ⟨A, c, rfl, hc, hC⟩, d, rfl, hl⟩ := ha.out
  obtain ⟨zs, ⟨A', c', rfl, hc', hC'⟩, d', rfl, hl'⟩ := hb.out
  obtain ⟨ys, us, hf, c1, c2, n1, n2, l1, l2⟩ := over_f d.1 d' hy (by omega) (by omega) _ (Nat.le_refl _)
  refine (marlinspikeref01_Over.calls _ A c xs A' c' zs ys us w hC hc hC' hc' hf).mono ?_
  rintro e w' ⟨v1, v2, rfl, hv1, hv2, hb⟩
  exact ⟨v1, v2, rfl, n1 ▸ DG.of_V hv1 c1 _ (by omega), n2 ▸ DG.of_V hv2 c2 _ (by omega), hb⟩
theorem rbits_n {w : World} {va : Value} {x : Int} {L : Nat} (ha : DG w va x L) (h1 : L ≤ 4000) (r : Nat) (hr : LenN x.toNat r) :
    Calls Try.prog 31 #[va] w fun e w' => e = .returned (.int .i64 r) ∧ Below w.heap.size w w' := by
  obtain ⟨xs, ⟨A, c, rfl, hc, hC⟩, d, rfl, hl⟩ := ha.out
  refine (marlinspikeref01_Bits.calls _ A c xs _ w hC hc (bits_f d.1 (by omega) r hr _ (Nat.le_refl _))).mono ?_
  rintro e w' ⟨rfl, hb⟩
  exact ⟨rfl, hb.below⟩
theorem long_n {w : World} {va : Value} {xs : List Int} (ha : RL .u64 w va xs) :
    Calls Try.prog 28 #[va] w fun e w' => e = .returned (.bool (decide ((xs.length : Int) > 80))) ∧ Below w.heap.size w w' := by
  obtain ⟨A, c, rfl, hc, hC⟩ := ha
  refine (marlinspikeref01_Long.calls A c xs _ w hC hc rfl).mono ?_
  rintro e w' ⟨rfl, hb⟩
  exact ⟨rfl, hb.below⟩
end Go.Proofs.Ytokadjfakncdfaa
end
section
set_option linter.unusedVariables false
set_option linter.unusedSimpArgs false
namespace Go.Proofs.Ytokadjfakncdfaa
open Go.RowKit Go.Proofs.YtokadjfakncdfaaW.PrintWords Go.Proofs.YtokadjfakncdfaaW.PrintLast Go.Proofs.YtokadjfakncdfaaW.PrintMore
open PR
theorem DG.zero {w : World} {v : Value} {L : Nat} (h : DG w v 0 L) : ∃ A c, v = .slice A 0 c := by
  obtain ⟨ys, ⟨A, c, rfl, _⟩, h2, h3, h4⟩ := h.out
  have := (canon_nv_zero B16_pos h2).1 h3
  subst this
  exact ⟨A, c, rfl⟩
theorem DG.pos {w : World} {v : Value} {n : Int} {L : Nat} (h : DG w v n L) (hn : 0 < n) : ∃ A l c, v = .slice A l c ∧ ¬ ((l : Int) = 0) := by
  obtain ⟨ys, ⟨A, c, rfl, _⟩, h2, h3, h4⟩ := h.out
  refine ⟨A, ys.length, c, rfl, fun e => ?_⟩
  have : ys = [] := List.eq_nil_of_length_eq_zero (by omega)
  rw [this] at h3
  simp [nv] at h3
  omega
end Go.Proofs.Ytokadjfakncdfaa
end
