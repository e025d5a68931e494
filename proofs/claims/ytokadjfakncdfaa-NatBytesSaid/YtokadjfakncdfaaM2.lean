/- Plain laws: what slices.Reverse and slices.Compare do, told of numbers. -/
import Derived.Test.YtokadjfakncdfaaPRr
import Derived.Test.YtokadjfakncdfaaPRx6
import Derived.Test.YtokadjfakncdfaaM1
set_option linter.unusedVariables false
namespace Go.Proofs.Ytokadjfakncdfaa
open Go.RowKit Go.Proofs.YtokadjfakncdfaaW.PrintWords PR

theorem w64 {x : Int} (h : -9223372036854775808 ≤ x) (h' : x ≤ 9223372036854775807) : wrap64 x = x := by unfold wrap64; omega
theorem getD_set (xs : List Int) (i p : Nat) (y : Int) (hi : i < xs.length) : (xs.set i y).getD p 0 = if p = i then y else xs.getD p 0 := by
  rw [List.getD_eq_getElem?_getD, List.getElem?_set, List.getD_eq_getElem?_getD]
  by_cases h : i = p
  · subst h; simp [hi]
  · rw [if_neg h, if_neg (fun e => h e.symm)]
theorem getD_reverse (xs : List Int) (p : Nat) (h : p < xs.length) : xs.reverse.getD p 0 = xs.getD (xs.length - 1 - p) 0 := by
  rw [List.getD_eq_getElem?_getD, List.getElem?_reverse h, List.getD_eq_getElem?_getD]
theorem ext_getD {xs ys : List Int} (hl : xs.length = ys.length) (h : ∀ p, p < xs.length → xs.getD p 0 = ys.getD p 0) : xs = ys := by
  refine List.ext_getElem hl fun p h1 h2 => ?_
  have := h p h1
  rw [List.getD_eq_getElem?_getD, List.getD_eq_getElem?_getD, List.getElem?_eq_getElem h1, List.getElem?_eq_getElem h2] at this
  exact this

theorem rev_l0 (xs : List Int) (hn : xs.length ≤ 4611686018427387904) : ∀ (k : Nat) (x : List Int) (i j : Int), x.length = xs.length → i + j = (xs.length : Int) - 1 → 0 ≤ i → -1 ≤ j → j - i < k → 0 < k →
    (∀ p : Nat, p < xs.length → x.getD p 0 = if (p : Int) < i ∨ j < (p : Int) then xs.getD (xs.length - 1 - p) 0 else xs.getD p 0) →
    slices_Reverse_uint64_uint64.l0 k x i j = some xs.reverse := by
  intro k
  induction k with
  | zero => intro x i j _ _ _ _ _ h; omega
  | succ k ih =>
    intro x i j hl hs h0 hj hd _ hp
    simp only [slices_Reverse_uint64_uint64.l0]
    by_cases hij : i < j
    · rw [if_pos hij, if_pos (by omega), if_pos (by omega), if_pos (by omega), if_pos (by omega), w64 (by omega) (by omega), w64 (by omega) (by omega)]
      refine ih _ _ _ (by simp [hl]) (by omega) (by omega) (by omega) (by omega) (by omega) ?_
      intro p hpl
      rw [getD_set _ _ _ _ (by rw [List.length_set]; omega), getD_set _ _ _ _ (by omega)]
      have e1 := hp p hpl
      have e2 := hp i.toNat (by omega)
      have e3 := hp j.toNat (by omega)
      unfold rd
      by_cases c1 : p = j.toNat
      · rw [if_pos c1, e2, if_neg (by omega), if_pos (by omega)]
        congr 1; omega
      · rw [if_neg c1]
        by_cases c2 : p = i.toNat
        · rw [if_pos c2, e3, if_neg (by omega), if_pos (by omega)]
          congr 1; omega
        · rw [if_neg c2, e1]
          by_cases c3 : (p : Int) < i ∨ j < (p : Int)
          · rw [if_pos c3, if_pos (by omega)]
          · rw [if_neg c3, if_neg (by omega)]
    · rw [if_neg hij]
      congr 1
      refine ext_getD (by simp [hl]) fun p hpl => ?_
      rw [hp p (by omega), getD_reverse _ _ (by omega)]
      by_cases c3 : (p : Int) < i ∨ j < (p : Int)
      · rw [if_pos c3]
      · rw [if_neg c3]; congr 1; omega
theorem rev_f (xs : List Int) (hn : xs.length ≤ 4611686018427387904) : ∃ k, slices_Reverse_uint64_uint64.f k xs = some xs.reverse := by
  refine ⟨xs.length + 1, ?_⟩
  unfold slices_Reverse_uint64_uint64.f
  rw [w64 (by omega) (by omega)]
  refine rev_l0 xs hn _ _ _ _ rfl (by omega) (by omega) (by omega) (by omega) (by omega) fun p hp => ?_
  rw [if_neg (by omega)]

theorem cmpc_f (x y : Int) : cmp_Compare_uint64.f x y = some (cmpI x y) := by
  unfold cmp_Compare_uint64.f cmp_isNaN_uint64.f cmpI
  simp only [bne_self_eq_false, Option.bind_some, Bool.false_eq_true, if_false]
  by_cases h : x < y
  · rw [if_pos h, if_pos h]
  · rw [if_neg h, if_neg h]
    by_cases h2 : y < x
    · rw [if_pos h2, if_pos h2]
    · rw [if_neg h2, if_neg h2]
theorem drop_eq_of {xs ys : List Int} (hl : xs.length = ys.length) (n : Nat) (h : ∀ p, n ≤ p → p < xs.length → xs.getD p 0 = ys.getD p 0) : xs.drop n = ys.drop n := by
  refine ext_getD (by simp [hl]) fun p hp => ?_
  rw [List.length_drop] at hp
  rw [List.getD_eq_getElem?_getD, List.getElem?_drop, ← List.getD_eq_getElem?_getD, h _ (by omega) (by omega), List.getD_eq_getElem?_getD (l := ys.drop n), List.getElem?_drop, ← List.getD_eq_getElem?_getD]
theorem cmp_l0 {B : Int} (hB : 0 < B) (xs ys : List Int) (hl : xs.length = ys.length) (hn : xs.length ≤ 4611686018427387904) (hx : Dig B xs) (hy : Dig B ys) : ∀ (d k : Nat) (i : Nat), i + d = xs.length → d < k →
    (∀ p, xs.length - i ≤ p → p < xs.length → xs.getD p 0 = ys.getD p 0) →
    slices_Compare_uint64_uint64.l0 k xs.reverse ys.reverse xs.reverse (xs.length : Int) (i : Int) = some (cmpI (nv B xs) (nv B ys)) := by
  intro d
  induction d with
  | zero =>
    intro k i hi hk hp
    obtain ⟨k, rfl⟩ : ∃ m, k = m + 1 := ⟨k - 1, by omega⟩
    simp only [slices_Compare_uint64_uint64.l0]
    have e : xs = ys := ext_getD hl fun p h => hp p (by omega) h
    rw [if_neg (by omega), if_neg (by simp [hl]), e, cmpI_self]
  | succ d ih =>
    intro k i hi hk hp
    obtain ⟨k, rfl⟩ : ∃ m, k = m + 1 := ⟨k - 1, by omega⟩
    simp only [slices_Compare_uint64_uint64.l0]
    rw [if_pos (by omega), if_pos (by omega), if_pos (by simp; omega), if_neg (by simp; omega), if_pos (by simp; omega), cmpc_f]
    simp only [Option.bind_some]
    unfold rd
    rw [Int.toNat_natCast, getD_reverse _ _ (by omega), getD_reverse _ _ (by omega)]
    rw [← hl]
    by_cases c : xs.getD (xs.length - 1 - i) 0 = ys.getD (xs.length - 1 - i) 0
    · rw [if_pos (by rw [c, cmpI_self]), w64 (by omega) (by omega)]
      refine ih k (i + 1) (by omega) (by omega) fun p h1 h2 => ?_
      by_cases e : p = xs.length - 1 - i
      · rw [e, c]
      · exact hp p (by omega) h2
    · rw [if_neg (by rcases cmpI_cases (xs.getD (xs.length - 1 - i) 0) (ys.getD (xs.length - 1 - i) 0) with ⟨_, e⟩ | ⟨e, _⟩ | ⟨_, e⟩ <;> omega)]
      rw [cmpI_top hB hx hy hl (xs.length - 1 - i) (by omega) (drop_eq_of hl _ fun p h1 h2 => hp p (by omega) h2) c]
theorem cmp_f {B : Int} (hB : 0 < B) (xs ys : List Int) (hl : xs.length = ys.length) (hn : xs.length ≤ 4611686018427387904) (hx : Dig B xs) (hy : Dig B ys) :
    ∃ k, slices_Compare_uint64_uint64.f k xs.reverse ys.reverse = some (cmpI (nv B xs) (nv B ys)) := by
  refine ⟨xs.length + 1, ?_⟩
  unfold slices_Compare_uint64_uint64.f
  have := cmp_l0 hB xs ys hl hn hx hy xs.length (xs.length + 1) 0 (by omega) (by omega) (fun p h1 h2 => by omega)
  simpa using this
end Go.Proofs.Ytokadjfakncdfaa
