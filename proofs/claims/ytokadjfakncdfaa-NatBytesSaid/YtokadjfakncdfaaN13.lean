/- ref01.Same, and slices that a call has written out. -/
import Derived.Test.YtokadjfakncdfaaM2
import Derived.Test.YtokadjfakncdfaaN5
set_option linter.unusedVariables false
set_option linter.unusedSimpArgs false
namespace Go.Proofs.Ytokadjfakncdfaa
open Go.RowKit Go.Proofs.YtokadjfakncdfaaW.PrintWords Go.Proofs.YtokadjfakncdfaaW.PrintLast Go.Proofs.YtokadjfakncdfaaW.PrintMore
open PR

theorem same_l0 (xs ys : List Int) (hl : xs.length = ys.length) (hn : xs.length ≤ 4611686018427387904) : ∀ (d k i : Nat), i + d = xs.length → d < k → (∀ p, p < i → xs.getD p 0 = ys.getD p 0) →
    marlinspikeref01_Same.l0 k xs ys (i : Int) = some (decide (xs = ys)) := by
  intro d
  induction d with
  | zero =>
    intro k i hi hk hp
    obtain ⟨k, rfl⟩ : ∃ m, k = m + 1 := ⟨k - 1, by omega⟩
    simp only [marlinspikeref01_Same.l0]
    rw [if_neg (by omega)]
    have : xs = ys := ext_getD hl fun p h => hp p (by omega)
    simp [this]
  | succ d ih =>
    intro k i hi hk hp
    obtain ⟨k, rfl⟩ : ∃ m, k = m + 1 := ⟨k - 1, by omega⟩
    simp only [marlinspikeref01_Same.l0]
    rw [if_pos (by omega), if_pos (by omega), if_pos (by omega)]
    unfold rd
    rw [Int.toNat_natCast]
    by_cases c : xs.getD i 0 = ys.getD i 0
    · rw [if_pos c, w64 (by omega) (by omega)]
      refine ih k (i + 1) (by omega) (by omega) fun p h => ?_
      by_cases e : p = i
      · rw [e, c]
      · exact hp p (by omega)
    · rw [if_neg c]
      have : xs ≠ ys := fun e => c (by rw [e])
      simp [this]
theorem same_f (xs ys : List Int) (hn : xs.length ≤ 4611686018427387904) : ∃ k, marlinspikeref01_Same.f k xs ys = some (decide (xs = ys)) := by
  refine ⟨xs.length + 1, ?_⟩
  unfold marlinspikeref01_Same.f
  by_cases h : xs.length = ys.length
  · rw [if_pos (by omega)]
    exact same_l0 xs ys h hn xs.length _ 0 (by omega) (by omega) (fun p h => by omega)
  · rw [if_neg (by omega)]
    have : xs ≠ ys := fun e => h (by rw [e])
    simp [this]
theorem same_calls (va vb : Value) (a b : List Int) (w : World) (ha : RL .u64 w va a) (hb : RL .u64 w vb b) (la : a.length ≤ 1000000) :
    Calls Try.prog 21 #[va, vb] w fun e w' => e = .returned (.bool (decide (a = b))) ∧ Below w.heap.size w w' := by
  obtain ⟨A, c, rfl, hc, hC⟩ := ha
  obtain ⟨A', c', rfl, hc', hC'⟩ := hb
  obtain ⟨k, hk⟩ := same_f a b (by omega)
  refine (marlinspikeref01_Same.calls k A c a A' c' b _ w hC hc hC' hc' hk).mono ?_
  rintro e w' ⟨rfl, hd⟩
  exact ⟨rfl, hd.below⟩
/-- Of two numbers: the lists, in form, are one just where the numbers are. -/
theorem same_num {w1 w2 : World} {va vb : Value} {a b : List Int} (ha : Canon B64 a) (hb : Canon B64 b) : decide (a = b) = decide (nv B64 a = nv B64 b) := by
  by_cases h : a = b
  · simp [h]
  · have : nv B64 a ≠ nv B64 b := fun e => h (canon_inj B64_pos ha hb e)
    simp [h, this]

theorem RL.lits {k : IntKind} {e : Nat} {W : World} {g : Nat} {xs : List Int} (h : W.heap[g]? = some (.cells (xs.map (Value.int k)).toArray e (0, 0))) (hl : xs.length ≤ 1000) : RL k W (.slice (some ⟨g, 0, none⟩) xs.length xs.length) xs := by
  refine ⟨some ⟨g, 0, none⟩, xs.length, rfl, Nat.le_refl _, rfl, by omega, fun _ => ⟨_, rfl, fun j p hj => ?_⟩⟩
  refine ⟨[.int k p], rfl, rfl, fun i u hu => ?_⟩
  have hi0 : i = 0 := by
    rcases Nat.eq_zero_or_pos i with h0 | h0
    · exact h0
    · rw [List.getElem?_eq_none (by simp; omega)] at hu; cases hu
  subst hi0
  have hu' : u = .int k p := by simpa using hu.symm
  subst hu'
  refine World.news_of_block h _ _ ?_
  simp [Kd.int, Kd.scalar, List.getElem?_map, hj]
end Go.Proofs.Ytokadjfakncdfaa
