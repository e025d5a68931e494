/- Plain laws: the product, word by word. -/
import Derived.Test.YtokadjfakncdfaaM1
set_option linter.unusedVariables false
namespace Go.Proofs.Ytokadjfakncdfaa

/-- Behind i words of a, at word k of b: what stands in 'out', and the carry. -/
def MulIn (B : Int) (a b : List Int) (i k : Nat) (out : List Int) (c : Int) : Prop :=
  out.length = a.length + b.length ∧ Dig B out ∧ (0 ≤ c ∧ c < B) ∧ (∀ p, i + b.length ≤ p → out.getD p 0 = 0) ∧
    nv B out + B ^ (i + k) * c = nv B (a.take i) * nv B b + B ^ i * (a.getD i 0 * nv B (b.take k))
/-- Behind i words of a. -/
def MulOut (B : Int) (a b : List Int) (i : Nat) (out : List Int) : Prop :=
  out.length = a.length + b.length ∧ Dig B out ∧ (∀ p, i + b.length ≤ p → out.getD p 0 = 0) ∧ nv B out = nv B (a.take i) * nv B b

theorem MulOut.zero {B : Int} (hB : 0 < B) (a b : List Int) : MulOut B a b 0 (List.replicate (a.length + b.length) 0) := by
  refine ⟨by simp, Dig.replicate hB _, fun p _ => ?_, by simp [nv_replicate, nv]⟩
  rw [List.getD_eq_getElem?_getD, List.getElem?_replicate]
  split <;> rfl
theorem MulOut.enter {B : Int} (hB : 0 < B) {a b out : List Int} {i : Nat} (h : MulOut B a b i out) : MulIn B a b i 0 out 0 := by
  obtain ⟨h1, h2, h3, h4⟩ := h
  exact ⟨h1, h2, ⟨by omega, hB⟩, h3, by rw [h4]; simp [nv]⟩
theorem MulIn.step {B : Int} (hB : 0 < B) {a b out : List Int} {i k : Nat} {c l c' : Int} (h : MulIn B a b i k out c) (hi : i < a.length) (hk : k < b.length) (hl : 0 ≤ l ∧ l < B) (hc' : 0 ≤ c' ∧ c' < B)
    (hs : B * c' + l = a.getD i 0 * b.getD k 0 + out.getD (i + k) 0 + c) : MulIn B a b i (k + 1) (out.set (i + k) l) c' := by
  obtain ⟨h1, h2, h3, h4, h5⟩ := h
  refine ⟨by simp [h1], h2.set hl _, hc', fun p hp => ?_, ?_⟩
  · rw [List.getD_eq_getElem?_getD, List.getElem?_set_ne (by omega), ← List.getD_eq_getElem?_getD]
    exact h4 p hp
  · rw [nv_set _ _ _ _ (by omega), nv_take_succ]
    have e1 : B ^ (i + (k + 1)) = B ^ (i + k) * B := by rw [← Int.pow_succ]; rfl
    have e2 : B ^ i * B ^ k = B ^ (i + k) := by rw [← Int.pow_add]
    rw [e1]
    have e3 : B ^ (i + k) * (B * c' + l) = B ^ (i + k) * (a.getD i 0 * b.getD k 0 + out.getD (i + k) 0 + c) := by rw [hs]
    have e4 : B ^ i * (a.getD i 0 * (nv B (b.take k) + B ^ k * b.getD k 0)) = B ^ i * (a.getD i 0 * nv B (b.take k)) + B ^ (i + k) * (a.getD i 0 * b.getD k 0) := by rw [← e2]; grind
    rw [e4, ← Int.add_assoc (nv B (a.take i) * nv B b), ← h5]
    grind
theorem MulIn.leave {B : Int} (hB : 0 < B) {a b out : List Int} {i : Nat} {c : Int} (h : MulIn B a b i b.length out c) (hi : i < a.length) : MulOut B a b (i + 1) (out.set (i + b.length) c) := by
  obtain ⟨h1, h2, h3, h4, h5⟩ := h
  refine ⟨by simp [h1], h2.set h3 _, fun p hp => ?_, ?_⟩
  · rw [List.getD_eq_getElem?_getD, List.getElem?_set_ne (by omega), ← List.getD_eq_getElem?_getD]
    exact h4 p (by omega)
  · rw [nv_set _ _ _ _ (by omega), h4 _ (by omega), nv_take_succ]
    rw [List.take_length] at h5
    rw [show B ^ (i + b.length) * (c - 0) = B ^ (i + b.length) * c by simp, h5]
    grind
theorem MulOut.done {B : Int} {a b out : List Int} (h : MulOut B a b a.length out) : nv B out = nv B a * nv B b := by
  obtain ⟨h1, h2, h3, h4⟩ := h
  rw [List.take_length] at h4
  exact h4

/-- The carry of a product's word fits. -/
theorem mul_fits {B : Int} (hB : 0 < B) {x y o c hi lo l1 d1 l2 d2 : Int} (hx : 0 ≤ x ∧ x < B) (hy : 0 ≤ y ∧ y < B) (ho : 0 ≤ o ∧ o < B) (hc : 0 ≤ c ∧ c < B)
    (hhi : 0 ≤ hi ∧ hi < B) (hl2 : 0 ≤ l2 ∧ l2 < B) (hd1 : d1 = 0 ∨ d1 = 1) (hd2 : d2 = 0 ∨ d2 = 1)
    (e1 : B * hi + lo = x * y) (e2 : l1 + B * d1 = lo + o) (e3 : l2 + B * d2 = l1 + c) : hi + d1 + d2 < B ∧ hi + d1 < B ∧ B * (hi + d1 + d2) + l2 = x * y + o + c := by
  have e4 : B * (hi + d1 + d2) + l2 = x * y + o + c := by
    rw [Int.mul_add, Int.mul_add]; omega
  have b1 : x * y ≤ (B - 1) * (B - 1) := Int.mul_le_mul (by omega) (by omega) hy.1 (by omega)
  have b2 : B * (hi + d1 + d2) < B * B := by
    have : (B - 1) * (B - 1) = B * B - 2 * B + 1 := by grind
    omega
  have b3 : hi + d1 + d2 < B := Int.lt_of_mul_lt_mul_left b2 (by omega)
  exact ⟨b3, by omega, e4⟩
end Go.Proofs.Ytokadjfakncdfaa
