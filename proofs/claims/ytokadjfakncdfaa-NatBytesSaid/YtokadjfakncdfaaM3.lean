/- Plain laws: sums and differences, word by word. -/
import Derived.Test.YtokadjfakncdfaaM1
set_option linter.unusedVariables false
namespace Go.Proofs.Ytokadjfakncdfaa

/-- After i words of a sum. -/
def AddInv (B : Int) (a b : List Int) (i : Nat) (acc : List Int) (c : Int) : Prop :=
  nv B acc + B ^ i * c = nv B (a.take i) + nv B (b.take i)
/-- After i words of a difference. -/
def SubInv (B : Int) (a b : List Int) (i : Nat) (acc : List Int) (c : Int) : Prop :=
  nv B acc + nv B (b.take i) = nv B (a.take i) + B ^ i * c

theorem AddInv.zero (B : Int) (a b : List Int) : AddInv B a b 0 [] 0 := by simp [AddInv, nv]
theorem SubInv.zero (B : Int) (a b : List Int) : SubInv B a b 0 [] 0 := by simp [SubInv, nv]
theorem AddInv.step {B : Int} {a b : List Int} {i : Nat} {acc : List Int} {c s c' : Int} (h : AddInv B a b i acc c) (hl : acc.length = i) (hs : s + B * c' = a.getD i 0 + b.getD i 0 + c) :
    AddInv B a b (i + 1) (acc ++ [s]) c' := by
  unfold AddInv at *
  rw [nv_snoc, hl, nv_take_succ, nv_take_succ, Int.pow_succ]
  have : B ^ i * (s + B * c') = B ^ i * (a.getD i 0 + b.getD i 0 + c) := by rw [hs]
  grind
theorem SubInv.step {B : Int} {a b : List Int} {i : Nat} {acc : List Int} {c s c' : Int} (h : SubInv B a b i acc c) (hl : acc.length = i) (hs : s + b.getD i 0 + c = a.getD i 0 + B * c') :
    SubInv B a b (i + 1) (acc ++ [s]) c' := by
  unfold SubInv at *
  rw [nv_snoc, hl, nv_take_succ, nv_take_succ, Int.pow_succ]
  have : B ^ i * (s + b.getD i 0 + c) = B ^ i * (a.getD i 0 + B * c') := by rw [hs]
  grind
theorem nv_lt_max {B : Int} (hB : 0 < B) {a : List Int} (ha : Dig B a) {n : Nat} (h : a.length ≤ n) : nv B a < B ^ n := by
  have := nv_lt hB ha
  have := pow_le_pow' hB h
  omega
theorem AddInv.done {B : Int} (hB : 1 < B) {a b acc : List Int} {c : Int} {n : Nat} (ha : Dig B a) (hb : Dig B b) (hd : Dig B acc) (hc : c = 0 ∨ c = 1) (la : a.length ≤ n) (lb : b.length ≤ n) (hl : acc.length = n + 1)
    (h : AddInv B a b (n + 1) acc c) : nv B acc = nv B a + nv B b := by
  unfold AddInv at h
  rw [List.take_of_length_le (by omega), List.take_of_length_le (by omega)] at h
  have h1 := nv_lt_max (by omega) ha la
  have h2 := nv_lt_max (by omega) hb lb
  have h3 := nv_nonneg (by omega) hd
  rcases hc with rfl | rfl
  · simpa using h
  · exfalso
    have h4 := pow_pos' (show 0 < B by omega) n
    have h5 : B ^ n * 2 ≤ B ^ n * B := Int.mul_le_mul_of_nonneg_left (by omega) (by omega)
    rw [Int.pow_succ] at h
    omega
theorem SubInv.done {B : Int} (hB : 1 < B) {a b acc : List Int} {c : Int} {n : Nat} (ha : Dig B a) (hb : Dig B b) (hd : Dig B acc) (hc : c = 0 ∨ c = 1) (la : a.length ≤ n) (lb : b.length ≤ n) (hl : acc.length = n + 1)
    (hle : nv B b ≤ nv B a) (h : SubInv B a b (n + 1) acc c) : nv B acc = nv B a - nv B b := by
  unfold SubInv at h
  rw [List.take_of_length_le (by omega), List.take_of_length_le (by omega)] at h
  have h3 := nv_lt (by omega) hd
  rw [hl] at h3
  rcases hc with rfl | rfl
  · omega
  · exfalso; omega
end Go.Proofs.Ytokadjfakncdfaa
