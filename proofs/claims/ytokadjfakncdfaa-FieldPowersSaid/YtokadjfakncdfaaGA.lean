/- nat: Clone, Of, Add, Sub, Mul, Bits, Bit, Same and their plain laws. -/
import Derived.Test.YtokadjfakncdfaaPRx0
import Derived.Laws.Externs
import Derived.Lib.SliceRun
import Derived.Test.YtokadjfakncdfaaPRr
import Derived.Test.YtokadjfakncdfaaPRx6
import Derived.Deep.LoopGhost
import Derived.Lib.Mul64
import Derived.Laws.Bits64b
import Derived.WalkSmall
section
namespace Go.Proofs.Ytokadjfakncdfaa

/-- The number of a list of digits to base B, the lowest first. -/
def nv (B : Int) : List Int → Int
  | [] => 0
  | x :: xs => x + B * nv B xs

/-- Digits to base B. -/
def Dig (B : Int) (xs : List Int) : Prop := ∀ x ∈ xs, 0 ≤ x ∧ x < B

/-- The words' base; the digits' base; the bytes' base. -/
def B64 : Int := 18446744073709551616
def B16 : Int := 65536
def B8 : Int := 256
theorem B64_eq : B64 = 18446744073709551616 := rfl
theorem B64_pos : 0 < B64 := by decide
theorem B16_pos : 0 < B16 := by decide
theorem B8_pos : 0 < B8 := by decide

/-- In form: digits, and no nought at the end. -/
def Canon (B : Int) (xs : List Int) : Prop := Dig B xs ∧ xs.getLast? ≠ some 0

def cmpI (x y : Int) : Int := if x < y then -1 else if y < x then 1 else 0

theorem Dig.nil {B : Int} : Dig B [] := fun _ h => by simp at h
theorem Dig.cons {B x : Int} {xs : List Int} (hx : 0 ≤ x ∧ x < B) (h : Dig B xs) : Dig B (x :: xs) := by
  intro y hy
  rcases List.mem_cons.1 hy with rfl | hy
  · exact hx
  · exact h y hy
theorem Dig.head {B x : Int} {xs : List Int} (h : Dig B (x :: xs)) : 0 ≤ x ∧ x < B := h x List.mem_cons_self
theorem Dig.tail {B x : Int} {xs : List Int} (h : Dig B (x :: xs)) : Dig B xs := fun y hy => h y (List.mem_cons_of_mem _ hy)
theorem Dig.append {B : Int} {xs ys : List Int} (h : Dig B xs) (h' : Dig B ys) : Dig B (xs ++ ys) := by
  intro y hy
  rcases List.mem_append.1 hy with hy | hy
  · exact h y hy
  · exact h' y hy
theorem Dig.snoc {B x : Int} {xs : List Int} (h : Dig B xs) (hx : 0 ≤ x ∧ x < B) : Dig B (xs ++ [x]) := h.append (Dig.nil.cons hx)
theorem Dig.left {B : Int} {xs ys : List Int} (h : Dig B (xs ++ ys)) : Dig B xs := fun y hy => h y (List.mem_append_left _ hy)
theorem Dig.right {B : Int} {xs ys : List Int} (h : Dig B (xs ++ ys)) : Dig B ys := fun y hy => h y (List.mem_append_right _ hy)
theorem Dig.take {B : Int} {xs : List Int} (h : Dig B xs) (n : Nat) : Dig B (xs.take n) := fun y hy => h y (List.mem_of_mem_take hy)
theorem Dig.drop {B : Int} {xs : List Int} (h : Dig B xs) (n : Nat) : Dig B (xs.drop n) := fun y hy => h y (List.mem_of_mem_drop hy)
theorem Dig.reverse {B : Int} {xs : List Int} (h : Dig B xs) : Dig B xs.reverse := fun y hy => h y (List.mem_reverse.1 hy)
theorem Dig.set {B x : Int} {xs : List Int} (h : Dig B xs) (hx : 0 ≤ x ∧ x < B) (i : Nat) : Dig B (xs.set i x) := by
  intro y hy
  rcases List.mem_or_eq_of_mem_set hy with hy | rfl
  · exact h y hy
  · exact hx
theorem Dig.getD {B : Int} {xs : List Int} (h : Dig B xs) (hB : 0 < B) (i : Nat) : 0 ≤ xs.getD i 0 ∧ xs.getD i 0 < B := by
  rw [List.getD_eq_getElem?_getD]
  cases e : xs[i]? with
  | none => simp; exact hB
  | some y => simpa using h y (List.mem_of_getElem? e)
theorem Dig.replicate {B : Int} (hB : 0 < B) (n : Nat) : Dig B (List.replicate n 0) := by
  intro y hy
  have := List.eq_of_mem_replicate hy
  omega

theorem nv_nil (B : Int) : nv B [] = 0 := rfl
theorem nv_cons (B x : Int) (xs : List Int) : nv B (x :: xs) = x + B * nv B xs := rfl
theorem nv_append (B : Int) (xs ys : List Int) : nv B (xs ++ ys) = nv B xs + B ^ xs.length * nv B ys := by
  induction xs with
  | nil => simp [nv]
  | cons x xs ih =>
    simp only [List.cons_append, nv_cons, ih, List.length_cons, Int.pow_succ]
    grind
theorem nv_snoc (B : Int) (xs : List Int) (y : Int) : nv B (xs ++ [y]) = nv B xs + B ^ xs.length * y := by
  rw [nv_append]; simp [nv]
theorem nv_replicate (B : Int) (n : Nat) : nv B (List.replicate n 0) = 0 := by
  induction n with
  | zero => rfl
  | succ n ih => simp [List.replicate_succ, nv_cons, ih]
theorem nv_nonneg {B : Int} (hB : 0 < B) {xs : List Int} (h : Dig B xs) : 0 ≤ nv B xs := by
  induction xs with
  | nil => simp [nv]
  | cons x xs ih =>
    have h1 := h.head
    have h2 := Int.mul_nonneg (Int.le_of_lt hB) (ih h.tail)
    rw [nv_cons]; omega
theorem pow_pos' {B : Int} (hB : 0 < B) (n : Nat) : 0 < B ^ n := by
  induction n with
  | zero => simp
  | succ n ih => rw [Int.pow_succ]; exact Int.mul_pos ih hB
theorem nv_lt {B : Int} (hB : 0 < B) {xs : List Int} (h : Dig B xs) : nv B xs < B ^ xs.length := by
  induction xs with
  | nil => simp [nv]
  | cons x xs ih =>
    have h1 := h.head
    have h2 : nv B xs + 1 ≤ B ^ xs.length := ih h.tail
    have h3 := Int.mul_le_mul_of_nonneg_left h2 (Int.le_of_lt hB)
    rw [nv_cons, List.length_cons, Int.pow_succ, Int.mul_comm _ B]
    rw [Int.mul_add] at h3
    omega
theorem take_snoc' (xs : List Int) (i : Nat) (h : i < xs.length) : xs.take (i + 1) = xs.take i ++ [xs.getD i 0] := by
  rw [List.take_succ_eq_append_getElem h, List.getD_eq_getElem?_getD, List.getElem?_eq_getElem h]; rfl
theorem nv_take_succ (B : Int) (xs : List Int) (i : Nat) : nv B (xs.take (i + 1)) = nv B (xs.take i) + B ^ i * xs.getD i 0 := by
  by_cases h : i < xs.length
  · rw [take_snoc' xs i h, nv_snoc, List.length_take, Nat.min_eq_left (Nat.le_of_lt h)]
  · have e : xs.getD i 0 = 0 := by rw [List.getD_eq_getElem?_getD, List.getElem?_eq_none (by omega)]; rfl
    rw [e, List.take_of_length_le (by omega), List.take_of_length_le (by omega)]; simp
theorem nv_split (B : Int) (xs : List Int) (i : Nat) (h : i ≤ xs.length) : nv B xs = nv B (xs.take i) + B ^ i * nv B (xs.drop i) := by
  conv => lhs; rw [← List.take_append_drop i xs]
  rw [nv_append, List.length_take, Nat.min_eq_left h]
theorem nv_set (B : Int) (xs : List Int) (i : Nat) (y : Int) (h : i < xs.length) : nv B (xs.set i y) = nv B xs + B ^ i * (y - xs.getD i 0) := by
  induction xs generalizing i with
  | nil => simp at h
  | cons x xs ih =>
    cases i with
    | zero => simp [nv_cons]; omega
    | succ i =>
      have := ih i (by simpa using h)
      simp only [List.set_cons_succ, nv_cons, this, List.getD_cons_succ, Int.pow_succ]
      grind

/-- Less digits, all else alike: less. -/
theorem nv_lt_of_top {B : Int} (hB : 0 < B) {xs ys : List Int} {x y : Int} (hx : Dig B xs) (hy : Dig B ys) (hl : xs.length = ys.length) (h : x < y) :
    nv B (xs ++ [x]) < nv B (ys ++ [y]) := by
  rw [nv_snoc, nv_snoc, hl]
  have h1 := nv_lt hB hx
  have h2 := nv_nonneg hB hy
  rw [hl] at h1
  have h3 : B ^ ys.length * (x + 1) ≤ B ^ ys.length * y := Int.mul_le_mul_of_nonneg_left (by omega) (Int.le_of_lt (pow_pos' hB _))
  rw [Int.mul_add] at h3
  omega

theorem canon_nil {B : Int} : Canon B [] := ⟨Dig.nil, by simp⟩
theorem pow_le_pow' {B : Int} (hB : 0 < B) {m n : Nat} (h : m ≤ n) : B ^ m ≤ B ^ n := by
  obtain ⟨k, rfl⟩ := Nat.exists_eq_add_of_le h
  rw [Int.pow_add]
  have h1 := pow_pos' hB m
  have h2 : 1 ≤ B ^ k := pow_pos' hB k
  have := Int.mul_le_mul_of_nonneg_left h2 (Int.le_of_lt h1)
  rw [Int.mul_one] at this
  exact this
theorem canon_lower {B : Int} (hB : 0 < B) {xs : List Int} (h : Canon B xs) (hn : xs ≠ []) : B ^ (xs.length - 1) ≤ nv B xs := by
  obtain ⟨hd, hl⟩ := h
  have e := List.dropLast_concat_getLast hn
  have hd1 := hd
  rw [← e] at hd1
  have hx := hd1.right _ List.mem_cons_self
  have hne : xs.getLast hn ≠ 0 := fun h0 => hl (by rw [List.getLast?_eq_some_getLast hn, h0])
  have h1 : nv B xs = nv B xs.dropLast + B ^ (xs.length - 1) * xs.getLast hn := by
    conv => lhs; rw [← e]
    rw [nv_snoc, List.length_dropLast]
  have h2 := nv_nonneg hB hd1.left
  have h3 : B ^ (xs.length - 1) * 1 ≤ B ^ (xs.length - 1) * xs.getLast hn := Int.mul_le_mul_of_nonneg_left (by omega) (Int.le_of_lt (pow_pos' hB _))
  rw [Int.mul_one] at h3
  omega
theorem canon_len_lt {B : Int} (hB : 0 < B) {xs ys : List Int} (hx : Dig B xs) (hy : Canon B ys) (h : xs.length < ys.length) : nv B xs < nv B ys := by
  have h1 := nv_lt hB hx
  have h2 := canon_lower hB hy (by intro e; rw [e] at h; simp at h)
  have h3 := pow_le_pow' hB (m := xs.length) (n := ys.length - 1) (by omega)
  omega
theorem nv_inj {B : Int} (hB : 0 < B) {xs ys : List Int} (hx : Dig B xs) (hy : Dig B ys) (hl : xs.length = ys.length) (h : nv B xs = nv B ys) : xs = ys := by
  induction xs generalizing ys with
  | nil => cases ys with
    | nil => rfl
    | cons y ys => simp at hl
  | cons x xs ih =>
    cases ys with
    | nil => simp at hl
    | cons y ys =>
      rw [nv_cons, nv_cons] at h
      have h1 := hx.head
      have h2 := hy.head
      have h3 : x = y := by
        have e1 : (x + B * nv B xs) % B = x := by rw [Int.add_mul_emod_self_left]; exact Int.emod_eq_of_lt h1.1 h1.2
        have e2 : (y + B * nv B ys) % B = y := by rw [Int.add_mul_emod_self_left]; exact Int.emod_eq_of_lt h2.1 h2.2
        rw [← e1, h, e2]
      subst h3
      have h4 : B * nv B xs = B * nv B ys := by omega
      have h5 : nv B xs = nv B ys := Int.eq_of_mul_eq_mul_left (by omega) h4
      rw [ih hx.tail hy.tail (by simpa using hl) h5]
/-- A number has one form. -/
theorem canon_inj {B : Int} (hB : 0 < B) {xs ys : List Int} (hx : Canon B xs) (hy : Canon B ys) (h : nv B xs = nv B ys) : xs = ys := by
  rcases Nat.lt_trichotomy xs.length ys.length with hl | hl | hl
  · have := canon_len_lt hB hx.1 hy hl; omega
  · exact nv_inj hB hx.1 hy.1 hl h
  · have := canon_len_lt hB hy.1 hx hl; omega
theorem canon_nv_zero {B : Int} (hB : 0 < B) {xs : List Int} (h : Canon B xs) : nv B xs = 0 ↔ xs = [] := by
  constructor
  · intro e; exact canon_inj hB h canon_nil (by rw [e]; rfl)
  · rintro rfl; rfl
theorem canon_len {B : Int} (hB : 1 < B) {xs : List Int} (h : Canon B xs) {n : Nat} (hn : nv B xs < B ^ n) : xs.length ≤ n := by
  by_cases e : xs = []
  · rw [e]; simp
  · have h1 := canon_lower (by omega) h e
    by_cases hle : xs.length ≤ n
    · exact hle
    · have := pow_le_pow' (B := B) (by omega) (m := n) (n := xs.length - 1) (by omega)
      omega
/-- The last of a list with a nought at its end is told away. -/
theorem nv_dropLast {B : Int} {xs : List Int} (n : Nat) (hn : n + 1 = xs.length) (h : xs.getD n 0 = 0) : nv B (xs.take n) = nv B xs := by
  have h1 := nv_take_succ B xs n
  rw [hn, List.take_length, h] at h1
  simp at h1
  exact h1.symm
theorem canon_of_last {B : Int} {xs : List Int} (h : Dig B xs) (n : Nat) (hn : n + 1 = xs.length) (hl : xs.getD n 0 ≠ 0) : Canon B xs := by
  refine ⟨h, fun e => hl ?_⟩
  rw [List.getLast?_eq_getElem?] at e
  rw [List.getD_eq_getElem?_getD, show n = xs.length - 1 by omega, e]; rfl

/-! ### Comparing, the highest first -/
theorem cmpI_self (x : Int) : cmpI x x = 0 := by unfold cmpI; simp
theorem cmpI_lt {x y : Int} (h : x < y) : cmpI x y = -1 := by unfold cmpI; rw [if_pos h]
theorem cmpI_gt {x y : Int} (h : y < x) : cmpI x y = 1 := by unfold cmpI; rw [if_neg (by omega), if_pos h]
theorem cmpI_cases (x y : Int) : (x < y ∧ cmpI x y = -1) ∨ (x = y ∧ cmpI x y = 0) ∨ (y < x ∧ cmpI x y = 1) := by
  rcases Int.lt_trichotomy x y with h | h | h
  · exact .inl ⟨h, cmpI_lt h⟩
  · exact .inr (.inl ⟨h, by rw [h, cmpI_self]⟩)
  · exact .inr (.inr ⟨h, cmpI_gt h⟩)
/-- Of two lists of one length that agree from place n on, the digits at n tell, where they differ. -/
theorem cmpI_top {B : Int} (hB : 0 < B) {xs ys : List Int} (hx : Dig B xs) (hy : Dig B ys) (hl : xs.length = ys.length) (n : Nat) (hn : n < xs.length)
    (hd : xs.drop (n + 1) = ys.drop (n + 1)) (hne : xs.getD n 0 ≠ ys.getD n 0) : cmpI (nv B xs) (nv B ys) = cmpI (xs.getD n 0) (ys.getD n 0) := by
  have e1 := nv_split B xs (n + 1) (by omega)
  have e2 := nv_split B ys (n + 1) (by omega)
  rw [hd] at e1
  rw [take_snoc' xs n hn] at e1
  rw [take_snoc' ys n (by omega)] at e2
  have hlt : (xs.take n).length = (ys.take n).length := by simp [hl]
  rcases Int.lt_trichotomy (xs.getD n 0) (ys.getD n 0) with h | h | h
  · rw [cmpI_lt h, cmpI_lt]
    have := nv_lt_of_top hB (hx.take n) (hy.take n) hlt h
    omega
  · exact absurd h hne
  · rw [cmpI_gt h, cmpI_gt]
    have := nv_lt_of_top hB (hy.take n) (hx.take n) hlt.symm h
    omega

end Go.Proofs.Ytokadjfakncdfaa
end

section
set_option linter.unusedVariables false
namespace Go.Proofs.Ytokadjfakncdfaa

/-- After i words of a sum. -/
def AddInv (B : Int) (a b : List Int) (i : Nat) (acc : List Int) (c : Int) : Prop :=
  nv B acc + B ^ i * c = nv B (a.take i) + nv B (b.take i)
/-- After i words of a difference. -/
def SubInv (B : Int) (a b : List Int) (i : Nat) (acc : List Int) (c : Int) : Prop :=
  nv B acc + nv B (b.take i) = nv B (a.take i) + B ^ i * c

theorem AddInv.zero (B : Int) (a b : List Int) : AddInv B a b 0 [] 0 := by simp [AddInv, nv]
theorem SubInv.zero (B : Int) (a b : List Int) : SubInv B a b 0 [] 0 := by simp [SubInv, nv]
theorem AddInv.step {B : Int} {a b : List Int} {i : Nat} {acc : List Int} {c s c' : Int} (h : AddInv B a b i acc c) (hl : acc.length = i) (hs : s + B * c' = a.getD i 0 + b.getD i 0 + c) :
    AddInv B a b (i + 1) (acc ++ [s]) c' := by
  unfold AddInv at *
  rw [nv_snoc, hl, nv_take_succ, nv_take_succ, Int.pow_succ]
  have : B ^ i * (s + B * c') = B ^ i * (a.getD i 0 + b.getD i 0 + c) := by rw [hs]
  grind
theorem SubInv.step {B : Int} {a b : List Int} {i : Nat} {acc : List Int} {c s c' : Int} (h : SubInv B a b i acc c) (hl : acc.length = i) (hs : s + b.getD i 0 + c = a.getD i 0 + B * c') :
    SubInv B a b (i + 1) (acc ++ [s]) c' := by
  unfold SubInv at *
  rw [nv_snoc, hl, nv_take_succ, nv_take_succ, Int.pow_succ]
  have : B ^ i * (s + b.getD i 0 + c) = B ^ i * (a.getD i 0 + B * c') := by rw [hs]
  grind
theorem nv_lt_max {B : Int} (hB : 0 < B) {a : List Int} (ha : Dig B a) {n : Nat} (h : a.length ≤ n) : nv B a < B ^ n := by
  have := nv_lt hB ha
  have := pow_le_pow' hB h
  omega
theorem AddInv.done {B : Int} (hB : 1 < B) {a b acc : List Int} {c : Int} {n : Nat} (ha : Dig B a) (hb : Dig B b) (hd : Dig B acc) (hc : c = 0 ∨ c = 1) (la : a.length ≤ n) (lb : b.length ≤ n) (hl : acc.length = n + 1)
    (h : AddInv B a b (n + 1) acc c) : nv B acc = nv B a + nv B b := by
  unfold AddInv at h
  rw [List.take_of_length_le (by omega), List.take_of_length_le (by omega)] at h
  have h1 := nv_lt_max (by omega) ha la
  have h2 := nv_lt_max (by omega) hb lb
  have h3 := nv_nonneg (by omega) hd
  rcases hc with rfl | rfl
  · simpa using h
  · exfalso
    have h4 := pow_pos' (show 0 < B by omega) n
    have h5 : B ^ n * 2 ≤ B ^ n * B := Int.mul_le_mul_of_nonneg_left (by omega) (by omega)
    rw [Int.pow_succ] at h
    omega
theorem SubInv.done {B : Int} (hB : 1 < B) {a b acc : List Int} {c : Int} {n : Nat} (ha : Dig B a) (hb : Dig B b) (hd : Dig B acc) (hc : c = 0 ∨ c = 1) (la : a.length ≤ n) (lb : b.length ≤ n) (hl : acc.length = n + 1)
    (hle : nv B b ≤ nv B a) (h : SubInv B a b (n + 1) acc c) : nv B acc = nv B a - nv B b := by
  unfold SubInv at h
  rw [List.take_of_length_le (by omega), List.take_of_length_le (by omega)] at h
  have h3 := nv_lt (by omega) hd
  rw [hl] at h3
  rcases hc with rfl | rfl
  · omega
  · exfalso; omega
end Go.Proofs.Ytokadjfakncdfaa
end

section
set_option linter.unusedVariables false
namespace Go.Proofs.Ytokadjfakncdfaa

/-- Behind i words of a, at word k of b: what stands in 'out', and the carry. -/
def MulIn (B : Int) (a b : List Int) (i k : Nat) (out : List Int) (c : Int) : Prop :=
  out.length = a.length + b.length ∧ Dig B out ∧ (0 ≤ c ∧ c < B) ∧ (∀ p, i + b.length ≤ p → out.getD p 0 = 0) ∧
    nv B out + B ^ (i + k) * c = nv B (a.take i) * nv B b + B ^ i * (a.getD i 0 * nv B (b.take k))
/-- Behind i words of a. -/
def MulOut (B : Int) (a b : List Int) (i : Nat) (out : List Int) : Prop :=
  out.length = a.length + b.length ∧ Dig B out ∧ (∀ p, i + b.length ≤ p → out.getD p 0 = 0) ∧ nv B out = nv B (a.take i) * nv B b

theorem MulOut.zero {B : Int} (hB : 0 < B) (a b : List Int) : MulOut B a b 0 (List.replicate (a.length + b.length) 0) := by
  refine ⟨by simp, Dig.replicate hB _, fun p _ => ?_, by simp [nv_replicate, nv]⟩
  rw [List.getD_eq_getElem?_getD, List.getElem?_replicate]
  split <;> rfl
theorem MulOut.enter {B : Int} (hB : 0 < B) {a b out : List Int} {i : Nat} (h : MulOut B a b i out) : MulIn B a b i 0 out 0 := by
  obtain ⟨h1, h2, h3, h4⟩ := h
  exact ⟨h1, h2, ⟨by omega, hB⟩, h3, by rw [h4]; simp [nv]⟩
theorem MulIn.step {B : Int} (hB : 0 < B) {a b out : List Int} {i k : Nat} {c l c' : Int} (h : MulIn B a b i k out c) (hi : i < a.length) (hk : k < b.length) (hl : 0 ≤ l ∧ l < B) (hc' : 0 ≤ c' ∧ c' < B)
    (hs : B * c' + l = a.getD i 0 * b.getD k 0 + out.getD (i + k) 0 + c) : MulIn B a b i (k + 1) (out.set (i + k) l) c' := by
  obtain ⟨h1, h2, h3, h4, h5⟩ := h
  refine ⟨by simp [h1], h2.set hl _, hc', fun p hp => ?_, ?_⟩
  · rw [List.getD_eq_getElem?_getD, List.getElem?_set_ne (by omega), ← List.getD_eq_getElem?_getD]
    exact h4 p hp
  · rw [nv_set _ _ _ _ (by omega), nv_take_succ]
    have e1 : B ^ (i + (k + 1)) = B ^ (i + k) * B := by rw [← Int.pow_succ]; rfl
    have e2 : B ^ i * B ^ k = B ^ (i + k) := by rw [← Int.pow_add]
    rw [e1]
    have e3 : B ^ (i + k) * (B * c' + l) = B ^ (i + k) * (a.getD i 0 * b.getD k 0 + out.getD (i + k) 0 + c) := by rw [hs]
    have e4 : B ^ i * (a.getD i 0 * (nv B (b.take k) + B ^ k * b.getD k 0)) = B ^ i * (a.getD i 0 * nv B (b.take k)) + B ^ (i + k) * (a.getD i 0 * b.getD k 0) := by rw [← e2]; grind
    rw [e4, ← Int.add_assoc (nv B (a.take i) * nv B b), ← h5]
    grind
theorem MulIn.leave {B : Int} (hB : 0 < B) {a b out : List Int} {i : Nat} {c : Int} (h : MulIn B a b i b.length out c) (hi : i < a.length) : MulOut B a b (i + 1) (out.set (i + b.length) c) := by
  obtain ⟨h1, h2, h3, h4, h5⟩ := h
  refine ⟨by simp [h1], h2.set h3 _, fun p hp => ?_, ?_⟩
  · rw [List.getD_eq_getElem?_getD, List.getElem?_set_ne (by omega), ← List.getD_eq_getElem?_getD]
    exact h4 p (by omega)
  · rw [nv_set _ _ _ _ (by omega), h4 _ (by omega), nv_take_succ]
    rw [List.take_length] at h5
    rw [show B ^ (i + b.length) * (c - 0) = B ^ (i + b.length) * c by simp, h5]
    grind
theorem MulOut.done {B : Int} {a b out : List Int} (h : MulOut B a b a.length out) : nv B out = nv B a * nv B b := by
  obtain ⟨h1, h2, h3, h4⟩ := h
  rw [List.take_length] at h4
  exact h4

/-- The carry of a product's word fits. -/
theorem mul_fits {B : Int} (hB : 0 < B) {x y o c hi lo l1 d1 l2 d2 : Int} (hx : 0 ≤ x ∧ x < B) (hy : 0 ≤ y ∧ y < B) (ho : 0 ≤ o ∧ o < B) (hc : 0 ≤ c ∧ c < B)
    (hhi : 0 ≤ hi ∧ hi < B) (hl2 : 0 ≤ l2 ∧ l2 < B) (hd1 : d1 = 0 ∨ d1 = 1) (hd2 : d2 = 0 ∨ d2 = 1)
    (e1 : B * hi + lo = x * y) (e2 : l1 + B * d1 = lo + o) (e3 : l2 + B * d2 = l1 + c) : hi + d1 + d2 < B ∧ hi + d1 < B ∧ B * (hi + d1 + d2) + l2 = x * y + o + c := by
  have e4 : B * (hi + d1 + d2) + l2 = x * y + o + c := by
    rw [Int.mul_add, Int.mul_add]; omega
  have b1 : x * y ≤ (B - 1) * (B - 1) := Int.mul_le_mul (by omega) (by omega) hy.1 (by omega)
  have b2 : B * (hi + d1 + d2) < B * B := by
    have : (B - 1) * (B - 1) = B * B - 2 * B + 1 := by grind
    omega
  have b3 : hi + d1 + d2 < B := Int.lt_of_mul_lt_mul_left b2 (by omega)
  exact ⟨b3, by omega, e4⟩
end Go.Proofs.Ytokadjfakncdfaa
end

section
namespace Go.Proofs.Ytokadjfakncdfaa
open Go.RowKit Go.Proofs.YtokadjfakncdfaaW.PrintWords Go.Proofs.YtokadjfakncdfaaW.PrintLast Go.Proofs.YtokadjfakncdfaaW.PrintMore

/-- The value v is a slice that reads as xs. -/
def RL (k : IntKind) (w : World) (v : Value) (xs : List Int) : Prop :=
  ∃ A c, v = .slice A xs.length c ∧ xs.length ≤ c ∧ (Kd.int k).C w A xs.length xs
/-- The value v is a slice of the call's own (blocks from base on), of elements of type e, that holds xs. -/
abbrev RO (k : IntKind) (e : Nat) (w : World) (base : Nat) (v : Value) (xs : List Int) : Prop :=
  Kd.R (Kd.int k) e w base (fun b => base ≤ b) v xs

theorem RL.below {k : IntKind} {w w' : World} {v : Value} {xs : List Int} (h : RL k w v xs) (hb : Below w.heap.size w w') : RL k w' v xs := by
  obtain ⟨A, c, hv, hc, hC⟩ := h
  exact ⟨A, c, hv, hc, Kd.C_below hC hb⟩
theorem RL.nil {k : IntKind} {w : World} : RL k w (.slice none 0 0) [] := ⟨none, 0, rfl, Nat.le_refl _, Kd.C_nil _ _⟩
theorem RL.of_R {k : IntKind} {e : Nat} {w : World} {base : Nat} {ok : Nat → Prop} {v : Value} {xs : List Int} (h : Kd.R (Kd.int k) e w base ok v xs) : RL k w v xs := by
  obtain ⟨A, c, hv, hc, hC⟩ := Kd.R_reads h
  exact ⟨A, c, hv, hc, hC⟩
theorem RL.of_V {k : IntKind} {e : Nat} {w : World} {base : Nat} {ok : Nat → Prop} {v : Value} {xs : List Int} (h : Kd.V (Kd.int k) e w base ok v xs) : RL k w v xs := by
  obtain ⟨A, c, rfl⟩ := Kd.V_slice h
  obtain ⟨_, h2, h3⟩ := Kd.V_reads' h
  exact ⟨A, c, rfl, h2, h3⟩
theorem RL.max {k : IntKind} {w : World} {v : Value} {xs : List Int} (h : RL k w v xs) : xs.length ≤ 9223372036854775807 := by
  obtain ⟨A, c, hv, hc, hC⟩ := h
  exact Kd.C_max hC
end Go.Proofs.Ytokadjfakncdfaa
end

section
set_option linter.unusedVariables false
set_option linter.unusedSimpArgs false
namespace Go.Proofs.Ytokadjfakncdfaa
open Go.RowKit Go.Proofs.YtokadjfakncdfaaW.PrintWords Go.Proofs.YtokadjfakncdfaaW.PrintLast Go.Proofs.YtokadjfakncdfaaW.PrintMore
open PR

theorem RO.empty (k : IntKind) (e : Nat) (w : World) : RO k e (w.alloc (.cells #[] e)) w.heap.size (.slice (some ⟨w.heap.size, 0, none⟩) 0 0) [] := by
  refine ⟨fun b hb => ?_, [], ⟨rfl, .inr ⟨w.heap.size, 0, #[], rfl, Nat.le_refl _, heap_alloc_new w _, Nat.le_refl _, by simp [maxLen], rfl, rfl⟩⟩, Reps.none _ _⟩
  simp [Value.ownBlock] at hb
  omega

theorem clone_calls (v : Value) (xs : List Int) (w : World) (hv : RL .u64 w v xs) (hl : xs.length ≤ 1000000) :
    Calls Try.prog 67 #[v] w fun e w' => ∃ v', e = .returned v' ∧ RO .u64 30 w' w.heap.size v' xs ∧ Below w.heap.size w w' := by
  obtain ⟨A, c, rfl, hc, hC⟩ := hv
  cases A with
  | none =>
    have hx : xs = [] := by
      rcases Nat.eq_zero_or_pos xs.length with h0 | h0
      · exact List.eq_nil_of_length_eq_zero h0
      · obtain ⟨ad, h, _⟩ := hC.2.2 h0
        cases h
    subst hx
    have hq := fun w => Lib.run_eql_slice_nil (P := Try.prog) w 31 30 none 0 c 0 0 Try.underlying31
    clear hc hC
    go_enter Try.func67, Try.ntmps67
    go_wp2_with fail
    go_ret
    exact ⟨_, rfl, Kd.R_nil _ _ _ _ _, Below.refl _ _⟩
  | some ad =>
    have hq := fun w => Lib.run_eql_slice_nil (P := Try.prog) w 31 30 (some ad) xs.length c 0 0 Try.underlying31
    have HC := Aside0.mk hC
    clear hC
    go_enter Try.func67, Try.ntmps67
    go_wp2_with (at_builtin; refine Kd.R_append_rows (Kd.int .u64) (w0 := w) w.heap.size rfl _ _ 31 30 (.int .u64 0) 8 rfl Try.underlying31 info30 rfl (by decide) (by omega) _ [] xs (some ad) xs.length c (fun b => w.heap.size ≤ b) (fun _ => False) rfl rfl (RO.empty .u64 30 w) (Kd.C_alloc HC.out _) (fun x cs h => h) (fun _ h => h.elim) (fun b hb => by simp at hb; omega) (below_alloc (Below.refl _ _) _) (by simp) (by simp; omega) ?_; intro v1 w1 ho hb hg hat; have HO := Aside0.mk ho; have HB := Aside0.mk hb; clear ho hb hg hat)
    go_ret
    exact ⟨_, rfl, HO.out, HB.out⟩

theorem RL.take {k : IntKind} {w : World} {A : Option Addr} {c : Nat} {xs : List Int} (hc : xs.length ≤ c) (hC : (Kd.int k).C w A xs.length xs) (m : Nat) (hm : m ≤ xs.length) :
    RL k w (.slice A m c) (xs.take m) := by
  have h := Kd.C_take hC hm
  have e : (xs.take m).length = m := by simp [hm]
  exact ⟨A, c, by rw [e], by rw [e]; omega, h⟩

/-- The cell of an element. -/
theorem C_cell {k : IntKind} {w : World} {A : Option Addr} {xs : List Int} (h : (Kd.int k).C w A xs.length xs) (i : Nat) (hi : i < xs.length) :
    ∃ ad, A = some ad ∧ w.cell? (ad.add i) = some (.int k (xs.getD i 0)) := by
  obtain ⟨ad, e, hc⟩ := Kd.at_int h (i : Int) (by omega) (by omega)
  exact ⟨ad, e, hc⟩

theorem of_calls (v : Value) (xs : List Int) (w : World) (hv : RL .u64 w v xs) (hd : Dig B64 xs) (hl : xs.length ≤ 1000000) :
    Calls Try.prog 24 #[v] w fun e w' => ∃ v' ys, e = .returned v' ∧ RO .u64 30 w' w.heap.size v' ys ∧ Canon B64 ys ∧ nv B64 ys = nv B64 xs ∧ ys.length ≤ xs.length ∧ Below w.heap.size w w' := by
  obtain ⟨A, c, rfl, hc, hC⟩ := hv
  have HC := Aside0.mk hC
  have HD := Aside0.mk hd
  clear hC hd
  go_enter Try.func24, Try.ntmps24
  go_wp2_with fail
  go_loopg [0] xs.length (fun k v0 wr => ∃ m : Nat, m = k ∧ m ≤ xs.length ∧ v0 = .slice A m c ∧ Aside0 (nv B64 (xs.take m) = nv B64 xs) ∧ wr = w)
  case atStart => exact ⟨xs.length, rfl, Nat.le_refl _, rfl, ⟨by rw [List.take_length]⟩, rfl⟩
  case round =>
    obtain ⟨m, rfl, hm, rfl, HN, rfl⟩ := hrel
    by_cases h0 : m = 0
    · subst h0
      go_wp2_with fail
      refine (clone_calls _ (xs.take 0) _ (RL.take hc HC.out 0 (by omega)) (by simp)).mono ?_
      rintro e w' ⟨v', rfl, ho, hb⟩
      have HO := Aside0.mk ho
      have HB := Aside0.mk hb
      clear ho hb
      go_wp2_with fail
      go_ret
      exact ⟨_, xs.take 0, rfl, HO.out, canon_nil, HN.out, by simp, HB.out⟩
    · obtain ⟨j, rfl⟩ : ∃ j, m = j + 1 := ⟨m - 1, by omega⟩
      obtain ⟨ad, rfl, hcell⟩ := C_cell HC.out j (by omega)
      obtain ⟨y, hy⟩ : ∃ y, xs.getD j 0 = y := ⟨_, rfl⟩
      rw [hy] at hcell
      have HY := Aside0.mk hy
      clear hy
      by_cases hz : y = 0
      · subst hz
        go_wp2_with fail
        go_roundg j
        case measure => omega
        case rel =>
          refine ⟨j, rfl, by omega, rfl, ⟨?_⟩, rfl⟩
          rw [← HN.out, nv_take_succ, HY.out]; simp
      · have hz' : (y == 0) = false := by simpa using hz
        clear hz
        go_wp2_with fail
        refine (clone_calls _ (xs.take (j + 1)) _ (RL.take hc HC.out (j + 1) (by omega)) (by simp; omega)).mono ?_
        rintro e w' ⟨v', rfl, ho, hb⟩
        have HO := Aside0.mk ho
        have HB := Aside0.mk hb
        clear ho hb
        go_wp2_with fail
        go_ret
        refine ⟨_, xs.take (j + 1), rfl, HO.out, canon_of_last (HD.out.take _) j (by simp; omega) ?_, HN.out, by simp; omega, HB.out⟩
        rw [List.getD_eq_getElem?_getD, List.getElem?_take, if_pos (by omega), ← List.getD_eq_getElem?_getD, HY.out]
        simpa using hz'
end Go.Proofs.Ytokadjfakncdfaa
end

section
set_option linter.unusedVariables false
namespace Go.Proofs.Ytokadjfakncdfaa
open Go.RowKit Go.Proofs.YtokadjfakncdfaaW.PrintWords PR

theorem w64 {x : Int} (h : -9223372036854775808 ≤ x) (h' : x ≤ 9223372036854775807) : wrap64 x = x := by unfold wrap64; omega
theorem getD_set (xs : List Int) (i p : Nat) (y : Int) (hi : i < xs.length) : (xs.set i y).getD p 0 = if p = i then y else xs.getD p 0 := by
  rw [List.getD_eq_getElem?_getD, List.getElem?_set, List.getD_eq_getElem?_getD]
  by_cases h : i = p
  · subst h; simp [hi]
  · rw [if_neg h, if_neg (fun e => h e.symm)]
theorem getD_reverse (xs : List Int) (p : Nat) (h : p < xs.length) : xs.reverse.getD p 0 = xs.getD (xs.length - 1 - p) 0 := by
  rw [List.getD_eq_getElem?_getD, List.getElem?_reverse h, List.getD_eq_getElem?_getD]
theorem ext_getD {xs ys : List Int} (hl : xs.length = ys.length) (h : ∀ p, p < xs.length → xs.getD p 0 = ys.getD p 0) : xs = ys := by
  refine List.ext_getElem hl fun p h1 h2 => ?_
  have := h p h1
  rw [List.getD_eq_getElem?_getD, List.getD_eq_getElem?_getD, List.getElem?_eq_getElem h1, List.getElem?_eq_getElem h2] at this
  exact this

theorem rev_l0 (xs : List Int) (hn : xs.length ≤ 4611686018427387904) : ∀ (k : Nat) (x : List Int) (i j : Int), x.length = xs.length → i + j = (xs.length : Int) - 1 → 0 ≤ i → -1 ≤ j → j - i < k → 0 < k →
    (∀ p : Nat, p < xs.length → x.getD p 0 = if (p : Int) < i ∨ j < (p : Int) then xs.getD (xs.length - 1 - p) 0 else xs.getD p 0) →
    slices_Reverse_uint64_uint64.l0 k x i j = some xs.reverse := by
  intro k
  induction k with
  | zero => intro x i j _ _ _ _ _ h; omega
  | succ k ih =>
    intro x i j hl hs h0 hj hd _ hp
    simp only [slices_Reverse_uint64_uint64.l0]
    by_cases hij : i < j
    · rw [if_pos hij, if_pos (by omega), if_pos (by omega), if_pos (by omega), if_pos (by omega), w64 (by omega) (by omega), w64 (by omega) (by omega)]
      refine ih _ _ _ (by simp [hl]) (by omega) (by omega) (by omega) (by omega) (by omega) ?_
      intro p hpl
      rw [getD_set _ _ _ _ (by rw [List.length_set]; omega), getD_set _ _ _ _ (by omega)]
      have e1 := hp p hpl
      have e2 := hp i.toNat (by omega)
      have e3 := hp j.toNat (by omega)
      unfold rd
      by_cases c1 : p = j.toNat
      · rw [if_pos c1, e2, if_neg (by omega), if_pos (by omega)]
        congr 1; omega
      · rw [if_neg c1]
        by_cases c2 : p = i.toNat
        · rw [if_pos c2, e3, if_neg (by omega), if_pos (by omega)]
          congr 1; omega
        · rw [if_neg c2, e1]
          by_cases c3 : (p : Int) < i ∨ j < (p : Int)
          · rw [if_pos c3, if_pos (by omega)]
          · rw [if_neg c3, if_neg (by omega)]
    · rw [if_neg hij]
      congr 1
      refine ext_getD (by simp [hl]) fun p hpl => ?_
      rw [hp p (by omega), getD_reverse _ _ (by omega)]
      by_cases c3 : (p : Int) < i ∨ j < (p : Int)
      · rw [if_pos c3]
      · rw [if_neg c3]; congr 1; omega
theorem rev_f (xs : List Int) (hn : xs.length ≤ 4611686018427387904) : ∃ k, slices_Reverse_uint64_uint64.f k xs = some xs.reverse := by
  refine ⟨xs.length + 1, ?_⟩
  unfold slices_Reverse_uint64_uint64.f
  rw [w64 (by omega) (by omega)]
  refine rev_l0 xs hn _ _ _ _ rfl (by omega) (by omega) (by omega) (by omega) (by omega) fun p hp => ?_
  rw [if_neg (by omega)]

theorem cmpc_f (x y : Int) : cmp_Compare_uint64.f x y = some (cmpI x y) := by
  unfold cmp_Compare_uint64.f cmp_isNaN_uint64.f cmpI
  simp only [bne_self_eq_false, Option.bind_some, Bool.false_eq_true, if_false]
  by_cases h : x < y
  · rw [if_pos h, if_pos h]
  · rw [if_neg h, if_neg h]
    by_cases h2 : y < x
    · rw [if_pos h2, if_pos h2]
    · rw [if_neg h2, if_neg h2]
theorem drop_eq_of {xs ys : List Int} (hl : xs.length = ys.length) (n : Nat) (h : ∀ p, n ≤ p → p < xs.length → xs.getD p 0 = ys.getD p 0) : xs.drop n = ys.drop n := by
  refine ext_getD (by simp [hl]) fun p hp => ?_
  rw [List.length_drop] at hp
  rw [List.getD_eq_getElem?_getD, List.getElem?_drop, ← List.getD_eq_getElem?_getD, h _ (by omega) (by omega), List.getD_eq_getElem?_getD (l := ys.drop n), List.getElem?_drop, ← List.getD_eq_getElem?_getD]
theorem cmp_l0 {B : Int} (hB : 0 < B) (xs ys : List Int) (hl : xs.length = ys.length) (hn : xs.length ≤ 4611686018427387904) (hx : Dig B xs) (hy : Dig B ys) : ∀ (d k : Nat) (i : Nat), i + d = xs.length → d < k →
    (∀ p, xs.length - i ≤ p → p < xs.length → xs.getD p 0 = ys.getD p 0) →
    slices_Compare_uint64_uint64.l0 k xs.reverse ys.reverse xs.reverse (xs.length : Int) (i : Int) = some (cmpI (nv B xs) (nv B ys)) := by
  intro d
  induction d with
  | zero =>
    intro k i hi hk hp
    obtain ⟨k, rfl⟩ : ∃ m, k = m + 1 := ⟨k - 1, by omega⟩
    simp only [slices_Compare_uint64_uint64.l0]
    have e : xs = ys := ext_getD hl fun p h => hp p (by omega) h
    rw [if_neg (by omega), if_neg (by simp [hl]), e, cmpI_self]
  | succ d ih =>
    intro k i hi hk hp
    obtain ⟨k, rfl⟩ : ∃ m, k = m + 1 := ⟨k - 1, by omega⟩
    simp only [slices_Compare_uint64_uint64.l0]
    rw [if_pos (by omega), if_pos (by omega), if_pos (by simp; omega), if_neg (by simp; omega), if_pos (by simp; omega), cmpc_f]
    simp only [Option.bind_some]
    unfold rd
    rw [Int.toNat_natCast, getD_reverse _ _ (by omega), getD_reverse _ _ (by omega)]
    rw [← hl]
    by_cases c : xs.getD (xs.length - 1 - i) 0 = ys.getD (xs.length - 1 - i) 0
    · rw [if_pos (by rw [c, cmpI_self]), w64 (by omega) (by omega)]
      refine ih k (i + 1) (by omega) (by omega) fun p h1 h2 => ?_
      by_cases e : p = xs.length - 1 - i
      · rw [e, c]
      · exact hp p (by omega) h2
    · rw [if_neg (by rcases cmpI_cases (xs.getD (xs.length - 1 - i) 0) (ys.getD (xs.length - 1 - i) 0) with ⟨_, e⟩ | ⟨e, _⟩ | ⟨_, e⟩ <;> omega)]
      rw [cmpI_top hB hx hy hl (xs.length - 1 - i) (by omega) (drop_eq_of hl _ fun p h1 h2 => hp p (by omega) h2) c]
theorem cmp_f {B : Int} (hB : 0 < B) (xs ys : List Int) (hl : xs.length = ys.length) (hn : xs.length ≤ 4611686018427387904) (hx : Dig B xs) (hy : Dig B ys) :
    ∃ k, slices_Compare_uint64_uint64.f k xs.reverse ys.reverse = some (cmpI (nv B xs) (nv B ys)) := by
  refine ⟨xs.length + 1, ?_⟩
  unfold slices_Compare_uint64_uint64.f
  have := cmp_l0 hB xs ys hl hn hx hy xs.length (xs.length + 1) 0 (by omega) (by omega) (fun p h1 h2 => by omega)
  simpa using this
end Go.Proofs.Ytokadjfakncdfaa
end

section
set_option linter.unusedVariables false
set_option linter.unusedSimpArgs false
namespace Go.Proofs.Ytokadjfakncdfaa
open Go.RowKit Go.Proofs.YtokadjfakncdfaaW.PrintWords Go.Proofs.YtokadjfakncdfaaW.PrintLast Go.Proofs.YtokadjfakncdfaaW.PrintMore
open PR

theorem reverse_calls (w0 w : World) (hB : Below w0.heap.size w0 w) (v : Value) (x : List Int) (h : RO .u64 30 w w0.heap.size v x) (hl : x.length ≤ 1000000) :
    Calls Try.prog 60 #[v] w fun e w' => e = .returned (.tuple #[]) ∧ RO .u64 30 w' w0.heap.size v x.reverse ∧ Below w0.heap.size w0 w' ∧ Kept w w' (fun k => some k = v.ownBlock) := by
  obtain ⟨k, hk⟩ := rev_f x (by omega)
  refine (slices_Reverse_uint64_uint64.calls k (fun k => some k = v.ownBlock) v x x.reverse w0 w hB (Kd.R_tight rfl h) hk).mono ?_
  rintro e w' ⟨rfl, ho, hb, hk⟩
  exact ⟨rfl, Kd.R_reok rfl ho (fun k hk => Kd.R_base h k hk), hb, hk⟩

theorem compare_calls (va vb : Value) (x y : List Int) (w : World) (ha : RL .u64 w va x.reverse) (hb : RL .u64 w vb y.reverse) (hl : x.length = y.length) (dx : Dig B64 x) (dy : Dig B64 y) (lx : x.length ≤ 1000000) :
    Calls Try.prog 61 #[va, vb] w fun e w' => e = .returned (.int .i64 (cmpI (nv B64 x) (nv B64 y))) ∧ Below w.heap.size w w' := by
  obtain ⟨A, c, rfl, hc, hC⟩ := ha
  obtain ⟨A', c', rfl, hc', hC'⟩ := hb
  obtain ⟨k, hk⟩ := cmp_f B64_pos x y hl (by omega) dx dy
  refine (slices_Compare_uint64_uint64.calls k A c x.reverse A' c' y.reverse _ w hC hc hC' hc' hk).mono ?_
  rintro e w' ⟨rfl, hd⟩
  exact ⟨rfl, hd.below⟩

theorem cmp_calls (va vb : Value) (a b : List Int) (w : World) (ha : RL .u64 w va a) (hb : RL .u64 w vb b) (da : Dig B64 a) (db : Dig B64 b) (la : a.length ≤ 1000000) (lb : b.length ≤ 1000000) :
    Calls Try.prog 18 #[va, vb] w fun e w' => e = .returned (.int .i64 (cmpI (nv B64 a) (nv B64 b))) ∧ Below w.heap.size w w' := by
  have HA := Aside0.mk ha
  have HB := Aside0.mk hb
  have DA := Aside0.mk da
  have DB := Aside0.mk db
  clear ha hb da db
  go_enter Try.func18, Try.ntmps18
  go_wp2_with fail
  refine (of_calls va a w HA.out DA.out la).mono ?_
  rintro e w1 ⟨v1, x, rfl, o1, c1, n1, l1, b1⟩
  have O1 := Aside0.mk o1
  have C1 := Aside0.mk c1
  have N1 := Aside0.mk n1
  have B1 := Aside0.mk b1
  clear o1 c1 n1 b1
  go_wp2_with fail
  refine (of_calls vb b w1 (HB.out.below B1.out) DB.out lb).mono ?_
  rintro e w2 ⟨v2, y, rfl, o2, c2, n2, l2, b2⟩
  have O2 := Aside0.mk o2
  have C2 := Aside0.mk c2
  have N2 := Aside0.mk n2
  have O1' := Aside0.mk (Kd.R_below O1.out b2)
  have HNE := Aside0.mk (show ∀ k, some k = v2.ownBlock → ¬ some k = v1.ownBlock from fun k h h' => by
    have e1 := Kd.R_base o2 k h.symm
    have e2 := Kd.R_lt O1.out k h'.symm
    omega)
  have O2' := Aside0.mk (show RO .u64 30 w2 w.heap.size v2 y from Kd.R_mono (Kd.R_lower o2 B1.out.size) (fun k hk => Nat.le_trans B1.out.size hk))
  have B2 := Aside0.mk (B1.out.trans (b2.mono B1.out.size))
  clear o2 c2 n2 b2
  obtain ⟨A1, k1, rfl⟩ := Kd.R_slice O1.out
  obtain ⟨A2, k2, rfl⟩ := Kd.R_slice O2.out
  by_cases hl : x.length = y.length
  · have T := Aside0.mk hl
    have t : ((x.length : Int) != (y.length : Int)) = false := by simp [hl]
    clear hl
    go_wp2_with fail
    refine (reverse_calls w w2 B2.out _ x O1'.out (by omega)).mono ?_
    rintro e w3 ⟨rfl, o3, b3, k3⟩
    have O3 := Aside0.mk o3
    have B3 := Aside0.mk b3
    have O4 := Aside0.mk (show RO .u64 30 w3 w.heap.size _ y from Kd.R_reok rfl (Kd.R_kept (Kd.R_tight rfl O2'.out) k3 HNE.out) (fun k hk => Kd.R_base O2'.out k hk))
    clear o3 b3 k3
    go_wp2_with fail
    refine (reverse_calls w w3 B3.out _ y O4.out (by omega)).mono ?_
    rintro e w4 ⟨rfl, o5, b5, k5⟩
    have O5 := Aside0.mk o5
    have B5 := Aside0.mk b5
    have O6 := Aside0.mk (show RO .u64 30 w4 w.heap.size _ x.reverse from Kd.R_reok rfl (Kd.R_kept (Kd.R_tight rfl O3.out) k5 (fun k h h' => HNE.out k h' h)) (fun k hk => Kd.R_base O3.out k hk))
    clear o5 b5 k5
    go_wp2_with fail
    refine (compare_calls _ _ x y w4 (RL.of_R O6.out) (RL.of_R O5.out) T.out C1.out.1 C2.out.1 (by omega)).mono ?_
    rintro e w5 ⟨rfl, b6⟩
    have B6 := Aside0.mk (B5.out.trans (b6.mono B5.out.size))
    clear b6
    go_wp2_with fail
    go_ret
    exact ⟨by rw [N1.out, N2.out]; rfl, B6.out⟩
  · have T := Aside0.mk hl
    have t : ((x.length : Int) != (y.length : Int)) = true := by simp; omega
    clear hl
    by_cases hlt : x.length < y.length
    · go_wp2_with fail
      go_ret
      exact ⟨by rw [← N1.out, ← N2.out, cmpI_lt (canon_len_lt B64_pos C1.out.1 C2.out hlt)]; rfl, B2.out⟩
    · have hgt : y.length < x.length := by have := T.out; omega
      go_wp2_with fail
      go_ret
      exact ⟨by rw [← N1.out, ← N2.out, cmpI_gt (canon_len_lt B64_pos C2.out.1 C1.out hgt)]; rfl, B2.out⟩
end Go.Proofs.Ytokadjfakncdfaa
end

section
set_option linter.unusedVariables false
set_option linter.unusedSimpArgs false
namespace Go.Proofs.Ytokadjfakncdfaa
open Go.RowKit Go.Proofs.YtokadjfakncdfaaW.PrintWords Go.Proofs.YtokadjfakncdfaaW.PrintLast Go.Proofs.YtokadjfakncdfaaW.PrintMore

theorem long1_calls (A : Option Addr) (n c : Nat) (w : World) (hn : n ≤ 9223372036854775807) :
    Calls Try.prog 107 #[.slice A n c] w fun e w' => e = .returned (.bool (decide (80 < n))) ∧ w' = w := by
  go_enter Try.func107, Try.ntmps107
  go_wp2
  go_ret
  exact ⟨by simp only [Array.getD_eq_getD_getElem?]; simp; omega, rfl⟩

/-- The slices that a row of slices holds. -/
def Rows31 (w : World) (ad : Addr) (L : List (Option Addr × Nat × Nat)) : Prop :=
  ∀ i, i < L.length → w.cell? (ad.add i) = some (.slice (L.getD i (none, 0, 0)).1 (L.getD i (none, 0, 0)).2.1 (L.getD i (none, 0, 0)).2.2) ∧ (L.getD i (none, 0, 0)).2.1 ≤ 9223372036854775807
def anyLong (L : List (Option Addr × Nat × Nat)) : Bool := L.any fun x => decide (80 < x.2.1)

theorem indexFunc_calls (ad : Addr) (c : Nat) (L : List (Option Addr × Nat × Nat)) (w : World) (hr : Rows31 w ad L) (hl : L.length ≤ 1000) :
    Calls Try.prog 117 #[.slice (some ad) L.length c, .func (.func 107) #[] #[]] w fun e w' => ∃ r : Int, e = .returned (.int .i64 r) ∧ -1 ≤ r ∧ r ≤ 1000 ∧ Aside0 (decide (0 ≤ r) = anyLong L) ∧ w' = w := by
  have HR := Aside0.mk hr
  clear hr
  go_enter Try.func117, Try.ntmps117
  go_wp2_with fail
  go_loopg [8] (L.length) (fun k v8 wr => ∃ i : Nat, i + k = L.length ∧ v8 = .int .i64 i ∧ Aside0 (anyLong (L.take i) = false) ∧ wr = w)
  case atStart => exact ⟨0, by omega, rfl, ⟨rfl⟩, rfl⟩
  case round =>
    obtain ⟨i, hi, rfl, HN, rfl⟩ := hrel
    by_cases h0 : i < L.length
    · obtain ⟨hcell, hb⟩ := HR.out i h0
      have hts : L.take (i + 1) = L.take i ++ [L.getD i (none, 0, 0)] := by
        rw [List.take_succ_eq_append_getElem h0, List.getD_eq_getElem?_getD, List.getElem?_eq_getElem h0]; rfl
      have HT := Aside0.mk hts
      have HG := Aside0.mk (show L.getD i (none, 0, 0) ∈ L from by rw [List.getD_eq_getElem?_getD, List.getElem?_eq_getElem h0]; exact List.getElem_mem h0)
      clear hts
      obtain ⟨⟨A, n, c'⟩, hx⟩ : ∃ x, L.getD i (none, 0, 0) = x := ⟨_, rfl⟩
      rw [hx] at hcell hb
      have HX := Aside0.mk hx
      clear hx
      dsimp only at hcell hb
      by_cases hlong : 80 < n
      · go_wp2_with (refine (long1_calls A n c' _ hb).mono ?_; rintro e w' ⟨rfl, rfl⟩)
        go_ret
        refine ⟨i, rfl, by omega, by omega, ⟨?_⟩, rfl⟩
        have : anyLong L = true := List.any_eq_true.2 ⟨_, HG.out, by rw [HX.out]; simpa using hlong⟩
        rw [this]; simp
      · go_wp2_with (refine (long1_calls A n c' _ hb).mono ?_; rintro e w' ⟨rfl, rfl⟩)
        go_roundg (gk - 1)
        case measure => omega
        case rel =>
          refine ⟨i + 1, by omega, by go_num, ⟨?_⟩, rfl⟩
          rw [HT.out]
          unfold anyLong at *
          rw [List.any_append, HN.out, HX.out]
          simpa using hlong
    · go_wp2_with fail
      go_ret
      refine ⟨-1, rfl, by omega, by omega, ⟨?_⟩, rfl⟩
      have := HN.out
      rw [List.take_of_length_le (by omega)] at this
      rw [this]; rfl

theorem containsFunc_calls (ad : Addr) (c : Nat) (L : List (Option Addr × Nat × Nat)) (w : World) (hr : Rows31 w ad L) (hl : L.length ≤ 1000) :
    Calls Try.prog 106 #[.slice (some ad) L.length c, .func (.func 107) #[] #[]] w fun e w' => e = .returned (.bool (anyLong L)) ∧ w' = w := by
  have HR := Aside0.mk hr
  clear hr
  go_enter Try.func106, Try.ntmps106
  go_wp2_with (refine (indexFunc_calls ad c L _ HR.out hl).mono ?_; rintro e w' ⟨r, rfl, h1, h2, HD, rfl⟩)
  go_ret
  refine ⟨?_, rfl⟩
  rw [← HD.out]
  simp

theorem long_calls (ad : Addr) (c : Nat) (L : List (Option Addr × Nat × Nat)) (w : World) (hr : Rows31 w ad L) (hl : L.length ≤ 1000) :
    Calls Try.prog 62 #[.slice (some ad) L.length c] w fun e w' => e = .returned (.bool (anyLong L)) ∧ w' = w := by
  have HR := Aside0.mk hr
  clear hr
  go_enter Try.func62, Try.ntmps62
  go_wp2_with (refine (containsFunc_calls ad c L _ HR.out hl).mono ?_; rintro e w' ⟨rfl, rfl⟩)
  go_ret
  exact ⟨rfl, rfl⟩

/-- Of two lists that stand in a new row. -/
theorem long2_calls (A1 A2 : Option Addr) (n1 n2 c1 c2 : Nat) (w : World) (h1 : n1 ≤ 1000000) (h2 : n2 ≤ 1000000) :
    Calls Try.prog 62 #[.slice (some ⟨w.heap.size, 0, none⟩) 2 2] (w.alloc (.cells #[.slice A1 n1 c1, .slice A2 n2 c2] 31)) fun e w' => e = .returned (.bool (decide (80 < n1 ∨ 80 < n2))) ∧ w' = w.alloc (.cells #[.slice A1 n1 c1, .slice A2 n2 c2] 31) := by
  refine (long_calls ⟨w.heap.size, 0, none⟩ 2 [(A1, n1, c1), (A2, n2, c2)] _ ?_ (by simp)).mono ?_
  · intro i hi
    have : i = 0 ∨ i = 1 := by simp at hi; omega
    rcases this with rfl | rfl
    · exact ⟨World.news_of_block (heap_alloc_new w _) 0 _ rfl, by simp; omega⟩
    · exact ⟨World.news_of_block (heap_alloc_new w _) 1 _ rfl, by simp; omega⟩
  · rintro e w' ⟨rfl, rfl⟩
    exact ⟨by simp [anyLong], rfl⟩
theorem long1s_calls (A1 : Option Addr) (n1 c1 : Nat) (w : World) (h1 : n1 ≤ 1000000) :
    Calls Try.prog 62 #[.slice (some ⟨w.heap.size, 0, none⟩) 1 1] (w.alloc (.cells #[.slice A1 n1 c1] 31)) fun e w' => e = .returned (.bool (decide (80 < n1))) ∧ w' = w.alloc (.cells #[.slice A1 n1 c1] 31) := by
  refine (long_calls ⟨w.heap.size, 0, none⟩ 1 [(A1, n1, c1)] _ ?_ (by simp)).mono ?_
  · intro i hi
    have : i = 0 := by simp at hi; omega
    subst this
    exact ⟨World.news_of_block (heap_alloc_new w _) 0 _ rfl, by simp; omega⟩
  · rintro e w' ⟨rfl, rfl⟩
    exact ⟨by simp [anyLong], rfl⟩
end Go.Proofs.Ytokadjfakncdfaa
end

section
set_option linter.unusedVariables false
set_option linter.unusedSimpArgs false
namespace Go.Proofs.Ytokadjfakncdfaa
open Go.RowKit Go.Proofs.YtokadjfakncdfaaW.PrintWords Go.Proofs.YtokadjfakncdfaaW.PrintLast Go.Proofs.YtokadjfakncdfaaW.PrintMore
open PR
attribute [local go_sem] max2_int

def sub64E : Array Value → Sem Value := fun args => do
  let (x, y, b) ← Extern.MathBitsCarry.three "Sub64" args
  pure (Extern.MathBitsCarry.pair ((x + Extern.MathBitsCarry.m64 - y - b) % Extern.MathBitsCarry.m64) (if x < y + b then 1 else 0))

theorem run_sub64E (P : Program) (x y b : Nat) (hb : b ≤ 1) (w : World) :
    (sub64E #[.int .u64 x, .int .u64 y, .int .u64 b]).run P w =
      .ok (.tuple #[.int .u64 (((x + 18446744073709551616 - y - b) % 18446744073709551616 : Nat) : Int), .int .u64 ((if x < y + b then 1 else 0 : Nat) : Int)]) w := by
  have : b = 0 ∨ b = 1 := by omega
  rcases this with rfl | rfl <;> rfl

/-- bits.Add64, as it is called. -/
theorem add64_run (x y c : Int) (hx : 0 ≤ x ∧ x < B64) (hy : 0 ≤ y ∧ y < B64) (hc : c = 0 ∨ c = 1) :
    ∃ s c', (∀ w, (callFunc 64 #[.int .u64 x, .int .u64 y, .int .u64 c]).run Try.prog w = .ok (.value (.tuple #[.int .u64 s, .int .u64 c'])) w) ∧ (0 ≤ s ∧ s < B64) ∧ (c' = 0 ∨ c' = 1) ∧ s + B64 * c' = x + y + c := by
  refine ⟨(x + y + c) % 18446744073709551616, (x + y + c) / 18446744073709551616, fun w => ?_, ?_, ?_, ?_⟩
  · rw [run_callFunc_extern Try.func64 (by kernel_rfl) (by kernel_rfl) (by kernel_rfl) (e := add64Entry) (by kernel_rfl), run_add64 x y c hx.1 hy.1 (by omega) (by omega)]
    rfl
  · rw [B64_eq]; omega
  · rw [B64_eq] at hx hy; omega
  · rw [B64_eq]; omega
/-- bits.Sub64, as it is called. -/
theorem sub64_run (x y c : Int) (hx : 0 ≤ x ∧ x < B64) (hy : 0 ≤ y ∧ y < B64) (hc : c = 0 ∨ c = 1) :
    ∃ s c', (∀ w, (callFunc 66 #[.int .u64 x, .int .u64 y, .int .u64 c]).run Try.prog w = .ok (.value (.tuple #[.int .u64 s, .int .u64 c'])) w) ∧ (0 ≤ s ∧ s < B64) ∧ (c' = 0 ∨ c' = 1) ∧ s + y + c = x + B64 * c' := by
  obtain ⟨X, rfl⟩ := Int.eq_ofNat_of_zero_le hx.1
  obtain ⟨Y, rfl⟩ := Int.eq_ofNat_of_zero_le hy.1
  obtain ⟨C, rfl⟩ : ∃ C : Nat, c = (C : Int) := ⟨c.toNat, by omega⟩
  rw [B64_eq] at *
  refine ⟨(((X + 18446744073709551616 - Y - C) % 18446744073709551616 : Nat) : Int), ((if X < Y + C then 1 else 0 : Nat) : Int), fun w => ?_, ?_, ?_, ?_⟩
  · rw [run_callFunc_extern Try.func66 (by kernel_rfl) (by kernel_rfl) (by kernel_rfl) (e := sub64E) (by kernel_rfl), run_sub64E _ X Y C (by omega)]
    rfl
  · omega
  · split <;> simp
  · split <;> omega

theorem each1_calls (v : Value) (xs : List Int) (i : Nat) (x : Int) (w : World) (hv : RL .u64 w v xs) (hx : xs.getD i 0 = x) (hi : i ≤ 2000000) (hl : xs.length ≤ 1000000) :
    Calls Try.prog 108 #[v, .int .i64 i] w fun e w' => e = .returned (.int .u64 x) ∧ w' = w := by
  subst hx
  obtain ⟨A, c, rfl, hc, hC⟩ := hv
  by_cases h : i < xs.length
  · obtain ⟨ad, rfl, hcell⟩ := C_cell hC i h
    have HC := Aside0.mk hC
    clear hC
    obtain ⟨y, hy⟩ : ∃ y, xs.getD i 0 = y := ⟨_, rfl⟩
    rw [hy] at hcell ⊢
    clear hy
    go_enter Try.func108, Try.ntmps108
    go_wp2_with fail
    go_ret
    exact ⟨rfl, rfl⟩
  · have e : xs.getD i 0 = 0 := by rw [List.getD_eq_getElem?_getD, List.getElem?_eq_none (by omega)]; rfl
    rw [e]
    have HC := Aside0.mk hC
    clear hC e
    go_enter Try.func108, Try.ntmps108
    go_wp2_with fail
    go_ret
    exact ⟨rfl, rfl⟩

/-- each, with whatever is done to a word: P is what holds behind i words. -/
theorem each_calls (g : Nat) (va vb : Value) (a b : List Int) (w : World) (ha : RL .u64 w va a) (hb : RL .u64 w vb b) (da : Dig B64 a) (db : Dig B64 b) (la : a.length ≤ 1000) (lb : b.length ≤ 1000)
    (P : Nat → List Int → Int → Prop) (h0 : P 0 [] 0)
    (hdo : ∀ (i : Nat) (acc : List Int) (c : Int), P i acc c → acc.length = i → Dig B64 acc → (c = 0 ∨ c = 1) →
      ∃ s c', (∀ w, (callFunc g #[.int .u64 (a.getD i 0), .int .u64 (b.getD i 0), .int .u64 c]).run Try.prog w = .ok (.value (.tuple #[.int .u64 s, .int .u64 c'])) w) ∧ (0 ≤ s ∧ s < B64) ∧ (c' = 0 ∨ c' = 1) ∧ P (i + 1) (acc ++ [s]) c') :
    Calls Try.prog 63 #[va, vb, .func (.func g) #[] #[]] w fun e w' => ∃ v' ys acc c, e = .returned v' ∧ RO .u64 30 w' w.heap.size v' ys ∧ Canon B64 ys ∧ nv B64 ys = nv B64 acc ∧
      Dig B64 acc ∧ acc.length = max a.length b.length + 1 ∧ (c = 0 ∨ c = 1) ∧ P (max a.length b.length + 1) acc c ∧ ys.length ≤ acc.length ∧ Below w.heap.size w w' := by
  obtain ⟨A, ca, rfl, hca, hCa⟩ := ha
  obtain ⟨A', cb, rfl, hcb, hCb⟩ := hb
  have HA := Aside0.mk (show RL .u64 w (.slice A a.length ca) a from ⟨A, ca, rfl, hca, hCa⟩)
  have HB := Aside0.mk (show RL .u64 w (.slice A' b.length cb) b from ⟨A', cb, rfl, hcb, hCb⟩)
  have DA := Aside0.mk da
  have DB := Aside0.mk db
  have H0 := Aside0.mk h0
  have HDO := Aside0.mk hdo
  clear hCa hCb da db h0 hdo hca hcb
  obtain ⟨n, hn⟩ : ∃ n, max a.length b.length = n := ⟨_, rfl⟩
  have hm : (if a.length < b.length then (b.length : Int) else (a.length : Int)) = (n : Int) := by split <;> omega
  have hn1 : n ≤ 1000 := by omega
  rw [hn]
  have LA := Aside0.mk (show a.length ≤ n by omega)
  have LB := Aside0.mk (show b.length ≤ n by omega)
  clear hn
  go_enter Try.func63, Try.ntmps63
  go_wp2_with fail
  clear hm
  go_loopg [7, 8, 18] (n + 1) (fun k v7 v8 v18 wr => ∃ (i : Nat) (acc : List Int) (c : Int), i + k = n + 1 ∧ v8 = .int .u64 c ∧ v18 = .int .i64 i ∧
    Aside0 (P i acc c ∧ acc.length = i ∧ Dig B64 acc ∧ (c = 0 ∨ c = 1)) ∧ Aside0 (RO .u64 30 wr w.heap.size v7 acc) ∧ Aside0 (Below w.heap.size w wr))
  case atStart => exact ⟨0, [], 0, by omega, rfl, rfl, ⟨H0.out, rfl, Dig.nil, .inl rfl⟩, ⟨Kd.R_nil _ _ _ _ _⟩, ⟨Below.refl _ _⟩⟩
  case round =>
    obtain ⟨i, acc, c, hi, rfl, rfl, HP, HO, HW⟩ := hrel
    by_cases h0 : i < n + 1
    · obtain ⟨s, c', hrun, hs, hc', hP⟩ := HDO.out i acc c HP.out.1 HP.out.2.1 HP.out.2.2.1 HP.out.2.2.2
      have HP' := Aside0.mk (show P (i + 1) (acc ++ [s]) c' ∧ (acc ++ [s]).length = i + 1 ∧ Dig B64 (acc ++ [s]) ∧ (c' = 0 ∨ c' = 1) from ⟨hP, by simp [HP.out.2.1], HP.out.2.2.1.snoc hs, hc'⟩)
      have HL := Aside0.mk HP.out.2.1
      obtain ⟨x, hx⟩ : ∃ x, a.getD i 0 = x := ⟨_, rfl⟩
      obtain ⟨y, hy⟩ : ∃ y, b.getD i 0 = y := ⟨_, rfl⟩
      rw [hx, hy] at hrun
      have HRUN := Aside0.mk hrun
      have HX := Aside0.mk hx
      have HY := Aside0.mk hy
      clear hP hs hc' hrun hx hy
      go_wp2_with fail
      refine (each1_calls _ a i x _ (HA.out.below HW.out) HX.out (by omega) (by omega)).mono ?_
      rintro e w1 ⟨rfl, rfl⟩
      go_wp2_with fail
      refine (each1_calls _ b i y _ (HB.out.below HW.out) HY.out (by omega) (by omega)).mono ?_
      rintro e w1 ⟨rfl, rfl⟩
      have hrun := HRUN.out
      go_wp2_with (at_builtin; refine Kd.R_append (Kd.int .u64) (w0 := w) w.heap.size rfl _ _ 31 30 (.int .u64 0) 8 rfl Try.underlying31 info30 rfl (by decide) (by omega) u7 acc s [.int .u64 s] (fun b => w.heap.size ≤ b) (fun _ => False) rfl rfl rfl (fun _ hk => hk.elim) (fun b hb => Nat.le_trans HW.out.size hb) HO.out HW.out HW.out.size (by have := HL.out; omega) ?_; intro v1 w1 ho hb hg hat; have HO' := Aside0.mk ho; have HW' := Aside0.mk hb; clear ho hb hg hat hrun)
      go_roundg (gk - 1)
      case measure => omega
      case rel => exact ⟨i + 1, acc ++ [s], c', by omega, rfl, by go_num, HP', HO', HW'⟩
    · obtain rfl : i = n + 1 := by omega
      go_wp2_with fail
      refine (of_calls _ acc _ (RL.of_R HO.out) HP.out.2.2.1 (by have := HP.out.2.1; omega)).mono ?_
      rintro e w1 ⟨v1, ys, rfl, o1, c1, n1, l1, b1⟩
      have F := Aside0.mk (show RO .u64 30 w1 w.heap.size v1 ys ∧ Canon B64 ys ∧ nv B64 ys = nv B64 acc ∧ Dig B64 acc ∧ acc.length = n + 1 ∧ (c = 0 ∨ c = 1) ∧ P (n + 1) acc c ∧ ys.length ≤ acc.length ∧ Below w.heap.size w w1 from
        ⟨Kd.R_mono (Kd.R_lower o1 HW.out.size) (fun b hb => Nat.le_trans HW.out.size hb), c1, n1, HP.out.2.2.1, HP.out.2.1, HP.out.2.2.2, HP.out.1, l1, HW.out.trans (b1.mono HW.out.size)⟩)
      clear o1 c1 n1 l1 b1
      go_wp2_with fail
      go_ret
      exact ⟨v1, ys, acc, c, rfl, F.out⟩
end Go.Proofs.Ytokadjfakncdfaa
end

section
set_option linter.unusedVariables false
set_option linter.unusedSimpArgs false
namespace Go.Proofs.Ytokadjfakncdfaa
open Go.RowKit Go.Proofs.YtokadjfakncdfaaW.PrintWords Go.Proofs.YtokadjfakncdfaaW.PrintLast Go.Proofs.YtokadjfakncdfaaW.PrintMore
open PR

/-- A result of the call's own: a number in form. -/
def Num (w w' : World) (v : Value) (n : Int) : Prop := ∃ ys, RO .u64 30 w' w.heap.size v ys ∧ Canon B64 ys ∧ nv B64 ys = n ∧ ys.length ≤ 2000

theorem eachAdd_calls (va vb : Value) (a b : List Int) (w : World) (ha : RL .u64 w va a) (hb : RL .u64 w vb b) (da : Dig B64 a) (db : Dig B64 b) (la : a.length ≤ 1000) (lb : b.length ≤ 1000) :
    Calls Try.prog 63 #[va, vb, .func (.func 64) #[] #[]] w fun e w' => ∃ v', e = .returned v' ∧ Num w w' v' (nv B64 a + nv B64 b) ∧ Below w.heap.size w w' := by
  refine (each_calls 64 va vb a b w ha hb da db la lb (AddInv B64 a b) (AddInv.zero _ _ _) ?_).mono ?_
  · intro i acc c h hl hd hc
    obtain ⟨s, c', h1, h2, h3, h4⟩ := add64_run (a.getD i 0) (b.getD i 0) c (da.getD B64_pos i) (db.getD B64_pos i) hc
    exact ⟨s, c', h1, h2, h3, h.step hl h4⟩
  · rintro e w' ⟨v', ys, acc, c, rfl, ho, hc, hn, hd, hl, hcc, hP, hy, hw⟩
    exact ⟨v', rfl, ⟨ys, ho, hc, by rw [hn]; exact AddInv.done (by decide) da db hd hcc (by omega) (by omega) hl hP, by omega⟩, hw⟩
theorem eachSub_calls (va vb : Value) (a b : List Int) (w : World) (ha : RL .u64 w va a) (hb : RL .u64 w vb b) (da : Dig B64 a) (db : Dig B64 b) (la : a.length ≤ 1000) (lb : b.length ≤ 1000) (hle : nv B64 b ≤ nv B64 a) :
    Calls Try.prog 63 #[va, vb, .func (.func 66) #[] #[]] w fun e w' => ∃ v', e = .returned v' ∧ Num w w' v' (nv B64 a - nv B64 b) ∧ Below w.heap.size w w' := by
  refine (each_calls 66 va vb a b w ha hb da db la lb (SubInv B64 a b) (SubInv.zero _ _ _) ?_).mono ?_
  · intro i acc c h hl hd hc
    obtain ⟨s, c', h1, h2, h3, h4⟩ := sub64_run (a.getD i 0) (b.getD i 0) c (da.getD B64_pos i) (db.getD B64_pos i) hc
    exact ⟨s, c', h1, h2, h3, h.step hl h4⟩
  · rintro e w' ⟨v', ys, acc, c, rfl, ho, hc, hn, hd, hl, hcc, hP, hy, hw⟩
    exact ⟨v', rfl, ⟨ys, ho, hc, by rw [hn]; exact SubInv.done (by decide) da db hd hcc (by omega) (by omega) hl hle hP, by omega⟩, hw⟩

theorem Num.raise {w w1 w' : World} {v : Value} {n : Int} (h : Num w1 w' v n) (hb : Below w.heap.size w w1) : Num w w' v n := by
  obtain ⟨ys, ho, hc, hn, hl⟩ := h
  exact ⟨ys, Kd.R_mono (Kd.R_lower ho hb.size) (fun b hb' => Nat.le_trans hb.size hb'), hc, hn, hl⟩
theorem below_alloc1 (w : World) (o : Obj) : Below w.heap.size w (w.alloc o) := below_alloc (Below.refl _ _) o

theorem add_ok (va vb : Value) (a b : List Int) (w : World) (ha : RL .u64 w va a) (hb : RL .u64 w vb b) (da : Dig B64 a) (db : Dig B64 b) (la : a.length ≤ 80) (lb : b.length ≤ 80) :
    Calls Try.prog 20 #[va, vb] w fun e w' => ∃ v', e = .returned (.tuple #[v', .int .i64 0]) ∧ Num w w' v' (nv B64 a + nv B64 b) ∧ Below w.heap.size w w' := by
  obtain ⟨A, ca, rfl, hca, hCa⟩ := ha
  obtain ⟨A', cb, rfl, hcb, hCb⟩ := hb
  have HA := Aside0.mk (show RL .u64 w (.slice A a.length ca) a from ⟨A, ca, rfl, hca, hCa⟩)
  have HB := Aside0.mk (show RL .u64 w (.slice A' b.length cb) b from ⟨A', cb, rfl, hcb, hCb⟩)
  have DA := Aside0.mk da
  have DB := Aside0.mk db
  clear hCa hCb da db hca hcb
  have hlong : decide (80 < a.length ∨ 80 < b.length) = false := by simp; omega
  go_enter Try.func20, Try.ntmps20
  go_wp2_with fail
  refine (long2_calls A A' a.length b.length ca cb w (by omega) (by omega)).mono ?_
  rintro e w1 ⟨rfl, rfl⟩
  go_wp2_with fail
  refine (eachAdd_calls _ _ a b _ (HA.out.below (below_alloc1 _ _)) (HB.out.below (below_alloc1 _ _)) DA.out DB.out (by omega) (by omega)).mono ?_
  rintro e w1 ⟨v', rfl, hn, hw⟩
  have F := Aside0.mk (show Num w w1 v' (nv B64 a + nv B64 b) ∧ Below w.heap.size w w1 from ⟨hn.raise (below_alloc1 _ _), (below_alloc1 _ _).trans (hw.mono (below_alloc1 _ _).size)⟩)
  clear hn hw
  go_wp2_with fail
  go_ret2
  exact ⟨v', rfl, F.out⟩

theorem add_long (va vb : Value) (a b : List Int) (w : World) (ha : RL .u64 w va a) (hb : RL .u64 w vb b) (la : a.length ≤ 1000) (lb : b.length ≤ 1000) (hl : 80 < a.length ∨ 80 < b.length) :
    Calls Try.prog 20 #[va, vb] w fun e w' => e = .returned (.tuple #[.slice none 0 0, .int .i64 11]) ∧ Below w.heap.size w w' := by
  obtain ⟨A, ca, rfl, hca, hCa⟩ := ha
  obtain ⟨A', cb, rfl, hcb, hCb⟩ := hb
  clear hCa hCb hca hcb
  have hlong : decide (80 < a.length ∨ 80 < b.length) = true := by simpa using hl
  clear hl
  go_enter Try.func20, Try.ntmps20
  go_wp2_with fail
  refine (long2_calls A A' a.length b.length ca cb w (by omega) (by omega)).mono ?_
  rintro e w1 ⟨rfl, rfl⟩
  go_wp2_with fail
  go_ret2
  exact ⟨rfl, below_alloc1 _ _⟩

theorem sub_ok (va vb : Value) (a b : List Int) (w : World) (ha : RL .u64 w va a) (hb : RL .u64 w vb b) (da : Dig B64 a) (db : Dig B64 b) (la : a.length ≤ 80) (lb : b.length ≤ 80) (hle : nv B64 b ≤ nv B64 a) :
    Calls Try.prog 23 #[va, vb] w fun e w' => ∃ v', e = .returned (.tuple #[v', .int .i64 0]) ∧ Num w w' v' (nv B64 a - nv B64 b) ∧ Below w.heap.size w w' := by
  obtain ⟨A, ca, rfl, hca, hCa⟩ := ha
  obtain ⟨A', cb, rfl, hcb, hCb⟩ := hb
  have HA := Aside0.mk (show RL .u64 w (.slice A a.length ca) a from ⟨A, ca, rfl, hca, hCa⟩)
  have HB := Aside0.mk (show RL .u64 w (.slice A' b.length cb) b from ⟨A', cb, rfl, hcb, hCb⟩)
  have DA := Aside0.mk da
  have DB := Aside0.mk db
  have HLE := Aside0.mk hle
  clear hCa hCb da db hca hcb hle
  have hlong : decide (80 < a.length ∨ 80 < b.length) = false := by simp; omega
  go_enter Try.func23, Try.ntmps23
  go_wp2_with fail
  refine (long2_calls A A' a.length b.length ca cb w (by omega) (by omega)).mono ?_
  rintro e w1 ⟨rfl, rfl⟩
  go_wp2_with fail
  refine (cmp_calls _ _ a b _ (HA.out.below (below_alloc1 _ _)) (HB.out.below (below_alloc1 _ _)) DA.out DB.out (by omega) (by omega)).mono ?_
  rintro e w1 ⟨rfl, hw⟩
  have HW := Aside0.mk (show Below w.heap.size w w1 from (below_alloc1 _ _).trans (hw.mono (below_alloc1 _ _).size))
  clear hw
  obtain ⟨r, hr, hr0⟩ : ∃ r, cmpI (nv B64 a) (nv B64 b) = r ∧ 0 ≤ r := ⟨_, rfl, by have := HLE.out; rcases cmpI_cases (nv B64 a) (nv B64 b) with ⟨h, _⟩ | ⟨_, e⟩ | ⟨_, e⟩ <;> omega⟩
  rw [hr]
  clear hr
  go_wp2_with fail
  refine (eachSub_calls _ _ a b _ (HA.out.below HW.out) (HB.out.below HW.out) DA.out DB.out (by omega) (by omega) HLE.out).mono ?_
  rintro e w2 ⟨v', rfl, hn, hw⟩
  have F := Aside0.mk (show Num w w2 v' (nv B64 a - nv B64 b) ∧ Below w.heap.size w w2 from ⟨hn.raise HW.out, HW.out.trans (hw.mono HW.out.size)⟩)
  clear hn hw
  go_wp2_with fail
  go_ret2
  exact ⟨v', rfl, F.out⟩

theorem sub_less (va vb : Value) (a b : List Int) (w : World) (ha : RL .u64 w va a) (hb : RL .u64 w vb b) (da : Dig B64 a) (db : Dig B64 b) (la : a.length ≤ 80) (lb : b.length ≤ 80) (hlt : nv B64 a < nv B64 b) :
    Calls Try.prog 23 #[va, vb] w fun e w' => e = .returned (.tuple #[.slice none 0 0, .int .i64 1]) ∧ Below w.heap.size w w' := by
  obtain ⟨A, ca, rfl, hca, hCa⟩ := ha
  obtain ⟨A', cb, rfl, hcb, hCb⟩ := hb
  have HA := Aside0.mk (show RL .u64 w (.slice A a.length ca) a from ⟨A, ca, rfl, hca, hCa⟩)
  have HB := Aside0.mk (show RL .u64 w (.slice A' b.length cb) b from ⟨A', cb, rfl, hcb, hCb⟩)
  have DA := Aside0.mk da
  have DB := Aside0.mk db
  have HLT := Aside0.mk hlt
  clear hCa hCb da db hca hcb hlt
  have hlong : decide (80 < a.length ∨ 80 < b.length) = false := by simp; omega
  go_enter Try.func23, Try.ntmps23
  go_wp2_with fail
  refine (long2_calls A A' a.length b.length ca cb w (by omega) (by omega)).mono ?_
  rintro e w1 ⟨rfl, rfl⟩
  go_wp2_with fail
  refine (cmp_calls _ _ a b _ (HA.out.below (below_alloc1 _ _)) (HB.out.below (below_alloc1 _ _)) DA.out DB.out (by omega) (by omega)).mono ?_
  rintro e w1 ⟨rfl, hw⟩
  have HW := Aside0.mk (show Below w.heap.size w w1 from (below_alloc1 _ _).trans (hw.mono (below_alloc1 _ _).size))
  clear hw
  rw [cmpI_lt HLT.out]
  go_wp2_with fail
  go_ret2
  exact ⟨rfl, HW.out⟩

theorem sub_long (va vb : Value) (a b : List Int) (w : World) (ha : RL .u64 w va a) (hb : RL .u64 w vb b) (la : a.length ≤ 1000) (lb : b.length ≤ 1000) (hl : 80 < a.length ∨ 80 < b.length) :
    Calls Try.prog 23 #[va, vb] w fun e w' => e = .returned (.tuple #[.slice none 0 0, .int .i64 11]) ∧ Below w.heap.size w w' := by
  obtain ⟨A, ca, rfl, hca, hCa⟩ := ha
  obtain ⟨A', cb, rfl, hcb, hCb⟩ := hb
  clear hCa hCb hca hcb
  have hlong : decide (80 < a.length ∨ 80 < b.length) = true := by simpa using hl
  clear hl
  go_enter Try.func23, Try.ntmps23
  go_wp2_with fail
  refine (long2_calls A A' a.length b.length ca cb w (by omega) (by omega)).mono ?_
  rintro e w1 ⟨rfl, rfl⟩
  go_wp2_with fail
  go_ret2
  exact ⟨rfl, below_alloc1 _ _⟩
end Go.Proofs.Ytokadjfakncdfaa
end

section
set_option linter.unusedVariables false
set_option linter.unusedSimpArgs false
namespace Go.Proofs.Ytokadjfakncdfaa
open Go.RowKit Go.Proofs.YtokadjfakncdfaaW.PrintWords Go.Proofs.YtokadjfakncdfaaW.PrintLast Go.Proofs.YtokadjfakncdfaaW.PrintMore
open PR

/-- n has r bits. -/
def LenN (n r : Nat) : Prop := n < 2 ^ r ∧ (r = 0 ∨ 2 ^ (r - 1) ≤ n)
instance (n r : Nat) : Decidable (LenN n r) := by unfold LenN; infer_instance

theorem LenN.shift {n r k : Nat} (h : LenN (n / 2 ^ k) r) (h0 : 0 < n / 2 ^ k) : LenN n (r + k) := by
  obtain ⟨h1, h2⟩ := h
  have hp : 0 < 2 ^ k := Nat.two_pow_pos k
  have hr : r ≠ 0 := by rintro rfl; simp only [Nat.pow_zero] at h1; omega
  refine ⟨?_, .inr ?_⟩
  · rw [Nat.pow_add]; exact (Nat.div_lt_iff_lt_mul hp).1 h1
  · have h3 : 2 ^ (r - 1) ≤ n / 2 ^ k := by omega
    rw [show r + k - 1 = (r - 1) + k by omega, Nat.pow_add]
    exact (Nat.le_div_iff_mul_le hp).1 h3
theorem LenN.uniq {n r s : Nat} (h : LenN n r) (h' : LenN n s) : r = s := by
  obtain ⟨h1, h2⟩ := h
  obtain ⟨h3, h4⟩ := h'
  rcases Nat.lt_trichotomy r s with hl | hl | hl
  · have := Nat.pow_le_pow_right (n := 2) (by omega) (show r ≤ s - 1 by omega); omega
  · exact hl
  · have := Nat.pow_le_pow_right (n := 2) (by omega) (show s ≤ r - 1 by omega); omega

def len8T : Array UInt8 := #[0, 1, 2, 2, 3, 3, 3, 3, 4, 4, 4, 4, 4, 4, 4, 4, 5, 5, 5, 5, 5, 5, 5, 5, 5, 5, 5, 5, 5, 5, 5, 5, 6, 6, 6, 6, 6, 6, 6, 6, 6, 6, 6, 6, 6, 6, 6, 6, 6,
    6, 6, 6, 6, 6, 6, 6, 6, 6, 6, 6, 6, 6, 6, 6, 7, 7, 7, 7, 7, 7, 7, 7, 7, 7, 7, 7, 7, 7, 7, 7, 7, 7, 7, 7, 7, 7, 7, 7, 7, 7, 7, 7, 7, 7, 7, 7, 7, 7, 7,
    7, 7, 7, 7, 7, 7, 7, 7, 7, 7, 7, 7, 7, 7, 7, 7, 7, 7, 7, 7, 7, 7, 7, 7, 7, 7, 7, 7, 7, 8, 8, 8, 8, 8, 8, 8, 8, 8, 8, 8, 8, 8, 8, 8, 8, 8, 8, 8, 8, 8,
    8, 8, 8, 8, 8, 8, 8, 8, 8, 8, 8, 8, 8, 8, 8, 8, 8, 8, 8, 8, 8, 8, 8, 8, 8, 8, 8, 8, 8, 8, 8, 8, 8, 8, 8, 8, 8, 8, 8, 8, 8, 8, 8, 8, 8, 8, 8, 8, 8, 8,
    8, 8, 8, 8, 8, 8, 8, 8, 8, 8, 8, 8, 8, 8, 8, 8, 8, 8, 8, 8, 8, 8, 8, 8, 8, 8, 8, 8, 8, 8, 8, 8, 8, 8, 8, 8, 8, 8, 8, 8, 8, 8, 8, 8, 8, 8, 8, 8, 8, 8,
    8, 8, 8, 8, 8, 8, 8]
theorem len8_size : len8T.size = 256 := by decide +kernel
theorem len8_ok : ∀ i : Fin 256, LenN i.val ((len8T[i.val]'(Nat.lt_of_lt_of_eq i.isLt len8_size.symm)).toNat) ∧ (len8T[i.val]'(Nat.lt_of_lt_of_eq i.isLt len8_size.symm)).toNat ≤ 8 := by decide +kernel
theorem len8_at (i : Nat) (h : i < 256) (h' : i < (ByteArray.mk #[0, 1, 2, 2, 3, 3, 3, 3, 4, 4, 4, 4, 4, 4, 4, 4, 5, 5, 5, 5, 5, 5, 5, 5, 5, 5, 5, 5, 5, 5, 5, 5, 6, 6, 6, 6, 6, 6, 6, 6, 6, 6, 6, 6, 6, 6, 6, 6, 6,
    6, 6, 6, 6, 6, 6, 6, 6, 6, 6, 6, 6, 6, 6, 6, 7, 7, 7, 7, 7, 7, 7, 7, 7, 7, 7, 7, 7, 7, 7, 7, 7, 7, 7, 7, 7, 7, 7, 7, 7, 7, 7, 7, 7, 7, 7, 7, 7, 7, 7,
    7, 7, 7, 7, 7, 7, 7, 7, 7, 7, 7, 7, 7, 7, 7, 7, 7, 7, 7, 7, 7, 7, 7, 7, 7, 7, 7, 7, 7, 8, 8, 8, 8, 8, 8, 8, 8, 8, 8, 8, 8, 8, 8, 8, 8, 8, 8, 8, 8, 8,
    8, 8, 8, 8, 8, 8, 8, 8, 8, 8, 8, 8, 8, 8, 8, 8, 8, 8, 8, 8, 8, 8, 8, 8, 8, 8, 8, 8, 8, 8, 8, 8, 8, 8, 8, 8, 8, 8, 8, 8, 8, 8, 8, 8, 8, 8, 8, 8, 8, 8,
    8, 8, 8, 8, 8, 8, 8, 8, 8, 8, 8, 8, 8, 8, 8, 8, 8, 8, 8, 8, 8, 8, 8, 8, 8, 8, 8, 8, 8, 8, 8, 8, 8, 8, 8, 8, 8, 8, 8, 8, 8, 8, 8, 8, 8, 8, 8, 8, 8, 8,
    8, 8, 8, 8, 8, 8, 8]).size) : LenN i ((ByteArray.mk #[0, 1, 2, 2, 3, 3, 3, 3, 4, 4, 4, 4, 4, 4, 4, 4, 5, 5, 5, 5, 5, 5, 5, 5, 5, 5, 5, 5, 5, 5, 5, 5, 6, 6, 6, 6, 6, 6, 6, 6, 6, 6, 6, 6, 6, 6, 6, 6, 6,
    6, 6, 6, 6, 6, 6, 6, 6, 6, 6, 6, 6, 6, 6, 6, 7, 7, 7, 7, 7, 7, 7, 7, 7, 7, 7, 7, 7, 7, 7, 7, 7, 7, 7, 7, 7, 7, 7, 7, 7, 7, 7, 7, 7, 7, 7, 7, 7, 7, 7,
    7, 7, 7, 7, 7, 7, 7, 7, 7, 7, 7, 7, 7, 7, 7, 7, 7, 7, 7, 7, 7, 7, 7, 7, 7, 7, 7, 7, 7, 8, 8, 8, 8, 8, 8, 8, 8, 8, 8, 8, 8, 8, 8, 8, 8, 8, 8, 8, 8, 8,
    8, 8, 8, 8, 8, 8, 8, 8, 8, 8, 8, 8, 8, 8, 8, 8, 8, 8, 8, 8, 8, 8, 8, 8, 8, 8, 8, 8, 8, 8, 8, 8, 8, 8, 8, 8, 8, 8, 8, 8, 8, 8, 8, 8, 8, 8, 8, 8, 8, 8,
    8, 8, 8, 8, 8, 8, 8, 8, 8, 8, 8, 8, 8, 8, 8, 8, 8, 8, 8, 8, 8, 8, 8, 8, 8, 8, 8, 8, 8, 8, 8, 8, 8, 8, 8, 8, 8, 8, 8, 8, 8, 8, 8, 8, 8, 8, 8, 8, 8, 8,
    8, 8, 8, 8, 8, 8, 8])[i]'h').toNat ∧ ((ByteArray.mk #[0, 1, 2, 2, 3, 3, 3, 3, 4, 4, 4, 4, 4, 4, 4, 4, 5, 5, 5, 5, 5, 5, 5, 5, 5, 5, 5, 5, 5, 5, 5, 5, 6, 6, 6, 6, 6, 6, 6, 6, 6, 6, 6, 6, 6, 6, 6, 6, 6,
    6, 6, 6, 6, 6, 6, 6, 6, 6, 6, 6, 6, 6, 6, 6, 7, 7, 7, 7, 7, 7, 7, 7, 7, 7, 7, 7, 7, 7, 7, 7, 7, 7, 7, 7, 7, 7, 7, 7, 7, 7, 7, 7, 7, 7, 7, 7, 7, 7, 7,
    7, 7, 7, 7, 7, 7, 7, 7, 7, 7, 7, 7, 7, 7, 7, 7, 7, 7, 7, 7, 7, 7, 7, 7, 7, 7, 7, 7, 7, 8, 8, 8, 8, 8, 8, 8, 8, 8, 8, 8, 8, 8, 8, 8, 8, 8, 8, 8, 8, 8,
    8, 8, 8, 8, 8, 8, 8, 8, 8, 8, 8, 8, 8, 8, 8, 8, 8, 8, 8, 8, 8, 8, 8, 8, 8, 8, 8, 8, 8, 8, 8, 8, 8, 8, 8, 8, 8, 8, 8, 8, 8, 8, 8, 8, 8, 8, 8, 8, 8, 8,
    8, 8, 8, 8, 8, 8, 8, 8, 8, 8, 8, 8, 8, 8, 8, 8, 8, 8, 8, 8, 8, 8, 8, 8, 8, 8, 8, 8, 8, 8, 8, 8, 8, 8, 8, 8, 8, 8, 8, 8, 8, 8, 8, 8, 8, 8, 8, 8, 8, 8,
    8, 8, 8, 8, 8, 8, 8])[i]'h').toNat ≤ 8 := len8_ok ⟨i, h⟩

theorem len64_end (x : Int) (h0 : 0 ≤ x) (k : Nat) (i : Int) (T : Nat) (hi : x / (2 ^ k : Nat) = i) (hpos : k = 0 ∨ 0 < i) (ht : LenN i.toNat T) : LenN x.toNat (T + k) := by
  have e : x.toNat / 2 ^ k = i.toNat := by
    obtain ⟨n, rfl⟩ := Int.eq_ofNat_of_zero_le h0
    rw [← hi, ← Int.natCast_ediv]; rfl
  rcases hpos with rfl | hpos
  · simp at e; rw [e]; exact ht
  · rw [← e] at ht
    exact ht.shift (by omega)

set_option maxRecDepth 100000 in
theorem len64_calls (x : Int) (h0 : 0 ≤ x) (h1 : x < B64) (w : World) :
    Calls Try.prog 70 #[.int .u64 x] w fun e w' => ∃ r : Nat, e = .returned (.int .i64 r) ∧ LenN x.toNat r ∧ r ≤ 64 ∧ w' = w := by
  have H1 := Aside0.mk h1
  clear h1
  go_enter Try.func70, Try.ntmps70
  go_wp2_with fail
  · go_ret
    have h1 : x < 18446744073709551616 := H1.out
    simp only [Array.getD_eq_getD_getElem?, List.getElem?_toArray, List.getElem?_cons_zero, List.getElem?_cons_succ, Option.getD_some]
    generalize hT : UInt8.toNat _ = T
    have L : LenN (x / 4294967296 / 65536 / 256 % 256).toNat T ∧ T ≤ 8 := by rw [← hT]; exact len8_at _ (by omega) _
    obtain ⟨L1, L2⟩ := L
    clear hT
    refine ⟨T + 56, ?_, len64_end x h0 56 (x / 4294967296 / 65536 / 256 % 256) T (by omega) (by omega) L1, by omega, trivial⟩
    congr 2
    unfold wrap64
    omega
  · go_ret
    have h1 : x < 18446744073709551616 := H1.out
    simp only [Array.getD_eq_getD_getElem?, List.getElem?_toArray, List.getElem?_cons_zero, List.getElem?_cons_succ, Option.getD_some]
    generalize hT : UInt8.toNat _ = T
    have L : LenN (x / 4294967296 / 65536).toNat T ∧ T ≤ 8 := by rw [← hT]; exact len8_at _ (by omega) _
    obtain ⟨L1, L2⟩ := L
    clear hT
    refine ⟨T + 48, ?_, len64_end x h0 48 (x / 4294967296 / 65536) T (by omega) (by omega) L1, by omega, trivial⟩
    congr 2
    unfold wrap64
    omega
  · go_ret
    have h1 : x < 18446744073709551616 := H1.out
    simp only [Array.getD_eq_getD_getElem?, List.getElem?_toArray, List.getElem?_cons_zero, List.getElem?_cons_succ, Option.getD_some]
    generalize hT : UInt8.toNat _ = T
    have L : LenN (x / 4294967296 / 256).toNat T ∧ T ≤ 8 := by rw [← hT]; exact len8_at _ (by omega) _
    obtain ⟨L1, L2⟩ := L
    clear hT
    refine ⟨T + 40, ?_, len64_end x h0 40 (x / 4294967296 / 256) T (by omega) (by omega) L1, by omega, trivial⟩
    congr 2
    unfold wrap64
    omega
  · go_ret
    have h1 : x < 18446744073709551616 := H1.out
    simp only [Array.getD_eq_getD_getElem?, List.getElem?_toArray, List.getElem?_cons_zero, List.getElem?_cons_succ, Option.getD_some]
    generalize hT : UInt8.toNat _ = T
    have L : LenN (x / 4294967296).toNat T ∧ T ≤ 8 := by rw [← hT]; exact len8_at _ (by omega) _
    obtain ⟨L1, L2⟩ := L
    clear hT
    refine ⟨T + 32, ?_, len64_end x h0 32 (x / 4294967296) T (by omega) (by omega) L1, by omega, trivial⟩
    congr 2
    unfold wrap64
    omega
  · go_ret
    have h1 : x < 18446744073709551616 := H1.out
    simp only [Array.getD_eq_getD_getElem?, List.getElem?_toArray, List.getElem?_cons_zero, List.getElem?_cons_succ, Option.getD_some]
    generalize hT : UInt8.toNat _ = T
    have L : LenN (x / 65536 / 256).toNat T ∧ T ≤ 8 := by rw [← hT]; exact len8_at _ (by omega) _
    obtain ⟨L1, L2⟩ := L
    clear hT
    refine ⟨T + 24, ?_, len64_end x h0 24 (x / 65536 / 256) T (by omega) (by omega) L1, by omega, trivial⟩
    congr 2
    unfold wrap64
    omega
  · go_ret
    have h1 : x < 18446744073709551616 := H1.out
    simp only [Array.getD_eq_getD_getElem?, List.getElem?_toArray, List.getElem?_cons_zero, List.getElem?_cons_succ, Option.getD_some]
    generalize hT : UInt8.toNat _ = T
    have L : LenN (x / 65536).toNat T ∧ T ≤ 8 := by rw [← hT]; exact len8_at _ (by omega) _
    obtain ⟨L1, L2⟩ := L
    clear hT
    refine ⟨T + 16, ?_, len64_end x h0 16 (x / 65536) T (by omega) (by omega) L1, by omega, trivial⟩
    congr 2
    unfold wrap64
    omega
  · go_ret
    have h1 : x < 18446744073709551616 := H1.out
    simp only [Array.getD_eq_getD_getElem?, List.getElem?_toArray, List.getElem?_cons_zero, List.getElem?_cons_succ, Option.getD_some]
    generalize hT : UInt8.toNat _ = T
    have L : LenN (x / 256).toNat T ∧ T ≤ 8 := by rw [← hT]; exact len8_at _ (by omega) _
    obtain ⟨L1, L2⟩ := L
    clear hT
    refine ⟨T + 8, ?_, len64_end x h0 8 (x / 256) T (by omega) (by omega) L1, by omega, trivial⟩
    congr 2
    unfold wrap64
    omega
  · go_ret
    have h1 : x < 18446744073709551616 := H1.out
    simp only [Array.getD_eq_getD_getElem?, List.getElem?_toArray, List.getElem?_cons_zero, List.getElem?_cons_succ, Option.getD_some]
    generalize hT : UInt8.toNat _ = T
    have L : LenN (x).toNat T ∧ T ≤ 8 := by rw [← hT]; exact len8_at _ (by omega) _
    obtain ⟨L1, L2⟩ := L
    clear hT
    refine ⟨T + 0, ?_, len64_end x h0 0 (x) T (by omega) (by omega) L1, by omega, trivial⟩
    congr 2
    unfold wrap64
    omega

theorem maskN (a : Nat) (ha : a < 18446744073709551616) : bits .and .u64 (a : Int) 4294967295 = ((a % 4294967296 : Nat) : Int) := by
  have h := bits_and_u64_nat a 4294967295 ha (by omega)
  have e : a &&& 4294967295 = a % 4294967296 := Nat.and_two_pow_sub_one_eq_mod a 32
  rw [e] at h
  exact h
theorem wrapN (a : Nat) (ha : a < 18446744073709551616) : IntKind.u64.wrap (a : Int) = (a : Int) := by rw [IntKind.wrap_u64]; omega
theorem wrapM (a : Nat) : IntKind.u64.wrap (a : Int) = ((a % 18446744073709551616 : Nat) : Int) := by rw [IntKind.wrap_u64]; omega
theorem divN (a : Nat) : (a : Int) / 4294967296 = ((a / 4294967296 : Nat) : Int) := by omega

set_option maxHeartbeats 1000000 in
/-- The high and the low word of a product. -/
theorem mul64_calls (x y : Int) (hx : 0 ≤ x ∧ x < B64) (hy : 0 ≤ y ∧ y < B64) (w : World) :
    Calls Try.prog 65 #[.int .u64 x, .int .u64 y] w fun e w' => ∃ hi lo : Int, e = .returned (.tuple #[.int .u64 hi, .int .u64 lo]) ∧ (0 ≤ hi ∧ hi < B64) ∧ (0 ≤ lo ∧ lo < B64) ∧ B64 * hi + lo = x * y ∧ w' = w := by
  obtain ⟨X, rfl⟩ := Int.eq_ofNat_of_zero_le hx.1
  obtain ⟨Y, rfl⟩ := Int.eq_ofNat_of_zero_le hy.1
  rw [B64_eq] at *
  have hX : X < 18446744073709551616 := by omega
  have hY : Y < 18446744073709551616 := by omega
  obtain ⟨bd, bt, bw, hhi⟩ := Lib.mul64_hi X Y hX hY
  have ba := Lib.half_mul_le (a := X / 4294967296) (b := Y / 4294967296) (by omega) (by omega)
  have bb := Lib.half_mul_le (a := X / 4294967296) (b := Y % 4294967296) (by omega) (by omega)
  have bc := Lib.half_mul_le (a := X % 4294967296) (b := Y / 4294967296) (by omega) (by omega)
  have ba' : X / 4294967296 * (Y / 4294967296) < 18446744073709551616 := by omega
  have bb' : X / 4294967296 * (Y % 4294967296) < 18446744073709551616 := by omega
  have bc' : X % 4294967296 * (Y / 4294967296) < 18446744073709551616 := by omega
  have bh1 : X / 4294967296 * (Y / 4294967296) + (X / 4294967296 * (Y % 4294967296) + X % 4294967296 * (Y % 4294967296) / 4294967296) / 4294967296 < 18446744073709551616 := by omega
  have bh : X / 4294967296 * (Y / 4294967296) + (X / 4294967296 * (Y % 4294967296) + X % 4294967296 * (Y % 4294967296) / 4294967296) / 4294967296 + ((X / 4294967296 * (Y % 4294967296) + X % 4294967296 * (Y % 4294967296) / 4294967296) % 4294967296 + X % 4294967296 * (Y / 4294967296)) / 4294967296 < 18446744073709551616 := by omega
  have bbs := Aside0.mk (And.intro ba' (And.intro bb' (And.intro bc' (And.intro bh1 bh))))
  have hhiB : X * Y / 18446744073709551616 < 18446744073709551616 := by rw [← hhi]; omega
  have hh := Aside0.mk (And.intro hhi (And.intro hhiB (And.intro bd (And.intro bt bw))))
  clear hx hy hhi hhiB bd bt bw ba bb bc ba' bb' bc' bh1 bh
  go_enter Try.func65, Try.ntmps65
  go_wp2
  obtain ⟨ba', bb', bc', bh1, bh⟩ := bbs.out
  obtain ⟨hhi, hhiB, bd, bt, bw⟩ := hh.out
  simp only [maskN X hX, maskN Y hY, divN, ← Int.natCast_mul, ← Int.natCast_add, wrapN _ bd, wrapN _ bb', wrapN _ bt, maskN _ bt, wrapN _ bc', wrapN _ bw, wrapN _ ba', wrapN _ bh1, wrapN _ bh, wrapM (X * Y)]
  rw [hhi]
  go_ret2
  refine ⟨((X * Y / 18446744073709551616 : Nat) : Int), ((X * Y % 18446744073709551616 : Nat) : Int), rfl, ⟨by omega, by omega⟩, ⟨by omega, by omega⟩, by omega, rfl⟩
end Go.Proofs.Ytokadjfakncdfaa
end

section
set_option linter.unusedVariables false
set_option linter.unusedSimpArgs false
namespace Go.Proofs.Ytokadjfakncdfaa
open Go.RowKit Go.Proofs.YtokadjfakncdfaaW.PrintWords Go.Proofs.YtokadjfakncdfaaW.PrintLast Go.Proofs.YtokadjfakncdfaaW.PrintMore
open PR

theorem mul_ok (va vb : Value) (a b : List Int) (w : World) (ha : RL .u64 w va a) (hb : RL .u64 w vb b) (da : Dig B64 a) (db : Dig B64 b) (la : a.length ≤ 80) (lb : b.length ≤ 80) :
    Calls Try.prog 22 #[va, vb] w fun e w' => ∃ v', e = .returned (.tuple #[v', .int .i64 0]) ∧ Num w w' v' (nv B64 a * nv B64 b) ∧ Below w.heap.size w w' := by
  obtain ⟨A, ca, rfl, hca, hCa⟩ := ha
  obtain ⟨A', cb, rfl, hcb, hCb⟩ := hb
  have HA := Aside0.mk hCa
  have HB := Aside0.mk hCb
  have DA := Aside0.mk da
  have DB := Aside0.mk db
  clear hCa hCb da db
  have hlong : decide (80 < a.length ∨ 80 < b.length) = false := by simp; omega
  go_enter Try.func22, Try.ntmps22
  go_wp2_with fail
  refine (long2_calls A A' a.length b.length ca cb w (by omega) (by omega)).mono ?_
  rintro e w1 ⟨rfl, rfl⟩
  go_wp2_with ((with_reducible refine gate_dst (N := 24) rfl ?_); refine Kd.R_make (Kd.int .u64) (w0 := w) w.heap.size 30 rfl (N := 24) rfl 31 _ _ rfl ((a.length : Int) + (b.length : Int)) rfl rfl Try.underlying31 (.int .u64 0) 8 info30 rfl (by decide) (by omega) 0 (ok := fun k => w.heap.size ≤ k) (okp := fun _ => False) rfl (fun _ hk => hk.elim) (by simp) (by omega) (by omega) (below_alloc1 _ _) (by simp) ?_; intro v6 w2 ho hw hg hn; have HO := Aside0.mk ho; have HW := Aside0.mk hw; clear ho hw hg hn)
  have HO1 := Aside0.mk (show RO .u64 30 w2 w.heap.size v6 (List.replicate (a.length + b.length) 0) from by
    have := HO.out
    rw [show ((a.length : Int) + (b.length : Int)).toNat = a.length + b.length by omega] at this
    exact this)
  clear HO
  obtain ⟨A6, c6, rfl⟩ := Kd.R_slice HO1.out
  rw [List.length_replicate] at HO1
  simp only [List.length_replicate]
  obtain ⟨m, hm⟩ : ∃ m, a.length + b.length = m := ⟨_, rfl⟩
  rw [hm] at HO1
  simp only [hm]
  have HM := Aside0.mk hm
  have hm' : m ≤ 160 := by omega
  clear hm
  go_loopg [27] a.length (fun kk v27 wr => ∃ (i : Nat) (out : List Int), i + kk = a.length ∧ v27 = .int .i64 i ∧ Aside0 (MulOut B64 a b i out) ∧ Aside0 (RO .u64 30 wr w.heap.size (.slice A6 m c6) out) ∧ Aside0 (Below w.heap.size w wr))
  case atStart => exact ⟨0, List.replicate m 0, by omega, rfl, ⟨by rw [← HM.out]; exact MulOut.zero B64_pos a b⟩, HO1, HW⟩
  case round =>
    clear HO1 HW
    obtain ⟨i, out, hi, rfl, HP, HO, HW⟩ := hrel
    by_cases h0 : i < a.length
    · obtain ⟨ada, rfl, hcella⟩ := C_cell (Kd.C_below HA.out HW.out) i h0
      obtain ⟨x, hx⟩ : ∃ x, a.getD i 0 = x := ⟨_, rfl⟩
      rw [hx] at hcella
      have HX := Aside0.mk hx
      clear hx
      go_wp2_with fail
      clear hcella
      go_loopg [34, 9] b.length (fun kk v34 v9 wr => ∃ (k : Nat) (out : List Int) (c : Int), k + kk = b.length ∧ v34 = .int .i64 k ∧ v9 = .int .u64 c ∧ Aside0 (MulIn B64 a b i k out c) ∧ Aside0 (RO .u64 30 wr w.heap.size (.slice A6 m c6) out) ∧ Aside0 (Below w.heap.size w wr))
      case atStart => exact ⟨0, out, 0, by omega, rfl, rfl, ⟨HP.out.enter B64_pos⟩, HO, HW⟩
      case round =>
        clear HO HW HP
        obtain ⟨k, out, c, hk, rfl, rfl, HP, HO, HW⟩ := hrel
        obtain ⟨g, cap, eo, hg, hlt, cells, hcells⟩ := Kd.R_form HO.out (by have := HP.out.1; omega)
        have EM := HP.out.1.trans HM.out
        have HG := Aside0.mk hg
        rw [EM] at eo
        have EM' := Aside0.mk EM
        clear EM hg hcells hlt cells
        cases eo
        by_cases h1 : k < b.length
        · obtain ⟨adb, rfl, hcellb⟩ := C_cell (Kd.C_below HB.out HW.out) k h1
          obtain ⟨y, hy⟩ : ∃ y, b.getD k 0 = y := ⟨_, rfl⟩
          rw [hy] at hcellb
          have HY := Aside0.mk hy
          clear hy
          have hik : i + k < m := by have := HM.out; omega
          obtain ⟨hcello, hfro⟩ := Kd.R_celln 0 HO.out ((i + k : Nat) : Int) (by omega) (by have := HM.out; omega)
          rw [Int.toNat_natCast] at hcello hfro
          obtain ⟨o, hoo⟩ : ∃ o, rdOf 0 out ((i + k : Nat) : Int) = o := ⟨_, rfl⟩
          rw [hoo] at hcello
          have HOO := Aside0.mk (show out.getD (i + k) 0 = o from hoo)
          clear hoo
          have hxb := Aside0.mk (HX.out ▸ DA.out.getD B64_pos i)
          have hyb := Aside0.mk (HY.out ▸ DB.out.getD B64_pos k)
          have hob := Aside0.mk (HOO.out ▸ HP.out.2.1.getD B64_pos (i + k))
          go_wp2_with fail
          refine (mul64_calls x y hxb.out hyb.out _).mono ?_
          rintro e w3 ⟨hi', lo, rfl, h2, h3, h4, rfl⟩
          obtain ⟨l1, d1, r1, r2, r3, r4⟩ := add64_run lo o 0 h3 hob.out (.inl rfl)
          obtain ⟨l2, d2, s1, s2, s3, s4⟩ := add64_run l1 c 0 r2 HP.out.2.2.1 (.inl rfl)
          have F := mul_fits (l1 := l1) B64_pos hxb.out hyb.out hob.out HP.out.2.2.1 h2 s2 r3 s3 h4 (by omega) (by omega)
          have FF := Aside0.mk (show (0 ≤ l2 ∧ l2 < B64) ∧ (0 ≤ hi' + d1 + d2 ∧ hi' + d1 + d2 < B64) ∧ B64 * (hi' + d1 + d2) + l2 = x * y + o + c from ⟨s2, ⟨by omega, F.1⟩, F.2.2⟩)
          have GG := Aside0.mk (show 0 ≤ hi' + d1 ∧ hi' + d1 < B64 from ⟨by omega, F.2.1⟩)
          clear F r2 r3 r4 s2 s3 s4 h2 h3 h4
          go_wp2_with fail
          go_roundg (gk - 1)
          case measure => omega
          case rel =>
            refine ⟨k + 1, out.set (i + k) l2, hi' + d1 + d2, by omega, by go_num, ?_, ⟨?_⟩, ⟨?_⟩, ⟨?_⟩⟩
            · obtain ⟨_, f2, _⟩ := FF.out
              obtain ⟨g1, g2⟩ := GG.out
              rw [B64_eq] at f2 g2
              rw [IntKind.wrap_u64, IntKind.wrap_u64]
              congr 1
              omega
            · obtain ⟨f1, f2, f3⟩ := FF.out
              exact HP.out.step B64_pos h0 h1 f1 f2 (by rw [HX.out, HY.out, HOO.out]; exact f3)
            · have := Kd.R_putn HO.out ((i + k : Nat) : Int) l2
              rw [Int.toNat_natCast] at this
              exact this
            · exact below_set HW.out HG.out
        · obtain rfl : k = b.length := by omega
          have hik : i + b.length < m := by have := HM.out; omega
          obtain ⟨hcello, hfro⟩ := Kd.R_celln 0 HO.out ((i + b.length : Nat) : Int) (by omega) (by have := HM.out; omega)
          rw [Int.toNat_natCast] at hcello hfro
          go_wp2_with fail
          go_roundg (a.length - (i + 1))
          case measure => omega
          case rel =>
            refine ⟨i + 1, out.set (i + b.length) c, by omega, by go_num, ⟨HP.out.leave B64_pos h0⟩, ⟨?_⟩, ⟨below_set HW.out HG.out⟩⟩
            have := Kd.R_putn HO.out ((i + b.length : Nat) : Int) c
            rw [Int.toNat_natCast] at this
            exact this
    · obtain rfl : i = a.length := by omega
      go_wp2_with fail
      refine (of_calls _ out _ (RL.of_R HO.out) HP.out.2.1 (by have := HP.out.1; omega)).mono ?_
      rintro e w1 ⟨v1, ys, rfl, o1, c1, n1, l1, b1⟩
      have F := Aside0.mk (show Num w w1 v1 (nv B64 a * nv B64 b) ∧ Below w.heap.size w w1 from
        ⟨⟨ys, Kd.R_mono (Kd.R_lower o1 HW.out.size) (fun b hb => Nat.le_trans HW.out.size hb), c1, by rw [n1, HP.out.done], by have := HP.out.1; omega⟩, HW.out.trans (b1.mono HW.out.size)⟩)
      clear o1 c1 n1 l1 b1
      go_wp2_with fail
      go_ret2
      exact ⟨v1, rfl, F.out⟩

theorem mul_long (va vb : Value) (a b : List Int) (w : World) (ha : RL .u64 w va a) (hb : RL .u64 w vb b) (la : a.length ≤ 1000) (lb : b.length ≤ 1000) (hl : 80 < a.length ∨ 80 < b.length) :
    Calls Try.prog 22 #[va, vb] w fun e w' => e = .returned (.tuple #[.slice none 0 0, .int .i64 11]) ∧ Below w.heap.size w w' := by
  obtain ⟨A, ca, rfl, hca, hCa⟩ := ha
  obtain ⟨A', cb, rfl, hcb, hCb⟩ := hb
  clear hCa hCb hca hcb
  have hlong : decide (80 < a.length ∨ 80 < b.length) = true := by simpa using hl
  clear hl
  go_enter Try.func22, Try.ntmps22
  go_wp2_with fail
  refine (long2_calls A A' a.length b.length ca cb w (by omega) (by omega)).mono ?_
  rintro e w1 ⟨rfl, rfl⟩
  go_wp2_with fail
  go_ret2
  exact ⟨rfl, below_alloc1 _ _⟩
end Go.Proofs.Ytokadjfakncdfaa
end

section
set_option linter.unusedVariables false
set_option linter.unusedSimpArgs false
namespace Go.Proofs.Ytokadjfakncdfaa
open Go.RowKit Go.Proofs.YtokadjfakncdfaaW.PrintWords Go.Proofs.YtokadjfakncdfaaW.PrintLast Go.Proofs.YtokadjfakncdfaaW.PrintMore
open PR

theorem B64_pow (n : Nat) : B64 ^ n = ((2 ^ (64 * n) : Nat) : Int) := by
  rw [Nat.pow_mul, Int.natCast_pow]; rfl
/-- The number of bits of a number in form, by its last word. -/
theorem bits_top {ys : List Int} (h : Canon B64 ys) (n r : Nat) (hn : n + 1 = ys.length) (hr : LenN (ys.getD n 0).toNat r) : LenN (nv B64 ys).toNat (r + 64 * n) := by
  have h1 := nv_take_succ B64 ys n
  rw [hn, List.take_length] at h1
  have h2 := nv_lt B64_pos (h.1.take n)
  have h3 := nv_nonneg B64_pos (h.1.take n)
  have h4 := h.1.getD B64_pos n
  rw [List.length_take, Nat.min_eq_left (by omega)] at h2
  have ht : ys.getD n 0 ≠ 0 := by
    intro e
    refine h.2 ?_
    rw [List.getLast?_eq_getElem?, ← show n = ys.length - 1 by omega]
    rw [List.getD_eq_getElem?_getD, List.getElem?_eq_getElem (by omega)] at e
    rw [List.getElem?_eq_getElem (by omega)]
    exact congrArg some e
  obtain ⟨lo, hlo⟩ := Int.eq_ofNat_of_zero_le h3
  obtain ⟨t, htt⟩ := Int.eq_ofNat_of_zero_le h4.1
  rw [hlo] at h1 h2
  rw [htt] at h1 hr ht
  rw [B64_pow] at h1 h2
  have e : (nv B64 ys).toNat = lo + 2 ^ (64 * n) * t := by
    rw [h1, ← Int.natCast_mul, ← Int.natCast_add]; rfl
  rw [e]
  have h5 : lo < 2 ^ (64 * n) := by omega
  have h6 : (lo + 2 ^ (64 * n) * t) / 2 ^ (64 * n) = t := by
    rw [Nat.add_mul_div_left _ _ (Nat.two_pow_pos _), Nat.div_eq_of_lt h5, Nat.zero_add]
  refine LenN.shift ?_ ?_
  · rw [h6]; exact hr
  · rw [h6]; omega

theorem bits_calls (va : Value) (a : List Int) (w : World) (ha : RL .u64 w va a) (da : Dig B64 a) (la : a.length ≤ 1000) :
    Calls Try.prog 30 #[va] w fun e w' => ∃ r : Nat, e = .returned (.int .i64 r) ∧ LenN (nv B64 a).toNat r ∧ r ≤ 64 * a.length ∧ Below w.heap.size w w' := by
  have HA := Aside0.mk ha
  have DA := Aside0.mk da
  clear ha da
  go_enter Try.func30, Try.ntmps30
  go_wp2_with fail
  refine (of_calls va a w HA.out DA.out (by omega)).mono ?_
  rintro e w1 ⟨v1, x, rfl, o1, c1, n1, l1, b1⟩
  have O1 := Aside0.mk o1
  have C1 := Aside0.mk c1
  have N1 := Aside0.mk n1
  have B1 := Aside0.mk b1
  clear c1 n1 b1 o1
  obtain ⟨A1, k1, rfl⟩ := Kd.R_slice O1.out
  by_cases h0 : x.length = 0
  · have hx : x = [] := List.eq_nil_of_length_eq_zero h0
    subst hx
    go_wp2_with fail
    go_ret
    exact ⟨0, rfl, by rw [← N1.out]; simp [nv, LenN], by omega, B1.out⟩
  · obtain ⟨n, hn⟩ : ∃ n, n + 1 = x.length := ⟨x.length - 1, by omega⟩
    obtain ⟨_, _, hC⟩ := Kd.R_reads' O1.out
    obtain ⟨ad, rfl, hcell⟩ := C_cell hC n (by omega)
    obtain ⟨y, hy⟩ : ∃ y, x.getD n 0 = y := ⟨_, rfl⟩
    rw [hy] at hcell
    have HY := Aside0.mk hy
    have HD := Aside0.mk (HY.out ▸ C1.out.1.getD B64_pos n)
    have HN := Aside0.mk hn
    have t0 : ((x.length : Int) == 0) = false := by rw [beq_eq_false_iff_ne]; omega
    have e2 : ((x.length : Int) - 1).toNat = n := by omega
    have b2 : (0 : Int) ≤ (x.length : Int) - 1 := by omega
    clear hy hC hn h0
    go_wp2_with fail
    refine (len64_calls y HD.out.1 HD.out.2 _).mono ?_
    rintro e w2 ⟨r, rfl, hr, hr64, rfl⟩
    have HR := Aside0.mk hr
    clear hr
    go_wp2_with fail
    go_ret
    refine ⟨r + 64 * n, ?_, ?_, by have := HN.out; omega, B1.out⟩
    · have := HN.out
      exact congrArg (fun z => Ending.returned (.int .i64 z)) (by omega)
    · rw [← N1.out]
      exact bits_top C1.out n r HN.out (by rw [HY.out]; exact HR.out)
end Go.Proofs.Ytokadjfakncdfaa
end

section
set_option linter.unusedVariables false
set_option linter.unusedSimpArgs false
namespace Go.Proofs.Ytokadjfakncdfaa
open Go.RowKit Go.Proofs.YtokadjfakncdfaaW.PrintWords Go.Proofs.YtokadjfakncdfaaW.PrintLast Go.Proofs.YtokadjfakncdfaaW.PrintMore
open PR

/-- The bit of worth 2^i. -/
def nbit (n : Int) (i : Nat) : Int := n / ((2 ^ i : Nat) : Int) % 2

/-- A bit of a number is that of its word. -/
theorem nbit_word {a : List Int} (da : Dig B64 a) (i : Nat) : nbit (nv B64 a) i = a.getD (i / 64) 0 / ((2 ^ (i % 64) : Nat) : Int) % 2 := by
  unfold nbit
  by_cases h : i / 64 < a.length
  · have h1 := nv_split B64 a (i / 64) (by omega)
    have h2 := nv_lt B64_pos (da.take (i / 64))
    have h3 := nv_nonneg B64_pos (da.take (i / 64))
    rw [List.length_take, Nat.min_eq_left (by omega)] at h2
    have e1 : a.drop (i / 64) = a.getD (i / 64) 0 :: a.drop (i / 64 + 1) := by
      rw [List.drop_eq_getElem_cons h, List.getD_eq_getElem?_getD, List.getElem?_eq_getElem h]; rfl
    rw [e1, nv_cons] at h1
    have h4 := da.getD B64_pos (i / 64)
    have h5 := nv_nonneg B64_pos (da.drop (i / 64 + 1))
    obtain ⟨t, ht⟩ := Int.eq_ofNat_of_zero_le h4.1
    obtain ⟨q, hq⟩ := Int.eq_ofNat_of_zero_le h5
    obtain ⟨lo, hlo⟩ := Int.eq_ofNat_of_zero_le h3
    rw [ht, hq, hlo] at h1
    rw [ht]
    rw [hlo, B64_pow] at h2
    rw [h1, B64_pow, B64_eq]
    have e2 : (lo : Int) + ((2 ^ (64 * (i / 64)) : Nat) : Int) * ((t : Int) + 18446744073709551616 * (q : Int)) = ((lo + 2 ^ (64 * (i / 64)) * (t + 18446744073709551616 * q) : Nat) : Int) := by
      simp [Int.natCast_add, Int.natCast_mul]
    rw [e2, ← Int.natCast_ediv, ← Int.natCast_ediv]
    have e3 : (2 : Nat) ^ i = 2 ^ (64 * (i / 64)) * 2 ^ (i % 64) := by rw [← Nat.pow_add]; congr 1; omega
    have hlo0 : lo / 2 ^ (64 * (i / 64)) = 0 := Nat.div_eq_of_lt (Int.ofNat_lt.1 h2)
    rw [e3, ← Nat.div_div_eq_div_mul, Nat.add_mul_div_left _ _ (Nat.two_pow_pos _), hlo0, Nat.zero_add]
    have e4 : (18446744073709551616 : Nat) = 2 ^ (i % 64) * (2 * 2 ^ (63 - i % 64)) := by
      rw [show (2 : Nat) * 2 ^ (63 - i % 64) = 2 ^ (64 - i % 64) by rw [← Nat.pow_succ']; congr 1; omega, ← Nat.pow_add, show i % 64 + (64 - i % 64) = 64 by omega]
    rw [e4, Nat.mul_assoc, Nat.add_mul_div_left _ _ (Nat.two_pow_pos _)]
    rw [Nat.mul_assoc 2]
    omega
  · have e : a.getD (i / 64) 0 = 0 := by rw [List.getD_eq_getElem?_getD, List.getElem?_eq_none (by omega)]; rfl
    rw [e]
    have h1 := nv_lt B64_pos da
    have h2 := nv_nonneg B64_pos da
    rw [B64_pow] at h1
    have h3 : (2 : Nat) ^ (64 * a.length) ≤ 2 ^ i := Nat.pow_le_pow_right (by omega) (by omega)
    rw [Int.ediv_eq_zero_of_lt h2 (by omega)]
    simp

theorem bit_calls (va : Value) (a : List Int) (i : Nat) (w : World) (ha : RL .u64 w va a) (da : Dig B64 a) (la : a.length ≤ 1000000) (hi : i ≤ 1000000000) :
    Calls Try.prog 33 #[va, .int .i64 i] w fun e w' => e = .returned (.int .u64 (nbit (nv B64 a) i)) ∧ w' = w := by
  obtain ⟨A, c, rfl, hc, hC⟩ := ha
  rw [nbit_word da]
  by_cases h : i / 64 < a.length
  · obtain ⟨ad, rfl, hcell⟩ := C_cell hC _ h
    obtain ⟨x, hx⟩ : ∃ x, a.getD (i / 64) 0 = x := ⟨_, rfl⟩
    rw [hx] at hcell ⊢
    have HX := Aside0.mk (hx ▸ da.getD B64_pos (i / 64))
    have HC := Aside0.mk hC
    clear hx da hC
    go_enter Try.func33, Try.ntmps33
    go_wp2_with fail
    go_ret
    refine ⟨?_, rfl⟩
    obtain ⟨X, rfl⟩ := Int.eq_ofNat_of_zero_le HX.out.1
    have h2 := HX.out.2
    rw [B64_eq] at h2
    have e : ((X : Int) / 2 ^ (i % 64)) = ((X / 2 ^ (i % 64) : Nat) : Int) := by
      rw [Int.natCast_ediv, Int.natCast_pow]; rfl
    have h3 : X / 2 ^ (i % 64) ≤ X := Nat.div_le_self _ _
    refine congrArg (fun z => Ending.returned (.int .u64 z)) ?_
    show bits .and .u64 ((X : Int) / 2 ^ (i % 64)) 1 = _
    rw [e, and_one_u64 _ (Int.natCast_nonneg _) (by have := Int.ofNat_le.2 h3; omega), ← Int.natCast_ediv]
  · have e : a.getD (i / 64) 0 = 0 := by rw [List.getD_eq_getElem?_getD, List.getElem?_eq_none (by omega)]; rfl
    rw [e]
    have HC := Aside0.mk hC
    clear e da hC
    have h' : (a.length : Int) ≤ (i : Int) / 64 := by omega
    go_enter Try.func33, Try.ntmps33
    go_wp2_with fail
    go_ret
    exact ⟨by simp, rfl⟩
/-- The bits of a number, the highest first, with their places: k of them. -/
def downs (n : Int) (r k : Nat) : List (Nat × Int) := (List.range k).map fun j => (r - 1 - j, nbit n (r - 1 - j))
theorem downs_succ (n : Int) (r k : Nat) : downs n r (k + 1) = downs n r k ++ [(r - 1 - k, nbit n (r - 1 - k))] := by simp [downs, List.range_succ]
theorem downs_length (n : Int) (r k : Nat) : (downs n r k).length = k := by simp [downs]

end Go.Proofs.Ytokadjfakncdfaa
end

section
set_option linter.unusedVariables false
set_option linter.unusedSimpArgs false
namespace Go.Proofs.Ytokadjfakncdfaa
open Go.RowKit Go.Proofs.YtokadjfakncdfaaW.PrintWords Go.Proofs.YtokadjfakncdfaaW.PrintLast Go.Proofs.YtokadjfakncdfaaW.PrintMore
open PR

theorem same_l0 (xs ys : List Int) (hl : xs.length = ys.length) (hn : xs.length ≤ 4611686018427387904) : ∀ (d k i : Nat), i + d = xs.length → d < k → (∀ p, p < i → xs.getD p 0 = ys.getD p 0) →
    marlinspikeref01_Same.l0 k xs ys (i : Int) = some (decide (xs = ys)) := by
  intro d
  induction d with
  | zero =>
    intro k i hi hk hp
    obtain ⟨k, rfl⟩ : ∃ m, k = m + 1 := ⟨k - 1, by omega⟩
    simp only [marlinspikeref01_Same.l0]
    rw [if_neg (by omega)]
    have : xs = ys := ext_getD hl fun p h => hp p (by omega)
    simp [this]
  | succ d ih =>
    intro k i hi hk hp
    obtain ⟨k, rfl⟩ : ∃ m, k = m + 1 := ⟨k - 1, by omega⟩
    simp only [marlinspikeref01_Same.l0]
    rw [if_pos (by omega), if_pos (by omega), if_pos (by omega)]
    unfold rd
    rw [Int.toNat_natCast]
    by_cases c : xs.getD i 0 = ys.getD i 0
    · rw [if_pos c, w64 (by omega) (by omega)]
      refine ih k (i + 1) (by omega) (by omega) fun p h => ?_
      by_cases e : p = i
      · rw [e, c]
      · exact hp p (by omega)
    · rw [if_neg c]
      have : xs ≠ ys := fun e => c (by rw [e])
      simp [this]
theorem same_f (xs ys : List Int) (hn : xs.length ≤ 4611686018427387904) : ∃ k, marlinspikeref01_Same.f k xs ys = some (decide (xs = ys)) := by
  refine ⟨xs.length + 1, ?_⟩
  unfold marlinspikeref01_Same.f
  by_cases h : xs.length = ys.length
  · rw [if_pos (by omega)]
    exact same_l0 xs ys h hn xs.length _ 0 (by omega) (by omega) (fun p h => by omega)
  · rw [if_neg (by omega)]
    have : xs ≠ ys := fun e => h (by rw [e])
    simp [this]
theorem same_calls (va vb : Value) (a b : List Int) (w : World) (ha : RL .u64 w va a) (hb : RL .u64 w vb b) (la : a.length ≤ 1000000) :
    Calls Try.prog 21 #[va, vb] w fun e w' => e = .returned (.bool (decide (a = b))) ∧ Below w.heap.size w w' := by
  obtain ⟨A, c, rfl, hc, hC⟩ := ha
  obtain ⟨A', c', rfl, hc', hC'⟩ := hb
  obtain ⟨k, hk⟩ := same_f a b (by omega)
  refine (marlinspikeref01_Same.calls k A c a A' c' b _ w hC hc hC' hc' hk).mono ?_
  rintro e w' ⟨rfl, hd⟩
  exact ⟨rfl, hd.below⟩
/-- Of two numbers: the lists, in form, are one just where the numbers are. -/
theorem same_num {w1 w2 : World} {va vb : Value} {a b : List Int} (ha : Canon B64 a) (hb : Canon B64 b) : decide (a = b) = decide (nv B64 a = nv B64 b) := by
  by_cases h : a = b
  · simp [h]
  · have : nv B64 a ≠ nv B64 b := fun e => h (canon_inj B64_pos ha hb e)
    simp [h, this]

theorem RL.lits {k : IntKind} {e : Nat} {W : World} {g : Nat} {xs : List Int} (h : W.heap[g]? = some (.cells (xs.map (Value.int k)).toArray e (0, 0))) (hl : xs.length ≤ 1000) : RL k W (.slice (some ⟨g, 0, none⟩) xs.length xs.length) xs := by
  refine ⟨some ⟨g, 0, none⟩, xs.length, rfl, Nat.le_refl _, rfl, by omega, fun _ => ⟨_, rfl, fun j p hj => ?_⟩⟩
  refine ⟨[.int k p], rfl, rfl, fun i u hu => ?_⟩
  have hi0 : i = 0 := by
    rcases Nat.eq_zero_or_pos i with h0 | h0
    · exact h0
    · rw [List.getElem?_eq_none (by simp; omega)] at hu; cases hu
  subst hi0
  have hu' : u = .int k p := by simpa using hu.symm
  subst hu'
  refine World.news_of_block h _ _ ?_
  simp [Kd.int, Kd.scalar, List.getElem?_map, hj]
end Go.Proofs.Ytokadjfakncdfaa
end
