/-
  Plain laws of numbers told by lists of digits: no program in sight.
-/
namespace Go.Proofs.Ytokadjfakncdfaa

/-- The number of a list of digits to base B, the lowest first. -/
def nv (B : Int) : List Int → Int
  | [] => 0
  | x :: xs => x + B * nv B xs

/-- Digits to base B. -/
def Dig (B : Int) (xs : List Int) : Prop := ∀ x ∈ xs, 0 ≤ x ∧ x < B

/-- The words' base; the digits' base; the bytes' base. -/
def B64 : Int := 18446744073709551616
def B16 : Int := 65536
def B8 : Int := 256
theorem B64_eq : B64 = 18446744073709551616 := rfl
theorem B64_pos : 0 < B64 := by decide
theorem B16_pos : 0 < B16 := by decide
theorem B8_pos : 0 < B8 := by decide

/-- In form: digits, and no nought at the end. -/
def Canon (B : Int) (xs : List Int) : Prop := Dig B xs ∧ xs.getLast? ≠ some 0

def cmpI (x y : Int) : Int := if x < y then -1 else if y < x then 1 else 0

theorem Dig.nil {B : Int} : Dig B [] := fun _ h => by simp at h
theorem Dig.cons {B x : Int} {xs : List Int} (hx : 0 ≤ x ∧ x < B) (h : Dig B xs) : Dig B (x :: xs) := by
  intro y hy
  rcases List.mem_cons.1 hy with rfl | hy
  · exact hx
  · exact h y hy
theorem Dig.head {B x : Int} {xs : List Int} (h : Dig B (x :: xs)) : 0 ≤ x ∧ x < B := h x List.mem_cons_self
theorem Dig.tail {B x : Int} {xs : List Int} (h : Dig B (x :: xs)) : Dig B xs := fun y hy => h y (List.mem_cons_of_mem _ hy)
theorem Dig.append {B : Int} {xs ys : List Int} (h : Dig B xs) (h' : Dig B ys) : Dig B (xs ++ ys) := by
  intro y hy
  rcases List.mem_append.1 hy with hy | hy
  · exact h y hy
  · exact h' y hy
theorem Dig.snoc {B x : Int} {xs : List Int} (h : Dig B xs) (hx : 0 ≤ x ∧ x < B) : Dig B (xs ++ [x]) := h.append (Dig.nil.cons hx)
theorem Dig.left {B : Int} {xs ys : List Int} (h : Dig B (xs ++ ys)) : Dig B xs := fun y hy => h y (List.mem_append_left _ hy)
theorem Dig.right {B : Int} {xs ys : List Int} (h : Dig B (xs ++ ys)) : Dig B ys := fun y hy => h y (List.mem_append_right _ hy)
theorem Dig.take {B : Int} {xs : List Int} (h : Dig B xs) (n : Nat) : Dig B (xs.take n) := fun y hy => h y (List.mem_of_mem_take hy)
theorem Dig.drop {B : Int} {xs : List Int} (h : Dig B xs) (n : Nat) : Dig B (xs.drop n) := fun y hy => h y (List.mem_of_mem_drop hy)
theorem Dig.reverse {B : Int} {xs : List Int} (h : Dig B xs) : Dig B xs.reverse := fun y hy => h y (List.mem_reverse.1 hy)
theorem Dig.set {B x : Int} {xs : List Int} (h : Dig B xs) (hx : 0 ≤ x ∧ x < B) (i : Nat) : Dig B (xs.set i x) := by
  intro y hy
  rcases List.mem_or_eq_of_mem_set hy with hy | rfl
  · exact h y hy
  · exact hx
theorem Dig.getD {B : Int} {xs : List Int} (h : Dig B xs) (hB : 0 < B) (i : Nat) : 0 ≤ xs.getD i 0 ∧ xs.getD i 0 < B := by
  rw [List.getD_eq_getElem?_getD]
  cases e : xs[i]? with
  | none => simp; exact hB
  | some y => simpa using h y (List.mem_of_getElem? e)
theorem Dig.replicate {B : Int} (hB : 0 < B) (n : Nat) : Dig B (List.replicate n 0) := by
  intro y hy
  have := List.eq_of_mem_replicate hy
  omega

theorem nv_nil (B : Int) : nv B [] = 0 := rfl
theorem nv_cons (B x : Int) (xs : List Int) : nv B (x :: xs) = x + B * nv B xs := rfl
theorem nv_append (B : Int) (xs ys : List Int) : nv B (xs ++ ys) = nv B xs + B ^ xs.length * nv B ys := by
  induction xs with
  | nil => simp [nv]
  | cons x xs ih =>
    simp only [List.cons_append, nv_cons, ih, List.length_cons, Int.pow_succ]
    grind
theorem nv_snoc (B : Int) (xs : List Int) (y : Int) : nv B (xs ++ [y]) = nv B xs + B ^ xs.length * y := by
  rw [nv_append]; simp [nv]
theorem nv_replicate (B : Int) (n : Nat) : nv B (List.replicate n 0) = 0 := by
  induction n with
  | zero => rfl
  | succ n ih => simp [List.replicate_succ, nv_cons, ih]
theorem nv_nonneg {B : Int} (hB : 0 < B) {xs : List Int} (h : Dig B xs) : 0 ≤ nv B xs := by
  induction xs with
  | nil => simp [nv]
  | cons x xs ih =>
    have h1 := h.head
    have h2 := Int.mul_nonneg (Int.le_of_lt hB) (ih h.tail)
    rw [nv_cons]; omega
theorem pow_pos' {B : Int} (hB : 0 < B) (n : Nat) : 0 < B ^ n := by
  induction n with
  | zero => simp
  | succ n ih => rw [Int.pow_succ]; exact Int.mul_pos ih hB
theorem nv_lt {B : Int} (hB : 0 < B) {xs : List Int} (h : Dig B xs) : nv B xs < B ^ xs.length := by
  induction xs with
  | nil => simp [nv]
  | cons x xs ih =>
    have h1 := h.head
    have h2 : nv B xs + 1 ≤ B ^ xs.length := ih h.tail
    have h3 := Int.mul_le_mul_of_nonneg_left h2 (Int.le_of_lt hB)
    rw [nv_cons, List.length_cons, Int.pow_succ, Int.mul_comm _ B]
    rw [Int.mul_add] at h3
    omega
theorem take_snoc' (xs : List Int) (i : Nat) (h : i < xs.length) : xs.take (i + 1) = xs.take i ++ [xs.getD i 0] := by
  rw [List.take_succ_eq_append_getElem h, List.getD_eq_getElem?_getD, List.getElem?_eq_getElem h]; rfl
theorem nv_take_succ (B : Int) (xs : List Int) (i : Nat) : nv B (xs.take (i + 1)) = nv B (xs.take i) + B ^ i * xs.getD i 0 := by
  by_cases h : i < xs.length
  · rw [take_snoc' xs i h, nv_snoc, List.length_take, Nat.min_eq_left (Nat.le_of_lt h)]
  · have e : xs.getD i 0 = 0 := by rw [List.getD_eq_getElem?_getD, List.getElem?_eq_none (by omega)]; rfl
    rw [e, List.take_of_length_le (by omega), List.take_of_length_le (by omega)]; simp
theorem nv_split (B : Int) (xs : List Int) (i : Nat) (h : i ≤ xs.length) : nv B xs = nv B (xs.take i) + B ^ i * nv B (xs.drop i) := by
  conv => lhs; rw [← List.take_append_drop i xs]
  rw [nv_append, List.length_take, Nat.min_eq_left h]
theorem nv_set (B : Int) (xs : List Int) (i : Nat) (y : Int) (h : i < xs.length) : nv B (xs.set i y) = nv B xs + B ^ i * (y - xs.getD i 0) := by
  induction xs generalizing i with
  | nil => simp at h
  | cons x xs ih =>
    cases i with
    | zero => simp [nv_cons]; omega
    | succ i =>
      have := ih i (by simpa using h)
      simp only [List.set_cons_succ, nv_cons, this, List.getD_cons_succ, Int.pow_succ]
      grind

/-- Less digits, all else alike: less. -/
theorem nv_lt_of_top {B : Int} (hB : 0 < B) {xs ys : List Int} {x y : Int} (hx : Dig B xs) (hy : Dig B ys) (hl : xs.length = ys.length) (h : x < y) :
    nv B (xs ++ [x]) < nv B (ys ++ [y]) := by
  rw [nv_snoc, nv_snoc, hl]
  have h1 := nv_lt hB hx
  have h2 := nv_nonneg hB hy
  rw [hl] at h1
  have h3 : B ^ ys.length * (x + 1) ≤ B ^ ys.length * y := Int.mul_le_mul_of_nonneg_left (by omega) (Int.le_of_lt (pow_pos' hB _))
  rw [Int.mul_add] at h3
  omega

theorem canon_nil {B : Int} : Canon B [] := ⟨Dig.nil, by simp⟩
theorem pow_le_pow' {B : Int} (hB : 0 < B) {m n : Nat} (h : m ≤ n) : B ^ m ≤ B ^ n := by
  obtain ⟨k, rfl⟩ := Nat.exists_eq_add_of_le h
  rw [Int.pow_add]
  have h1 := pow_pos' hB m
  have h2 : 1 ≤ B ^ k := pow_pos' hB k
  have := Int.mul_le_mul_of_nonneg_left h2 (Int.le_of_lt h1)
  rw [Int.mul_one] at this
  exact this
theorem canon_lower {B : Int} (hB : 0 < B) {xs : List Int} (h : Canon B xs) (hn : xs ≠ []) : B ^ (xs.length - 1) ≤ nv B xs := by
  obtain ⟨hd, hl⟩ := h
  have e := List.dropLast_concat_getLast hn
  have hd1 := hd
  rw [← e] at hd1
  have hx := hd1.right _ List.mem_cons_self
  have hne : xs.getLast hn ≠ 0 := fun h0 => hl (by rw [List.getLast?_eq_some_getLast hn, h0])
  have h1 : nv B xs = nv B xs.dropLast + B ^ (xs.length - 1) * xs.getLast hn := by
    conv => lhs; rw [← e]
    rw [nv_snoc, List.length_dropLast]
  have h2 := nv_nonneg hB hd1.left
  have h3 : B ^ (xs.length - 1) * 1 ≤ B ^ (xs.length - 1) * xs.getLast hn := Int.mul_le_mul_of_nonneg_left (by omega) (Int.le_of_lt (pow_pos' hB _))
  rw [Int.mul_one] at h3
  omega
theorem canon_len_lt {B : Int} (hB : 0 < B) {xs ys : List Int} (hx : Dig B xs) (hy : Canon B ys) (h : xs.length < ys.length) : nv B xs < nv B ys := by
  have h1 := nv_lt hB hx
  have h2 := canon_lower hB hy (by intro e; rw [e] at h; simp at h)
  have h3 := pow_le_pow' hB (m := xs.length) (n := ys.length - 1) (by omega)
  omega
theorem nv_inj {B : Int} (hB : 0 < B) {xs ys : List Int} (hx : Dig B xs) (hy : Dig B ys) (hl : xs.length = ys.length) (h : nv B xs = nv B ys) : xs = ys := by
  induction xs generalizing ys with
  | nil => cases ys with
    | nil => rfl
    | cons y ys => simp at hl
  | cons x xs ih =>
    cases ys with
    | nil => simp at hl
    | cons y ys =>
      rw [nv_cons, nv_cons] at h
      have h1 := hx.head
      have h2 := hy.head
      have h3 : x = y := by
        have e1 : (x + B * nv B xs) % B = x := by rw [Int.add_mul_emod_self_left]; exact Int.emod_eq_of_lt h1.1 h1.2
        have e2 : (y + B * nv B ys) % B = y := by rw [Int.add_mul_emod_self_left]; exact Int.emod_eq_of_lt h2.1 h2.2
        rw [← e1, h, e2]
      subst h3
      have h4 : B * nv B xs = B * nv B ys := by omega
      have h5 : nv B xs = nv B ys := Int.eq_of_mul_eq_mul_left (by omega) h4
      rw [ih hx.tail hy.tail (by simpa using hl) h5]
/-- A number has one form. -/
theorem canon_inj {B : Int} (hB : 0 < B) {xs ys : List Int} (hx : Canon B xs) (hy : Canon B ys) (h : nv B xs = nv B ys) : xs = ys := by
  rcases Nat.lt_trichotomy xs.length ys.length with hl | hl | hl
  · have := canon_len_lt hB hx.1 hy hl; omega
  · exact nv_inj hB hx.1 hy.1 hl h
  · have := canon_len_lt hB hy.1 hx hl; omega
theorem canon_nv_zero {B : Int} (hB : 0 < B) {xs : List Int} (h : Canon B xs) : nv B xs = 0 ↔ xs = [] := by
  constructor
  · intro e; exact canon_inj hB h canon_nil (by rw [e]; rfl)
  · rintro rfl; rfl
theorem canon_len {B : Int} (hB : 1 < B) {xs : List Int} (h : Canon B xs) {n : Nat} (hn : nv B xs < B ^ n) : xs.length ≤ n := by
  by_cases e : xs = []
  · rw [e]; simp
  · have h1 := canon_lower (by omega) h e
    by_cases hle : xs.length ≤ n
    · exact hle
    · have := pow_le_pow' (B := B) (by omega) (m := n) (n := xs.length - 1) (by omega)
      omega
/-- The last of a list with a nought at its end is told away. -/
theorem nv_dropLast {B : Int} {xs : List Int} (n : Nat) (hn : n + 1 = xs.length) (h : xs.getD n 0 = 0) : nv B (xs.take n) = nv B xs := by
  have h1 := nv_take_succ B xs n
  rw [hn, List.take_length, h] at h1
  simp at h1
  exact h1.symm
theorem canon_of_last {B : Int} {xs : List Int} (h : Dig B xs) (n : Nat) (hn : n + 1 = xs.length) (hl : xs.getD n 0 ≠ 0) : Canon B xs := by
  refine ⟨h, fun e => hl ?_⟩
  rw [List.getLast?_eq_getElem?] at e
  rw [List.getD_eq_getElem?_getD, show n = xs.length - 1 by omega, e]; rfl

/-! ### Comparing, the highest first -/
theorem cmpI_self (x : Int) : cmpI x x = 0 := by unfold cmpI; simp
theorem cmpI_lt {x y : Int} (h : x < y) : cmpI x y = -1 := by unfold cmpI; rw [if_pos h]
theorem cmpI_gt {x y : Int} (h : y < x) : cmpI x y = 1 := by unfold cmpI; rw [if_neg (by omega), if_pos h]
theorem cmpI_cases (x y : Int) : (x < y ∧ cmpI x y = -1) ∨ (x = y ∧ cmpI x y = 0) ∨ (y < x ∧ cmpI x y = 1) := by
  rcases Int.lt_trichotomy x y with h | h | h
  · exact .inl ⟨h, cmpI_lt h⟩
  · exact .inr (.inl ⟨h, by rw [h, cmpI_self]⟩)
  · exact .inr (.inr ⟨h, cmpI_gt h⟩)
/-- Of two lists of one length that agree from place n on, the digits at n tell, where they differ. -/
theorem cmpI_top {B : Int} (hB : 0 < B) {xs ys : List Int} (hx : Dig B xs) (hy : Dig B ys) (hl : xs.length = ys.length) (n : Nat) (hn : n < xs.length)
    (hd : xs.drop (n + 1) = ys.drop (n + 1)) (hne : xs.getD n 0 ≠ ys.getD n 0) : cmpI (nv B xs) (nv B ys) = cmpI (xs.getD n 0) (ys.getD n 0) := by
  have e1 := nv_split B xs (n + 1) (by omega)
  have e2 := nv_split B ys (n + 1) (by omega)
  rw [hd] at e1
  rw [take_snoc' xs n hn] at e1
  rw [take_snoc' ys n (by omega)] at e2
  have hlt : (xs.take n).length = (ys.take n).length := by simp [hl]
  rcases Int.lt_trichotomy (xs.getD n 0) (ys.getD n 0) with h | h | h
  · rw [cmpI_lt h, cmpI_lt]
    have := nv_lt_of_top hB (hx.take n) (hy.take n) hlt h
    omega
  · exact absurd h hne
  · rw [cmpI_gt h, cmpI_gt]
    have := nv_lt_of_top hB (hy.take n) (hx.take n) hlt.symm h
    omega

end Go.Proofs.Ytokadjfakncdfaa
