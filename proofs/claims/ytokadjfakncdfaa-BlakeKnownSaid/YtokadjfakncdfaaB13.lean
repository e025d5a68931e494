/- The words of a block, byte by byte. -/
import Derived.Test.YtokadjfakncdfaaB10
set_option linter.unusedVariables false
set_option linter.unusedSimpArgs false
namespace Go.Proofs.Ytokadjfakncdfaa
open Go.RowKit

/-- A byte, shifted by d bytes. -/
def shB (x : Int) (d : Nat) : Int := x % 4294967296 * 2 ^ (8 * d) % 4294967296
/-- The first n bytes of a word. -/
def wd (b : Nat → Int) (a : Nat) : Nat → Int
  | 0 => 0
  | n + 1 => bits .or .u32 (wd b a n) (shB (b (4 * a + n)) n)
/-- The sixteen words behind c bytes of block k. -/
def accW (all : List Int) (k : Nat) : Nat → List Int
  | 0 => List.replicate 16 0
  | c + 1 => (accW all k c).set (c / 4) (bits .or .u32 ((accW all k c).getD (c / 4) 0) (shB (all.getD (64 * k + c) 0) (c % 4)))
theorem accW_length (all : List Int) (k : Nat) : ∀ c, (accW all k c).length = 16
  | 0 => List.length_replicate ..
  | c + 1 => by rw [accW, List.length_set, accW_length all k c]
theorem or_range (a b : Int) : 0 ≤ bits .or .u32 a b ∧ bits .or .u32 a b < 4294967296 := by
  unfold bits
  simp only [IntKind.wrap_u32]
  omega
theorem or_zero (x : Int) (h : 0 ≤ x ∧ x < 4294967296) : bits .or .u32 x 0 = x := by
  have e : BitVec.ofInt IntKind.u32.bits (0 : Int) = 0 := rfl
  show IntKind.u32.wrap ((BitVec.ofInt IntKind.u32.bits x ||| BitVec.ofInt IntKind.u32.bits 0).toNat : Int) = x
  rw [e, show BitVec.ofInt IntKind.u32.bits x ||| 0 = BitVec.ofInt IntKind.u32.bits x from BitVec.or_zero, BitVec.toNat_ofInt, IntKind.wrap_u32]
  have : ((2 : Int) ^ IntKind.u32.bits) = 4294967296 := by decide
  have h2 : ((2 ^ IntKind.u32.bits : Nat) : Int) = 4294967296 := by decide
  rw [h2]
  omega
theorem wd_range (b : Nat → Int) (a : Nat) : ∀ n, 0 ≤ wd b a n ∧ wd b a n < 4294967296
  | 0 => by simp [wd]
  | n + 1 => or_range _ _
theorem wd_still (b : Nat → Int) (a n : Nat) : ∀ m, (∀ j, n ≤ j → j < n + m → b (4 * a + j) = 0) → wd b a (n + m) = wd b a n
  | 0, _ => rfl
  | m + 1, h => by
    have e : wd b a (n + (m + 1)) = bits .or .u32 (wd b a (n + m)) (shB (b (4 * a + (n + m))) (n + m)) := rfl
    rw [e, h (n + m) (by omega) (by omega), show shB 0 (n + m) = 0 by simp [shB], or_zero _ (wd_range b a _)]
    exact wd_still b a n m (fun j h1 h2 => h j h1 (by omega))
theorem wd_four (b : Nat → Int) (a : Nat) : wd b a 4 = word4 (b (4 * a)) (b (4 * a + 1)) (b (4 * a + 2)) (b (4 * a + 3)) := by
  have h0 : wd b a 1 = b (4 * a) % 4294967296 := by
    show bits .or .u32 0 (shB (b (4 * a)) 0) = _
    rw [or_comm, or_zero _ (by unfold shB; omega)]
    unfold shB
    omega
  show bits .or .u32 (bits .or .u32 (bits .or .u32 (wd b a 1) _) _) _ = _
  rw [h0]
  rfl
theorem getD_setw (l : List Int) (i j : Nat) (x : Int) (h : j < l.length) : (l.set i x).getD j 0 = if i = j then x else l.getD j 0 := by
  rw [List.getD_eq_getElem?_getD, List.getElem?_set]
  by_cases e : i = j
  · subst e
    simp [h]
  · rw [if_neg e, if_neg e, List.getD_eq_getElem?_getD]
theorem accW_get (all : List Int) (k a : Nat) (ha : a < 16) : ∀ c, c ≤ 64 → (accW all k c).getD a 0 = wd (fun j => all.getD (64 * k + j) 0) a (min 4 (c - 4 * a))
  | 0, _ => by
    rw [show min 4 (0 - 4 * a) = 0 by omega]
    rw [accW, List.getD_eq_getElem?_getD, List.getElem?_replicate, if_pos ha]
    rfl
  | c + 1, hc => by
    rw [accW, getD_setw _ _ _ _ (by rw [accW_length]; exact ha)]
    by_cases e : c / 4 = a
    · rw [if_pos e, e, accW_get all k a ha c (by omega), show min 4 (c + 1 - 4 * a) = min 4 (c - 4 * a) + 1 by omega]
      show _ = bits .or .u32 _ _
      rw [show min 4 (c - 4 * a) = c % 4 by omega, show 4 * a + c % 4 = c by omega]
    · rw [if_neg e, accW_get all k a ha c (by omega), show min 4 (c + 1 - 4 * a) = min 4 (c - 4 * a) by omega]
theorem accW_words (all : List Int) (k e : Nat) (he : e = takenAt all k - 64 * k) : accW all k e = words16 (blockAt all k) := by
  have he64 : e ≤ 64 := by rw [he]; unfold takenAt; omega
  refine List.ext_getElem (by rw [accW_length, words16_length]) fun a h1 h2 => ?_
  have ha : a < 16 := by rw [accW_length] at h1; exact h1
  have g1 := accW_get all k a ha e he64
  rw [List.getD_eq_getElem?_getD, List.getElem?_eq_getElem h1] at g1
  have g2 := words16_getD (blockAt all k) a ha
  rw [List.getD_eq_getElem?_getD, List.getElem?_eq_getElem h2] at g2
  have gb : ∀ j, j < 64 → (blockAt all k).getD j 0 = all.getD (64 * k + j) 0 := fun j hj => range_getD _ 64 j hj
  simp only [Option.getD_some] at g1 g2
  rw [g1, g2, gb _ (by omega), gb _ (by omega), gb _ (by omega), gb _ (by omega), ← wd_four (fun j => all.getD (64 * k + j) 0) a]
  have := wd_still (fun j => all.getD (64 * k + j) 0) a (min 4 (e - 4 * a)) (4 - min 4 (e - 4 * a)) (fun j h3 h4 => by
    have hl : all.length ≤ 64 * k + (4 * a + j) := by
      rw [he] at h3 h4
      unfold takenAt at h3 h4
      omega
    show all.getD (64 * k + (4 * a + j)) 0 = 0
    rw [List.getD_eq_getElem?_getD, List.getElem?_eq_none hl]
    rfl)
  rw [show min 4 (e - 4 * a) + (4 - min 4 (e - 4 * a)) = 4 by omega] at this
  exact this.symm
end Go.Proofs.Ytokadjfakncdfaa
