/- BLAKE2s, told plainly: lists of words, as numbers. -/
import Derived.Test.YtokadjfakncdfaaPRx0
set_option linter.unusedVariables false
set_option linter.unusedSimpArgs false
namespace Go.Proofs.Ytokadjfakncdfaa
open Go.RowKit

/-- The sum of two words. -/
def ad (a b : Int) : Int := (a + b) % 4294967296
/-- One or the other bit. -/
def xo (a b : Int) : Int := bits .xor .u32 a b
/-- Turned right, by n. -/
def rr (n : Nat) (x : Int) : Int := bits .or .u32 (x * 2 ^ (32 - n) % 4294967296) (x / 2 ^ n)
/-- The three kinds of step of a half mixing. -/
def q1 (v : List Int) (a b : Nat) (x : Int) : List Int := v.set a (ad (v.getD a 0) (ad (v.getD b 0) x))
def q2 (v : List Int) (a d : Nat) (r : Nat) : List Int := v.set d (rr r (xo (v.getD d 0) (v.getD a 0)))
def q3 (v : List Int) (c d : Nat) : List Int := v.set c (ad (v.getD c 0) (v.getD d 0))
def half (v : List Int) (a b c d : Nat) (x : Int) (r1 r2 : Nat) : List Int := q2 (q3 (q2 (q1 v a b x) a d r1) c d) c b r2
theorem q1_length (v : List Int) (a b : Nat) (x : Int) : (q1 v a b x).length = v.length := List.length_set ..
theorem q2_length (v : List Int) (a d : Nat) (r : Nat) : (q2 v a d r).length = v.length := List.length_set ..
theorem q3_length (v : List Int) (c d : Nat) : (q3 v c d).length = v.length := List.length_set ..
theorem half_length (v : List Int) (a b c d : Nat) (x : Int) (r1 r2 : Nat) : (half v a b c d x r1 r2).length = v.length := by
  unfold half; rw [q2_length, q3_length, q2_length, q1_length]

/-- The eight words at the start. -/
def blkStart : List Int := [1779033703, 3144134277, 1013904242, 2773480762, 1359893119, 2600822924, 528734635, 1541459225]
/-- The ten orders. -/
def blkOrd : List (List Nat) := [
  [0, 1, 2, 3, 4, 5, 6, 7, 8, 9, 10, 11, 12, 13, 14, 15],
  [14, 10, 4, 8, 9, 15, 13, 6, 1, 12, 0, 2, 11, 7, 5, 3],
  [11, 8, 12, 0, 5, 2, 15, 13, 10, 14, 3, 6, 7, 1, 9, 4],
  [7, 9, 3, 1, 13, 12, 11, 14, 2, 6, 5, 10, 4, 0, 15, 8],
  [9, 0, 5, 7, 2, 4, 10, 15, 14, 1, 11, 12, 6, 8, 3, 13],
  [2, 12, 6, 10, 0, 11, 8, 3, 4, 13, 7, 5, 15, 14, 1, 9],
  [12, 5, 1, 15, 14, 13, 4, 10, 0, 7, 6, 3, 9, 2, 8, 11],
  [13, 11, 7, 14, 12, 1, 3, 9, 5, 0, 15, 4, 8, 6, 2, 10],
  [6, 15, 14, 9, 11, 3, 0, 8, 12, 2, 13, 7, 1, 4, 10, 5],
  [10, 2, 8, 4, 7, 6, 1, 5, 15, 11, 9, 14, 3, 12, 13, 0]]
/-- Which words are mixed, one behind the other. -/
def blkLane : List (List Nat) := [[0, 4, 8, 12], [1, 5, 9, 13], [2, 6, 10, 14], [3, 7, 11, 15], [0, 5, 10, 15], [1, 6, 11, 12], [2, 7, 8, 13], [3, 4, 9, 14]]
def ordAt (r i : Nat) : Nat := (blkOrd.getD r []).getD i 0
def laneAt (i j : Nat) : Nat := (blkLane.getD i []).getD j 0
/-- The mixing of one lane. -/
def lane (m : List Int) (r : Nat) (v : List Int) (i : Nat) : List Int :=
  half (half v (laneAt i 0) (laneAt i 1) (laneAt i 2) (laneAt i 3) (m.getD (ordAt r (2 * i)) 0) 16 12) (laneAt i 0) (laneAt i 1) (laneAt i 2) (laneAt i 3) (m.getD (ordAt r (2 * i + 1)) 0) 8 7
/-- So many lanes of a round. -/
def lanes (m : List Int) (r : Nat) (v : List Int) : Nat → List Int
  | 0 => v
  | i + 1 => lane m r (lanes m r v i) i
/-- So many rounds. -/
def rounds_ (m : List Int) (v : List Int) : Nat → List Int
  | 0 => v
  | r + 1 => lanes m r (rounds_ m v r) 8
theorem lane_length (m : List Int) (r : Nat) (v : List Int) (i : Nat) : (lane m r v i).length = v.length := by
  unfold lane; rw [half_length, half_length]
theorem lanes_length (m : List Int) (r : Nat) (v : List Int) (i : Nat) : (lanes m r v i).length = v.length := by
  induction i with
  | zero => rfl
  | succ i ih => unfold lanes; rw [lane_length, ih]
theorem rounds_length (m : List Int) (v : List Int) (r : Nat) : (rounds_ m v r).length = v.length := by
  induction r with
  | zero => rfl
  | succ i ih => unfold rounds_; rw [lanes_length, ih]
theorem ordAt_lt (r i : Nat) (hr : r < 10) (hi : i < 16) : ordAt r i < 16 := by
  have h : ∀ r, r < 10 → ∀ i, i < 16 → ordAt r i < 16 := by decide
  exact h r hr i hi
theorem laneAt_lt (i j : Nat) (hi : i < 8) (hj : j < 4) : laneAt i j < 16 := by
  have h : ∀ i, i < 8 → ∀ j, j < 4 → laneAt i j < 16 := by decide
  exact h i hi j hj
/-- The sixteen words that a block's mixing starts from. -/
def seed (h : List Int) (t : Int) (last : Bool) : List Int :=
  let v0 := h ++ blkStart
  let v1 := v0.set 12 (xo (v0.getD 12 0) (t % 4294967296))
  let v2 := v1.set 13 (xo (v1.getD 13 0) (t / 4294967296 % 4294967296))
  if last then v2.set 14 ((4294967295 - v2.getD 14 0) % 4294967296) else v2
/-- A block is taken. -/
def takeB (h m : List Int) (t : Int) (last : Bool) : List Int :=
  let v := rounds_ m (seed h t last) 10
  (List.range 8).map fun i => xo (h.getD i 0) (xo (v.getD i 0) (v.getD (i + 8) 0))
/-- A word of four bytes. -/
def word4 (a b c d : Int) : Int := bits .or .u32 (bits .or .u32 (bits .or .u32 (a % 4294967296) (b % 4294967296 * 256 % 4294967296)) (c % 4294967296 * 65536 % 4294967296)) (d % 4294967296 * 16777216 % 4294967296)
/-- The sixteen words of 64 bytes. -/
def words16 (b : List Int) : List Int := (List.range 16).map fun i => word4 (b.getD (4 * i) 0) (b.getD (4 * i + 1) 0) (b.getD (4 * i + 2) 0) (b.getD (4 * i + 3) 0)
/-- The k-th block of bytes, filled up with noughts. -/
def blockAt (all : List Int) (k : Nat) : List Int := (List.range 64).map fun i => all.getD (64 * k + i) 0
/-- How many bytes have been taken behind block k. -/
def takenAt (all : List Int) (k : Nat) : Nat := min (64 * k + 64) all.length
/-- How many blocks. -/
def blockN (all : List Int) : Nat := if all.length = 0 then 1 else (all.length + 63) / 64
def start0 : List Int := blkStart.set 0 (xo 1779033703 16842784)
/-- The state behind so many blocks. -/
def stateAt (all : List Int) : Nat → List Int
  | 0 => start0
  | k + 1 => takeB (stateAt all k) (words16 (blockAt all k)) (takenAt all k) (decide (takenAt all k = all.length))
/-- The bytes of the words. -/
def outB (h : List Int) : List Int := (List.range 32).map fun i => h.getD (i / 4) 0 / 2 ^ (8 * (i % 4)) % 256
/-- The sum of bytes. -/
def sumB (all : List Int) : List Int := outB (stateAt all (blockN all))
end Go.Proofs.Ytokadjfakncdfaa
