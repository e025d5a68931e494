/- blake: RotateLeft32, word, start, and the half mixing. -/
import Derived.Test.YtokadjfakncdfaaB1
import Derived.StillTailTactics
import Derived.Outline
set_option linter.unusedVariables false
set_option linter.unusedSimpArgs false
namespace Go.Proofs.Ytokadjfakncdfaa
open Go.RowKit Go.Proofs.YtokadjfakncdfaaW.PrintWords Go.Proofs.YtokadjfakncdfaaW.PrintLast Go.Proofs.YtokadjfakncdfaaW.PrintMore

/-- Words as a block's cells. -/
def w32 (v : List Int) : Array Value := (v.map (Value.int .u32)).toArray
theorem w32_set (v : List Int) (i : Nat) (x : Int) : (w32 v).setIfInBounds i (.int .u32 x) = w32 (v.set i x) := by
  simp [w32, List.map_set]
theorem w32_get (v : List Int) (i : Nat) (h : i < v.length) : (w32 v)[i]? = some (.int .u32 (v.getD i 0)) := by
  simp [w32, List.getD_eq_getElem?_getD, h]
theorem w32_cell {W : World} {B e : Nat} {v : List Int} (h : W.heap[B]? = some (.cells (w32 v) e (0, 0))) (i : Nat) (hi : i < v.length) : W.cell? ⟨B, i, none⟩ = some (.int .u32 (v.getD i 0)) :=
  (blk_cell h i).trans (w32_get v i hi)

set_option maxRecDepth 100000 in
theorem rot_calls (x : Int) (n : Nat) (hn : n = 16 ∨ n = 12 ∨ n = 8 ∨ n = 7) (w : World) :
    Calls Try.prog 99 #[.int .u32 x, .int .i64 (-(n : Int))] w fun e w' => e = .returned (.int .u32 (rr n x)) ∧ w' = w := by
  rcases hn with rfl | rfl | rfl | rfl
  · have e1 : bits .and .u64 (IntKind.u64.wrap (-16)) 31 = 16 := by decide
    go_enter Try.func99, Try.ntmps99
    go_wp2_with fail
    go_ret
    exact ⟨rfl, rfl⟩
  · have e1 : bits .and .u64 (IntKind.u64.wrap (-12)) 31 = 20 := by decide
    go_enter Try.func99, Try.ntmps99
    go_wp2_with fail
    go_ret
    exact ⟨rfl, rfl⟩
  · have e1 : bits .and .u64 (IntKind.u64.wrap (-8)) 31 = 24 := by decide
    go_enter Try.func99, Try.ntmps99
    go_wp2_with fail
    go_ret
    exact ⟨rfl, rfl⟩
  · have e1 : bits .and .u64 (IntKind.u64.wrap (-7)) 31 = 25 := by decide
    go_enter Try.func99, Try.ntmps99
    go_wp2_with fail
    go_ret
    exact ⟨rfl, rfl⟩

set_option maxRecDepth 100000 in
theorem start_calls (w : World) :
    Calls Try.prog 53 #[] w fun e w' => e = .returned (.agg (w32 blkStart)) ∧ w' = w.alloc (.cells (w32 blkStart) 76) := by
  go_enter Try.func53, Try.ntmps53
  go_wp2_with fail
  refine bodyPost_ret (v := .agg (w32 blkStart)) (by simp [results, Try.results53, go_sem]; rfl) rfl ⟨rfl, rfl⟩

set_option maxRecDepth 100000 in
theorem word_calls (a0 a1 a2 a3 : Int) (g o n c : Nat) (hn : 4 ≤ n) (w : World) (h0 : w.cell? ⟨g, o, none⟩ = some (.int .u8 a0)) (h1 : w.cell? ⟨g, o + 1, none⟩ = some (.int .u8 a1)) (h2 : w.cell? ⟨g, o + 2, none⟩ = some (.int .u8 a2)) (h3 : w.cell? ⟨g, o + 3, none⟩ = some (.int .u8 a3)) :
    Calls Try.prog 97 #[.slice (some ⟨g, o, none⟩) n c] w fun e w' => e = .returned (.int .u32 (word4 a0 a1 a2 a3)) ∧ ∃ k, w' = w.drewN k := by
  have i0 : (0 : Int) < n := by omega
  have i1 : (1 : Int) < n := by omega
  have i2 : (2 : Int) < n := by omega
  have i3 : (3 : Int) < n := by omega
  go_enter Try.func97, Try.ntmps97
  go_wp2_with fail
  go_quiet (fail)
  go_wp2_with fail
  go_ret
  exact ⟨rfl, _, rfl⟩

/-- Where the half mixing stands: its own copy of the lane, the sixteen words, and nothing else turned. -/
structure HS (w W : World) (B g : Nat) (box : Array Value) (v : List Int) : Prop where
  X : W.heap[g]? = some (.cells box 130 (0, 0))
  V : W.heap[B]? = some (.cells (w32 v) 128 (0, 0))
  G : w.grownBy W (some B)
theorem HS.drew {w W : World} {B g : Nat} {box : Array Value} {v : List Int} (h : HS w W B g box v) : HS w W.drew B g box v := ⟨h.X, h.V, ⟨h.G.os, h.G.tape, h.G.output, h.G.size, h.G.block⟩⟩
theorem HS.ne {w W : World} {B g : Nat} {box : Array Value} {v : List Int} (h : HS w W B g box v) : g ≠ B := blk_ne h.X h.V (by decide)
theorem HS.set {w W : World} {B g : Nat} {box : Array Value} {v : List Int} (h : HS w W B g box v) (i : Nat) (x : Int) : HS w (W.setCell ⟨B, i, none⟩ (.int .u32 x)) B g box (v.set i x) := by
  refine ⟨blk_far h.X h.ne _, ?_, h.G.trans ?_⟩
  · rw [← w32_set]
    exact blk_set h.V i _
  · exact ⟨rfl, rfl, rfl, by simp, fun j hj hne => Below.heap_setCell W _ _ j (fun e => hne (by rw [e]))⟩

set_option maxRecDepth 100000 in
theorem half_calls (a b c d : Nat) (ha : a < 16) (hb : b < 16) (hc : c < 16) (hd : d < 16) (x : Int) (r1 r2 : Nat) (hr : (r1 = 16 ∧ r2 = 12) ∨ (r1 = 8 ∧ r2 = 7)) (v : List Int) (hv : v.length = 16) (B : Nat) (w : World) (hB : w.heap[B]? = some (.cells (w32 v) 128 (0, 0))) :
    Calls Try.prog 98 #[.agg #[.int .u8 a, .int .u8 b, .int .u8 c, .int .u8 d], .int .u32 x, .int .i64 r1, .int .i64 r2, .pointer (some ⟨B, 0, none⟩)] w fun e w' => e = .returned (.tuple #[]) ∧ w'.heap[B]? = some (.cells (w32 (half v a b c d x r1 r2)) 128 (0, 0)) ∧ w.grownBy w' (some B) := by
  have ia : (a : Int) < 16 := by omega
  have ib : (b : Int) < 16 := by omega
  have ic : (c : Int) < 16 := by omega
  have id : (d : Int) < 16 := by omega
  have n1 : IntKind.i64.wrap (-(r1 : Int)) = -(r1 : Int) := by rcases hr with ⟨rfl, rfl⟩ | ⟨rfl, rfl⟩ <;> rfl
  have n2 : IntKind.i64.wrap (-(r2 : Int)) = -(r2 : Int) := by rcases hr with ⟨rfl, rfl⟩ | ⟨rfl, rfl⟩ <;> rfl
  have HR := Aside0.mk hr
  have HB := Aside0.mk hB
  have HV := Aside0.mk hv
  clear hr hB hv
  go_enter Try.func98, Try.ntmps98
  go_wp2_with fail
  obtain ⟨W0, hW0⟩ : ∃ W0, w.alloc (.cells #[.int .u8 a, .int .u8 b, .int .u8 c, .int .u8 d] 130) = W0 := ⟨_, rfl⟩
  obtain ⟨g, hg⟩ : ∃ g, w.heap.size = g := ⟨_, rfl⟩
  rw [hW0, hg]
  have S0 : HS w W0 B g #[.int .u8 a, .int .u8 b, .int .u8 c, .int .u8 d] v := ⟨by rw [← hW0, ← hg]; exact heap_alloc_new w _, by rw [← hW0]; exact (Below.heap_alloc w _ B (blk_lt HB.out)).trans HB.out, by rw [← hW0]; exact World.grownBy_alloc w _ _⟩
  clear hW0 hg HB
  have S := Aside0.mk S0
  -- the first line
  have x0 : W0.cell? ⟨g, 0, none⟩ = some (.int .u8 a) := blk_cell S0.X 0
  have x1 : W0.cell? ⟨g, 1, none⟩ = some (.int .u8 b) := blk_cell S0.X 1
  have ca := w32_cell S0.V a (by rw [HV.out]; exact ha)
  have cb := w32_cell S0.V b (by rw [HV.out]; exact hb)
  obtain ⟨ya, hya⟩ : ∃ y, v.getD a 0 = y := ⟨_, rfl⟩
  obtain ⟨yb, hyb⟩ : ∃ y, v.getD b 0 = y := ⟨_, rfl⟩
  rw [hya] at ca
  rw [hyb] at cb
  obtain ⟨z, hz⟩ : ∃ z, IntKind.u32.wrap (ya + IntKind.u32.wrap (yb + x)) = z := ⟨_, rfl⟩
  obtain ⟨v1, hv1⟩ : ∃ v1, q1 v a b x = v1 := ⟨_, rfl⟩
  have e1 : v.set a z = v1 := by rw [← hv1, ← hz, IntKind.wrap_u32, IntKind.wrap_u32, ← hya, ← hyb]; rfl
  have l1 : v1.length = 16 := by rw [← hv1, q1_length, HV.out]
  have E1 := Aside0.mk (And.intro e1 (And.intro l1 hv1))
  clear S0 hya hyb e1 l1 hv1
  go_still_tail 12, (by kernel_rfl)
  change wpList _ _ _ _ _ W0.drew
  obtain ⟨W1, hW1⟩ : ∃ W1, W0.drew = W1 := ⟨_, rfl⟩
  rw [hW1]
  have S1 : HS w W1 B g #[.int .u8 a, .int .u8 b, .int .u8 c, .int .u8 d] v := hW1 ▸ S.out.drew
  have c1 := w32_cell S1.V a (by rw [HV.out]; exact ha)
  have f1 := blk_frozen S1.V a
  have T1 := Aside0.mk S1
  clear hW1 S x0 x1 ca cb S1 hz
  go_wp2_with fail
  obtain ⟨W2, hW2⟩ : ∃ W2, W1.setCell ⟨B, a, none⟩ (.int .u32 z) = W2 := ⟨_, rfl⟩
  rw [hW2]
  have S2 : HS w W2 B g #[.int .u8 a, .int .u8 b, .int .u8 c, .int .u8 d] v1 := hW2 ▸ E1.out.1 ▸ T1.out.set a z
  have U2 := Aside0.mk S2
  clear hW2 c1 f1 T1
  -- the second line
  have x3 : W2.cell? ⟨g, 3, none⟩ = some (.int .u8 d) := blk_cell S2.X 3
  have x0 : W2.cell? ⟨g, 0, none⟩ = some (.int .u8 a) := blk_cell S2.X 0
  have cd := w32_cell S2.V d (by rw [E1.out.2.1]; exact hd)
  have ca := w32_cell S2.V a (by rw [E1.out.2.1]; exact ha)
  obtain ⟨yd, hyd⟩ : ∃ y, v1.getD d 0 = y := ⟨_, rfl⟩
  obtain ⟨ya, hya⟩ : ∃ y, v1.getD a 0 = y := ⟨_, rfl⟩
  rw [hyd] at cd
  rw [hya] at ca
  obtain ⟨z, hz⟩ : ∃ z, bits .xor .u32 yd ya = z := ⟨_, rfl⟩
  obtain ⟨v2, hv2⟩ : ∃ v2, q2 v1 a d r1 = v2 := ⟨_, rfl⟩
  have e2 : v1.set d (rr r1 z) = v2 := by rw [← hv2, ← hz, ← hya, ← hyd]; rfl
  have l2 : v2.length = 16 := by rw [← hv2, q2_length, E1.out.2.1]
  have E2 := Aside0.mk (And.intro e2 (And.intro l2 hv2))
  clear S2 hya hyd e2 l2 hv2
  go_still_tail 15, (by kernel_rfl)
  still_call (rot_calls z r1 (by have := HR.out; omega) _)
  repeat still_step
  refine wpStill_nil ?_
  change wpList _ _ _ _ _ W2.drew
  obtain ⟨W3, hW3⟩ : ∃ W3, W2.drew = W3 := ⟨_, rfl⟩
  rw [hW3]
  have SW3 : HS w W3 B g #[.int .u8 a, .int .u8 b, .int .u8 c, .int .u8 d] v1 := hW3 ▸ U2.out.drew
  have c1 := w32_cell SW3.V d (by rw [E1.out.2.1]; exact hd)
  have f1 := blk_frozen SW3.V d
  have T1 := Aside0.mk SW3
  clear hW3 U2 x3 x0 cd ca SW3 hz
  go_wp2_with fail
  obtain ⟨W4, hW4⟩ : ∃ W4, W3.setCell ⟨B, d, none⟩ (.int .u32 (rr r1 z)) = W4 := ⟨_, rfl⟩
  rw [hW4]
  have SW4 : HS w W4 B g #[.int .u8 a, .int .u8 b, .int .u8 c, .int .u8 d] v2 := hW4 ▸ E2.out.1 ▸ T1.out.set d (rr r1 z)
  have UW4 := Aside0.mk SW4
  clear hW4 c1 f1 T1
  -- the third line
  have x2 : W4.cell? ⟨g, 2, none⟩ = some (.int .u8 c) := blk_cell SW4.X 2
  have x3 : W4.cell? ⟨g, 3, none⟩ = some (.int .u8 d) := blk_cell SW4.X 3
  have cc := w32_cell SW4.V c (by rw [E2.out.2.1]; exact hc)
  have cd := w32_cell SW4.V d (by rw [E2.out.2.1]; exact hd)
  obtain ⟨yc, hyc⟩ : ∃ y, v2.getD c 0 = y := ⟨_, rfl⟩
  obtain ⟨yd, hyd⟩ : ∃ y, v2.getD d 0 = y := ⟨_, rfl⟩
  rw [hyc] at cc
  rw [hyd] at cd
  obtain ⟨z, hz⟩ : ∃ z, IntKind.u32.wrap (yc + yd) = z := ⟨_, rfl⟩
  obtain ⟨v3, hv3⟩ : ∃ v3, q3 v2 c d = v3 := ⟨_, rfl⟩
  have e3 : v2.set c z = v3 := by rw [← hv3, ← hz, IntKind.wrap_u32, ← hyc, ← hyd]; rfl
  have l3 : v3.length = 16 := by rw [← hv3, q3_length, E2.out.2.1]
  have E3 := Aside0.mk (And.intro e3 (And.intro l3 hv3))
  clear SW4 hyc hyd e3 l3 hv3
  go_still_tail 10, (by kernel_rfl)
  change wpList _ _ _ _ _ W4.drew
  obtain ⟨W5, hW5⟩ : ∃ W5, W4.drew = W5 := ⟨_, rfl⟩
  rw [hW5]
  have SW5 : HS w W5 B g #[.int .u8 a, .int .u8 b, .int .u8 c, .int .u8 d] v2 := hW5 ▸ UW4.out.drew
  have c1 := w32_cell SW5.V c (by rw [E2.out.2.1]; exact hc)
  have f1 := blk_frozen SW5.V c
  have T1 := Aside0.mk SW5
  clear hW5 UW4 x2 x3 cc cd SW5 hz
  go_wp2_with fail
  obtain ⟨W6, hW6⟩ : ∃ W6, W5.setCell ⟨B, c, none⟩ (.int .u32 z) = W6 := ⟨_, rfl⟩
  rw [hW6]
  have SW6 : HS w W6 B g #[.int .u8 a, .int .u8 b, .int .u8 c, .int .u8 d] v3 := hW6 ▸ E3.out.1 ▸ T1.out.set c z
  have UW6 := Aside0.mk SW6
  clear hW6 c1 f1 T1
  -- the fourth line
  have x1 : W6.cell? ⟨g, 1, none⟩ = some (.int .u8 b) := blk_cell SW6.X 1
  have x2 : W6.cell? ⟨g, 2, none⟩ = some (.int .u8 c) := blk_cell SW6.X 2
  have cb := w32_cell SW6.V b (by rw [E3.out.2.1]; exact hb)
  have cc := w32_cell SW6.V c (by rw [E3.out.2.1]; exact hc)
  obtain ⟨yb, hyb⟩ : ∃ y, v3.getD b 0 = y := ⟨_, rfl⟩
  obtain ⟨yc, hyc⟩ : ∃ y, v3.getD c 0 = y := ⟨_, rfl⟩
  rw [hyb] at cb
  rw [hyc] at cc
  obtain ⟨z, hz⟩ : ∃ z, bits .xor .u32 yb yc = z := ⟨_, rfl⟩
  obtain ⟨v4, hv4⟩ : ∃ v4, q2 v3 c b r2 = v4 := ⟨_, rfl⟩
  have e4 : v3.set b (rr r2 z) = v4 := by rw [← hv4, ← hz, ← hyb, ← hyc]; rfl
  have l4 : v4.length = 16 := by rw [← hv4, q2_length, E3.out.2.1]
  have E4 := Aside0.mk (And.intro e4 (And.intro l4 hv4))
  clear SW6 hyb hyc e4 l4 hv4
  go_still_tail 15, (by kernel_rfl)
  still_call (rot_calls z r2 (by have := HR.out; omega) _)
  repeat still_step
  refine wpStill_nil ?_
  change wpList _ _ _ _ _ W6.drew
  obtain ⟨W7, hW7⟩ : ∃ W7, W6.drew = W7 := ⟨_, rfl⟩
  rw [hW7]
  have SW7 : HS w W7 B g #[.int .u8 a, .int .u8 b, .int .u8 c, .int .u8 d] v3 := hW7 ▸ UW6.out.drew
  have c1 := w32_cell SW7.V b (by rw [E3.out.2.1]; exact hb)
  have f1 := blk_frozen SW7.V b
  have T1 := Aside0.mk SW7
  clear hW7 UW6 x1 x2 cb cc SW7 hz
  go_wp2_with fail
  obtain ⟨W8, hW8⟩ : ∃ W8, W7.setCell ⟨B, b, none⟩ (.int .u32 (rr r2 z)) = W8 := ⟨_, rfl⟩
  rw [hW8]
  have SW8 : HS w W8 B g #[.int .u8 a, .int .u8 b, .int .u8 c, .int .u8 d] v4 := hW8 ▸ E4.out.1 ▸ T1.out.set b (rr r2 z)
  have UW8 := Aside0.mk SW8
  clear hW8 c1 f1 T1
  go_wp2_with fail
  go_end0
  refine ⟨rfl, ?_, UW8.out.G⟩
  have h : half v a b c d x r1 r2 = v4 := by
    unfold half
    rw [E1.out.2.2, E2.out.2.2, E3.out.2.2, E4.out.2.2]
  rw [h]
  exact UW8.out.V
end Go.Proofs.Ytokadjfakncdfaa
