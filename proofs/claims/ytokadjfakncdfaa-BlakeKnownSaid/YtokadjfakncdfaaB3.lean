/- blake: lanes and orders, and how they are read; where the taking of a block stands. -/
import Derived.Test.YtokadjfakncdfaaB2
import Derived.Deep.Cut
import Derived.Laws.CopyOwn
set_option linter.unusedVariables false
set_option linter.unusedSimpArgs false
namespace Go.Proofs.Ytokadjfakncdfaa
open Go.RowKit Go.Proofs.YtokadjfakncdfaaW.PrintWords Go.Proofs.YtokadjfakncdfaaW.PrintLast Go.Proofs.YtokadjfakncdfaaW.PrintMore

theorem wpList_built {P : Program} {ops : Array Oper} {rest : List Oper} {o : Oper} {a : Act} {w : World} {Q : Exit → Act → World → Prop} (hg : o.guard = none) (t : TypeId) (parts : Array (Nat × Operand)) (ho : o.op = .build t parts) (cells : Array Value)
    (hf : P.built t (parts.map fun (i, x) => (i, a.eval x)).toList = some cells)
    (h : wpList P ops Q rest (a.put o.dst (.agg cells)) w) : wpList P ops Q (o :: rest) a w :=
  wpList_build hg t parts ho (by rw [hf]; rfl) (by rw [hf]; exact h)
def lanesC : Array Value := #[.int .u8 0, .int .u8 4, .int .u8 8, .int .u8 12, .int .u8 1, .int .u8 5, .int .u8 9, .int .u8 13, .int .u8 2, .int .u8 6, .int .u8 10, .int .u8 14, .int .u8 3, .int .u8 7, .int .u8 11, .int .u8 15, .int .u8 0, .int .u8 5, .int .u8 10, .int .u8 15, .int .u8 1, .int .u8 6, .int .u8 11, .int .u8 12, .int .u8 2, .int .u8 7, .int .u8 8, .int .u8 13, .int .u8 3, .int .u8 4, .int .u8 9, .int .u8 14]
def ordersC : Array Value := #[.int .u8 0, .int .u8 1, .int .u8 2, .int .u8 3, .int .u8 4, .int .u8 5, .int .u8 6, .int .u8 7, .int .u8 8, .int .u8 9, .int .u8 10, .int .u8 11, .int .u8 12, .int .u8 13, .int .u8 14, .int .u8 15, .int .u8 14, .int .u8 10, .int .u8 4, .int .u8 8, .int .u8 9, .int .u8 15, .int .u8 13, .int .u8 6, .int .u8 1, .int .u8 12, .int .u8 0, .int .u8 2, .int .u8 11, .int .u8 7, .int .u8 5, .int .u8 3, .int .u8 11, .int .u8 8, .int .u8 12, .int .u8 0, .int .u8 5, .int .u8 2, .int .u8 15, .int .u8 13, .int .u8 10, .int .u8 14, .int .u8 3, .int .u8 6, .int .u8 7, .int .u8 1, .int .u8 9, .int .u8 4, .int .u8 7, .int .u8 9, .int .u8 3, .int .u8 1, .int .u8 13, .int .u8 12, .int .u8 11, .int .u8 14, .int .u8 2, .int .u8 6, .int .u8 5, .int .u8 10, .int .u8 4, .int .u8 0, .int .u8 15, .int .u8 8, .int .u8 9, .int .u8 0, .int .u8 5, .int .u8 7, .int .u8 2, .int .u8 4, .int .u8 10, .int .u8 15, .int .u8 14, .int .u8 1, .int .u8 11, .int .u8 12, .int .u8 6, .int .u8 8, .int .u8 3, .int .u8 13, .int .u8 2, .int .u8 12, .int .u8 6, .int .u8 10, .int .u8 0, .int .u8 11, .int .u8 8, .int .u8 3, .int .u8 4, .int .u8 13, .int .u8 7, .int .u8 5, .int .u8 15, .int .u8 14, .int .u8 1, .int .u8 9, .int .u8 12, .int .u8 5, .int .u8 1, .int .u8 15, .int .u8 14, .int .u8 13, .int .u8 4, .int .u8 10, .int .u8 0, .int .u8 7, .int .u8 6, .int .u8 3, .int .u8 9, .int .u8 2, .int .u8 8, .int .u8 11, .int .u8 13, .int .u8 11, .int .u8 7, .int .u8 14, .int .u8 12, .int .u8 1, .int .u8 3, .int .u8 9, .int .u8 5, .int .u8 0, .int .u8 15, .int .u8 4, .int .u8 8, .int .u8 6, .int .u8 2, .int .u8 10, .int .u8 6, .int .u8 15, .int .u8 14, .int .u8 9, .int .u8 11, .int .u8 3, .int .u8 0, .int .u8 8, .int .u8 12, .int .u8 2, .int .u8 13, .int .u8 7, .int .u8 1, .int .u8 4, .int .u8 10, .int .u8 5, .int .u8 10, .int .u8 2, .int .u8 8, .int .u8 4, .int .u8 7, .int .u8 6, .int .u8 1, .int .u8 5, .int .u8 15, .int .u8 11, .int .u8 9, .int .u8 14, .int .u8 3, .int .u8 12, .int .u8 13, .int .u8 0]
set_option maxRecDepth 100000 in
theorem lanes_calls (w : World) :
    Calls Try.prog 101 #[] w fun e w' => e = .returned (.agg lanesC) ∧ Below w.heap.size w w' := by
  go_enter Try.func101, Try.ntmps101
  go_upto_region 1 with (fail)
  refine wp_region_lit ?_
  refine wpList_built rfl 130 _ rfl #[.int .u8 0, .int .u8 4, .int .u8 8, .int .u8 12] (by as_aux_lemma => kernel_rfl) ?_
  refine wpList_built rfl 130 _ rfl #[.int .u8 1, .int .u8 5, .int .u8 9, .int .u8 13] (by as_aux_lemma => kernel_rfl) ?_
  refine wpList_built rfl 130 _ rfl #[.int .u8 2, .int .u8 6, .int .u8 10, .int .u8 14] (by as_aux_lemma => kernel_rfl) ?_
  refine wpList_built rfl 130 _ rfl #[.int .u8 3, .int .u8 7, .int .u8 11, .int .u8 15] (by as_aux_lemma => kernel_rfl) ?_
  refine wpList_built rfl 130 _ rfl #[.int .u8 0, .int .u8 5, .int .u8 10, .int .u8 15] (by as_aux_lemma => kernel_rfl) ?_
  refine wpList_built rfl 130 _ rfl #[.int .u8 1, .int .u8 6, .int .u8 11, .int .u8 12] (by as_aux_lemma => kernel_rfl) ?_
  refine wpList_built rfl 130 _ rfl #[.int .u8 2, .int .u8 7, .int .u8 8, .int .u8 13] (by as_aux_lemma => kernel_rfl) ?_
  refine wpList_built rfl 130 _ rfl #[.int .u8 3, .int .u8 4, .int .u8 9, .int .u8 14] (by as_aux_lemma => kernel_rfl) ?_
  refine wpList_built rfl 136 _ rfl lanesC (by as_aux_lemma => kernel_rfl) ?_
  refine wpList_store_row rfl 136 (.tmp 0) (.tmp 9) rfl w.heap.size lanesC (by as_aux_lemma => kernel_rfl) (by as_aux_lemma => kernel_rfl) 136 _ (heap_alloc_new w _) (by as_aux_lemma => kernel_rfl) (by as_aux_lemma => kernel_rfl) (by as_aux_lemma => kernel_rfl) ?_
  go_wp2_with fail
  exact bodyPost_ret (v := .agg lanesC) (results_cell_row rfl _ _ w.heap.size 136 lanesC (0, 0) _ (by as_aux_lemma => kernel_rfl) (setRow_heap _ _ _ _ 136 _ (heap_alloc_new w _)) Try.underlying136 rfl (by as_aux_lemma => kernel_rfl)) rfl ⟨rfl, below_setRow (below_alloc (Below.refl _ _) _) (Nat.le_refl _) _⟩
set_option maxRecDepth 100000 in
theorem orders_calls (w : World) :
    Calls Try.prog 100 #[] w fun e w' => e = .returned (.agg ordersC) ∧ Below w.heap.size w w' := by
  go_enter Try.func100, Try.ntmps100
  go_upto_region 1 with (fail)
  refine wp_region_lit ?_
  refine wpList_built rfl 133 _ rfl #[.int .u8 0, .int .u8 1, .int .u8 2, .int .u8 3, .int .u8 4, .int .u8 5, .int .u8 6, .int .u8 7, .int .u8 8, .int .u8 9, .int .u8 10, .int .u8 11, .int .u8 12, .int .u8 13, .int .u8 14, .int .u8 15] (by as_aux_lemma => kernel_rfl) ?_
  refine wpList_built rfl 133 _ rfl #[.int .u8 14, .int .u8 10, .int .u8 4, .int .u8 8, .int .u8 9, .int .u8 15, .int .u8 13, .int .u8 6, .int .u8 1, .int .u8 12, .int .u8 0, .int .u8 2, .int .u8 11, .int .u8 7, .int .u8 5, .int .u8 3] (by as_aux_lemma => kernel_rfl) ?_
  refine wpList_built rfl 133 _ rfl #[.int .u8 11, .int .u8 8, .int .u8 12, .int .u8 0, .int .u8 5, .int .u8 2, .int .u8 15, .int .u8 13, .int .u8 10, .int .u8 14, .int .u8 3, .int .u8 6, .int .u8 7, .int .u8 1, .int .u8 9, .int .u8 4] (by as_aux_lemma => kernel_rfl) ?_
  refine wpList_built rfl 133 _ rfl #[.int .u8 7, .int .u8 9, .int .u8 3, .int .u8 1, .int .u8 13, .int .u8 12, .int .u8 11, .int .u8 14, .int .u8 2, .int .u8 6, .int .u8 5, .int .u8 10, .int .u8 4, .int .u8 0, .int .u8 15, .int .u8 8] (by as_aux_lemma => kernel_rfl) ?_
  refine wpList_built rfl 133 _ rfl #[.int .u8 9, .int .u8 0, .int .u8 5, .int .u8 7, .int .u8 2, .int .u8 4, .int .u8 10, .int .u8 15, .int .u8 14, .int .u8 1, .int .u8 11, .int .u8 12, .int .u8 6, .int .u8 8, .int .u8 3, .int .u8 13] (by as_aux_lemma => kernel_rfl) ?_
  refine wpList_built rfl 133 _ rfl #[.int .u8 2, .int .u8 12, .int .u8 6, .int .u8 10, .int .u8 0, .int .u8 11, .int .u8 8, .int .u8 3, .int .u8 4, .int .u8 13, .int .u8 7, .int .u8 5, .int .u8 15, .int .u8 14, .int .u8 1, .int .u8 9] (by as_aux_lemma => kernel_rfl) ?_
  refine wpList_built rfl 133 _ rfl #[.int .u8 12, .int .u8 5, .int .u8 1, .int .u8 15, .int .u8 14, .int .u8 13, .int .u8 4, .int .u8 10, .int .u8 0, .int .u8 7, .int .u8 6, .int .u8 3, .int .u8 9, .int .u8 2, .int .u8 8, .int .u8 11] (by as_aux_lemma => kernel_rfl) ?_
  refine wpList_built rfl 133 _ rfl #[.int .u8 13, .int .u8 11, .int .u8 7, .int .u8 14, .int .u8 12, .int .u8 1, .int .u8 3, .int .u8 9, .int .u8 5, .int .u8 0, .int .u8 15, .int .u8 4, .int .u8 8, .int .u8 6, .int .u8 2, .int .u8 10] (by as_aux_lemma => kernel_rfl) ?_
  refine wpList_built rfl 133 _ rfl #[.int .u8 6, .int .u8 15, .int .u8 14, .int .u8 9, .int .u8 11, .int .u8 3, .int .u8 0, .int .u8 8, .int .u8 12, .int .u8 2, .int .u8 13, .int .u8 7, .int .u8 1, .int .u8 4, .int .u8 10, .int .u8 5] (by as_aux_lemma => kernel_rfl) ?_
  refine wpList_built rfl 133 _ rfl #[.int .u8 10, .int .u8 2, .int .u8 8, .int .u8 4, .int .u8 7, .int .u8 6, .int .u8 1, .int .u8 5, .int .u8 15, .int .u8 11, .int .u8 9, .int .u8 14, .int .u8 3, .int .u8 12, .int .u8 13, .int .u8 0] (by as_aux_lemma => kernel_rfl) ?_
  refine wpList_built rfl 134 _ rfl ordersC (by as_aux_lemma => kernel_rfl) ?_
  refine wpList_store_row rfl 134 (.tmp 0) (.tmp 11) rfl w.heap.size ordersC (by as_aux_lemma => kernel_rfl) (by as_aux_lemma => kernel_rfl) 134 _ (heap_alloc_new w _) (by as_aux_lemma => kernel_rfl) (by as_aux_lemma => kernel_rfl) (by as_aux_lemma => kernel_rfl) ?_
  go_wp2_with fail
  exact bodyPost_ret (v := .agg ordersC) (results_cell_row rfl _ _ w.heap.size 134 ordersC (0, 0) _ (by as_aux_lemma => kernel_rfl) (setRow_heap _ _ _ _ 134 _ (heap_alloc_new w _)) Try.underlying134 rfl (by as_aux_lemma => kernel_rfl)) rfl ⟨rfl, below_setRow (below_alloc (Below.refl _ _) _) (Nat.le_refl _) _⟩
theorem lane_index (i : Nat) (hi : i < 8) (w : World) : (Instr.index 136 (.agg lanesC) (.int .i64 i)).run Try.prog w = .ok (.agg #[.int .u8 (laneAt i 0), .int .u8 (laneAt i 1), .int .u8 (laneAt i 2), .int .u8 (laneAt i 3)]) w := by
  have h : i = 0 ∨ i = 1 ∨ i = 2 ∨ i = 3 ∨ i = 4 ∨ i = 5 ∨ i = 6 ∨ i = 7 := by omega
  rcases h with rfl | rfl | rfl | rfl | rfl | rfl | rfl | rfl <;> (refine Eq.trans ?_ rfl; kernel_rfl)
def rowV (r : Nat) : Array Value := #[.int .u8 (ordAt r 0), .int .u8 (ordAt r 1), .int .u8 (ordAt r 2), .int .u8 (ordAt r 3), .int .u8 (ordAt r 4), .int .u8 (ordAt r 5), .int .u8 (ordAt r 6), .int .u8 (ordAt r 7), .int .u8 (ordAt r 8), .int .u8 (ordAt r 9), .int .u8 (ordAt r 10), .int .u8 (ordAt r 11), .int .u8 (ordAt r 12), .int .u8 (ordAt r 13), .int .u8 (ordAt r 14), .int .u8 (ordAt r 15)]
theorem order_index (r : Nat) (hr : r < 10) (w : World) : (Instr.index 134 (.agg ordersC) (.int .i64 r)).run Try.prog w = .ok (.agg (rowV r)) w := by
  have h : r = 0 ∨ r = 1 ∨ r = 2 ∨ r = 3 ∨ r = 4 ∨ r = 5 ∨ r = 6 ∨ r = 7 ∨ r = 8 ∨ r = 9 := by omega
  rcases h with rfl | rfl | rfl | rfl | rfl | rfl | rfl | rfl | rfl | rfl <;> (refine Eq.trans ?_ rfl; kernel_rfl)
theorem rowV_get (r i : Nat) (hi : i < 16) : (rowV r)[i]? = some (.int .u8 (ordAt r i)) := by
  have h : i = 0 ∨ i = 1 ∨ i = 2 ∨ i = 3 ∨ i = 4 ∨ i = 5 ∨ i = 6 ∨ i = 7 ∨ i = 8 ∨ i = 9 ∨ i = 10 ∨ i = 11 ∨ i = 12 ∨ i = 13 ∨ i = 14 ∨ i = 15 := by omega
  rcases h with rfl | rfl | rfl | rfl | rfl | rfl | rfl | rfl | rfl | rfl | rfl | rfl | rfl | rfl | rfl | rfl <;> rfl

/-- Where the taking of a block stands: the state's copy, the result's variable, the block's words, the sixteen words; nothing that lay before has turned. -/
structure TS (w W : World) (g : Nat) (h m v : List Int) : Prop where
  H : W.heap[g]? = some (.cells (w32 h) 76 (0, 0))
  O : W.heap[g + 1]? = some (.cells (w32 [0, 0, 0, 0, 0, 0, 0, 0]) 76 (0, 0))
  M : W.heap[g + 2]? = some (.cells (w32 m) 128 (0, 0))
  V : W.heap[g + 3]? = some (.cells (w32 v) 128 (0, 0))
  B : Below g w W
  S : g + 4 ≤ W.heap.size
variable {w W W' : World} {g : Nat} {h m v : List Int}
theorem TS.drew (t : TS w W g h m v) : TS w W.drew g h m v := ⟨t.H, t.O, t.M, t.V, below_drew t.B, t.S⟩
theorem TS.drewN (t : TS w W g h m v) (n : Nat) : TS w (W.drewN n) g h m v := ⟨t.H, t.O, t.M, t.V, pw_below_drewN t.B n, t.S⟩
theorem TS.below (t : TS w W g h m v) (hb : Below W.heap.size W W') : TS w W' g h m v := by
  have := t.S
  exact ⟨(hb.block _ (by omega)).trans t.H, (hb.block _ (by omega)).trans t.O, (hb.block _ (by omega)).trans t.M, (hb.block _ (by omega)).trans t.V, t.B.trans (hb.mono (by omega)), Nat.le_trans t.S hb.size⟩
theorem TS.alloc (t : TS w W g h m v) (o : Obj) : TS w (W.alloc o) g h m v := t.below (below_alloc (Below.refl _ _) o)
theorem TS.setM (t : TS w W g h m v) (i : Nat) (x : Int) : TS w (W.setCell ⟨g + 2, i, none⟩ (.int .u32 x)) g h (m.set i x) v :=
  ⟨blk_far t.H (by simp) _, blk_far t.O (by simp) _, by rw [← w32_set]; exact blk_set t.M i _, blk_far t.V (by simp) _, t.B.setCell (by simp) _, by simpa using t.S⟩
theorem TS.setV (t : TS w W g h m v) (i : Nat) (x : Int) : TS w (W.setCell ⟨g + 3, i, none⟩ (.int .u32 x)) g h m (v.set i x) :=
  ⟨blk_far t.H (by simp) _, blk_far t.O (by simp) _, blk_far t.M (by simp) _, by rw [← w32_set]; exact blk_set t.V i _, t.B.setCell (by simp) _, by simpa using t.S⟩
theorem TS.setH (t : TS w W g h m v) (i : Nat) (x : Int) : TS w (W.setCell ⟨g, i, none⟩ (.int .u32 x)) g (h.set i x) m v :=
  ⟨by rw [← w32_set]; exact blk_set t.H i _, blk_far t.O (by simp) _, blk_far t.M (by simp) _, blk_far t.V (by simp) _, t.B.setCell (by simp) _, by simpa using t.S⟩
theorem TS.rowV (t : TS w W g h m v) (v' : List Int) : TS w (W.setRow (g + 3) (w32 v')) g h m v' :=
  ⟨(setRow_other W _ _ _ (by omega)).trans t.H, (setRow_other W _ _ _ (by omega)).trans t.O, (setRow_other W _ _ _ (by omega)).trans t.M, setRow_heap W _ _ _ _ _ t.V, below_setRow t.B (by omega) _, by simpa [World.setRow] using t.S⟩
theorem TS.mixed (t : TS w W g h m v) {v' : List Int} (hg : W.grownBy W' (some (g + 3))) (hv : W'.heap[g + 3]? = some (.cells (w32 v') 128 (0, 0))) : TS w W' g h m v' := by
  have := t.S
  exact ⟨(hg.block _ (by omega) (by simp)).trans t.H, (hg.block _ (by omega) (by simp)).trans t.O, (hg.block _ (by omega) (by simp)).trans t.M, hv, t.B.grown hg (by omega) (fun k e => by cases e; omega), Nat.le_trans t.S hg.size⟩
end Go.Proofs.Ytokadjfakncdfaa
