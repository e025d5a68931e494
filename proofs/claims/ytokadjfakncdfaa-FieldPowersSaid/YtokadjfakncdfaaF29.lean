/- FieldPowers: what its walk needs besides. -/
import Derived.Test.YtokadjfakncdfaaF20
import Derived.Test.YtokadjfakncdfaaF23x4
import Derived.Test.YtokadjfakncdfaaF25
set_option linter.unusedVariables false
set_option linter.unusedSimpArgs false
namespace Go.Proofs.Ytokadjfakncdfaa
open Go.RowKit Go.Proofs.YtokadjfakncdfaaW.PrintWords Go.Proofs.YtokadjfakncdfaaW.PrintLast Go.Proofs.YtokadjfakncdfaaW.PrintMore
theorem powD {g : Nat} {m : Int} {w : World} {ve : Value} (a : Int) (E : Nat) {x : Int} (z : Int) {le : Nat} {e : Int} (hF : Fd 4 121 w g m) (hx : x = mo 4 m a) (he : DN w ve e le) (hle : le ≤ 1000) (hE : e = (E : Int)) (hz : z = mo 4 m (a ^ E)) :
    Calls Try.prog 49 #[.pointer (some ⟨g, 0, none⟩), elt 4 x, ve] w fun e w' => e = .returned (elt 4 z) ∧ Below w.heap.size w w' := by
  obtain ⟨es, h1, h2, h3, h4⟩ := he.out
  exact powM4 a E z hF hx h1 h2 (by omega) (h3.trans hE) hz
theorem dn_at {W : World} {q : Nat} {k : Int} (hk : 0 ≤ k ∧ k < B64) (h : W.heap[q]? = some (.cells #[.int .u64 k] 30 (0, 0))) : DN W (.slice (some ⟨q, 0, none⟩) 1 1) k 1 := by
  have := DN.lits (W := W) (g := q) (e := 30) [k] h 1 (Nat.le_refl _) (by decide) (Dig.nil.cons hk)
  rwa [show nv B64 [k] = k by simp [nv]] at this
theorem dn_at2 {W : World} {q : Nat} (h : W.heap[q]? = some (.cells #[.int .u64 1, .int .u64 0] 30 (0, 0))) : DN W (.slice (some ⟨q, 0, none⟩) 2 2) 1 2 := by
  have := DN.lits (W := W) (g := q) (e := 30) [1, 0] h 2 (Nat.le_refl _) (by decide) ((Dig.nil.cons (by decide)).cons (by decide))
  rwa [show nv B64 [1, 0] = 1 by decide] at this
theorem dn_nil (W : World) : DN W (.slice none 0 0) 0 0 :=
  ⟨[], ⟨none, 0, rfl, Nat.le_refl _, rfl, by decide, fun h => absurd h (by simp)⟩, Dig.nil, rfl, Nat.le_refl _⟩
/-- Has operation j come up? -/
def FL (l : Array Bool) (j : Nat) : Bool := l.getD j false
theorem FL_set {l : Array Bool} {i : Nat} (h : l.size = 14) (hi : i < 14) (j : Nat) : FL (l.setIfInBounds i true) j = if i = j then true else FL l j := flag_set j h hi
abbrev Six (j : Nat) : Prop := j = 3 ∨ j = 4 ∨ j = 8 ∨ j = 9 ∨ j = 10 ∨ j = 11
/-- What holds between the operations of FieldPowers' region 11. -/
structure Fs (W : World) (i k u v : Int) (l : Array Bool) (w : World) (v66 v67 v71 v72 v17 v18 : Value) (q17 q18 : Nat) : Prop where
  sz : l.size = 14
  fr : ∀ j, (j = 0 ∨ j = 1 ∨ j = 2 ∨ j = 5 ∨ j = 6 ∨ j = 7) → FL l j = true
  B : Below W.heap.size W w
  d12 : FL l 12 = true → ∀ j, Six j → FL l j = true
  d13 : FL l 13 = true → FL l 12 = true
  d9 : FL l 9 = true → FL l 8 = true
  f3 : FL l 3 = true → FL l 12 = false → DN w v66 i 1
  f4 : FL l 4 = true → v67 = elt 4 u
  f8 : FL l 8 = true → FL l 12 = false → DN w v71 k 1
  f9 : FL l 9 = true → v72 = elt 4 v
  f10 : FL l 10 = true → v17 = .pointer (some ⟨q17, 0, none⟩) ∧ W.heap.size ≤ q17 ∧ q17 < w.heap.size
  f11 : FL l 11 = true → v18 = .pointer (some ⟨q18, 0, none⟩) ∧ W.heap.size ≤ q18 ∧ q18 < w.heap.size
  c10 : FL l 10 = true → FL l 12 = false → w.heap[q17]? = some (.cells (c64 (List.replicate 4 0)) 63 (0, 0))
  c12 : FL l 12 = true → w.heap[q17]? = some (.cells (c64 (dg 4 u)) 63 (0, 0))
  c11 : FL l 11 = true → FL l 13 = false → w.heap[q18]? = some (.cells (c64 (List.replicate 4 0)) 63 (0, 0))
  c13 : FL l 13 = true → w.heap[q18]? = some (.cells (c64 (dg 4 v)) 63 (0, 0))
  ne : FL l 10 = true → FL l 11 = true → q17 ≠ q18
structure R11 (W : World) (A : Act) (i k u v : Int) (l : Array Bool) (a : Act) (w : World) : Prop where
  mk ::
  out : ∃ (v66 v67 v71 v72 v17 v18 : Value) (q17 q18 : Nat),
    a = (((((A.put (some 66) v66).put (some 67) v67).put (some 71) v71).put (some 72) v72).put (some 17) v17).put (some 18) v18 ∧
    Fs W i k u v l w v66 v67 v71 v72 v17 v18 q17 q18
section
variable {W : World} {i k u v : Int} {l : Array Bool} {w : World} {v66 v67 v71 v72 v17 v18 : Value} {q17 q18 : Nat}
theorem Fs.keep (h : Fs W i k u v l w v66 v67 v71 v72 v17 v18 q17 q18) {w' : World} (hb : Below w.heap.size w w') : Fs W i k u v l w' v66 v67 v71 v72 v17 v18 q17 q18 where
  sz := h.sz
  fr := h.fr
  B := below_more h.B hb
  d12 := h.d12
  d13 := h.d13
  d9 := h.d9
  f3 := fun a b => (h.f3 a b).below hb
  f4 := h.f4
  f8 := fun a b => (h.f8 a b).below hb
  f9 := h.f9
  f10 := fun a => ⟨(h.f10 a).1, (h.f10 a).2.1, Nat.lt_of_lt_of_le (h.f10 a).2.2 hb.size⟩
  f11 := fun a => ⟨(h.f11 a).1, (h.f11 a).2.1, Nat.lt_of_lt_of_le (h.f11 a).2.2 hb.size⟩
  c10 := fun a b => (hb.block _ (blk_lt (h.c10 a b))).trans (h.c10 a b)
  c12 := fun a => (hb.block _ (blk_lt (h.c12 a))).trans (h.c12 a)
  c11 := fun a b => (hb.block _ (blk_lt (h.c11 a b))).trans (h.c11 a b)
  c13 := fun a => (hb.block _ (blk_lt (h.c13 a))).trans (h.c13 a)
  ne := h.ne
/-- An operation of the six has not come up: so the stores have not. -/
theorem Fs.n12 (h : Fs W i k u v l w v66 v67 v71 v72 v17 v18 q17 q18) (j : Nat) (hj : Six j) (hf : FL l j = false) : FL l 12 = false := by
  cases e : FL l 12 with
  | false => rfl
  | true => rw [h.d12 e j hj] at hf; cases hf
theorem Fs.n13 (h : Fs W i k u v l w v66 v67 v71 v72 v17 v18 q17 q18) (hf : FL l 12 = false) : FL l 13 = false := by
  cases e : FL l 13 with
  | false => rfl
  | true => rw [h.d13 e] at hf; cases hf
theorem Fs.s3 (h : Fs W i k u v l w v66 v67 v71 v72 v17 v18 q17 q18) (hf : FL l 3 = false) {x : Value} (hx : DN w x i 1) : Fs W i k u v (l.setIfInBounds 3 true) w x v67 v71 v72 v17 v18 q17 q18 := by
  have s := FL_set h.sz (i := 3) (by decide)
  have n := h.n12 3 (.inl rfl) hf
  constructor <;> try simp only [s, Array.size_setIfInBounds, Nat.reduceEqDiff, if_false, if_true]
  · exact h.sz
  · intro j hj; split; · rfl
    · exact h.fr j hj
  · exact h.B
  · intro e; rw [n] at e; cases e
  · exact h.d13
  · exact h.d9
  · intro _ _; exact hx
  · exact h.f4
  · exact h.f8
  · exact h.f9
  · exact h.f10
  · exact h.f11
  · exact h.c10
  · exact h.c12
  · exact h.c11
  · exact h.c13
  · exact h.ne
theorem Fs.s4 (h : Fs W i k u v l w v66 v67 v71 v72 v17 v18 q17 q18) (hf : FL l 4 = false) : Fs W i k u v (l.setIfInBounds 4 true) w v66 (elt 4 u) v71 v72 v17 v18 q17 q18 := by
  have s := FL_set h.sz (i := 4) (by decide)
  have n := h.n12 4 (by decide) hf
  constructor <;> try simp only [s, Array.size_setIfInBounds, Nat.reduceEqDiff, if_false, if_true]
  · exact h.sz
  · intro j hj; split; · rfl
    · exact h.fr j hj
  · exact h.B
  · intro e; rw [n] at e; cases e
  · exact h.d13
  · exact h.d9
  · exact h.f3
  · intro _; trivial
  · exact h.f8
  · exact h.f9
  · exact h.f10
  · exact h.f11
  · exact h.c10
  · exact h.c12
  · exact h.c11
  · exact h.c13
  · exact h.ne
theorem Fs.s8 (h : Fs W i k u v l w v66 v67 v71 v72 v17 v18 q17 q18) (hf : FL l 8 = false) {x : Value} (hx : DN w x k 1) : Fs W i k u v (l.setIfInBounds 8 true) w v66 v67 x v72 v17 v18 q17 q18 := by
  have s := FL_set h.sz (i := 8) (by decide)
  have n := h.n12 8 (by decide) hf
  constructor <;> try simp only [s, Array.size_setIfInBounds, Nat.reduceEqDiff, if_false, if_true]
  · exact h.sz
  · intro j hj; split; · rfl
    · exact h.fr j hj
  · exact h.B
  · intro e; rw [n] at e; cases e
  · exact h.d13
  · intro _; trivial
  · exact h.f3
  · exact h.f4
  · intro _ _; exact hx
  · exact h.f9
  · exact h.f10
  · exact h.f11
  · exact h.c10
  · exact h.c12
  · exact h.c11
  · exact h.c13
  · exact h.ne
theorem Fs.s9 (h : Fs W i k u v l w v66 v67 v71 v72 v17 v18 q17 q18) (hf : FL l 9 = false) (h8 : FL l 8 = true) : Fs W i k u v (l.setIfInBounds 9 true) w v66 v67 v71 (elt 4 v) v17 v18 q17 q18 := by
  have s := FL_set h.sz (i := 9) (by decide)
  have n := h.n12 9 (by decide) hf
  constructor <;> try simp only [s, Array.size_setIfInBounds, Nat.reduceEqDiff, if_false, if_true]
  · exact h.sz
  · intro j hj; split; · rfl
    · exact h.fr j hj
  · exact h.B
  · intro e; rw [n] at e; cases e
  · exact h.d13
  · intro _; exact h8
  · exact h.f3
  · exact h.f4
  · exact h.f8
  · intro _; trivial
  · exact h.f10
  · exact h.f11
  · exact h.c10
  · exact h.c12
  · exact h.c11
  · exact h.c13
  · exact h.ne
theorem Fs.s10 (h : Fs W i k u v l w v66 v67 v71 v72 v17 v18 q17 q18) (hf : FL l 10 = false) : Fs W i k u v (l.setIfInBounds 10 true) (w.alloc (.cells (c64 (List.replicate 4 0)) 63)) v66 v67 v71 v72 (.pointer (some ⟨w.heap.size, 0, none⟩)) v18 w.heap.size q18 := by
  have s := FL_set h.sz (i := 10) (by decide)
  have n := h.n12 10 (by decide) hf
  have g := h.keep (below_alloc1 w (.cells (c64 (List.replicate 4 0)) 63))
  have hn := heap_alloc_new w (.cells (c64 (List.replicate 4 0)) 63)
  constructor <;> try simp only [s, Array.size_setIfInBounds, Nat.reduceEqDiff, if_false, if_true]
  · exact h.sz
  · intro j hj; split; · rfl
    · exact h.fr j hj
  · exact g.B
  · intro e; rw [n] at e; cases e
  · exact h.d13
  · exact h.d9
  · exact g.f3
  · exact g.f4
  · exact g.f8
  · exact g.f9
  · intro _; exact ⟨trivial, h.B.size, by simp⟩
  · exact g.f11
  · intro _ _; exact hn
  · intro e; rw [n] at e; cases e
  · exact g.c11
  · exact g.c13
  · intro _ e; have := (h.f11 e).2.2; omega
theorem Fs.s11 (h : Fs W i k u v l w v66 v67 v71 v72 v17 v18 q17 q18) (hf : FL l 11 = false) : Fs W i k u v (l.setIfInBounds 11 true) (w.alloc (.cells (c64 (List.replicate 4 0)) 63)) v66 v67 v71 v72 v17 (.pointer (some ⟨w.heap.size, 0, none⟩)) q17 w.heap.size := by
  have s := FL_set h.sz (i := 11) (by decide)
  have n := h.n12 11 (by decide) hf
  have n' := h.n13 n
  have g := h.keep (below_alloc1 w (.cells (c64 (List.replicate 4 0)) 63))
  have hn := heap_alloc_new w (.cells (c64 (List.replicate 4 0)) 63)
  constructor <;> try simp only [s, Array.size_setIfInBounds, Nat.reduceEqDiff, if_false, if_true]
  · exact h.sz
  · intro j hj; split; · rfl
    · exact h.fr j hj
  · exact g.B
  · intro e; rw [n] at e; cases e
  · exact h.d13
  · exact h.d9
  · exact g.f3
  · exact g.f4
  · exact g.f8
  · exact g.f9
  · exact g.f10
  · intro _; exact ⟨trivial, h.B.size, by simp⟩
  · exact g.c10
  · exact g.c12
  · intro _ _; exact hn
  · intro e; rw [n'] at e; cases e
  · intro e _; have := (h.f10 e).2.2; omega
theorem Fs.s12 (h : Fs W i k u v l w v66 v67 v71 v72 v17 v18 q17 q18) (hf : FL l 12 = false) (ha : ∀ j, Six j → FL l j = true) : Fs W i k u v (l.setIfInBounds 12 true) (w.setRow q17 (c64 (dg 4 u))) v66 v67 v71 v72 v17 v18 q17 q18 := by
  have s := FL_set h.sz (i := 12) (by decide)
  have n' := h.n13 hf
  have h10 := ha 10 (by decide)
  have h11 := ha 11 (by decide)
  have hz := h.c10 h10 hf
  have hn := h.ne h10 h11
  constructor <;> try simp only [s, Array.size_setIfInBounds, Nat.reduceEqDiff, if_false, if_true]
  · exact h.sz
  · intro j hj; split; · rfl
    · exact h.fr j hj
  · exact below_setRow h.B (h.f10 h10).2.1 _
  · intro _ j hj; split; · rfl
    · exact ha j hj
  · intro e; rw [n'] at e; cases e
  · exact h.d9
  · intro _ e; cases e
  · exact h.f4
  · intro _ e; cases e
  · exact h.f9
  · intro e; refine ⟨(h.f10 e).1, (h.f10 e).2.1, ?_⟩; have := (h.f10 e).2.2; simpa using this
  · intro e; refine ⟨(h.f11 e).1, (h.f11 e).2.1, ?_⟩; have := (h.f11 e).2.2; simpa using this
  · intro _ e; cases e
  · intro _; exact setRow_heap _ _ _ _ 63 _ hz
  · intro a b; rw [setRow_other _ _ _ _ (fun e => hn e.symm)]; exact h.c11 a b
  · intro e; rw [n'] at e; cases e
  · exact h.ne
theorem Fs.s13 (h : Fs W i k u v l w v66 v67 v71 v72 v17 v18 q17 q18) (hf : FL l 13 = false) (h12 : FL l 12 = true) : Fs W i k u v (l.setIfInBounds 13 true) (w.setRow q18 (c64 (dg 4 v))) v66 v67 v71 v72 v17 v18 q17 q18 := by
  have s := FL_set h.sz (i := 13) (by decide)
  have h10 := h.d12 h12 10 (by decide)
  have h11 := h.d12 h12 11 (by decide)
  have hz := h.c11 h11 hf
  have hn := h.ne h10 h11
  constructor <;> try simp only [s, Array.size_setIfInBounds, Nat.reduceEqDiff, if_false, if_true]
  · exact h.sz
  · intro j hj; split; · rfl
    · exact h.fr j hj
  · exact below_setRow h.B (h.f11 h11).2.1 _
  · intro e j hj; split; · rfl
    · exact h.d12 e j hj
  · intro _; exact h12
  · exact h.d9
  · intro _ e; rw [h12] at e; cases e
  · exact h.f4
  · intro _ e; rw [h12] at e; cases e
  · exact h.f9
  · intro e; refine ⟨(h.f10 e).1, (h.f10 e).2.1, ?_⟩; have := (h.f10 e).2.2; simpa using this
  · intro e; refine ⟨(h.f11 e).1, (h.f11 e).2.1, ?_⟩; have := (h.f11 e).2.2; simpa using this
  · intro _ e; rw [h12] at e; cases e
  · intro e; rw [setRow_other _ _ _ _ hn]; exact h.c12 e
  · intro _ e; cases e
  · intro _; exact setRow_heap _ _ _ _ 63 _ hz
  · exact h.ne
end
end Go.Proofs.Ytokadjfakncdfaa
