/- The walk of marlinspikelaw01.wakes. -/
import Derived.Test.YtokadjfakncdfaaN14
set_option linter.unusedVariables false
set_option linter.unusedSimpArgs false
namespace Go.Proofs.Ytokadjfakncdfaa
open Go.RowKit Go.Proofs.YtokadjfakncdfaaW.PrintWords Go.Proofs.YtokadjfakncdfaaW.PrintLast Go.Proofs.YtokadjfakncdfaaW.PrintMore

theorem two_fst (w : World) (o o' : Obj) : ((w.alloc o).alloc o').heap[w.heap.size]? = some o := heap_alloc_old (heap_alloc_new w o)
theorem two_snd (w : World) (o o' : Obj) : ((w.alloc o).alloc o').heap[w.heap.size + 1]? = some o' := by
  have := heap_alloc_new (w.alloc o) o'
  simpa using this
theorem two_below (w : World) (o o' : Obj) : Below w.heap.size w ((w.alloc o).alloc o') := below_alloc (below_alloc1 _ _) _
theorem one_below (w : World) (o : Obj) : Below w.heap.size w (w.alloc o) := below_alloc1 _ _
theorem bon {w w1 w2 : World} (h : Below w.heap.size w w1) (h' : Below w1.heap.size w1 w2) : Below w.heap.size w w2 := h.trans (h'.mono h.size)
theorem dn1 {W : World} {g e : Nat} {x : Int} (h : W.heap[g]? = some (.cells #[.int .u64 x] e (0, 0))) (hx : 0 ≤ x ∧ x < B64) : DN W (.slice (some ⟨g, 0, none⟩) 1 1) x 1 := by
  have := DN.lits (e := e) [x] h 1 (by simp) (by omega) (Dig.nil.cons hx)
  simpa [nv] using this
theorem cn1 {W : World} {g e : Nat} {x : Int} (h : W.heap[g]? = some (.cells #[.int .u64 x] e (0, 0))) (hx : 0 < x ∧ x < B64) : CN W (.slice (some ⟨g, 0, none⟩) 1 1) x 1 := by
  have := CN.lits (e := e) [x] h 1 (by simp) (by omega) (Dig.nil.cons (by omega)) (by simp; omega)
  simpa [nv] using this
theorem dn2 {W : World} {g e : Nat} {x y : Int} (h : W.heap[g]? = some (.cells #[.int .u64 x, .int .u64 y] e (0, 0))) (hx : 0 ≤ x ∧ x < B64) (hy : 0 ≤ y ∧ y < B64) : DN W (.slice (some ⟨g, 0, none⟩) 2 2) (x + B64 * y) 2 := by
  have := DN.lits (e := e) [x, y] h 2 (by simp) (by omega) ((Dig.nil.cons hy).cons hx)
  simpa [nv] using this
theorem cn2 {W : World} {g e : Nat} {x y : Int} (h : W.heap[g]? = some (.cells #[.int .u64 x, .int .u64 y] e (0, 0))) (hx : 0 ≤ x ∧ x < B64) (hy : 0 < y ∧ y < B64) : CN W (.slice (some ⟨g, 0, none⟩) 2 2) (x + B64 * y) 2 := by
  have := CN.lits (e := e) [x, y] h 2 (by simp) (by omega) ((Dig.nil.cons (by omega)).cons hx) (by simp; omega)
  simpa [nv] using this

set_option maxRecDepth 100000 in
theorem wakes1_calls (w : World) : Calls Try.prog 19 #[] w fun e w' => e = .returned (.bool true) ∧ Below w.heap.size w w' := by
  go_enter Try.func19, Try.ntmps19
  go_wp2_with fail
  refine (add_n (dn1 (two_fst _ _ _) (by decide)) (dn1 (two_snd _ _ _) (by decide)) (by decide) (by decide)).mono ?_
  rintro e w1 ⟨v1, rfl, C1, b1⟩
  have H1 := bon (two_below _ _ _) b1
  clear b1
  go_wp2_with fail
  refine (mul_n (dn1 (two_fst _ _ _) (by decide)) (dn1 (two_snd _ _ _) (by decide)) (by decide) (by decide)).mono ?_
  rintro e w2 ⟨v2, rfl, C2, b2⟩
  have s2 := bon (two_below _ _ _) b2
  have D1 := C1.below s2
  have H2 := bon H1 s2
  clear b2 s2 C1 H1
  go_wp2_with fail
  refine (sub_n' (dn1 (two_fst _ _ _) (by decide)) (dn1 (two_snd _ _ _) (by decide)) (by decide) (by decide) (by decide)).mono ?_
  rintro e w3 ⟨rfl, b3⟩
  have s3 := bon (two_below _ _ _) b3
  have E1 := D1.below s3
  have E2 := C2.below s3
  have H3 := bon H2 s3
  clear b3 s3 D1 C2 H2
  go_wp2_with fail
  refine (divmod_n (dn1 (two_fst _ _ _) (by decide)) (dn1 (two_snd _ _ _) (by decide)) (by decide) (by decide) (by decide)).mono ?_
  rintro e w4 ⟨vq, vr, rfl, Cq, Cr, b4⟩
  have s4 := bon (two_below _ _ _) b4
  have F1 := E1.below s4
  have F2 := E2.below s4
  have H4 := bon H3 s4
  clear b4 s4 E1 E2 H3
  go_wp2_with fail
  refine (of_n (dn2 (heap_alloc_new _ _) (by decide) (by decide)) (by decide)).mono ?_
  rintro e w5 ⟨v5, rfl, C5, b5⟩
  have s5 := bon (one_below _ _) b5
  have G1 := F1.below s5
  have G2 := F2.below s5
  have G3 := Cq.below s5
  have G4 := Cr.below s5
  have H5 := bon H4 s5
  clear b5 s5 F1 F2 Cq Cr H4
  go_wp2_with fail
  refine (same_t ((C5).below (one_below _ _)) (cn1 (heap_alloc_new _ _) (by decide)) (by decide) (by decide)).mono ?_
  rintro e w6 ⟨rfl, b6⟩
  have s6 := bon (one_below _ _) b6
  have G1_6 := G1.below s6
  have G2_6 := G2.below s6
  have G3_6 := G3.below s6
  have G4_6 := G4.below s6
  have H6 := bon H5 s6
  clear b6 s6 H5 C5 G1 G2 G3 G4
  go_wp2_with fail
  refine (same_t ((G1_6).below (one_below _ _)) (cn2 (heap_alloc_new _ _) (by decide) (by decide)) (by decide) (by decide)).mono ?_
  rintro e w7 ⟨rfl, b7⟩
  have s7 := bon (one_below _ _) b7
  have G2_7 := G2_6.below s7
  have G3_7 := G3_6.below s7
  have G4_7 := G4_6.below s7
  have H7 := bon H6 s7
  clear b7 s7 H6 G1_6 G2_6 G3_6 G4_6
  go_wp2_with fail
  refine (same_t ((G2_7).below (one_below _ _)) (cn2 (heap_alloc_new _ _) (by decide) (by decide)) (by decide) (by decide)).mono ?_
  rintro e w8 ⟨rfl, b8⟩
  have s8 := bon (one_below _ _) b8
  have G3_8 := G3_7.below s8
  have G4_8 := G4_7.below s8
  have H8 := bon H7 s8
  clear b8 s8 H7 G2_7 G3_7 G4_7
  go_wp2_with fail
  refine (same_t ((G3_8).below (one_below _ _)) (cn1 (heap_alloc_new _ _) (by decide)) (by decide) (by decide)).mono ?_
  rintro e w9 ⟨rfl, b9⟩
  have s9 := bon (one_below _ _) b9
  have G4_9 := G4_8.below s9
  have H9 := bon H8 s9
  clear b9 s9 H8 G3_8 G4_8
  go_wp2_with fail
  refine (same_t ((G4_9).below (one_below _ _)) (cn1 (heap_alloc_new _ _) (by decide)) (by decide) (by decide)).mono ?_
  rintro e w10 ⟨rfl, b10⟩
  have s10 := bon (one_below _ _) b10
  have H10 := bon H9 s10
  clear b10 s10 H9 G4_9
  go_wp2_with fail
  refine (bits_n (dn1 (heap_alloc_new _ _) (by decide)) (by decide) 9 (by decide)).mono ?_
  rintro e w11 ⟨rfl, b11⟩
  have H11 := bon H10 (bon (one_below _ _) b11)
  clear b11 H10
  go_wp2_with fail
  go_ret
  exact ⟨rfl, H11⟩
end Go.Proofs.Ytokadjfakncdfaa
