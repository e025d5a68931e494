/- BLAKE2s of nothing and of abc, reckoned; the law's own known sums. -/
import Derived.Test.YtokadjfakncdfaaB8
import Derived.Lib.SlBytesConst
import Derived.Deep.Cut
import Derived.Outline
set_option linter.unusedVariables false
set_option linter.unusedSimpArgs false
namespace Go.Proofs.Ytokadjfakncdfaa
open Go.RowKit Go.Proofs.YtokadjfakncdfaaW.PrintWords Go.Proofs.YtokadjfakncdfaaW.PrintLast Go.Proofs.YtokadjfakncdfaaW.PrintMore
set_option maxRecDepth 100000 in
theorem sum_nil : sumB [] = [105, 33, 122, 48, 121, 144, 128, 148, 225, 17, 33, 208, 66, 53, 74, 124, 31, 85, 182, 72, 44, 161, 165, 30, 27, 37, 13, 253, 30, 208, 238, 249] := by kernel_rfl
set_option maxRecDepth 100000 in
theorem sum_abc : sumB [97, 98, 99] = [80, 140, 94, 140, 50, 124, 20, 226, 225, 167, 43, 163, 78, 235, 69, 47, 55, 69, 139, 32, 158, 214, 58, 41, 77, 153, 155, 76, 134, 103, 89, 130] := by kernel_rfl

/-- A row of rows that has just been laid. -/
theorem row_new (w : World) (l : List (Option Addr × Nat × List Int)) (h : ∀ x ∈ l, x.2.2.length ≤ x.2.1 ∧ (Kd.int .u8).C w x.1 x.2.2.length x.2.2) (hl : l.length ≤ 1000) :
    (Kd.slice 5 (Kd.int .u8)).C (w.alloc (.cells (l.map fun x => Value.slice x.1 x.2.2.length x.2.1).toArray 22)) (some ⟨w.heap.size, 0, none⟩) (l.map (·.2.2)).length (l.map (·.2.2)) := by
  have hb := heap_alloc_new w (.cells (l.map fun x => Value.slice x.1 x.2.2.length x.2.1).toArray 22)
  refine ⟨rfl, by simp; omega, fun _ => ⟨_, rfl, fun j p hj => ?_⟩⟩
  obtain ⟨x, hx, rfl⟩ : ∃ x, l[j]? = some x ∧ x.2.2 = p := by
    rw [List.getElem?_map] at hj
    cases hx : l[j]? with
    | none => rw [hx] at hj; cases hj
    | some x => exact ⟨x, rfl, by rw [hx] at hj; simpa using hj⟩
  obtain ⟨h1, h2⟩ := h x (List.mem_of_getElem? hx)
  refine ⟨[.slice x.1 x.2.2.length x.2.1], rfl, ⟨x.1, x.2.1, rfl, h1, Kd.C_alloc h2 _⟩, fun i u hu => ?_⟩
  have hi0 : i = 0 := by
    rcases Nat.eq_zero_or_pos i with h0 | h0
    · exact h0
    · rw [List.getElem?_eq_none (by simp; omega)] at hu; cases hu
  subst hi0
  have hu' : u = .slice x.1 x.2.2.length x.2.1 := by simpa using hu.symm
  subst hu'
  have := World.news_of_block hb j (.slice x.1 x.2.2.length x.2.1) (by simp [hx])
  simpa [Kd.slice] using this

/-- Bytes that lie at the head of a block. -/
theorem C_w8 {W : World} {g e : Nat} {fr : Nat × Nat} {xs : List Int} (h : W.heap[g]? = some (.cells (w8 xs) e fr)) (hl : xs.length ≤ 1000000) : (Kd.int .u8).C W (some ⟨g, 0, none⟩) xs.length xs := by
  refine ⟨rfl, by omega, fun _ => ⟨_, rfl, fun j p hj => ⟨[.int .u8 p], rfl, rfl, fun i u hu => ?_⟩⟩⟩
  have hi0 : i = 0 := by
    rcases Nat.eq_zero_or_pos i with h0 | h0
    · exact h0
    · rw [List.getElem?_eq_none (by simp; omega)] at hu; cases hu
  subst hi0
  have hu' : u = .int .u8 p := by simpa using hu.symm
  subst hu'
  have hw : (w8 xs)[j]? = some (.int .u8 p) := by simp [w8, hj]
  have h1 : W.cell? ⟨g, j, none⟩ = some (.int .u8 p) := by simp [World.cell?, h, hw]
  simp only [Kd.int, Kd.scalar, Nat.mul_one, Nat.add_zero, add_plain]
  exact h1
theorem w8_size (s : List Int) (h : s.length = 32) : (Try.prog.info? 24).map (·.size) = some (w8 s).size := by
  rw [show (w8 s).size = 32 by simp [w8, h]]; kernel_rfl
theorem w8_all (s : List Int) : (w8 s).all (·.oneCell') = true := by simp [w8, Value.oneCell']
theorem sumB_length (l : List Int) : (sumB l).length = 32 := by simp [sumB, outB]

set_option maxRecDepth 100000 in
theorem wakes15_calls (w : World) :
    Calls Try.prog 14 #[] w fun e w' => e = .returned (.bool true) ∧ Below w.heap.size w w' := by
  have kc := fun (w : World) (C : Array Value) (n c : Nat) => Lib.run_convert_bytes_const (P := Try.prog) w 22 5 C n c Try.underlying22 Try.underlying5
  go_enter Try.func14, Try.ntmps14
  go_wp2_with fail
  refine (sum_calls none 0 [] w (Kd.C_nil _ _) (by simp) (by simp)).mono ?_
  rintro e w1 ⟨rfl, b1⟩
  obtain ⟨s0, hs0⟩ : ∃ s, sumB ([] : List (List Int)).flatten = s := ⟨_, rfl⟩
  rw [hs0]
  have H1 := Aside0.mk b1
  clear b1
  go_wp2_with fail
  have hr := row_new (w1.alloc (.cells (w8 [97, 98, 99]) 5 (3, 4))) [(some ⟨w1.heap.size, 0, none⟩, 3, [97, 98, 99])] (fun x hx => by
    simp only [List.mem_singleton] at hx
    subst hx
    exact ⟨Nat.le_refl _, C_w8 (heap_alloc_new w1 _) (by simp)⟩) (by simp)
  rw [World.size_alloc] at hr
  refine (sum_calls _ 1 [[97, 98, 99]] _ hr (by simp) (by simp)).mono ?_
  rintro e w2 ⟨rfl, b2⟩
  obtain ⟨s1, hs1⟩ : ∃ s, sumB ([[97, 98, 99]] : List (List Int)).flatten = s := ⟨_, rfl⟩
  rw [hs1]
  have H2 := Aside0.mk (H1.out.trans (((below_alloc (below_alloc (Below.refl w1.heap.size w1) (.cells (w8 [97, 98, 99]) 5 (3, 4))) (.cells #[.slice (some ⟨w1.heap.size, 0, none⟩) 3 3] 22)).trans (b2.mono (by simp; omega))).mono H1.out.size))
  clear b2 hr
  have l0 : s0.length = 32 := hs0 ▸ sumB_length _
  have l1 : s1.length = 32 := hs1 ▸ sumB_length _
  have HS := Aside0.mk (And.intro hs0 (And.intro hs1 (And.intro l0 l1)))
  have SZ0 := Aside0.mk (w8_size s0 l0)
  have SZ1 := Aside0.mk (w8_size s1 l1)
  obtain ⟨a, ha⟩ : ∃ a, w2.heap.size = a := ⟨_, rfl⟩
  have g1 : ((w2.alloc (.cells #[.int .u8 0, .int .u8 0, .int .u8 0, .int .u8 0, .int .u8 0, .int .u8 0, .int .u8 0, .int .u8 0, .int .u8 0, .int .u8 0, .int .u8 0, .int .u8 0, .int .u8 0, .int .u8 0, .int .u8 0, .int .u8 0, .int .u8 0, .int .u8 0, .int .u8 0, .int .u8 0, .int .u8 0, .int .u8 0, .int .u8 0, .int .u8 0, .int .u8 0, .int .u8 0, .int .u8 0, .int .u8 0, .int .u8 0, .int .u8 0, .int .u8 0, .int .u8 0] 24)).alloc (.cells #[.int .u8 0, .int .u8 0, .int .u8 0, .int .u8 0, .int .u8 0, .int .u8 0, .int .u8 0, .int .u8 0, .int .u8 0, .int .u8 0, .int .u8 0, .int .u8 0, .int .u8 0, .int .u8 0, .int .u8 0, .int .u8 0, .int .u8 0, .int .u8 0, .int .u8 0, .int .u8 0, .int .u8 0, .int .u8 0, .int .u8 0, .int .u8 0, .int .u8 0, .int .u8 0, .int .u8 0, .int .u8 0, .int .u8 0, .int .u8 0, .int .u8 0, .int .u8 0] 24)).heap[a]? = some (.cells #[.int .u8 0, .int .u8 0, .int .u8 0, .int .u8 0, .int .u8 0, .int .u8 0, .int .u8 0, .int .u8 0, .int .u8 0, .int .u8 0, .int .u8 0, .int .u8 0, .int .u8 0, .int .u8 0, .int .u8 0, .int .u8 0, .int .u8 0, .int .u8 0, .int .u8 0, .int .u8 0, .int .u8 0, .int .u8 0, .int .u8 0, .int .u8 0, .int .u8 0, .int .u8 0, .int .u8 0, .int .u8 0, .int .u8 0, .int .u8 0, .int .u8 0, .int .u8 0] 24 (0, 0)) := by rw [← ha]; exact heap_alloc2_old w2 _ _
  have g2 : ((w2.alloc (.cells #[.int .u8 0, .int .u8 0, .int .u8 0, .int .u8 0, .int .u8 0, .int .u8 0, .int .u8 0, .int .u8 0, .int .u8 0, .int .u8 0, .int .u8 0, .int .u8 0, .int .u8 0, .int .u8 0, .int .u8 0, .int .u8 0, .int .u8 0, .int .u8 0, .int .u8 0, .int .u8 0, .int .u8 0, .int .u8 0, .int .u8 0, .int .u8 0, .int .u8 0, .int .u8 0, .int .u8 0, .int .u8 0, .int .u8 0, .int .u8 0, .int .u8 0, .int .u8 0] 24)).alloc (.cells #[.int .u8 0, .int .u8 0, .int .u8 0, .int .u8 0, .int .u8 0, .int .u8 0, .int .u8 0, .int .u8 0, .int .u8 0, .int .u8 0, .int .u8 0, .int .u8 0, .int .u8 0, .int .u8 0, .int .u8 0, .int .u8 0, .int .u8 0, .int .u8 0, .int .u8 0, .int .u8 0, .int .u8 0, .int .u8 0, .int .u8 0, .int .u8 0, .int .u8 0, .int .u8 0, .int .u8 0, .int .u8 0, .int .u8 0, .int .u8 0, .int .u8 0, .int .u8 0] 24)).heap[a + 1]? = some (.cells #[.int .u8 0, .int .u8 0, .int .u8 0, .int .u8 0, .int .u8 0, .int .u8 0, .int .u8 0, .int .u8 0, .int .u8 0, .int .u8 0, .int .u8 0, .int .u8 0, .int .u8 0, .int .u8 0, .int .u8 0, .int .u8 0, .int .u8 0, .int .u8 0, .int .u8 0, .int .u8 0, .int .u8 0, .int .u8 0, .int .u8 0, .int .u8 0, .int .u8 0, .int .u8 0, .int .u8 0, .int .u8 0, .int .u8 0, .int .u8 0, .int .u8 0, .int .u8 0] 24 (0, 0)) := by rw [← ha]; exact heap_alloc2_new w2 _ _
  have G1 := Aside0.mk g1
  have G2 := Aside0.mk g2
  clear g1 g2 l0 l1 hs0 hs1
  go_upto_region 2 with (first | (refine wpList_store_row rfl 24 (.tmp 1) (.tmp 3) rfl a (w8 s0) (by first | rfl | (rw [← ha]; rfl)) rfl 24 _ G1.out SZ0.out (by simp [w8]; exact HS.out.2.2.1.symm) (w8_all _) ?_) | (refine wpList_store_row rfl 24 (.tmp 2) (.tmp 7) rfl (a + 1) (w8 s1) rfl rfl 24 _ ((setRow_other _ _ _ _ (by omega)).trans G2.out) SZ1.out (by simp [w8]; exact HS.out.2.2.2.symm) (w8_all _) ?_))
  obtain ⟨W4, hW4⟩ : ∃ W4, (((w2.alloc (.cells #[.int .u8 0, .int .u8 0, .int .u8 0, .int .u8 0, .int .u8 0, .int .u8 0, .int .u8 0, .int .u8 0, .int .u8 0, .int .u8 0, .int .u8 0, .int .u8 0, .int .u8 0, .int .u8 0, .int .u8 0, .int .u8 0, .int .u8 0, .int .u8 0, .int .u8 0, .int .u8 0, .int .u8 0, .int .u8 0, .int .u8 0, .int .u8 0, .int .u8 0, .int .u8 0, .int .u8 0, .int .u8 0, .int .u8 0, .int .u8 0, .int .u8 0, .int .u8 0] 24)).alloc (.cells #[.int .u8 0, .int .u8 0, .int .u8 0, .int .u8 0, .int .u8 0, .int .u8 0, .int .u8 0, .int .u8 0, .int .u8 0, .int .u8 0, .int .u8 0, .int .u8 0, .int .u8 0, .int .u8 0, .int .u8 0, .int .u8 0, .int .u8 0, .int .u8 0, .int .u8 0, .int .u8 0, .int .u8 0, .int .u8 0, .int .u8 0, .int .u8 0, .int .u8 0, .int .u8 0, .int .u8 0, .int .u8 0, .int .u8 0, .int .u8 0, .int .u8 0, .int .u8 0] 24)).setRow a (w8 s0)).setRow (a + 1) (w8 s1) = W4 := ⟨_, rfl⟩
  have b1 : W4.heap[a]? = some (.cells (w8 s0) 24 (0, 0)) := by rw [← hW4]; exact (setRow_other _ _ _ _ (by omega)).trans (setRow_heap _ _ _ _ _ _ G1.out)
  have b2 : W4.heap[a + 1]? = some (.cells (w8 s1) 24 (0, 0)) := by rw [← hW4]; exact setRow_heap _ _ _ _ _ _ ((setRow_other _ _ _ _ (by omega)).trans G2.out)
  have B4 : Below w.heap.size w W4 := by
    have h := H2.out.size
    rw [ha] at h
    rw [← hW4]; exact below_setRow (below_setRow ((H2.out.alloc H2.out.size _).alloc (by simp; have := H2.out.size; omega) _) h _) (by omega) _
  rw [hW4]
  have x0 : W4.cell? ⟨a, 0, none⟩ = some (.int .u8 105) := by rw [w8_cell b1 0 (by rw [HS.out.2.2.1]; decide), ← HS.out.1, show ([] : List (List Int)).flatten = [] from rfl, sum_nil]; rfl
  have x1 : W4.cell? ⟨a, 1, none⟩ = some (.int .u8 33) := by rw [w8_cell b1 1 (by rw [HS.out.2.2.1]; decide), ← HS.out.1, show ([] : List (List Int)).flatten = [] from rfl, sum_nil]; rfl
  have x2 : W4.cell? ⟨a, 31, none⟩ = some (.int .u8 249) := by rw [w8_cell b1 31 (by rw [HS.out.2.2.1]; decide), ← HS.out.1, show ([] : List (List Int)).flatten = [] from rfl, sum_nil]; rfl
  have y0 : W4.cell? ⟨a + 1, 0, none⟩ = some (.int .u8 80) := by rw [w8_cell b2 0 (by rw [HS.out.2.2.2]; decide), ← HS.out.2.1, show ([[97, 98, 99]] : List (List Int)).flatten = [97, 98, 99] from rfl, sum_abc]; rfl
  have y1 : W4.cell? ⟨a + 1, 1, none⟩ = some (.int .u8 140) := by rw [w8_cell b2 1 (by rw [HS.out.2.2.2]; decide), ← HS.out.2.1, show ([[97, 98, 99]] : List (List Int)).flatten = [97, 98, 99] from rfl, sum_abc]; rfl
  have y2 : W4.cell? ⟨a + 1, 31, none⟩ = some (.int .u8 130) := by rw [w8_cell b2 31 (by rw [HS.out.2.2.2]; decide), ← HS.out.2.1, show ([[97, 98, 99]] : List (List Int)).flatten = [97, 98, 99] from rfl, sum_abc]; rfl
  have HB := Aside0.mk B4
  clear hW4 b1 b2 B4 ha H1 H2 G1 G2 SZ0 SZ1 HS kc
  go_wp2_with fail
  go_ret
  exact ⟨rfl, HB.out⟩
end Go.Proofs.Ytokadjfakncdfaa
