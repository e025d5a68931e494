/- blake: Sum. -/
import Derived.Test.YtokadjfakncdfaaB5
import Derived.Test.YtokadjfakncdfaaB7
set_option linter.unusedVariables false
set_option linter.unusedSimpArgs false
namespace Go.Proofs.Ytokadjfakncdfaa
open Go.RowKit Go.Proofs.YtokadjfakncdfaaW.PrintWords Go.Proofs.YtokadjfakncdfaaW.PrintLast Go.Proofs.YtokadjfakncdfaaW.PrintMore
attribute [local go_sem] Oper.semAt_some

theorem eight (l : List Int) (h : l.length = 8) : ∃ a b c d e f g i, l = [a, b, c, d, e, f, g, i] := by
  match l, h with
  | [a, b, c, d, e, f, g, i], _ => exact ⟨a, b, c, d, e, f, g, i, rfl⟩
theorem stateAt_length (all : List Int) : ∀ k, (stateAt all k).length = 8
  | 0 => rfl
  | k + 1 => by simp [stateAt, takeB]
theorem takenAt_le (all : List Int) (k : Nat) : takenAt all k ≤ all.length := by unfold takenAt; omega
theorem word_index (e0 e1 e2 e3 e4 e5 e6 e7 : Int) (i : Nat) (hi : i < 8) (w : World) : (Instr.index 76 (.agg #[.int .u32 e0, .int .u32 e1, .int .u32 e2, .int .u32 e3, .int .u32 e4, .int .u32 e5, .int .u32 e6, .int .u32 e7]) (.int .i64 i)).run Try.prog w = .ok (.int .u32 ([e0, e1, e2, e3, e4, e5, e6, e7].getD i 0)) w := by
  have h : i = 0 ∨ i = 1 ∨ i = 2 ∨ i = 3 ∨ i = 4 ∨ i = 5 ∨ i = 6 ∨ i = 7 := by omega
  rcases h with rfl | rfl | rfl | rfl | rfl | rfl | rfl | rfl <;> (refine Eq.trans ?_ rfl; kernel_rfl)

theorem out_slice (p i : Nat) (hi : i < 8) (w : World) : (Instr.sliceAt 24 (.pointer (some ⟨p, 0, none⟩)) (some (.int .i64 (4 * (i : Int)))) none none).run Try.prog w = .ok (.slice (some ⟨p, 4 * i, none⟩) (32 - 4 * i) (32 - 4 * i)) w := by
  have h : i = 0 ∨ i = 1 ∨ i = 2 ∨ i = 3 ∨ i = 4 ∨ i = 5 ∨ i = 6 ∨ i = 7 := by omega
  rcases h with rfl | rfl | rfl | rfl | rfl | rfl | rfl | rfl <;> (refine Eq.trans ?_ rfl; kernel_rfl)
/-- Four bytes are laid over a row. -/
theorem fillTo_four (f : Nat → Int) (i : Nat) (hi : i < 8) :
    (fillTo 32 f (fun _ => 0) (4 * i)).take (4 * i) ++ [f (4 * i), f (4 * i + 1), f (4 * i + 2), f (4 * i + 3)] ++ (fillTo 32 f (fun _ => 0) (4 * i)).drop (4 * i + 4) = fillTo 32 f (fun _ => 0) (4 * (i + 1)) := by
  refine List.ext_getElem? fun j => ?_
  by_cases h1 : j < 4 * i
  · rw [List.append_assoc, List.getElem?_append_left (by simp [fillTo]; omega), List.getElem?_take, if_pos h1]
    have e1 : ∀ n, j < n → (fillTo 32 f (fun _ => 0) n)[j]? = some (f j) := fun n hn => by simp [fillTo, show j < 32 by omega, hn]
    rw [e1 _ h1, e1 _ (by omega)]
  · by_cases h2 : j < 4 * i + 4
    · obtain ⟨d, rfl⟩ : ∃ d, j = 4 * i + d := ⟨j - 4 * i, by omega⟩
      have e1 : (fillTo 32 f (fun _ => 0) (4 * (i + 1)))[4 * i + d]? = some (f (4 * i + d)) := by simp [fillTo, show 4 * i + d < 32 by omega, show 4 * i + d < 4 * (i + 1) by omega]
      rw [e1, List.append_assoc, List.getElem?_append_right (by simp [fillTo]; omega)]
      have e2 : ((fillTo 32 f (fun _ => 0) (4 * i)).take (4 * i)).length = 4 * i := by simp [fillTo]; omega
      rw [e2, Nat.add_sub_cancel_left, List.getElem?_append_left (by simp; omega)]
      have h4 : d = 0 ∨ d = 1 ∨ d = 2 ∨ d = 3 := by omega
      rcases h4 with rfl | rfl | rfl | rfl <;> rfl
    · rw [List.getElem?_append_right (by simp [fillTo]; omega)]
      have e2 : ((fillTo 32 f (fun _ => 0) (4 * i)).take (4 * i) ++ [f (4 * i), f (4 * i + 1), f (4 * i + 2), f (4 * i + 3)]).length = 4 * i + 4 := by simp [fillTo]; omega
      rw [e2, List.getElem?_drop, show 4 * i + 4 + (j - (4 * i + 4)) = j by omega]
      by_cases h3 : j < 32
      · simp [fillTo, h3, h1, show ¬ j < 4 * (i + 1) by omega]
      · simp [fillTo, h3]
theorem outB_getD (h : List Int) (j : Nat) (hj : j < 32) : (outB h).getD j 0 = h.getD (j / 4) 0 / 2 ^ (8 * (j % 4)) % 256 := range_getD _ 32 j hj

/-- Where Sum stands between two rounds. -/
structure SI (w : World) (g b3 b4 : Nat) (sl : Value) (s : List Int) (W : World) : Prop where
  H : W.heap[b4]? = some (.cells (w32 s) 76 (0, 0))
  D : W.heap[b3]? = some (.cells #[sl] 22 (0, 0))
  O : W.heap[g]? = some (.cells (w8 (List.replicate 32 0)) 24 (0, 0))
  B : Below g w W
  S : b4 + 2 ≤ W.heap.size
theorem SI.own {w : World} {g b3 b4 : Nat} {sl : Value} (s : List (Nat × Nat) → List Int) (hg : g ≤ b4) : OwnFrom (b4 + 2) (fun pre W => SI w g b3 b4 sl (s pre) W) := by
  rintro pre W W' row ⟨h1, h2, h3, h4, h5⟩ hgr hr
  have hr' : ∀ r, row = some r → ∃ o : Obj, W.heap[r]? = some o ∧ o.isCells = false := fun r e => (hr r e).2
  exact ⟨blk_own h1 hgr hr', blk_own h2 hgr hr', blk_own h3 hgr hr', h4.grown hgr (by omega) (fun k e => by have := (hr k e).1; omega), Nat.le_trans h5 hgr.size⟩

set_option maxRecDepth 100000 in
set_option maxHeartbeats 4000000 in
theorem sum_calls (A : Option Addr) (c : Nat) (xss : List (List Int)) (w : World) (hC : (Kd.slice 5 (Kd.int .u8)).C w A xss.length xss) (hl : xss.flatten.length ≤ 100000) (hn : xss.length ≤ 100000) :
    Calls Try.prog 15 #[.slice A xss.length c] w fun e w' => e = .returned (.agg (w8 (sumB xss.flatten))) ∧ Below w.heap.size w w' := by
  have HC := Aside0.mk hC
  have HL := Aside0.mk (And.intro hl hn)
  obtain ⟨all, hall⟩ : ∃ all, xss.flatten = all := ⟨_, rfl⟩
  rw [hall] at hl HL ⊢
  have HA := Aside0.mk hall
  clear hC hn hall
  refine (callsIn_wide (n := 5)).1 ?_
  refine callsIn_of_wp_marks Try.func15 rfl trivial ?_ rfl
  simp only [Try.ntmps15, List.size_toArray, List.length_cons, List.length_nil, Nat.reduceAdd, Nat.reduceSub, Array.replicate_succ, Array.replicate_zero, List.push_toArray, List.append_toArray, List.nil_append, List.cons_append]
  refine wpIn_wide.2 ?_
  go_wp2_with fail
  obtain ⟨W0, hW0⟩ : ∃ W0, w.alloc (.cells #[.int .u8 0, .int .u8 0, .int .u8 0, .int .u8 0, .int .u8 0, .int .u8 0, .int .u8 0, .int .u8 0, .int .u8 0, .int .u8 0, .int .u8 0, .int .u8 0, .int .u8 0, .int .u8 0, .int .u8 0, .int .u8 0, .int .u8 0, .int .u8 0, .int .u8 0, .int .u8 0, .int .u8 0, .int .u8 0, .int .u8 0, .int .u8 0, .int .u8 0, .int .u8 0, .int .u8 0, .int .u8 0, .int .u8 0, .int .u8 0, .int .u8 0, .int .u8 0] 24) = W0 := ⟨_, rfl⟩
  obtain ⟨g, hg⟩ : ∃ g, w.heap.size = g := ⟨_, rfl⟩
  rw [hW0, hg]
  have B0 : Below g w W0 := by rw [← hW0, ← hg]; exact below_alloc (Below.refl _ _) _
  have O0 : W0.heap[g]? = some (.cells (w8 (List.replicate 32 0)) 24 (0, 0)) := by rw [← hW0, ← hg]; exact heap_alloc_new w _
  have S0 : W0.heap.size = g + 1 := by rw [← hW0, World.size_alloc, hg]
  have K0 := Aside0.mk (And.intro B0 (And.intro O0 (And.intro S0 hg)))
  clear hW0 hg B0 O0 S0
  refine (concat_calls A c xss W0 (Kd.C_below HC.out (K0.out.1.mono (by rw [K0.out.2.2.2]; exact Nat.le_refl _))) (by rw [HA.out]; exact HL.out.1) HL.out.2).mono ?_
  rintro e w1 ⟨v, rfl, ho, hb⟩
  rw [HA.out] at ho
  obtain ⟨A1, c1, rfl⟩ := Kd.R_slice ho
  have HO := Aside0.mk ho
  have H1 := Aside0.mk hb
  clear ho hb
  go_wp2_with fail
  refine (start_lit _).mono ?_
  rintro e w2 ⟨rfl, hw2⟩
  obtain ⟨b3, hb3⟩ : ∃ b3, w1.heap.size = b3 := ⟨_, rfl⟩
  have D3 : w2.heap[b3]? = some (.cells #[.slice A1 all.length c1] 22 (0, 0)) := by
    rw [hw2, ← hb3]; exact (Below.heap_alloc _ _ _ (by simp)).trans (heap_alloc_new w1 _)
  have B2 : Below b3 w1 w2 := by rw [hw2, ← hb3]; exact below_alloc (below_alloc (Below.refl _ _) _) _
  have S2 : b3 < w2.heap.size := by rw [hw2]; simp; omega
  have K2 := Aside0.mk (And.intro D3 (And.intro B2 (And.intro S2 hb3)))
  rw [hb3]
  have c3 := cell_of_one D3
  have ne3 : b3 ≠ w2.heap.size := by omega
  clear hw2 D3 B2 hb3
  go_wp2_with fail
  refine (blocks_calls A1 all.length c1 _).mono ?_
  rintro e w4 ⟨rfl, hw4⟩
  obtain ⟨b4, hb4⟩ : ∃ b4, w2.heap.size = b4 := ⟨_, rfl⟩
  have H4 : w4.heap[b4]? = some (.cells (w32 start0) 76 (0, 0)) := by
    rw [hw4, ← hb4]; exact (Below.heap_alloc _ _ _ (by simp)).trans (heap_alloc_new w2 _)
  have X4 : w4.heap[b4 + 1]? = some (.cells #[.slice A1 all.length c1] 22 (0, 0)) := by
    rw [hw4, ← hb4]
    have := heap_alloc_new (w2.alloc (.cells (w32 start0) 76)) (.cells #[.slice A1 all.length c1] 22)
    rwa [World.size_alloc] at this
  have B24 : Below b4 w2 w4 := by rw [hw4, ← hb4]; exact below_alloc (below_alloc (Below.refl _ _) _) _
  have S4 : w4.heap.size = b4 + 2 := by rw [hw4]; simp [hb4]
  have hs : (w2.alloc (.cells #[.int .u32 (bits .xor .u32 1779033703 16842784), .int .u32 3144134277, .int .u32 1013904242, .int .u32 2773480762, .int .u32 1359893119, .int .u32 2600822924, .int .u32 528734635, .int .u32 1541459225] 76)).heap.size = b4 + 1 := by simp [hb4]
  rw [hs, hb4]
  rw [hb4] at S2 ne3
  have hg3 : g + 1 ≤ b3 := by
    have h1 := H1.out.size
    have h2 := K2.out.2.2.2
    have h3 := K0.out.2.2.1
    omega
  have B14 : Below b3 w1 w4 := K2.out.2.1.trans (B24.mono (by omega))
  have D4 : w4.heap[b3]? = some (.cells #[.slice A1 all.length c1] 22 (0, 0)) := (B24.block b3 (by omega)).trans K2.out.1
  have B04 : Below (g + 1) W0 w4 := (K0.out.2.2.1 ▸ H1.out).trans (B14.mono hg3)
  have O4 : w4.heap[g]? = some (.cells (w8 (List.replicate 32 0)) 24 (0, 0)) := (B04.block g (by omega)).trans K0.out.2.1
  have B4 : Below g w w4 := K0.out.1.trans (B04.mono (by omega))
  have R4 : Kd.R (Kd.int .u8) 5 w4 W0.heap.size (fun k => k < w4.heap.size ∧ k ≠ b4) (.slice A1 all.length c1) all := by
    have r1 := Kd.R_bound HO.out
    have r2 := Kd.R_move r1 (w1 := w4) (fun k hk => B14.block k (by have := hk.2.2.1; have := K2.out.2.2.2; omega))
    exact Kd.R_mono r2 (fun k hk => by have := hk.2.2.1; have := K2.out.2.2.2; omega)
  have KK := Aside0.mk (And.intro H4 (And.intro X4 (And.intro D4 (And.intro O4 (And.intro B4 (And.intro R4 S4))))))
  clear hw4 H4 X4 B24 S4 hs B14 D4 B04 O4 B4 R4 c3 K2 HO H1 hb4
  go_wp2_with fail
  have hseq := blocks1_seq 4 (by omega) all A1 c1 w4 (b4 + 1) b4 W0.heap.size KK.out.2.1 (by omega) KK.out.2.2.2.2.2.1 hl
  refine (wpIn_wide (n := 5)).1 ?_
  refine wpIn_range_rd rfl (by omega) (gf := 96) (lb := #[.pointer (some ⟨b4 + 1, 0, none⟩)]) rfl trivial (enters_of Try.func96 (by kernel_rfl) rfl) hseq ?hrd
    (fun h k => blkKp.trans h k) ?kb (Below.refl _ _) (fun _ => rfl) (fun pre W => SI w g b3 b4 (.slice A1 all.length c1) (stateAt all pre.length) W) (by rw [KK.out.2.2.2.2.2.2]; exact SI.own (fun pre => stateAt all pre.length) (by omega)) ?start
    (fun x => { tmps := #[.slice A xss.length c, undef, .pointer (some ⟨g, 0, none⟩), .pointer (some ⟨b3, 0, none⟩), .pointer (some ⟨b4, 0, none⟩), .int .i64 (takenAt all x.1), .slice (some ⟨x.2, 0, none⟩) 64 64, undef, undef, undef, .slice A xss.length c, .slice A1 all.length c1, .agg #[.int .u32 1779033703, .int .u32 3144134277, .int .u32 1013904242, .int .u32 2773480762, .int .u32 1359893119, .int .u32 2600822924, .int .u32 528734635, .int .u32 1541459225], .pointer (some ⟨b4, 0, none⟩), .int .u32 1779033703, .int .u32 (bits .xor .u32 1779033703 16842784), .pointer (some ⟨b4, 0, none⟩), .slice A1 all.length c1, .func (.func 96) #[] #[.pointer (some ⟨b4 + 1, 0, none⟩)], .int .i64 (takenAt all x.1), .slice (some ⟨x.2, 0, none⟩) 64 64, undef, undef, undef, undef, undef, undef, undef, undef, undef, undef, undef, undef, undef, undef, undef, undef, undef, undef, undef, undef, undef, undef, undef, undef, undef, undef, undef, undef, undef, undef, undef, undef], defers := [] }) ?assign ?body ?done
  case hrd =>
    rintro pre x W l o o' ⟨r1, r2, r3⟩ hl' hc'
    refine ⟨r1, r2, (World.putObj_heap_other (fun e => ?_)).trans r3⟩
    rw [e] at r3
    rw [r3] at hl'
    cases hl'
    cases hc'
  case kb =>
    intro W l o o' hle hl' hc' hw'
    have := KK.out.2.2.2.2.2.2
    exact ⟨by simp [World.putObj], fun i h1 h2 => World.putObj_heap_other (by omega)⟩
  case start => exact ⟨KK.out.1, KK.out.2.2.1, KK.out.2.2.2.1, KK.out.2.2.2.2.1, by rw [KK.out.2.2.2.2.2.2]; exact Nat.le_refl _⟩
  case assign =>
    intro l x W K hK
    unfold blkEnc
    gi_wp2
    exact hK
  case body =>
    rintro l pre ⟨k, gb⟩ W ⟨i1, i2, i3, i4, i5⟩ ⟨rk, rn, rb⟩
    dsimp only at rk rn rb
    subst rk
    obtain ⟨e0, e1, e2, e3, e4, e5, e6, e7, he⟩ := eight _ (stateAt_length all pre.length)
    obtain ⟨T, hT⟩ : ∃ T, takenAt all pre.length = T := ⟨_, rfl⟩
    have hTl : T ≤ all.length := hT ▸ takenAt_le _ _
    obtain ⟨lb, hlb⟩ : ∃ lb : Bool, ((T : Int) == (all.length : Int)) = lb := ⟨_, rfl⟩
    have hlb2 : decide (T = all.length) = lb := by
      rw [← hlb]
      by_cases h : T = all.length
      · simp [h]
      · have h' : ¬ ((T : Int) = (all.length : Int)) := by omega
        simp [h, h']
    obtain ⟨f0, f1, f2, f3, f4, f5, f6, f7, hf⟩ := eight (takeB [e0, e1, e2, e3, e4, e5, e6, e7] (words16 (blockAt all pre.length)) T lb) (by simp [takeB])
    have hst : stateAt all (pre.length + 1) = [f0, f1, f2, f3, f4, f5, f6, f7] := by rw [← hf, ← he, ← hT, ← hlb2, ← hT]; rfl
    have tk := take_calls e0 e1 e2 e3 e4 e5 e6 e7 (blockAt all pre.length) (by simp [blockAt]) gb T (by omega) lb W rb
    rw [hf] at tk
    rw [he] at i1
    have TK := Aside0.mk tk
    have HST := Aside0.mk hst
    have k0 : W.cell? ⟨b4, 0, none⟩ = some (.int .u32 e0) := w32_cell i1 0 (by simp)
    have k1 : W.cell? ⟨b4, 1, none⟩ = some (.int .u32 e1) := w32_cell i1 1 (by simp)
    have k2 : W.cell? ⟨b4, 2, none⟩ = some (.int .u32 e2) := w32_cell i1 2 (by simp)
    have k3 : W.cell? ⟨b4, 3, none⟩ = some (.int .u32 e3) := w32_cell i1 3 (by simp)
    have k4 : W.cell? ⟨b4, 4, none⟩ = some (.int .u32 e4) := w32_cell i1 4 (by simp)
    have k5 : W.cell? ⟨b4, 5, none⟩ = some (.int .u32 e5) := w32_cell i1 5 (by simp)
    have k6 : W.cell? ⟨b4, 6, none⟩ = some (.int .u32 e6) := w32_cell i1 6 (by simp)
    have k7 : W.cell? ⟨b4, 7, none⟩ = some (.int .u32 e7) := w32_cell i1 7 (by simp)
    have kd := cell_of_one i2
    have II := Aside0.mk (And.intro i1 (And.intro i2 (And.intro i3 (And.intro i4 i5))))
    have HW4 := Aside0.mk hseq
    clear i1 i2 i3 i4 i5 tk hst rb he hf hlb2 hseq
    dsimp only
    rw [hT]
    clear hT
    gi_wp2_with fail
    refine ⟨trivial, (CallsIn.inRound l (callsIn_wide.2 TK.out)).mono ?_⟩
    rintro e W5 ⟨rfl, b5⟩
    have hlt4 : b4 < W.heap.size := by have := II.out.2.2.2.2; omega
    have H5 : W5.heap[b4]? = some (.cells (w32 [e0, e1, e2, e3, e4, e5, e6, e7]) 76 (0, 0)) := (b5.block b4 hlt4).trans II.out.1
    have BB := Aside0.mk b5
    have HH := Aside0.mk H5
    have hst5 : (storeCells ⟨b4, 0, none⟩ (w32 [f0, f1, f2, f3, f4, f5, f6, f7]).toList).run Try.prog W5 = .ok () (W5.setRow b4 (w32 [f0, f1, f2, f3, f4, f5, f6, f7])) := by
      have := run_storeCells_from (P := Try.prog) b4 76 (w32 [f0, f1, f2, f3, f4, f5, f6, f7]).toList 0 (w32 [e0, e1, e2, e3, e4, e5, e6, e7]) W5 H5 rfl (by simp [w32, Value.oneCell'])
      rw [this]
      rfl
    have hz8 : (w32 [f0, f1, f2, f3, f4, f5, f6, f7]).size = 8 := rfl
    clear b5 H5 TK kd hlb k0 k1 k2 k3 k4 k5 k6 k7
    gi_wp2_with fail
    have hK4 : W5.grownBy (W5.setRow b4 (w32 [f0, f1, f2, f3, f4, f5, f6, f7])) (some b4) := ⟨rfl, rfl, rfl, by simp [World.setRow], fun i hi hne => setRow_other _ _ _ _ (fun e => hne (by rw [e]))⟩
    obtain ⟨i1, i2, i3, i4, i5⟩ := II.out
    have hko : KeepsOthers W (W5.setRow b4 (w32 [f0, f1, f2, f3, f4, f5, f6, f7])) := (KeepsOthers.of_grownBy (grown_of_below BB.out none) (fun _ _ e => by cases e)).trans (KeepsOthers.of_grownBy hK4 (fun j o e ho => by cases e; rw [HH.out] at ho; cases ho; rfl))
    refine ⟨hko, ⟨Nat.le_trans BB.out.size hK4.size, fun i h1 h2 => ?_⟩, ?_⟩
    · rw [KK.out.2.2.2.2.2.2] at h1
      exact (setRow_other _ _ _ _ h2).trans (BB.out.block i (by omega))
    · refine ⟨?_, (setRow_other _ _ _ _ (by omega)).trans ((BB.out.block b3 (by omega)).trans i2), (setRow_other _ _ _ _ (by omega)).trans ((BB.out.block g (by omega)).trans i3), below_setRow (i4.trans (BB.out.mono (by omega))) (by omega) _, Nat.le_trans i5 (Nat.le_trans BB.out.size hK4.size)⟩
      rw [List.length_append, List.length_singleton, HST.out]
      exact setRow_heap _ _ _ _ _ _ HH.out
  case done =>
    rintro D xs W hD hS ⟨i1, i2, i3, i4, i5⟩ hK
    have hxl : xs.length = blockN all := by
      have := congrArg List.length hS
      simpa using this
    rw [hxl] at i1
    rw [KK.out.2.2.2.2.2.2] at hD
    obtain ⟨e0, e1, e2, e3, e4, e5, e6, e7, he⟩ := eight _ (stateAt_length all (blockN all))
    rw [he] at i1
    have HE := Aside0.mk he
    have k0 : W.cell? ⟨b4, 0, none⟩ = some (.int .u32 e0) := w32_cell i1 0 (by simp)
    have k1 : W.cell? ⟨b4, 1, none⟩ = some (.int .u32 e1) := w32_cell i1 1 (by simp)
    have k2 : W.cell? ⟨b4, 2, none⟩ = some (.int .u32 e2) := w32_cell i1 2 (by simp)
    have k3 : W.cell? ⟨b4, 3, none⟩ = some (.int .u32 e3) := w32_cell i1 3 (by simp)
    have k4 : W.cell? ⟨b4, 4, none⟩ = some (.int .u32 e4) := w32_cell i1 4 (by simp)
    have k5 : W.cell? ⟨b4, 5, none⟩ = some (.int .u32 e5) := w32_cell i1 5 (by simp)
    have k6 : W.cell? ⟨b4, 6, none⟩ = some (.int .u32 e6) := w32_cell i1 6 (by simp)
    have k7 : W.cell? ⟨b4, 7, none⟩ = some (.int .u32 e7) := w32_cell i1 7 (by simp)
    have hb4W : b4 < W.heap.size := by omega
    have hneW : b4 ≠ W.heap.size := by omega
    have II := Aside0.mk (And.intro i3 (And.intro i4 (And.intro i5 hK)))
    clear i1 i2 i3 i4 i5 hK hS hxl he hseq
    go_wp2_with fail
    obtain ⟨p, hp⟩ : ∃ p, W.heap.size = p := ⟨_, rfl⟩
    have hpD : D < p := by rw [← hp]; exact lt_of_block II.out.2.2.2
    have hpg : g + 1 ≤ p := by omega
    have hP : (W.alloc (.cells #[.int .u8 0, .int .u8 0, .int .u8 0, .int .u8 0, .int .u8 0, .int .u8 0, .int .u8 0, .int .u8 0, .int .u8 0, .int .u8 0, .int .u8 0, .int .u8 0, .int .u8 0, .int .u8 0, .int .u8 0, .int .u8 0, .int .u8 0, .int .u8 0, .int .u8 0, .int .u8 0, .int .u8 0, .int .u8 0, .int .u8 0, .int .u8 0, .int .u8 0, .int .u8 0, .int .u8 0, .int .u8 0, .int .u8 0, .int .u8 0, .int .u8 0, .int .u8 0] 24)).heap[p]? = some (.cells (w8 (fillTo 32 (fun j => (outB [e0, e1, e2, e3, e4, e5, e6, e7]).getD j 0) (fun _ => 0) (4 * 0))) 24 (0, 0)) := by rw [← hp]; exact heap_alloc_new W _
    have O1 : (W.alloc (.cells #[.int .u8 0, .int .u8 0, .int .u8 0, .int .u8 0, .int .u8 0, .int .u8 0, .int .u8 0, .int .u8 0, .int .u8 0, .int .u8 0, .int .u8 0, .int .u8 0, .int .u8 0, .int .u8 0, .int .u8 0, .int .u8 0, .int .u8 0, .int .u8 0, .int .u8 0, .int .u8 0, .int .u8 0, .int .u8 0, .int .u8 0, .int .u8 0, .int .u8 0, .int .u8 0, .int .u8 0, .int .u8 0, .int .u8 0, .int .u8 0, .int .u8 0, .int .u8 0] 24)).heap[g]? = some (.cells (w8 (List.replicate 32 0)) 24 (0, 0)) := (Below.heap_alloc _ _ _ (by omega)).trans II.out.1
    have D1 : (W.alloc (.cells #[.int .u8 0, .int .u8 0, .int .u8 0, .int .u8 0, .int .u8 0, .int .u8 0, .int .u8 0, .int .u8 0, .int .u8 0, .int .u8 0, .int .u8 0, .int .u8 0, .int .u8 0, .int .u8 0, .int .u8 0, .int .u8 0, .int .u8 0, .int .u8 0, .int .u8 0, .int .u8 0, .int .u8 0, .int .u8 0, .int .u8 0, .int .u8 0, .int .u8 0, .int .u8 0, .int .u8 0, .int .u8 0, .int .u8 0, .int .u8 0, .int .u8 0, .int .u8 0] 24)).heap[D]? = some (.deferred (some [])) := (Below.heap_alloc _ _ _ (by omega)).trans II.out.2.2.2
    have B1 : Below g w (W.alloc (.cells #[.int .u8 0, .int .u8 0, .int .u8 0, .int .u8 0, .int .u8 0, .int .u8 0, .int .u8 0, .int .u8 0, .int .u8 0, .int .u8 0, .int .u8 0, .int .u8 0, .int .u8 0, .int .u8 0, .int .u8 0, .int .u8 0, .int .u8 0, .int .u8 0, .int .u8 0, .int .u8 0, .int .u8 0, .int .u8 0, .int .u8 0, .int .u8 0, .int .u8 0, .int .u8 0, .int .u8 0, .int .u8 0, .int .u8 0, .int .u8 0, .int .u8 0, .int .u8 0] 24)) := II.out.2.1.alloc (by omega) _
    have JJ := Aside0.mk (And.intro hP (And.intro O1 (And.intro D1 B1)))
    rw [hp]
    clear hP O1 D1 B1 hp k0 k1 k2 k3 k4 k5 k6 k7
    go_loopg [31] 8 (fun kk v31 wr => ∃ i : Nat, i + kk = 8 ∧ v31 = .int .i64 i ∧ Aside0 (wr.heap[p]? = some (.cells (w8 (fillTo 32 (fun j => (outB [e0, e1, e2, e3, e4, e5, e6, e7]).getD j 0) (fun _ => 0) (4 * i))) 24 (0, 0)) ∧ wr.heap[g]? = some (.cells (w8 (List.replicate 32 0)) 24 (0, 0)) ∧ wr.heap[D]? = some (.deferred (some [])) ∧ Below g w wr))
    case atStart => exact ⟨0, by omega, rfl, JJ⟩
    case round =>
      clear JJ II
      obtain ⟨i, hi, rfl, HT⟩ := hrel
      by_cases hlt : i < 8
      · have hidx := fun W => word_index e0 e1 e2 e3 e4 e5 e6 e7 i hlt W
        obtain ⟨y, hy⟩ : ∃ y, [e0, e1, e2, e3, e4, e5, e6, e7].getD i 0 = y := ⟨_, rfl⟩
        simp only [hy] at hidx
        obtain ⟨q, hq⟩ : ∃ q, wr.heap.size = q := ⟨_, rfl⟩
        have hpq : p < q := by rw [← hq]; exact lt_of_block HT.out.1
        obtain ⟨W2, hW2⟩ : ∃ W2, wr.alloc (.cells #[.int .u8 (y % 256), .int .u8 (y / 256 % 256), .int .u8 (y / 65536 % 256), .int .u8 (y / 16777216 % 256)] 5) = W2 := ⟨_, rfl⟩
        have Q2 : W2.heap[q]? = some (.cells (w8 [y % 256, y / 256 % 256, y / 65536 % 256, y / 16777216 % 256]) 5 (0, 0)) := by rw [← hW2, ← hq]; exact heap_alloc_new wr _
        have P2 : W2.heap[p]? = some (.cells (w8 (fillTo 32 (fun j => (outB [e0, e1, e2, e3, e4, e5, e6, e7]).getD j 0) (fun _ => 0) (4 * i))) 24 (0, 0)) := by rw [← hW2]; exact (Below.heap_alloc _ _ _ (by omega)).trans HT.out.1
        have hr := run_copy_row (P := Try.prog) W2 22 22 3 5 p (4 * i) (32 - 4 * i) (32 - 4 * i) ⟨q, 0, none⟩ 4 4 _ 24 ([y % 256, y / 256 % 256, y / 65536 % 256, y / 16777216 % 256].map (Value.int .u8)) Try.underlying22 size5 P2 (Nat.min_eq_left (show 4 ≤ 32 - 4 * i by omega)).symm
          (fun j v hv => by rw [add_plain, blk_cell Q2 j]; simpa [w8] using hv) (by simp [w8, fillTo]; omega) (fun v hv => by
            obtain ⟨x, _, rfl⟩ := List.mem_map.1 hv
            rfl)
        have hsl := fun W => out_slice p i hlt W
        have q0 : (outB [e0, e1, e2, e3, e4, e5, e6, e7]).getD (4 * i) 0 = y % 256 := by rw [outB_getD _ _ (by omega), show 4 * i / 4 = i by omega, show 4 * i % 4 = 0 by omega, hy]; simp
        have q1 : (outB [e0, e1, e2, e3, e4, e5, e6, e7]).getD (4 * i + 1) 0 = y / 256 % 256 := by rw [outB_getD _ _ (by omega), show (4 * i + 1) / 4 = i by omega, show (4 * i + 1) % 4 = 1 by omega, hy]; rfl
        have q2 : (outB [e0, e1, e2, e3, e4, e5, e6, e7]).getD (4 * i + 2) 0 = y / 65536 % 256 := by rw [outB_getD _ _ (by omega), show (4 * i + 2) / 4 = i by omega, show (4 * i + 2) % 4 = 2 by omega, hy]; rfl
        have q3 : (outB [e0, e1, e2, e3, e4, e5, e6, e7]).getD (4 * i + 3) 0 = y / 16777216 % 256 := by rw [outB_getD _ _ (by omega), show (4 * i + 3) / 4 = i by omega, show (4 * i + 3) % 4 = 3 by omega, hy]; rfl
        obtain ⟨f, hf⟩ : ∃ f : Nat → Int, (fun j => (outB [e0, e1, e2, e3, e4, e5, e6, e7]).getD j 0) = f := ⟨_, rfl⟩
        have ff : ∀ j, (outB [e0, e1, e2, e3, e4, e5, e6, e7]).getD j 0 = f j := fun j => by rw [← hf]
        rw [hf] at hr P2
        have HT2 := HT.out.2
        have ew : ((w8 (fillTo 32 f (fun _ => 0) (4 * i))).toList.take (4 * i) ++ [y % 256, y / 256 % 256, y / 65536 % 256, y / 16777216 % 256].map (Value.int .u8) ++ (w8 (fillTo 32 f (fun _ => 0) (4 * i))).toList.drop (4 * i + ([y % 256, y / 256 % 256, y / 65536 % 256, y / 16777216 % 256].map (Value.int .u8)).length)).toArray = w8 (fillTo 32 f (fun _ => 0) (4 * (i + 1))) := by
          rw [← fillTo_four f i hlt, ← ff, ← ff, ← ff, ← ff, q0, q1, q2, q3]
          simp [w8, List.map_take, List.map_drop]
        rw [ew] at hr
        obtain ⟨W3, hW3⟩ : ∃ W3, W2.setRow p (w8 (fillTo 32 f (fun _ => 0) (4 * (i + 1)))) = W3 := ⟨_, rfl⟩
        rw [hW3] at hr
        have P3 : W3.heap[p]? = some (.cells (w8 (fillTo 32 (fun j => (outB [e0, e1, e2, e3, e4, e5, e6, e7]).getD j 0) (fun _ => 0) (4 * (i + 1)))) 24 (0, 0)) := by
          rw [hf, ← hW3]; exact setRow_heap _ _ _ _ _ _ P2
        have O3 : W3.heap[g]? = some (.cells (w8 (List.replicate 32 0)) 24 (0, 0)) := by
          rw [← hW3, ← hW2]; exact (setRow_other _ _ _ _ (by omega)).trans ((Below.heap_alloc _ _ _ (by omega)).trans HT2.1)
        have D3 : W3.heap[D]? = some (.deferred (some [])) := by
          rw [← hW3, ← hW2]; exact (setRow_other _ _ _ _ (by omega)).trans ((Below.heap_alloc _ _ _ (by omega)).trans HT2.2.1)
        have B3 : Below g w W3 := by
          rw [← hW3, ← hW2]; exact below_setRow (HT2.2.2.alloc (by omega) _) (by omega) _
        have JJ := Aside0.mk (And.intro P3 (And.intro O3 (And.intro D3 B3)))
        have hcap : ¬ (32 = 4 * i) := by omega
        have h32 : 4 * (i : Int) ≤ 32 := by omega
        have HRR := Aside0.mk hr
        clear q0 q1 q2 q3 hf ff ew hW3 P3 O3 D3 B3 HT2 hy Q2 P2 hr
        go_wp2_with (with_reducible refine Lib.wpList_copy_run _ rfl (.tmp 37) (.tmp 49) 22 22 rfl (.slice (some ⟨p, 4 * i, none⟩) (32 - 4 * i) (32 - 4 * i)) (.slice (some ⟨q, 0, none⟩) 4 4) rfl rfl HRR.out ?_)
        go_roundg (gk - 1)
        case measure => omega
        case rel => exact ⟨i + 1, by omega, by go_num, JJ⟩
      · obtain rfl : i = 8 := by omega
        have ez : fillTo 32 (fun j => (outB [e0, e1, e2, e3, e4, e5, e6, e7]).getD j 0) (fun _ => 0) (4 * 8) = sumB all := by
          rw [fillTo_all 32]
          unfold sumB
          rw [HE.out]
          refine List.ext_getElem (by simp [outB]) fun j h1 h2 => ?_
          simp [List.getD_eq_getElem?_getD, List.getElem?_eq_getElem h2]
        rw [ez] at HT
        obtain ⟨z, hz⟩ : ∃ z, sumB all = z := ⟨_, rfl⟩
        rw [hz] at HT
        have lz : z.length = 32 := by rw [← hz]; simp [sumB, outB]
        have sz : (Try.prog.info? 24).map (·.size) = some (w8 z).size := by
          rw [show (w8 z).size = 32 by simp [w8, lz]]; kernel_rfl
        have so : (w8 (List.replicate 32 0)).size = (w8 z).size := by simp [w8, lz]
        have s1 : (w8 z).all (·.oneCell') = true := by simp [w8, Value.oneCell']
        have ZZ := Aside0.mk (And.intro sz (And.intro so s1))
        have HZ := Aside0.mk hz
        clear ez hz lz sz so s1
        go_wp2_with (first | (refine wpList_load_row rfl 24 (.tmp 7) rfl p rfl 24 (w8 z) (0, 0) _ HT.out.1 Try.underlying24 rfl ZZ.out.1 ?_) | (refine wpList_store_row rfl 24 (.tmp 2) (.tmp 52) rfl g (w8 z) rfl rfl 24 _ HT.out.2.1 ZZ.out.1 ZZ.out.2.1 ZZ.out.2.2 ?_))
        obtain ⟨t1, t2, t3, t4⟩ := HT.out
        have hK' : (wr.setRow g (w8 z)).heap[D]? = some (.deferred (some [])) := (setRow_other _ _ _ _ (by omega)).trans t3
        have hb' : Below g w (wr.setRow g (w8 z)) := below_setRow t4 (Nat.le_refl _) _
        have hg' : ((wr.setRow g (w8 z)).putObj D (.deferred none)).heap[g]? = some (.cells (w8 z) 24 (0, 0)) := (World.putObj_heap_other (by omega)).trans (setRow_heap _ _ _ _ _ _ t2)
        refine ⟨by simp [Act.put], .inl ⟨D, _, rfl, run_takeDeferred hK', ?_⟩⟩
        refine ⟨_, results_cell_row rfl _ _ g 24 (w8 z) (0, 0) _ rfl hg' Try.underlying24 rfl ZZ.out.1, by rw [HZ.out], ?_⟩
        rw [K0.out.2.2.2]
        exact hb'.grown (grownBy_putObj' _ D _) (Nat.le_trans (by omega) (lt_of_block hK')) (fun k e => by cases e; omega)
end Go.Proofs.Ytokadjfakncdfaa
