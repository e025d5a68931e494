/- blake: a block is taken. -/
import Derived.Test.YtokadjfakncdfaaB3
import Derived.Lib.SlBuf
import Derived.Laws.CopyRow
set_option linter.unusedVariables false
set_option linter.unusedSimpArgs false
namespace Go.Proofs.Ytokadjfakncdfaa
open Go.RowKit Go.Proofs.YtokadjfakncdfaaW.PrintWords Go.Proofs.YtokadjfakncdfaaW.PrintLast Go.Proofs.YtokadjfakncdfaaW.PrintMore

/-- Bytes as a block's cells. -/
def w8 (v : List Int) : Array Value := (v.map (Value.int .u8)).toArray
theorem w8_get (v : List Int) (i : Nat) (h : i < v.length) : (w8 v)[i]? = some (.int .u8 (v.getD i 0)) := by
  simp [w8, List.getD_eq_getElem?_getD, h]
theorem w8_cell {W : World} {B e : Nat} {v : List Int} (h : W.heap[B]? = some (.cells (w8 v) e (0, 0))) (i : Nat) (hi : i < v.length) : W.cell? ⟨B, i, none⟩ = some (.int .u8 (v.getD i 0)) :=
  (blk_cell h i).trans (w8_get v i hi)
theorem range_getD (f : Nat → Int) (n i : Nat) (h : i < n) : ((List.range n).map f).getD i 0 = f i := by
  simp [List.getD_eq_getElem?_getD, h]
theorem words16_length (b : List Int) : (words16 b).length = 16 := by simp [words16]
theorem words16_getD (b : List Int) (i : Nat) (h : i < 16) : (words16 b).getD i 0 = word4 (b.getD (4 * i) 0) (b.getD (4 * i + 1) 0) (b.getD (4 * i + 2) 0) (b.getD (4 * i + 3) 0) := range_getD _ 16 i h
/-- A row of which the first i are as in xs, the others as in ys. -/
def fillTo (n : Nat) (f g : Nat → Int) (i : Nat) : List Int := (List.range n).map fun j => if j < i then f j else g j
theorem fillTo_length (n : Nat) (f g : Nat → Int) (i : Nat) : (fillTo n f g i).length = n := by simp [fillTo]
theorem fillTo_getD (n : Nat) (f g : Nat → Int) (i j : Nat) (h : j < n) : (fillTo n f g i).getD j 0 = if j < i then f j else g j := range_getD _ n j h
theorem fillTo_set (n : Nat) (f g : Nat → Int) (i : Nat) (x : Int) (hx : x = f i) : (fillTo n f g i).set i x = fillTo n f g (i + 1) := by
  subst hx
  refine List.ext_getElem (by simp [fillTo]) fun j h1 h2 => ?_
  have hj : j < n := by simpa [fillTo] using h2
  rw [List.getElem_set]
  by_cases e : i = j
  · subst e
    simp [fillTo]
  · rw [if_neg e]
    simp only [fillTo, List.getElem_map, List.getElem_range]
    by_cases h : j < i
    · rw [if_pos h, if_pos (by omega)]
    · rw [if_neg h, if_neg (by omega)]
theorem fillTo_all (n : Nat) (f g : Nat → Int) : fillTo n f g n = (List.range n).map f := by
  unfold fillTo
  refine List.map_congr_left fun j hj => ?_
  rw [if_pos (List.mem_range.1 hj)]

theorem info43 : (Try.prog.info? 75).map (·.size) = some 1 := by kernel_rfl
theorem copy_words {W : World} {gd gs e1 e2 : Nat} {cur src : List Int} (o : Nat) (hd : W.heap[gd]? = some (.cells (w32 cur) e1 (0, 0))) (hs : W.heap[gs]? = some (.cells (w32 src) e2 (0, 0))) (dl dc sl sc : Nat) (hn : src.length = Nat.min sl dl) (hfit : o + src.length ≤ cur.length) (ty : TypeId) :
    (Builtin.copy_ #[43, 43] ty #[.slice (some ⟨gd, o, none⟩) dl dc, .slice (some ⟨gs, 0, none⟩) sl sc]).run Try.prog W = .ok (goInt src.length) (W.setRow gd (w32 (cur.take o ++ src ++ cur.drop (o + src.length)))) := by
  have h := run_copy_row (P := Try.prog) W 43 43 ty 75 gd o dl dc ⟨gs, 0, none⟩ sl sc (w32 cur) e1 (src.map (Value.int .u32)) Try.underlying43 info43 hd (by simpa using hn)
    (fun j v hv => by
      rw [add_plain, blk_cell hs j]
      simpa [w32] using hv) (by simpa [w32] using hfit) (fun v hv => by
      obtain ⟨x, _, rfl⟩ := List.mem_map.1 hv
      rfl)
  rw [h]
  simp [w32, List.map_take, List.map_drop]

theorem half16 (a b c d : Nat) (ha : a < 16) (hb : b < 16) (hc : c < 16) (hd : d < 16) (x : Int) (v : List Int) (hv : v.length = 16) (B : Nat) (w : World) (hB : w.heap[B]? = some (.cells (w32 v) 128 (0, 0))) :
    Calls Try.prog 98 #[.agg #[.int .u8 a, .int .u8 b, .int .u8 c, .int .u8 d], .int .u32 x, .int .i64 16, .int .i64 12, .pointer (some ⟨B, 0, none⟩)] w fun e w' => e = .returned (.tuple #[]) ∧ w'.heap[B]? = some (.cells (w32 (half v a b c d x 16 12)) 128 (0, 0)) ∧ w.grownBy w' (some B) :=
  half_calls a b c d ha hb hc hd x 16 12 (.inl ⟨rfl, rfl⟩) v hv B w hB
theorem half8 (a b c d : Nat) (ha : a < 16) (hb : b < 16) (hc : c < 16) (hd : d < 16) (x : Int) (v : List Int) (hv : v.length = 16) (B : Nat) (w : World) (hB : w.heap[B]? = some (.cells (w32 v) 128 (0, 0))) :
    Calls Try.prog 98 #[.agg #[.int .u8 a, .int .u8 b, .int .u8 c, .int .u8 d], .int .u32 x, .int .i64 8, .int .i64 7, .pointer (some ⟨B, 0, none⟩)] w fun e w' => e = .returned (.tuple #[]) ∧ w'.heap[B]? = some (.cells (w32 (half v a b c d x 8 7)) 128 (0, 0)) ∧ w.grownBy w' (some B) :=
  half_calls a b c d ha hb hc hd x 8 7 (.inr ⟨rfl, rfl⟩) v hv B w hB

theorem start_lit (w : World) : Calls Try.prog 53 #[] w fun e w' => e = .returned (.agg #[.int .u32 1779033703, .int .u32 3144134277, .int .u32 1013904242, .int .u32 2773480762, .int .u32 1359893119, .int .u32 2600822924, .int .u32 528734635, .int .u32 1541459225]) ∧ w' = w.alloc (.cells #[.int .u32 1779033703, .int .u32 3144134277, .int .u32 1013904242, .int .u32 2773480762, .int .u32 1359893119, .int .u32 2600822924, .int .u32 528734635, .int .u32 1541459225] 76) := start_calls w

/-- Where a lane's mixing stands: the order's row and the lane's own copy beside the rest. -/
structure LS (w W : World) (g q q2 r : Nat) (box : Array Value) (h m v : List Int) : Prop where
  T : TS w W g h m v
  P : W.heap[q]? = some (.cells (rowV r) 133 (0, 0))
  L : W.heap[q2]? = some (.cells box 130 (0, 0))
  Q : g + 4 ≤ q ∧ g + 4 ≤ q2
theorem LS.drew {w W : World} {g q q2 r : Nat} {box : Array Value} {h m v : List Int} (l : LS w W g q q2 r box h m v) : LS w W.drew g q q2 r box h m v := ⟨l.T.drew, l.P, l.L, l.Q⟩
theorem LS.mixed {w W W' : World} {g q q2 r : Nat} {box : Array Value} {h m v v' : List Int} (l : LS w W g q q2 r box h m v) (hg : W.grownBy W' (some (g + 3))) (hv : W'.heap[g + 3]? = some (.cells (w32 v') 128 (0, 0))) : LS w W' g q q2 r box h m v' := by
  have := l.Q
  exact ⟨l.T.mixed hg hv, (hg.block _ (blk_lt l.P) (by simp; omega)).trans l.P, (hg.block _ (blk_lt l.L) (by simp; omega)).trans l.L, l.Q⟩

def z16 : List Int := [0, 0, 0, 0, 0, 0, 0, 0, 0, 0, 0, 0, 0, 0, 0, 0]
theorem TS.start (w : World) (h : List Int) : TS w ((((w.alloc (.cells (w32 h) 76)).alloc (.cells (w32 [0, 0, 0, 0, 0, 0, 0, 0]) 76)).alloc (.cells (w32 z16) 128)).alloc (.cells (w32 z16) 128)) w.heap.size h z16 z16 := by
  have n1 := heap_alloc_new w (.cells (w32 h) 76)
  have n2 := heap_alloc_new (w.alloc (.cells (w32 h) 76)) (.cells (w32 [0, 0, 0, 0, 0, 0, 0, 0]) 76)
  have n3 := heap_alloc_new ((w.alloc (.cells (w32 h) 76)).alloc (.cells (w32 [0, 0, 0, 0, 0, 0, 0, 0]) 76)) (.cells (w32 z16) 128)
  have n4 := heap_alloc_new (((w.alloc (.cells (w32 h) 76)).alloc (.cells (w32 [0, 0, 0, 0, 0, 0, 0, 0]) 76)).alloc (.cells (w32 z16) 128)) (.cells (w32 z16) 128)
  simp only [World.size_alloc] at n2 n3 n4
  refine ⟨?_, ?_, ?_, n4, ?_, by simp⟩
  · rw [Below.heap_alloc _ _ _ (by simp <;> omega), Below.heap_alloc _ _ _ (by simp <;> omega), Below.heap_alloc _ _ _ (by simp), n1]
  · rw [Below.heap_alloc _ _ _ (by simp <;> omega), Below.heap_alloc _ _ _ (by simp <;> omega), n2]
  · rw [Below.heap_alloc _ _ _ (by simp <;> omega), n3]
  · exact below_alloc (below_alloc (below_alloc (below_alloc (Below.refl _ _) _) _) _) _

set_option maxRecDepth 100000 in
set_option maxHeartbeats 2000000 in
theorem take_calls (h0 h1 h2 h3 h4 h5 h6 h7 : Int) (b : List Int) (hb : b.length = 64) (gb : Nat) (t : Int) (ht : 0 ≤ t) (last : Bool) (w : World) (hB : w.heap[gb]? = some (.cells (w8 b) 5 (0, 0))) :
    Calls Try.prog 55 #[.agg #[.int .u32 h0, .int .u32 h1, .int .u32 h2, .int .u32 h3, .int .u32 h4, .int .u32 h5, .int .u32 h6, .int .u32 h7], .slice (some ⟨gb, 0, none⟩) 64 64, .int .u64 t, .bool last] w fun e w' => e = .returned (.agg (w32 (takeB [h0, h1, h2, h3, h4, h5, h6, h7] (words16 b) t last))) ∧ Below w.heap.size w w' := by
  have HB := Aside0.mk hB
  have HBL := Aside0.mk hb
  have TS0 := Aside0.mk (TS.start w [h0, h1, h2, h3, h4, h5, h6, h7])
  clear hB hb
  go_enter Try.func55, Try.ntmps55
  go_wp2_with fail
  obtain ⟨W0, hW0⟩ : ∃ W0, (((w.alloc (.cells #[.int .u32 h0, .int .u32 h1, .int .u32 h2, .int .u32 h3, .int .u32 h4, .int .u32 h5, .int .u32 h6, .int .u32 h7] 76)).alloc (.cells #[.int .u32 0, .int .u32 0, .int .u32 0, .int .u32 0, .int .u32 0, .int .u32 0, .int .u32 0, .int .u32 0] 76)).alloc (.cells #[.int .u32 0, .int .u32 0, .int .u32 0, .int .u32 0, .int .u32 0, .int .u32 0, .int .u32 0, .int .u32 0, .int .u32 0, .int .u32 0, .int .u32 0, .int .u32 0, .int .u32 0, .int .u32 0, .int .u32 0, .int .u32 0] 128)).alloc (.cells #[.int .u32 0, .int .u32 0, .int .u32 0, .int .u32 0, .int .u32 0, .int .u32 0, .int .u32 0, .int .u32 0, .int .u32 0, .int .u32 0, .int .u32 0, .int .u32 0, .int .u32 0, .int .u32 0, .int .u32 0, .int .u32 0] 128) = W0 := ⟨_, rfl⟩
  have T0 : TS w W0 w.heap.size [h0, h1, h2, h3, h4, h5, h6, h7] z16 z16 := hW0 ▸ TS0.out
  obtain ⟨g, hg⟩ : ∃ g, w.heap.size = g := ⟨_, rfl⟩
  rw [hW0, hg, show g + 1 + 1 + 1 = g + 3 from rfl, show g + 1 + 1 = g + 2 from rfl]
  rw [hg] at T0
  have hgb : gb < g := hg ▸ blk_lt HB.out
  have HG := Aside0.mk hg
  have TT := Aside0.mk T0
  clear hW0 hg T0 TS0
  go_loopg [19] 16 (fun kk v19 wr => ∃ i : Nat, i + kk = 16 ∧ v19 = .int .i64 i ∧ Aside0 (TS w wr g [h0, h1, h2, h3, h4, h5, h6, h7] (fillTo 16 (fun j => (words16 b).getD j 0) (fun _ => 0) i) z16))
  case atStart => exact ⟨0, by omega, rfl, TT⟩
  case round =>
    obtain ⟨i, hi, rfl, HT⟩ := hrel
    by_cases hlt : i < 16
    · have hbl : wr.heap[gb]? = some (.cells (w8 b) 5 (0, 0)) := (HT.out.B.block gb hgb).trans HB.out
      have c0 := w8_cell hbl (4 * i) (by rw [HBL.out]; omega)
      have c1 := w8_cell hbl (4 * i + 1) (by rw [HBL.out]; omega)
      have c2 := w8_cell hbl (4 * i + 2) (by rw [HBL.out]; omega)
      have c3 := w8_cell hbl (4 * i + 3) (by rw [HBL.out]; omega)
      have CC := Aside0.mk (And.intro c0 (And.intro c1 (And.intro c2 c3)))
      have hcap : ¬ (64 = 4 * i) := by omega
      clear c0 c1 c2 c3 hbl
      go_wp2_with fail
      refine (word_calls _ _ _ _ gb (4 * i) (64 - 4 * i) (64 - 4 * i) (by omega) _ CC.out.1 CC.out.2.1 CC.out.2.2.1 CC.out.2.2.2).mono ?_
      rintro e w1 ⟨rfl, k, rfl⟩
      have T1 := HT.out.drewN k
      have f1 := blk_frozen T1.M i
      have c1 := w32_cell T1.M i (by rw [fillTo_length]; exact hlt)
      obtain ⟨y, hy⟩ : ∃ y, word4 (b.getD (4 * i) 0) (b.getD (4 * i + 1) 0) (b.getD (4 * i + 2) 0) (b.getD (4 * i + 3) 0) = y := ⟨_, rfl⟩
      rw [hy]
      have T2 := Aside0.mk (T1.setM i y)
      rw [fillTo_set 16 _ _ i y (by rw [← hy, words16_getD b i hlt])] at T2
      clear T1 hy CC HT
      go_wp2_with fail
      go_roundg (gk - 1)
      case measure => omega
      case rel => exact ⟨i + 1, by omega, by go_num, T2⟩
    · obtain rfl : i = 16 := by omega
      rw [fillTo_all] at HT
      have em : (List.range 16).map (fun j => (words16 b).getD j 0) = words16 b := by
        refine List.ext_getElem (by simp [words16]) fun j h1 h2 => ?_
        simp [List.getD_eq_getElem?_getD, List.getElem?_eq_getElem h2]
      rw [em] at HT
      clear em
      go_wp2_with fail
      refine (start_lit _).mono ?_
      rintro e w1 ⟨rfl, hw1⟩
      have T1 : TS w w1 g [h0, h1, h2, h3, h4, h5, h6, h7] (words16 b) z16 := hw1 ▸ HT.out.alloc _
      have TT := Aside0.mk T1
      clear hw1 HT T1
      go_wp2_with fail
      obtain ⟨p, hp⟩ : ∃ p, w1.heap.size = p := ⟨_, rfl⟩
      obtain ⟨W1, hW1⟩ : ∃ W1, w1.alloc (.cells #[.int .u32 1779033703, .int .u32 3144134277, .int .u32 1013904242, .int .u32 2773480762, .int .u32 1359893119, .int .u32 2600822924, .int .u32 528734635, .int .u32 1541459225] 76) = W1 := ⟨_, rfl⟩
      rw [hp, hW1]
      have P1 : W1.heap[p]? = some (.cells (w32 blkStart) 76 (0, 0)) := by rw [← hW1, ← hp]; exact heap_alloc_new w1 _
      have T1 : TS w W1 g [h0, h1, h2, h3, h4, h5, h6, h7] (words16 b) z16 := hW1 ▸ TT.out.alloc _
      have hpg : g + 4 ≤ p := hp ▸ TT.out.S
      clear hp hW1 TT
      have TT := Aside0.mk (And.intro P1 (And.intro T1 hpg))
      clear P1 T1 hpg
      go_still_tail 2, (by kernel_rfl)
      change wpList _ _ _ _ _ W1.drew
      refine Lib.wpList_copy_run _ rfl (.tmp 31) (.tmp 32) 43 43 rfl (.slice (some ⟨g + 3, 0, none⟩) 16 16) (.slice (some ⟨g, 0, none⟩) 8 8) rfl rfl (copy_words 0 TT.out.2.1.drew.V TT.out.2.1.drew.H 16 16 8 8 rfl (by simp [z16]) _) ?_
      obtain ⟨W2, hW2⟩ : ∃ W2, W1.drew.setRow (g + 3) (w32 (List.take 0 z16 ++ [h0, h1, h2, h3, h4, h5, h6, h7] ++ List.drop (0 + [h0, h1, h2, h3, h4, h5, h6, h7].length) z16)) = W2 := ⟨_, rfl⟩
      rw [hW2]
      have P2 : W2.heap[p]? = some (.cells (w32 blkStart) 76 (0, 0)) := by
        have := TT.out.2.2
        rw [← hW2]; exact (setRow_other _ _ _ _ (by omega)).trans TT.out.1
      have T2 : TS w W2 g [h0, h1, h2, h3, h4, h5, h6, h7] (words16 b) [h0, h1, h2, h3, h4, h5, h6, h7, 0, 0, 0, 0, 0, 0, 0, 0] := hW2 ▸ TT.out.2.1.drew.rowV _
      have hpg := TT.out.2.2
      clear hW2 TT
      have TT := Aside0.mk (And.intro P2 (And.intro T2 hpg))
      clear P2 T2 hpg
      go_wp2_with fail
      go_still_tail 2, (by kernel_rfl)
      change wpList _ _ _ _ _ W2.drew
      refine Lib.wpList_copy_run _ rfl (.tmp 34) (.tmp 35) 43 43 rfl (.slice (some ⟨g + 3, 8, none⟩) 8 8) (.slice (some ⟨p, 0, none⟩) 8 8) rfl rfl (copy_words 8 TT.out.2.1.drew.V (show W2.drew.heap[p]? = _ from TT.out.1) 8 8 8 8 rfl (by simp [blkStart]) _) ?_
      obtain ⟨W3, hW3⟩ : ∃ W3, W2.drew.setRow (g + 3) (w32 (List.take 8 [h0, h1, h2, h3, h4, h5, h6, h7, 0, 0, 0, 0, 0, 0, 0, 0] ++ blkStart ++ List.drop (8 + blkStart.length) [h0, h1, h2, h3, h4, h5, h6, h7, 0, 0, 0, 0, 0, 0, 0, 0])) = W3 := ⟨_, rfl⟩
      rw [hW3]
      have T3 : TS w W3 g [h0, h1, h2, h3, h4, h5, h6, h7] (words16 b) ([h0, h1, h2, h3, h4, h5, h6, h7] ++ blkStart) := hW3 ▸ TT.out.2.1.drew.rowV _
      have c12 : W3.cell? ⟨g + 3, 12, none⟩ = some (.int .u32 1359893119) := w32_cell T3.V 12 (by simp [blkStart])
      have c13 : W3.cell? ⟨g + 3, 13, none⟩ = some (.int .u32 2600822924) := w32_cell T3.V 13 (by simp [blkStart])
      have f12 := blk_frozen T3.V 12
      have f13 := blk_frozen T3.V 13
      obtain ⟨x12, hx12⟩ : ∃ x, bits .xor .u32 1359893119 (t % 4294967296) = x := ⟨_, rfl⟩
      obtain ⟨x13, hx13⟩ : ∃ x, bits .xor .u32 2600822924 (t / 4294967296 % 4294967296) = x := ⟨_, rfl⟩
      have HX := Aside0.mk (And.intro hx12 hx13)
      have TT := Aside0.mk T3
      clear hW3 T3
      go_upto_if 50 with (fail)
      go_cut [] from 51 (fun wx => Aside0 (TS w wx g [h0, h1, h2, h3, h4, h5, h6, h7] (words16 b) (seed [h0, h1, h2, h3, h4, h5, h6, h7] t last)))
      case first =>
        have T4 := (TT.out.setV 12 x12).setV 13 x13
        have e4 : ((([h0, h1, h2, h3, h4, h5, h6, h7] ++ blkStart).set 12 x12).set 13 x13) = seed [h0, h1, h2, h3, h4, h5, h6, h7] t false := by
          rw [← HX.out.1, ← HX.out.2]; rfl
        rw [e4] at T4
        cases last with
        | false =>
          have TT := Aside0.mk T4
          clear T4 e4
          go_wp2_with fail
          go_meet
          exact TT
        | true =>
          have c14 : ((W3.setCell ⟨g + 3, 12, none⟩ (.int .u32 x12)).setCell ⟨g + 3, 13, none⟩ (.int .u32 x13)).cell? ⟨g + 3, 14, none⟩ = some (.int .u32 528734635) := w32_cell T4.V 14 (by simp [seed, blkStart])
          have f14 := blk_frozen T4.V 14
          have TT := Aside0.mk (T4.setV 14 3766232660)
          clear T4 e4 c12 c13 f12 f13
          go_wp2_with fail
          go_meet
          exact TT
      case rest =>
      have TT := hcut
      obtain ⟨s, hs⟩ : ∃ s, seed [h0, h1, h2, h3, h4, h5, h6, h7] t last = s := ⟨_, rfl⟩
      rw [hs] at TT
      have HS := Aside0.mk hs
      clear hcut hs
      go_wp2_with fail
      refine (orders_calls _).mono ?_
      rintro e w2 ⟨rfl, b2⟩
      have T2 := Aside0.mk (TT.out.below b2)
      obtain ⟨m, hm⟩ : ∃ m, words16 b = m := ⟨_, rfl⟩
      have ls : s.length = 16 := by
        rw [← HS.out]
        cases last <;> simp [seed, blkStart]
      have lm : m.length = 16 := by rw [← hm, words16_length]
      have HM := Aside0.mk (And.intro hm (And.intro ls lm))
      rw [hm] at T2
      clear b2 TT hm ls lm
      go_wp2_with fail
      go_loopg [57] 10 (fun kk v57 wr => ∃ r : Nat, r + kk = 10 ∧ v57 = .int .i64 r ∧ Aside0 (TS w wr g [h0, h1, h2, h3, h4, h5, h6, h7] m (rounds_ m s r)))
      case atStart => exact ⟨0, by omega, rfl, T2⟩
      case round =>
        clear T2
        obtain ⟨r, hr, rfl, HT⟩ := hrel
        by_cases hlt : r < 10
        · have hidx := fun W => order_index r hlt W
          unfold rowV at hidx
          have HTN := HT.out.S
          go_wp2_with fail
          refine (lanes_calls _).mono ?_
          rintro e w3 ⟨rfl, b3⟩
          have T3 := Aside0.mk ((HT.out.alloc _).below b3)
          have P3 := Aside0.mk (show w3.heap[wr.heap.size]? = some (.cells (rowV r) 133 (0, 0)) from (b3.block _ (by simp)).trans (heap_alloc_new wr _))
          obtain ⟨q, hq⟩ : ∃ q, wr.heap.size = q := ⟨_, rfl⟩
          rw [hq] at P3 HTN ⊢
          clear b3 hidx hq HT
          go_wp2_with fail
          go_loopg [61] 8 (fun kk v61 wr => ∃ i : Nat, i + kk = 8 ∧ v61 = .int .i64 i ∧ Aside0 (TS w wr g [h0, h1, h2, h3, h4, h5, h6, h7] m (lanes m r (rounds_ m s r) i)) ∧ Aside0 (wr.heap[q]? = some (.cells (rowV r) 133 (0, 0))))
          case atStart => exact ⟨0, by omega, rfl, T3, P3⟩
          case round =>
            clear T3 P3
            obtain ⟨i, hi, rfl, HT, HP⟩ := hrel
            by_cases hlt8 : i < 8
            · have hidx := fun W => lane_index i hlt8 W
              obtain ⟨a, ha⟩ : ∃ a, laneAt i 0 = a := ⟨_, rfl⟩
              obtain ⟨b', hb'⟩ : ∃ b', laneAt i 1 = b' := ⟨_, rfl⟩
              obtain ⟨c, hc⟩ : ∃ c, laneAt i 2 = c := ⟨_, rfl⟩
              obtain ⟨d, hd⟩ : ∃ d, laneAt i 3 = d := ⟨_, rfl⟩
              have la := laneAt_lt i 0 hlt8 (by omega)
              have lb := laneAt_lt i 1 hlt8 (by omega)
              have lc := laneAt_lt i 2 hlt8 (by omega)
              have ld := laneAt_lt i 3 hlt8 (by omega)
              rw [ha] at la
              rw [hb'] at lb
              rw [hc] at lc
              rw [hd] at ld
              simp only [ha, hb', hc, hd] at hidx
              have HL := Aside0.mk (And.intro ha (And.intro hb' (And.intro hc hd)))
              clear ha hb' hc hd
              go_wp2_with fail
              obtain ⟨W4, hW4⟩ : ∃ W4, wr.alloc (.cells #[.int .u8 a, .int .u8 b', .int .u8 c, .int .u8 d] 130) = W4 := ⟨_, rfl⟩
              obtain ⟨q2, hq2⟩ : ∃ q2, wr.heap.size = q2 := ⟨_, rfl⟩
              rw [hW4, hq2]
              have S4 : Aside0 (LS w W4 g q q2 r #[.int .u8 a, .int .u8 b', .int .u8 c, .int .u8 d] [h0, h1, h2, h3, h4, h5, h6, h7] m (lanes m r (rounds_ m s r) i)) := ⟨hW4 ▸ HT.out.alloc _, by rw [← hW4]; exact (Below.heap_alloc wr _ q (blk_lt HP.out)).trans HP.out, by rw [← hW4, ← hq2]; exact heap_alloc_new wr _, HTN, by rw [← hq2]; exact HT.out.S⟩
              clear hW4 hq2 hidx HT HP
              have c0 := blk_cell S4.out.L 0
              have c1 := blk_cell S4.out.L 1
              have c2 := blk_cell S4.out.L 2
              have c3 := blk_cell S4.out.L 3
              simp only [List.getElem?_toArray, List.getElem?_cons_zero, List.getElem?_cons_succ] at c0 c1 c2 c3
              have lo := ordAt_lt r (2 * i) hlt (by omega)
              have co := (blk_cell S4.out.P (2 * i)).trans (rowV_get r (2 * i) (by omega))
              obtain ⟨o, ho⟩ : ∃ o, ordAt r (2 * i) = o := ⟨_, rfl⟩
              rw [ho] at co lo
              have cm := w32_cell S4.out.T.M o (by rw [HM.out.2.2]; exact lo)
              obtain ⟨x, hx⟩ : ∃ x, m.getD o 0 = x := ⟨_, rfl⟩
              rw [hx] at cm
              have HO := Aside0.mk (show m.getD (ordAt r (2 * i)) 0 = x by rw [ho]; exact hx)
              have lo' : (o : Int) < 16 := by omega
              have w68 : IntKind.i64.wrap (2 * (i : Int)) = 2 * (i : Int) := IntWalk.i64_in _ (by omega)
              have b68 : 2 * (i : Int) < 16 := by omega
              have p68 : 0 ≤ 2 * (i : Int) := by omega
              have n68 : (2 * (i : Int)).toNat = 2 * i := by omega
              clear ho hx
              go_still_tail 8, (by kernel_rfl)
              change wpList _ _ _ _ _ W4.drew
              go_wp2_with fail
              refine (half16 a b' c d la lb lc ld x _ (by rw [lanes_length, rounds_length]; exact HM.out.2.1) (g + 3) _ S4.out.drew.T.V).mono ?_
              rintro e w5 ⟨rfl, v5, g5⟩
              have Sw5 := Aside0.mk (S4.out.drew.mixed g5 v5)
              have HOw5 := HO
              clear c0 c1 c2 c3 co cm lo lo' v5 g5 S4 HO w68 b68 p68 n68
              go_wp2_with fail
              have c0 := blk_cell Sw5.out.L 0
              have c1 := blk_cell Sw5.out.L 1
              have c2 := blk_cell Sw5.out.L 2
              have c3 := blk_cell Sw5.out.L 3
              simp only [List.getElem?_toArray, List.getElem?_cons_zero, List.getElem?_cons_succ] at c0 c1 c2 c3
              have lo := ordAt_lt r (2 * i + 1) hlt (by omega)
              have co := (blk_cell Sw5.out.P (2 * i + 1)).trans (rowV_get r (2 * i + 1) (by omega))
              obtain ⟨o, ho⟩ : ∃ o, ordAt r (2 * i + 1) = o := ⟨_, rfl⟩
              rw [ho] at co lo
              have cm := w32_cell Sw5.out.T.M o (by rw [HM.out.2.2]; exact lo)
              obtain ⟨x, hx⟩ : ∃ x, m.getD o 0 = x := ⟨_, rfl⟩
              rw [hx] at cm
              have HO := Aside0.mk (show m.getD (ordAt r (2 * i + 1)) 0 = x by rw [ho]; exact hx)
              have lo' : (o : Int) < 16 := by omega
              have w68 : IntKind.i64.wrap (2 * (i : Int)) = 2 * (i : Int) := IntWalk.i64_in _ (by omega)
              have w69 : IntKind.i64.wrap (2 * (i : Int) + 1) = 2 * (i : Int) + 1 := IntWalk.i64_in _ (by omega)
              have b68 : 2 * (i : Int) + 1 < 16 := by omega
              have p68 : 0 ≤ 2 * (i : Int) + 1 := by omega
              have n68 : (2 * (i : Int) + 1).toNat = 2 * i + 1 := by omega
              clear ho hx
              go_still_tail 9, (by kernel_rfl)
              change wpList _ _ _ _ _ w5.drew
              go_wp2_with fail
              refine (half8 a b' c d la lb lc ld x _ (by rw [half_length, lanes_length, rounds_length]; exact HM.out.2.1) (g + 3) _ Sw5.out.drew.T.V).mono ?_
              rintro e w6 ⟨rfl, v5, g5⟩
              have Sw6 := Aside0.mk (Sw5.out.drew.mixed g5 v5)
              have HOw6 := HO
              clear c0 c1 c2 c3 co cm lo lo' v5 g5 Sw5 HO w68 w69 b68 p68 n68
              go_wp2_with fail
              go_roundg (gk - 1)
              case measure => omega
              case rel =>
                refine ⟨i + 1, by omega, by go_num, ⟨?_⟩, ⟨Sw6.out.P⟩⟩
                have hT := Sw6.out.T
                rw [← HOw5.out, ← HOw6.out, ← HL.out.1, ← HL.out.2.1, ← HL.out.2.2.1, ← HL.out.2.2.2] at hT
                exact hT
            · obtain rfl : i = 8 := by omega
              clear HP
              go_wp2_with fail
              go_roundg (9 - r)
              case measure => omega
              case rel => exact ⟨r + 1, by omega, by go_num, HT⟩
        · obtain rfl : r = 10 := by omega
          obtain ⟨v, hv⟩ : ∃ v, rounds_ m s 10 = v := ⟨_, rfl⟩
          rw [hv] at HT
          have HV := Aside0.mk hv
          have lv : v.length = 16 := by rw [← hv, rounds_length]; exact HM.out.2.1
          have HLV := Aside0.mk lv
          clear hv lv
          go_wp2_with fail
          go_loopg [86] 8 (fun kk v86 wr => ∃ i : Nat, i + kk = 8 ∧ v86 = .int .i64 i ∧ Aside0 (TS w wr g (fillTo 8 (fun j => xo ([h0, h1, h2, h3, h4, h5, h6, h7].getD j 0) (xo (v.getD j 0) (v.getD (j + 8) 0))) (fun j => [h0, h1, h2, h3, h4, h5, h6, h7].getD j 0) i) m v))
          case atStart => exact ⟨0, by omega, rfl, HT⟩
          case round =>
            clear HT
            obtain ⟨i, hi, rfl, HT⟩ := hrel
            by_cases hlt : i < 8
            · have ch := w32_cell HT.out.H i (by rw [fillTo_length]; exact hlt)
              have c1 := w32_cell HT.out.V i (by rw [HLV.out]; omega)
              have c2 := w32_cell HT.out.V (i + 8) (by rw [HLV.out]; omega)
              rw [fillTo_getD 8 _ _ i i hlt, if_neg (by omega)] at ch
              obtain ⟨xh, hxh⟩ : ∃ x, [h0, h1, h2, h3, h4, h5, h6, h7].getD i 0 = x := ⟨_, rfl⟩
              obtain ⟨x1, hx1⟩ : ∃ x, v.getD i 0 = x := ⟨_, rfl⟩
              obtain ⟨x2, hx2⟩ : ∃ x, v.getD (i + 8) 0 = x := ⟨_, rfl⟩
              rw [hxh] at ch
              rw [hx1] at c1
              rw [hx2] at c2
              obtain ⟨y, hy⟩ : ∃ y, bits .xor .u32 xh (bits .xor .u32 x1 x2) = y := ⟨_, rfl⟩
              have HY := Aside0.mk (show y = xo ([h0, h1, h2, h3, h4, h5, h6, h7].getD i 0) (xo (v.getD i 0) (v.getD (i + 8) 0)) by rw [hxh, hx1, hx2, ← hy]; rfl)
              have w96 : IntKind.i64.wrap ((i : Int) + 8) = (i : Int) + 8 := IntWalk.i64_in _ (by omega)
              have b96 : (i : Int) + 8 < 16 := by omega
              have b93 : (i : Int) < 16 := by omega
              have p96 : 0 ≤ (i : Int) + 8 := by omega
              have n96 : ((i : Int) + 8).toNat = i + 8 := by omega
              clear hxh hx1 hx2
              go_wp2_with fail
              go_still_tail 13, (by kernel_rfl)
              change wpList _ _ _ _ _ wr.drew
              have T1 := HT.out.drew
              have fh := blk_frozen T1.H i
              have ch1 := w32_cell T1.H i (by rw [fillTo_length]; exact hlt)
              have T2 := Aside0.mk (T1.setH i y)
              rw [fillTo_set 8 _ _ i y HY.out] at T2
              clear T1 HT ch c1 c2 w96 b96 b93 p96 n96 hy HY
              go_wp2_with fail
              go_roundg (gk - 1)
              case measure => omega
              case rel => exact ⟨i + 1, by omega, by go_num, T2⟩
            · obtain rfl : i = 8 := by omega
              rw [fillTo_all] at HT
              have e9 : (List.range 8).map (fun j => xo ([h0, h1, h2, h3, h4, h5, h6, h7].getD j 0) (xo (v.getD j 0) (v.getD (j + 8) 0))) = takeB [h0, h1, h2, h3, h4, h5, h6, h7] (words16 b) t last := by
                rw [← HV.out, ← HS.out, ← HM.out.1]; rfl
              rw [e9] at HT
              obtain ⟨z, hz⟩ : ∃ z, takeB [h0, h1, h2, h3, h4, h5, h6, h7] (words16 b) t last = z := ⟨_, rfl⟩
              rw [hz] at HT
              have lz : z.length = 8 := by rw [← hz]; simp [takeB]
              have sz : (Try.prog.info? 76).map (·.size) = some (w32 z).size := by
                rw [show (w32 z).size = 8 by simp [w32, lz]]; kernel_rfl
              have so : (w32 [0, 0, 0, 0, 0, 0, 0, 0]).size = (w32 z).size := by simp [w32, lz]
              have s1 : (w32 z).all (·.oneCell') = true := by simp [w32, Value.oneCell']
              have ZZ := Aside0.mk (And.intro sz (And.intro so s1))
              have HZ := Aside0.mk hz
              have hgo : g ≠ g + 1 := by omega
              clear e9 hz lz sz so s1 HV HS HM HLV HX
              go_wp2_with (first | (refine wpList_load_row rfl 76 (.tmp 4) rfl g rfl 76 (w32 z) (0, 0) _ HT.out.H Try.underlying76 rfl ZZ.out.1 ?_) | (refine wpList_store_row rfl 76 (.tmp 8) (.tmp 103) rfl (g + 1) (w32 z) rfl rfl 76 _ HT.out.O ZZ.out.1 ZZ.out.2.1 ZZ.out.2.2 ?_))
              refine bodyPost_ret (v := .agg (w32 z)) (results_cell_row rfl _ _ (g + 1) 76 (w32 z) (0, 0) _ rfl (setRow_heap _ _ _ _ 76 _ HT.out.O) Try.underlying76 rfl ZZ.out.1) rfl ⟨by rw [HZ.out], ?_⟩
              rw [HG.out]
              exact below_setRow HT.out.B (by omega) _
end Go.Proofs.Ytokadjfakncdfaa
