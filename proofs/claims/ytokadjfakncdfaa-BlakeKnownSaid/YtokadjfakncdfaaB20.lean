/- BlakeKnown: the walk. -/
import Derived.Test.YtokadjfakncdfaaB19
import Derived.Lib.SlBytesConst
import Derived.Deep.Cut
import Derived.Outline
set_option linter.unusedVariables false
set_option linter.unusedSimpArgs false
namespace Go.Proofs.Ytokadjfakncdfaa
open Go.RowKit Go.Proofs.YtokadjfakncdfaaW.PrintWords Go.Proofs.YtokadjfakncdfaaW.PrintLast Go.Proofs.YtokadjfakncdfaaW.PrintMore

/-- The published words. -/
def knW : List Int := [7575470396830417044, 16217780911485569660, 2257911209298863390, 1955984993957244665, 5804117976009151714, 16260012960048170287, 3982742417699125801, 5591671165331921282]
def wu64 (v : List Int) : Array Value := (v.map (Value.int .u64)).toArray
theorem wu64_get (v : List Int) (i : Nat) (h : i < v.length) : (wu64 v)[i]? = some (.int .u64 (v.getD i 0)) := by
  simp [wu64, List.getD_eq_getElem?_getD, h]
theorem kn_slice (p q : Nat) (hq : q < 4) (w : World) : (Instr.sliceAt 24 (.pointer (some ⟨p, 0, none⟩)) (some (.int .i64 (8 * (q : Int)))) (some (.int .i64 (8 * (q : Int) + 8))) none).run Try.prog w = .ok (.slice (some ⟨p, 8 * q, none⟩) 8 (32 - 8 * q)) w := by
  have h : q = 0 ∨ q = 1 ∨ q = 2 ∨ q = 3 := by omega
  rcases h with rfl | rfl | rfl | rfl <;> (refine Eq.trans ?_ rfl; kernel_rfl)
theorem kn_word (s0 s1 : List Int) (h0 : s0 = sumB []) (h1 : s1 = sumB [97, 98, 99]) (i : Nat) (hi : i < 8) :
    nv B8 ((((if i < 4 then s0 else s1).drop (8 * (i % 4))).take 8).reverse) = knW.getD i 0 ∧ Dig B8 (((if i < 4 then s0 else s1).drop (8 * (i % 4))).take 8) := by
  rw [h0, h1, sum_nil, sum_abc]
  have h : i = 0 ∨ i = 1 ∨ i = 2 ∨ i = 3 ∨ i = 4 ∨ i = 5 ∨ i = 6 ∨ i = 7 := by omega
  rcases h with rfl | rfl | rfl | rfl | rfl | rfl | rfl | rfl <;> exact ⟨by decide, by unfold Dig B8; decide⟩
/-- Eight bytes of a sum. -/
theorem RL_part {W : World} {p : Nat} {s : List Int} (hs : s.length = 32) (h : W.heap[p]? = some (.cells (w8 s) 24 (0, 0))) (q : Nat) (hq : q < 4) : RL .u8 W (.slice (some ⟨p, 8 * q, none⟩) 8 (32 - 8 * q)) ((s.drop (8 * q)).take 8) := by
  have hl : ((s.drop (8 * q)).take 8).length = 8 := by rw [List.length_take, List.length_drop]; omega
  have hC : (Kd.int .u8).C W (some ⟨p, 8 * q, none⟩) ((s.drop (8 * q)).take 8).length ((s.drop (8 * q)).take 8) := C_cells (by rw [hl]; have e : maxLen = 9223372036854775807 := rfl; omega) fun i hi => by
    rw [hl] at hi
    rw [show (Addr.mk p (8 * q) none).add i = ⟨p, 8 * q + i, none⟩ by unfold Addr.add; split <;> simp_all]
    rw [w8_cell h (8 * q + i) (by omega), List.getD_eq_getElem?_getD, List.getD_eq_getElem?_getD, List.getElem?_take, if_pos hi, List.getElem?_drop]
  exact ⟨_, _, by rw [hl], by rw [hl]; omega, hC⟩
theorem cmp_self_v {w : World} {va vb : Value} {x : Int} {la lb : Nat} (ha : DN w va x la) (hb : DN w vb x lb) (h1 : la ≤ 2000) (h2 : lb ≤ 2000) :
    Calls Try.prog 18 #[va, vb] w fun e w' => e = .returned (.int .i64 0) ∧ Below w.heap.size w w' := by
  have := cmp_n ha hb h1 h2
  rw [cmpI_self] at this
  exact this
theorem mk65 (W : World) : (Instr.makeSlice 22 (.int .i64 65) (.int .i64 65)).run Try.prog W = .ok (.slice (some ⟨W.heap.size, 0, none⟩) 65 65) (W.alloc (.cells (w8 (List.replicate 65 0)) 5)) := by kernel_rfl

set_option maxRecDepth 100000 in
set_option maxHeartbeats 4000000 in
theorem BlakeKnown_law (w : World) : Calls Try.prog 5 #[] w fun e w' => e = .returned (.bool true) ∧ Below w.heap.size w w' := by
  have kc := fun (w : World) (C : Array Value) (n c : Nat) => Lib.run_convert_bytes_const (P := Try.prog) w 22 5 C n c Try.underlying22 Try.underlying5
  go_enter Try.func5, Try.ntmps5
  go_upto_region 2 with fail
  obtain ⟨W0, hW0⟩ : ∃ W0, w.alloc (.cells #[.int .u64 7575470396830417044, .int .u64 16217780911485569660, .int .u64 2257911209298863390, .int .u64 1955984993957244665, .int .u64 5804117976009151714, .int .u64 16260012960048170287, .int .u64 3982742417699125801, .int .u64 5591671165331921282] 30) = W0 := ⟨_, rfl⟩
  obtain ⟨gw, hgw⟩ : ∃ g, w.heap.size = g := ⟨_, rfl⟩
  have B0 := Aside0.mk (show Below gw w W0 by rw [← hW0, ← hgw]; exact below_alloc (Below.refl _ _) _)
  have D0 := Aside0.mk (show W0.heap[gw]? = some (.cells (wu64 knW) 30 (0, 0)) by rw [← hW0, ← hgw]; exact heap_alloc_new w _)
  rw [hW0, hgw]
  clear hW0
  go_wp2_with fail
  refine (sum_calls none 0 [] _ (Kd.C_nil _ _) (by simp) (by simp)).mono ?_
  rintro e w1 ⟨rfl, b1⟩
  obtain ⟨s0, hs0⟩ : ∃ s, sumB ([] : List (List Int)).flatten = s := ⟨_, rfl⟩
  rw [hs0]
  have B1 := Aside0.mk b1
  clear b1
  go_wp2_with fail
  have hr := row_one (w := w1.alloc (.cells (w8 [97, 98, 99]) 5 (3, 4))) (A := some ⟨w1.heap.size, 0, none⟩) (c := 3) (xs := [97, 98, 99]) (by simp) (C_w8 (heap_alloc_new w1 _) (by simp))
  rw [World.size_alloc] at hr
  refine (sum_calls _ 1 [[97, 98, 99]] _ hr (by simp) (by simp)).mono ?_
  rintro e w2 ⟨rfl, b2⟩
  obtain ⟨s1, hs1⟩ : ∃ s, sumB ([[97, 98, 99]] : List (List Int)).flatten = s := ⟨_, rfl⟩
  rw [hs1]
  have H2 := Aside0.mk (B1.out.trans (((below_alloc (below_alloc (Below.refl w1.heap.size w1) (.cells (w8 [97, 98, 99]) 5 (3, 4))) (.cells #[.slice (some ⟨w1.heap.size, 0, none⟩) 3 3] 22)).trans (b2.mono (by simp; omega))).mono B1.out.size))
  clear b2 hr B1
  have l0 : s0.length = 32 := hs0 ▸ sumB_length _
  have l1 : s1.length = 32 := hs1 ▸ sumB_length _
  have HS := Aside0.mk (And.intro (show s0 = sumB [] from hs0.symm) (And.intro (show s1 = sumB [97, 98, 99] from hs1.symm) (And.intro l0 l1)))
  have SZ0 := Aside0.mk (w8_size s0 l0)
  have SZ1 := Aside0.mk (w8_size s1 l1)
  obtain ⟨a, ha⟩ : ∃ a, w2.heap.size = a := ⟨_, rfl⟩
  have G1 := Aside0.mk (show ((w2.alloc (.cells #[.int .u8 0, .int .u8 0, .int .u8 0, .int .u8 0, .int .u8 0, .int .u8 0, .int .u8 0, .int .u8 0, .int .u8 0, .int .u8 0, .int .u8 0, .int .u8 0, .int .u8 0, .int .u8 0, .int .u8 0, .int .u8 0, .int .u8 0, .int .u8 0, .int .u8 0, .int .u8 0, .int .u8 0, .int .u8 0, .int .u8 0, .int .u8 0, .int .u8 0, .int .u8 0, .int .u8 0, .int .u8 0, .int .u8 0, .int .u8 0, .int .u8 0, .int .u8 0] 24)).alloc (.cells #[.int .u8 0, .int .u8 0, .int .u8 0, .int .u8 0, .int .u8 0, .int .u8 0, .int .u8 0, .int .u8 0, .int .u8 0, .int .u8 0, .int .u8 0, .int .u8 0, .int .u8 0, .int .u8 0, .int .u8 0, .int .u8 0, .int .u8 0, .int .u8 0, .int .u8 0, .int .u8 0, .int .u8 0, .int .u8 0, .int .u8 0, .int .u8 0, .int .u8 0, .int .u8 0, .int .u8 0, .int .u8 0, .int .u8 0, .int .u8 0, .int .u8 0, .int .u8 0] 24)).heap[a]? = some (.cells #[.int .u8 0, .int .u8 0, .int .u8 0, .int .u8 0, .int .u8 0, .int .u8 0, .int .u8 0, .int .u8 0, .int .u8 0, .int .u8 0, .int .u8 0, .int .u8 0, .int .u8 0, .int .u8 0, .int .u8 0, .int .u8 0, .int .u8 0, .int .u8 0, .int .u8 0, .int .u8 0, .int .u8 0, .int .u8 0, .int .u8 0, .int .u8 0, .int .u8 0, .int .u8 0, .int .u8 0, .int .u8 0, .int .u8 0, .int .u8 0, .int .u8 0, .int .u8 0] 24 (0, 0)) by rw [← ha]; exact heap_alloc2_old w2 _ _)
  have G2 := Aside0.mk (show ((w2.alloc (.cells #[.int .u8 0, .int .u8 0, .int .u8 0, .int .u8 0, .int .u8 0, .int .u8 0, .int .u8 0, .int .u8 0, .int .u8 0, .int .u8 0, .int .u8 0, .int .u8 0, .int .u8 0, .int .u8 0, .int .u8 0, .int .u8 0, .int .u8 0, .int .u8 0, .int .u8 0, .int .u8 0, .int .u8 0, .int .u8 0, .int .u8 0, .int .u8 0, .int .u8 0, .int .u8 0, .int .u8 0, .int .u8 0, .int .u8 0, .int .u8 0, .int .u8 0, .int .u8 0] 24)).alloc (.cells #[.int .u8 0, .int .u8 0, .int .u8 0, .int .u8 0, .int .u8 0, .int .u8 0, .int .u8 0, .int .u8 0, .int .u8 0, .int .u8 0, .int .u8 0, .int .u8 0, .int .u8 0, .int .u8 0, .int .u8 0, .int .u8 0, .int .u8 0, .int .u8 0, .int .u8 0, .int .u8 0, .int .u8 0, .int .u8 0, .int .u8 0, .int .u8 0, .int .u8 0, .int .u8 0, .int .u8 0, .int .u8 0, .int .u8 0, .int .u8 0, .int .u8 0, .int .u8 0] 24)).heap[a + 1]? = some (.cells #[.int .u8 0, .int .u8 0, .int .u8 0, .int .u8 0, .int .u8 0, .int .u8 0, .int .u8 0, .int .u8 0, .int .u8 0, .int .u8 0, .int .u8 0, .int .u8 0, .int .u8 0, .int .u8 0, .int .u8 0, .int .u8 0, .int .u8 0, .int .u8 0, .int .u8 0, .int .u8 0, .int .u8 0, .int .u8 0, .int .u8 0, .int .u8 0, .int .u8 0, .int .u8 0, .int .u8 0, .int .u8 0, .int .u8 0, .int .u8 0, .int .u8 0, .int .u8 0] 24 (0, 0)) by rw [← ha]; exact heap_alloc2_new w2 _ _)
  clear l0 l1 hs0 hs1
  go_upto_region 3 with (first | (refine wpList_store_row rfl 24 (.tmp 2) (.tmp 11) rfl a (w8 s0) (by first | rfl | (rw [← ha]; rfl)) rfl 24 _ G1.out SZ0.out (by simp [w8]; exact HS.out.2.2.1.symm) (w8_all _) ?_) | (refine wpList_store_row rfl 24 (.tmp 3) (.tmp 15) rfl (a + 1) (w8 s1) rfl rfl 24 _ ((setRow_other _ _ _ _ (by omega)).trans G2.out) SZ1.out (by simp [w8]; exact HS.out.2.2.2.symm) (w8_all _) ?_))
  obtain ⟨W4, hW4⟩ : ∃ W4, (((w2.alloc (.cells #[.int .u8 0, .int .u8 0, .int .u8 0, .int .u8 0, .int .u8 0, .int .u8 0, .int .u8 0, .int .u8 0, .int .u8 0, .int .u8 0, .int .u8 0, .int .u8 0, .int .u8 0, .int .u8 0, .int .u8 0, .int .u8 0, .int .u8 0, .int .u8 0, .int .u8 0, .int .u8 0, .int .u8 0, .int .u8 0, .int .u8 0, .int .u8 0, .int .u8 0, .int .u8 0, .int .u8 0, .int .u8 0, .int .u8 0, .int .u8 0, .int .u8 0, .int .u8 0] 24)).alloc (.cells #[.int .u8 0, .int .u8 0, .int .u8 0, .int .u8 0, .int .u8 0, .int .u8 0, .int .u8 0, .int .u8 0, .int .u8 0, .int .u8 0, .int .u8 0, .int .u8 0, .int .u8 0, .int .u8 0, .int .u8 0, .int .u8 0, .int .u8 0, .int .u8 0, .int .u8 0, .int .u8 0, .int .u8 0, .int .u8 0, .int .u8 0, .int .u8 0, .int .u8 0, .int .u8 0, .int .u8 0, .int .u8 0, .int .u8 0, .int .u8 0, .int .u8 0, .int .u8 0] 24)).setRow a (w8 s0)).setRow (a + 1) (w8 s1) = W4 := ⟨_, rfl⟩
  rw [hW4]
  have K0 := Aside0.mk (show W4.heap[a]? = some (.cells (w8 s0) 24 (0, 0)) by rw [← hW4]; exact (setRow_other _ _ _ _ (by omega)).trans (setRow_heap _ _ _ _ _ _ G1.out))
  have K1 := Aside0.mk (show W4.heap[a + 1]? = some (.cells (w8 s1) 24 (0, 0)) by rw [← hW4]; exact setRow_heap _ _ _ _ _ _ ((setRow_other _ _ _ _ (by omega)).trans G2.out))
  have hwa : W0.heap.size ≤ a := by
    have h := H2.out.size
    rw [ha] at h
    exact h
  have B4 := Aside0.mk (show Below W0.heap.size W0 W4 by
    rw [← hW4]; exact below_setRow (below_setRow ((H2.out.alloc H2.out.size _).alloc (by simp; have := H2.out.size; omega) _) hwa _) (by omega) _)
  have hgw1 : gw < W0.heap.size := lt_of_block D0.out
  have D4 := Aside0.mk ((B4.out.block gw hgw1).trans D0.out)
  have B5 := Aside0.mk (B0.out.trans (B4.out.mono (by omega)))
  clear hW4 G1 G2 SZ0 SZ1 H2 kc B0 B4 D0
  have hw4 : a + 1 < W4.heap.size := lt_of_block K1.out
  go_wp2_with fail
  go_loopg [4] 8 (fun kk v4 wr => ∃ i : Nat, i + kk = 8 ∧ v4 = .int .i64 i ∧ Aside0 (Below W4.heap.size W4 wr))
  case atStart => exact ⟨0, by omega, rfl, ⟨Below.refl _ _⟩⟩
  case round =>
    obtain ⟨i, hi, rfl, HW⟩ := hrel
    by_cases hlt : i < 8
    · obtain ⟨p, hp⟩ : ∃ p, wr.heap.size = p := ⟨_, rfl⟩
      have hpw : W4.heap.size ≤ p := hp ▸ HW.out.size
      have k0 := Aside0.mk ((HW.out.block a (by omega)).trans K0.out)
      have k1 := Aside0.mk ((HW.out.block (a + 1) (by omega)).trans K1.out)
      have SZ0 := Aside0.mk (w8_size s0 HS.out.2.2.1)
      have SZ1 := Aside0.mk (w8_size s1 HS.out.2.2.2)
      have G1 := Aside0.mk (show (wr.alloc (.cells #[.int .u8 0, .int .u8 0, .int .u8 0, .int .u8 0, .int .u8 0, .int .u8 0, .int .u8 0, .int .u8 0, .int .u8 0, .int .u8 0, .int .u8 0, .int .u8 0, .int .u8 0, .int .u8 0, .int .u8 0, .int .u8 0, .int .u8 0, .int .u8 0, .int .u8 0, .int .u8 0, .int .u8 0, .int .u8 0, .int .u8 0, .int .u8 0, .int .u8 0, .int .u8 0, .int .u8 0, .int .u8 0, .int .u8 0, .int .u8 0, .int .u8 0, .int .u8 0] 24)).heap[p]? = some (.cells #[.int .u8 0, .int .u8 0, .int .u8 0, .int .u8 0, .int .u8 0, .int .u8 0, .int .u8 0, .int .u8 0, .int .u8 0, .int .u8 0, .int .u8 0, .int .u8 0, .int .u8 0, .int .u8 0, .int .u8 0, .int .u8 0, .int .u8 0, .int .u8 0, .int .u8 0, .int .u8 0, .int .u8 0, .int .u8 0, .int .u8 0, .int .u8 0, .int .u8 0, .int .u8 0, .int .u8 0, .int .u8 0, .int .u8 0, .int .u8 0, .int .u8 0, .int .u8 0] 24 (0, 0)) by rw [← hp]; exact heap_alloc_new wr _)
      go_upto_if 22 with (first | (refine wpList_load_row rfl 24 (.tmp 2) rfl a rfl 24 (w8 s0) (0, 0) _ k0.out Try.underlying24 rfl SZ0.out ?_) | (refine wpList_store_row rfl 24 (.tmp 5) (.tmp 20) rfl p (w8 s0) (by first | rfl | (rw [← hp]; rfl)) rfl 24 _ G1.out SZ0.out (by simp [w8]; exact HS.out.2.2.1.symm) (w8_all _) ?_))
      obtain ⟨W5, hW5⟩ : ∃ W, (wr.alloc (.cells #[.int .u8 0, .int .u8 0, .int .u8 0, .int .u8 0, .int .u8 0, .int .u8 0, .int .u8 0, .int .u8 0, .int .u8 0, .int .u8 0, .int .u8 0, .int .u8 0, .int .u8 0, .int .u8 0, .int .u8 0, .int .u8 0, .int .u8 0, .int .u8 0, .int .u8 0, .int .u8 0, .int .u8 0, .int .u8 0, .int .u8 0, .int .u8 0, .int .u8 0, .int .u8 0, .int .u8 0, .int .u8 0, .int .u8 0, .int .u8 0, .int .u8 0, .int .u8 0] 24)).setRow p (w8 s0) = W := ⟨_, rfl⟩
      rw [hW5]
      have P5 := Aside0.mk (show W5.heap[p]? = some (.cells (w8 s0) 24 (0, 0)) by rw [← hW5]; exact setRow_heap _ _ _ _ _ _ G1.out)
      have B5' := Aside0.mk (show Below p wr W5 by rw [← hW5, ← hp]; exact below_setRow (below_alloc (Below.refl _ _) _) (Nat.le_refl _) _)
      obtain ⟨ss, hss⟩ : ∃ s, (if i < 4 then s0 else s1) = s := ⟨_, rfl⟩
      have HSS := Aside0.mk hss
      obtain ⟨bz, hbz⟩ : ∃ b, decide ((4 : Int) ≤ (i : Int)) = b := ⟨_, rfl⟩
      rw [hbz]
      clear hW5 G1 hss
      go_cut [] from 23 to 23 (fun wx => Aside0 (wx.heap[p]? = some (.cells (w8 ss) 24 (0, 0)) ∧ Below p wr wx))
      case first =>
        by_cases h4 : (4 : Int) ≤ (i : Int)
        · have e := HSS.out
          rw [if_neg (by omega)] at e
          have so : (w8 s0).size = (w8 s1).size := by simp [w8, HS.out.2.2.1, HS.out.2.2.2]
          obtain rfl : bz = true := by rw [← hbz]; exact decide_eq_true h4
          have k1' := Aside0.mk ((B5'.out.block (a + 1) (by omega)).trans k1.out)
          clear h4
          go_wp2_with (first | (refine wpList_load_row rfl 24 (.tmp 3) rfl (a + 1) rfl 24 (w8 s1) (0, 0) _ k1'.out Try.underlying24 rfl SZ1.out ?_) | (refine wpList_store_row rfl 24 (.tmp 5) (.tmp 23) rfl p (w8 s1) rfl rfl 24 _ P5.out SZ1.out so (w8_all _) ?_))
          go_meet
          exact ⟨by rw [← e]; exact setRow_heap _ _ _ _ _ _ P5.out, below_setRow B5'.out (Nat.le_refl _) _⟩
        · have e := HSS.out
          rw [if_pos (by omega)] at e
          obtain rfl : bz = false := by rw [← hbz]; exact decide_eq_false h4
          clear h4
          go_wp2_with fail
          go_meet
          exact ⟨by rw [← e]; exact P5.out, B5'.out⟩
      case rest =>
      have P6 := Aside0.mk hcut.out.1
      have B6 := Aside0.mk hcut.out.2
      clear hcut P5 B5' k0 k1 SZ0 SZ1 hbz
      obtain ⟨q, hq⟩ : ∃ q, i % 4 = q := ⟨_, rfl⟩
      have q26 : (i : Int) % 4 = (q : Int) := by omega
      have hq4 : q < 4 := by omega
      have w27 : IntKind.i64.wrap (8 * (q : Int)) = 8 * (q : Int) := IntWalk.i64_in _ (by omega)
      have w31 : IntKind.i64.wrap (8 * (q : Int) + 8) = 8 * (q : Int) + 8 := IntWalk.i64_in _ (by omega)
      have hkn := kn_word s0 s1 HS.out.1 HS.out.2.1 i hlt
      rw [HSS.out, hq] at hkn
      have ls : ss.length = 32 := by rw [← HSS.out]; split; exact HS.out.2.2.1; exact HS.out.2.2.2
      obtain ⟨x, hx⟩ : ∃ x, knW.getD i 0 = x := ⟨_, rfl⟩
      rw [hx] at hkn
      have HK := Aside0.mk hkn
      have HX := Aside0.mk hx
      have HLS := Aside0.mk ls
      have sl := kn_slice p q hq4
      have hxB : 0 ≤ x ∧ x < B64 := by
        rw [← hx, B64_eq]
        have h : i = 0 ∨ i = 1 ∨ i = 2 ∨ i = 3 ∨ i = 4 ∨ i = 5 ∨ i = 6 ∨ i = 7 := by omega
        rcases h with rfl | rfl | rfl | rfl | rfl | rfl | rfl | rfl <;> decide
      have HXB := Aside0.mk hxB
      clear hq hkn ls hx hxB
      go_wp2_with fail
      refine (frombytes_n _ ((ss.drop (8 * q)).take 8) _ (RL_part HLS.out P6.out q hq4) HK.out.2 (by rw [List.length_take]; omega)).mono ?_
      rintro e w7 ⟨v7, rfl, d7, b7⟩
      rw [HK.out.1] at d7
      have hB7 : Below p wr w7 := B6.out.trans (b7.mono (hp ▸ B6.out.size))
      have B7 := Aside0.mk (HW.out.trans ((hp ▸ hB7).mono HW.out.size))
      have D7 := Aside0.mk d7
      have cw := (blk_cell ((B7.out.block gw (by omega)).trans D4.out) i).trans (wu64_get knW i hlt)
      rw [HX.out] at cw
      have hi8 : (i : Int) < 8 := by omega
      clear d7 b7 hB7 B6 P6 sl w27 w31 q26
      go_wp2_with fail
      have al := below_alloc (Below.refl w7.heap.size w7) (.cells #[.int .u64 x] 30)
      have dx : DN (w7.alloc (.cells #[.int .u64 x] 30)) (.slice (some ⟨w7.heap.size, 0, none⟩) 1 1) x 80 := ⟨[x], RL.lit1 (heap_alloc_new w7 _), fun y hy => by
        simp only [List.mem_singleton] at hy
        subst hy
        exact HXB.out, by simp [nv], by simp⟩
      refine (cmp_self_v (D7.out.dn.below al) dx (by omega) (by omega)).mono ?_
      rintro e w8 ⟨rfl, b8⟩
      have B8 := Aside0.mk (B7.out.trans ((al.trans (b8.mono (by simp))).mono B7.out.size))
      clear al dx b8 cw B7 D7
      go_wp2_with fail
      go_roundg (gk - 1)
      case measure => omega
      case rel => exact ⟨i + 1, by omega, by go_num, B8⟩
    · obtain rfl : i = 8 := by omega
      obtain ⟨g8, hg8⟩ : ∃ g, wr.heap.size = g := ⟨_, rfl⟩
      have mk := mk65 wr
      obtain ⟨W9, hW9⟩ : ∃ W, wr.alloc (.cells (w8 (List.replicate 65 0)) 5) = W := ⟨_, rfl⟩
      have P9 := Aside0.mk (show W9.heap[g8]? = some (.cells (w8 (fillTo 65 (fun _ => 97) (fun _ => 0) 0)) 5 (0, 0)) by rw [← hW9, ← hg8]; exact heap_alloc_new wr _)
      have B9 := Aside0.mk (show Below g8 wr W9 by rw [← hW9, ← hg8]; exact below_alloc (Below.refl _ _) _)
      rw [hW9, hg8] at mk
      have HG8 := Aside0.mk hg8
      have BW := Aside0.mk (B5.out.trans (HW.out.mono (by omega)))
      obtain ⟨wo, hwo⟩ : ∃ W, wr = W := ⟨_, rfl⟩
      rw [hwo] at B9 BW mk HG8 ⊢
      clear hW9 hg8 hwo HW
      go_wp2_with fail
      clear mk
      go_loopg [9] 65 (fun kk v9 wx => ∃ i : Nat, i + kk = 65 ∧ v9 = .int .i64 i ∧ Aside0 (wx.heap[g8]? = some (.cells (w8 (fillTo 65 (fun _ => 97) (fun _ => 0) i)) 5 (0, 0))) ∧ Aside0 (Below g8 wo wx))
      case atStart => exact ⟨0, by omega, rfl, P9, B9⟩
      case round =>
        clear P9 B9
        obtain ⟨i, hi, rfl, HP, HB⟩ := hrel
        by_cases hlt2 : i < 65
        · have fp := blk_frozen HP.out i
          have cp := w8_cell HP.out i (by rw [fillTo_length]; exact hlt2)
          have P5 := Aside0.mk (show (wr.setCell ⟨g8, i, none⟩ (.int .u8 97)).heap[g8]? = some (.cells (w8 (fillTo 65 (fun _ => 97) (fun _ => 0) (i + 1))) 5 (0, 0)) by
            rw [← fillTo_set 65 (fun _ => 97) (fun _ => 0) i 97 rfl, ← w8_set]
            exact blk_set HP.out i _)
          have B5 := Aside0.mk (Below.setCell HB.out (show g8 ≤ (Addr.mk g8 i none).block from Nat.le_refl _) (.int .u8 97))
          have hiI : (i : Int) < 65 := by omega
          clear HP HB
          go_wp2_with fail
          go_roundg (gk - 1)
          case measure => omega
          case rel => exact ⟨i + 1, by omega, by go_num, P5, B5⟩
        · obtain rfl : i = 65 := by omega
          have h8 : wr.heap[g8]? = some (.cells (w8 (List.replicate 65 97)) 5 (0, 0)) := HP.out
          have hmx : Try.prog.follows .mixedOrders = true := by kernel_rfl
          have B7 := Aside0.mk (BW.out.trans ((HG8.out ▸ HB.out).mono (by rw [← hgw]; exact BW.out.size)))
          clear HP HB
          go_upto_region 17 with fail
          have R := fun Q => reg17 Q wr g8
          refine R _ _ _ _ _ _ _ _ _ _ _ _ _ _ _ _ _ _ _ _ _ _ _ _ _ _ _ _ _ _ _ _ _ _ _ _ _ _ _ _ _ _ _ _ _ _ _ _ _ _ _ _ _ _ _ _ _ _ _ _ _ _ _ _ _ _ _ _ _ _ _ _ _ _ _ _ _ _ _ (by kernel_rfl) h8 hmx ?_
          clear R
          intro y52 y53 y54 y55 y56 y57 y58 y59 y60 y61 y62 y63 y64 y65 y66 y67 y68 y69 y70 y71 y72 y73 y74 y75 y76 y77 wz bz
          go_wp2_with fail
          go_ret
          exact ⟨rfl, by rw [← hgw] at B7; exact bon_ B7.out bz⟩
end Go.Proofs.Ytokadjfakncdfaa
