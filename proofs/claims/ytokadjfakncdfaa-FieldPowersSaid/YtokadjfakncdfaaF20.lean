/- marlinspikelaw02: wakes -/
import Derived.Test.YtokadjfakncdfaaF26x4
import Derived.Test.YtokadjfakncdfaaF22x4
set_option linter.unusedVariables false
set_option linter.unusedSimpArgs false
namespace Go.Proofs.Ytokadjfakncdfaa
open Go.RowKit Go.Proofs.YtokadjfakncdfaaW.PrintWords Go.Proofs.YtokadjfakncdfaaW.PrintLast Go.Proofs.YtokadjfakncdfaaW.PrintMore
theorem fp13 : FP 4 13 := ⟨by decide, by decide, by decide⟩
theorem dn_lit (w : World) (gb : Nat) (h : w.heap.size = gb) (k : Int) (e : Nat) (hk : 0 ≤ k ∧ k < B64) : DN (w.alloc (.cells #[.int .u64 k] e)) (.slice (some ⟨gb, 0, none⟩) 1 1) k 1 := by
  subst h
  exact dn_one w k e hk
theorem nfp12 : ¬ FP 4 12 := fun h => by have := h.odd; omega
set_option maxRecDepth 100000 in
set_option maxHeartbeats 4000000 in
theorem wakes02_calls (w : World) : Calls Try.prog 42 #[] w fun e w' => e = .returned (.bool true) ∧ Below w.heap.size w w' := by
  go_enter Try.func42, Try.ntmps42
  go_wp2_with fail
  refine (newOk4_calls _ 13 1 _ (dn_one w 13 30 (by decide)) (by decide) fp13).mono ?_
  rintro e w1 ⟨g, rfl, hf, st⟩
  have HF := Aside0.mk (show ∀ w', Below w1.heap.size w1 w' → Fd 4 121 w' g 13 from fun w' hb => hf.below hb)
  have HB1 := Aside0.mk (show Below w.heap.size w w1 from (below_alloc (Below.refl w.heap.size w) (.cells #[.int .u64 13] 30)).trans (st.mono (below_alloc (Below.refl w.heap.size w) (.cells #[.int .u64 13] 30)).size))
  have U1 := Aside0.mk (below_alloc (Below.refl w1.heap.size w1) (.cells #[.int .u64 20] 30))
  clear hf st
  go_wp2_with fail
  refine (fromLit4 w1.heap.size rfl 20 30 (by decide) (HF.out _ U1.out)).mono ?_
  rintro e w2 ⟨x, ggx, rfl, hx, st⟩
  obtain rfl := hx.1
  have Hx := Aside0.mk hx.2
  have S2 := Aside0.mk (below_more U1.out st)
  obtain ⟨W2, hW⟩ : ∃ W, (w2.alloc (.cells (c64 (List.replicate 4 0)) 63)).setRow w2.heap.size (c64 (dg 4 x)) = W := ⟨_, rfl⟩
  obtain ⟨b1, b2⟩ := boxed4 w2 x
  rw [hW] at b1 b2
  have Q3 := Aside0.mk b2
  have U2 := Aside0.mk (below_more S2.out b1)
  have SZ2 := Aside0.mk (c64_info info63 (dg_length 4 x))
  have SN2 := Aside0.mk (show (c64 (List.replicate 4 0)).size = (c64 (dg 4 x)).size from c64_sizes (by rw [dg_length]; rfl))
  obtain ⟨p3, hp⟩ : ∃ p, w2.heap.size = p := ⟨_, rfl⟩
  have Z2 := Aside0.mk (show W2.heap.size = p3 + 1 by rw [← hW, ← hp]; exact size_boxed _ _ _ _)
  have hn := heap_alloc_new w2 (.cells (c64 (List.replicate 4 0)) 63)
  rw [hp] at Q3 hn hW
  have HN2 := Aside0.mk hn
  have HW2 := Aside0.mk hW
  clear hx st b1 b2 U1 hn hW
  go_wp2_with (refine wpList_store_row rfl 63 (.tmp 3) (.tmp 24) rfl p3 (c64 (dg 4 x)) (by first | rfl | (rw [← hp]; rfl)) rfl 63 _ HN2.out SZ2.out SN2.out (c64_all _) ?_)
  rw [show (w2.alloc (.cells #[.int .u64 0, .int .u64 0, .int .u64 0, .int .u64 0] 63)).setRow p3 (c64 (dg 4 x)) = W2 from HW2.out]
  clear HN2 HW2 SN2
  have U2a := Aside0.mk (below_more U2.out (below_alloc (Below.refl _ _) (.cells #[.int .u64 9] 30)))
  have Q3 := Aside0.mk (Q3.out.below (below_alloc (Below.refl W2.heap.size W2) (.cells #[.int .u64 9] 30)))
  clear U2
  refine (fromLit4 (p3 + 1) Z2.out 9 30 (by decide) (HF.out _ U2a.out)).mono ?_
  rintro e w3 ⟨y, ggy, rfl, hy, st⟩
  obtain rfl := hy.1
  have Hy := Aside0.mk hy.2
  have S3 := Aside0.mk (below_more U2a.out st)
  obtain ⟨W3, hW⟩ : ∃ W, (w3.alloc (.cells (c64 (List.replicate 4 0)) 63)).setRow w3.heap.size (c64 (dg 4 y)) = W := ⟨_, rfl⟩
  obtain ⟨b1, b2⟩ := boxed4 w3 y
  rw [hW] at b1 b2
  have Q3 := Aside0.mk ((Q3.out.below st).below b1)
  have Q5 := Aside0.mk b2
  have U3 := Aside0.mk (below_more S3.out b1)
  have SZ3 := Aside0.mk (c64_info info63 (dg_length 4 y))
  have SN3 := Aside0.mk (show (c64 (List.replicate 4 0)).size = (c64 (dg 4 y)).size from c64_sizes (by rw [dg_length]; rfl))
  obtain ⟨p5, hp⟩ : ∃ p, w3.heap.size = p := ⟨_, rfl⟩
  have Z3 := Aside0.mk (show W3.heap.size = p5 + 1 by rw [← hW, ← hp]; exact size_boxed _ _ _ _)
  have hn := heap_alloc_new w3 (.cells (c64 (List.replicate 4 0)) 63)
  rw [hp] at Q5 hn hW
  have HN3 := Aside0.mk hn
  have HW3 := Aside0.mk hW
  clear hy st b1 b2 U2a hn hW
  go_wp2_with (refine wpList_store_row rfl 63 (.tmp 5) (.tmp 30) rfl p5 (c64 (dg 4 y)) (by first | rfl | (rw [← hp]; rfl)) rfl 63 _ HN3.out SZ3.out SN3.out (c64_all _) ?_)
  rw [show (w3.alloc (.cells #[.int .u64 0, .int .u64 0, .int .u64 0, .int .u64 0] 63)).setRow p5 (c64 (dg 4 y)) = W3 from HW3.out]
  clear HN3 HW3 SN3
  have U3a := Aside0.mk (below_more U3.out (below_alloc (Below.refl _ _) (.cells #[.int .u64 12] 30)))
  have Q3 := Aside0.mk (Q3.out.below (below_alloc (Below.refl W3.heap.size W3) (.cells #[.int .u64 12] 30)))
  have Q5 := Aside0.mk (Q5.out.below (below_alloc (Below.refl W3.heap.size W3) (.cells #[.int .u64 12] 30)))
  clear U3
  refine (newBad4_calls _ 12 1 _ (dn_lit W3 (p5 + 1) Z3.out 12 30 (by decide)) (by decide) nfp12).mono ?_
  rintro e w4 ⟨rfl, st⟩
  have Q3 := Aside0.mk (Q3.out.below st)
  have Q5 := Aside0.mk (Q5.out.below st)
  have U4 := Aside0.mk (below_more U3a.out st)
  clear st U3a
  obtain ⟨s1, h1⟩ : ∃ v, v = mo 4 13 (20 + 9) := ⟨_, rfl⟩
  obtain ⟨s2, h2⟩ : ∃ v, v = mo 4 13 (20 * 9) := ⟨_, rfl⟩
  obtain ⟨s3, h3⟩ : ∃ v, v = mo 4 13 (20 - 9) := ⟨_, rfl⟩
  have H1 := Aside0.mk h1
  have H2 := Aside0.mk h2
  have H3 := Aside0.mk h3
  clear h1 h2 h3
  go_wp2_with (first | (refine wpList_load_rowG (by rfl) 63 (.tmp 3) rfl _ rfl 63 (c64 (dg 4 x)) (0, 0) _ Q3.out.out Try.underlying63 rfl SZ2.out ?_) | (refine wpList_load_rowG (by rfl) 63 (.tmp 5) rfl _ rfl 63 (c64 (dg 4 y)) (0, 0) _ Q5.out.out Try.underlying63 rfl SZ3.out ?_))
  have Ub := Aside0.mk (below_more U4.out (below_alloc (Below.refl _ _) (.cells #[.int .u32 7] 75)))
  have Q3 := Aside0.mk (Q3.out.below (below_alloc (Below.refl _ _) (.cells #[.int .u32 7] 75)))
  have Q5 := Aside0.mk (Q5.out.below (below_alloc (Below.refl _ _) (.cells #[.int .u32 7] 75)))
  clear U4
  refine (isL4 (x := x) _ (20) 7 (HF.out _ Ub.out) Hx.out (heap_alloc_new _ _) (by decide) words7).mono ?_
  rintro e w5 ⟨rfl, st⟩
  rw [show decide ((20 : Int) % 13 = 7) = true from by decide]
  have Q3 := Aside0.mk (Q3.out.below st)
  have Q5 := Aside0.mk (Q5.out.below st)
  have U5 := Aside0.mk (below_more Ub.out st)
  clear st Ub
  go_wp2_with (first | (refine wpList_load_rowG (by rfl) 63 (.tmp 3) rfl _ rfl 63 (c64 (dg 4 x)) (0, 0) _ Q3.out.out Try.underlying63 rfl SZ2.out ?_) | (refine wpList_load_rowG (by rfl) 63 (.tmp 5) rfl _ rfl 63 (c64 (dg 4 y)) (0, 0) _ Q5.out.out Try.underlying63 rfl SZ3.out ?_))
  refine (addM4 (x := x) (y := y) 20 9 s1 (HF.out _ U5.out) Hx.out Hy.out H1.out).mono ?_
  rintro e w6 ⟨rfl, st⟩
  have Q3 := Aside0.mk (Q3.out.below st)
  have Q5 := Aside0.mk (Q5.out.below st)
  have U6 := Aside0.mk (below_more U5.out st)
  clear st U5
  go_wp2_with fail
  have Ub := Aside0.mk (below_more U6.out (below_alloc (Below.refl _ _) (.cells #[.int .u32 3] 75)))
  have Q3 := Aside0.mk (Q3.out.below (below_alloc (Below.refl _ _) (.cells #[.int .u32 3] 75)))
  have Q5 := Aside0.mk (Q5.out.below (below_alloc (Below.refl _ _) (.cells #[.int .u32 3] 75)))
  clear U6
  refine (isL4 (x := s1) _ (20 + 9) 3 (HF.out _ Ub.out) H1.out (heap_alloc_new _ _) (by decide) words3).mono ?_
  rintro e w7 ⟨rfl, st⟩
  rw [show decide ((20 + 9 : Int) % 13 = 3) = true from by decide]
  have Q3 := Aside0.mk (Q3.out.below st)
  have Q5 := Aside0.mk (Q5.out.below st)
  have U7 := Aside0.mk (below_more Ub.out st)
  clear st Ub
  go_wp2_with (first | (refine wpList_load_rowG (by rfl) 63 (.tmp 3) rfl _ rfl 63 (c64 (dg 4 x)) (0, 0) _ Q3.out.out Try.underlying63 rfl SZ2.out ?_) | (refine wpList_load_rowG (by rfl) 63 (.tmp 5) rfl _ rfl 63 (c64 (dg 4 y)) (0, 0) _ Q5.out.out Try.underlying63 rfl SZ3.out ?_))
  refine (mulM4 (x := x) (y := y) 20 9 s2 (HF.out _ U7.out) Hx.out Hy.out H2.out).mono ?_
  rintro e w8 ⟨rfl, st⟩
  have Q3 := Aside0.mk (Q3.out.below st)
  have Q5 := Aside0.mk (Q5.out.below st)
  have U8 := Aside0.mk (below_more U7.out st)
  clear st U7
  go_wp2_with fail
  have Ub := Aside0.mk (below_more U8.out (below_alloc (Below.refl _ _) (.cells #[.int .u32 11] 75)))
  have Q3 := Aside0.mk (Q3.out.below (below_alloc (Below.refl _ _) (.cells #[.int .u32 11] 75)))
  have Q5 := Aside0.mk (Q5.out.below (below_alloc (Below.refl _ _) (.cells #[.int .u32 11] 75)))
  clear U8
  refine (isL4 (x := s2) _ (20 * 9) 11 (HF.out _ Ub.out) H2.out (heap_alloc_new _ _) (by decide) words11).mono ?_
  rintro e w9 ⟨rfl, st⟩
  rw [show decide ((20 * 9 : Int) % 13 = 11) = true from by decide]
  have Q3 := Aside0.mk (Q3.out.below st)
  have Q5 := Aside0.mk (Q5.out.below st)
  have U9 := Aside0.mk (below_more Ub.out st)
  clear st Ub
  go_wp2_with (first | (refine wpList_load_rowG (by rfl) 63 (.tmp 3) rfl _ rfl 63 (c64 (dg 4 x)) (0, 0) _ Q3.out.out Try.underlying63 rfl SZ2.out ?_) | (refine wpList_load_rowG (by rfl) 63 (.tmp 5) rfl _ rfl 63 (c64 (dg 4 y)) (0, 0) _ Q5.out.out Try.underlying63 rfl SZ3.out ?_))
  refine (subM4 (x := x) (y := y) 20 9 s3 (HF.out _ U9.out) Hx.out Hy.out H3.out).mono ?_
  rintro e w10 ⟨rfl, st⟩
  have Q3 := Aside0.mk (Q3.out.below st)
  have Q5 := Aside0.mk (Q5.out.below st)
  have U10 := Aside0.mk (below_more U9.out st)
  clear st U9
  go_wp2_with fail
  have Ub := Aside0.mk (below_more U10.out (below_alloc (Below.refl _ _) (.cells #[.int .u32 11] 75)))
  have Q3 := Aside0.mk (Q3.out.below (below_alloc (Below.refl _ _) (.cells #[.int .u32 11] 75)))
  have Q5 := Aside0.mk (Q5.out.below (below_alloc (Below.refl _ _) (.cells #[.int .u32 11] 75)))
  clear U10
  refine (isL4 (x := s3) _ (20 - 9) 11 (HF.out _ Ub.out) H3.out (heap_alloc_new _ _) (by decide) words11).mono ?_
  rintro e w11 ⟨rfl, st⟩
  rw [show decide ((20 - 9 : Int) % 13 = 11) = true from by decide]
  have Q3 := Aside0.mk (Q3.out.below st)
  have Q5 := Aside0.mk (Q5.out.below st)
  have U11 := Aside0.mk (below_more Ub.out st)
  clear st Ub
  go_wp2_with fail
  go_ret
  exact ⟨rfl, HB1.out.trans (U11.out.mono HB1.out.size)⟩
end Go.Proofs.Ytokadjfakncdfaa
