/- The walk of marlinspikelaw02.FieldPowers. -/
import Derived.Test.YtokadjfakncdfaaF29
set_option linter.unusedVariables false
set_option linter.unusedSimpArgs false
namespace Go.Proofs.Ytokadjfakncdfaa
open Go.RowKit Go.Proofs.YtokadjfakncdfaaW.PrintWords Go.Proofs.YtokadjfakncdfaaW.PrintLast Go.Proofs.YtokadjfakncdfaaW.PrintMore
theorem RL.slen' {k : IntKind} {w : World} {a : Option Addr} {l c : Nat} {xs : List Int} (h : RL k w (.slice a l c) xs) : xs.length = l := by
  obtain ⟨A, c', e, _⟩ := h
  cases e
  rfl
set_option maxRecDepth 100000 in
set_option maxHeartbeats 16000000 in
theorem FieldPowers_law (w : World) (a0 : Option Addr) (l0 c0 : Nat) (z0 : List Int) (w0 : IsRow .u64 w a0 l0 c0 z0) (y0 : l0 * 8 ≤ 140737488351232) (a1 : Option Addr) (l1 c1 : Nat) (z1 : List Int) (w1 : IsRow .u64 w a1 l1 c1 z1) (y1 : l1 * 8 ≤ 140737488351232) (i : Int) (wi : (Lit.int .u64 i).wf = true) (k : Int) (wk : (Lit.int .u64 k).wf = true) :
    Calls Try.prog 13 #[.slice a0 l0 c0, .slice a1 l1 c1, .int .u64 i, .int .u64 k] w fun e w' => e = .returned (.bool true) ∧ Below w.heap.size w w' := by
  obtain ⟨ms, _, hm, dm⟩ := w0.u64
  obtain ⟨ka, _, ha, da⟩ := w1.u64
  have em := hm.slen'
  have ea := ha.slen'
  have RM := Aside0.mk hm
  have RA := Aside0.mk ha
  have DM := Aside0.mk dm
  have DA := Aside0.mk da
  have BI := Aside0.mk (wf_u64 wi)
  have BK := Aside0.mk (wf_u64 wk)
  have EM := Aside0.mk em
  have EA := Aside0.mk ea
  have LONG : ((100 : Int) < l0 ∨ ((l0 : Int) ≤ 100 ∧ (100 : Int) < l1)) ∨ ((l0 : Int) ≤ 100 ∧ (l1 : Int) ≤ 100) := by omega
  clear hm ha dm da w0 w1 y0 y1 wi wk em ea
  rcases LONG with (h0 | ⟨h0, h1⟩) | ⟨h0, h1⟩
  iterate 2
    · go_enter Try.func13, Try.ntmps13
      go_wp2_with fail
      refine (wakes02_calls _).mono ?_
      rintro e w1 ⟨rfl, b1⟩
      have H1 := Aside0.mk b1
      clear b1
      go_wp2_with fail
      go_ret
      exact ⟨rfl, H1.out⟩
  by_cases hl : 80 < ms.length
  · have HL := Aside0.mk hl
    clear hl
    go_enter Try.func13, Try.ntmps13
    go_wp2_with fail
    refine (newLong4_calls _ ms w RM.out HL.out).mono ?_
    rintro e w1 ⟨rfl, st⟩
    have H1 := Aside0.mk st
    clear st
    go_wp2_with fail
    refine (wakes02_calls _).mono ?_
    rintro e w2 ⟨rfl, st⟩
    have H2 := Aside0.mk (below_more H1.out st)
    clear st
    go_wp2_with fail
    go_ret
    exact ⟨rfl, H2.out⟩
  have HM := Aside0.mk (show DN w (.slice a0 l0 c0) (nv B64 ms) 80 from ⟨ms, RM.out, DM.out, rfl, by omega⟩)
  obtain ⟨m, hm⟩ : ∃ m, nv B64 ms = m := ⟨_, rfl⟩
  rw [hm] at HM
  clear hl hm
  by_cases hp : ¬ FP 4 m
  · have HP := Aside0.mk hp
    clear hp
    go_enter Try.func13, Try.ntmps13
    go_wp2_with fail
    refine (newBad4_calls _ m 80 w HM.out (by decide) HP.out).mono ?_
    rintro e w1 ⟨rfl, st⟩
    have H1 := Aside0.mk st
    clear st
    go_wp2_with fail
    refine (wakes02_calls _).mono ?_
    rintro e w2 ⟨rfl, st⟩
    have H2 := Aside0.mk (below_more H1.out st)
    clear st
    go_wp2_with fail
    go_ret
    exact ⟨rfl, H2.out⟩
  have HP := Aside0.mk (Classical.not_not.1 hp)
  clear hp
  obtain ⟨a, ha⟩ : ∃ a, nv B64 ka = a := ⟨_, rfl⟩
  have EAV := Aside0.mk ha
  obtain ⟨I, hI⟩ := Int.eq_ofNat_of_zero_le BI.out.1
  obtain ⟨K, hK⟩ := Int.eq_ofNat_of_zero_le BK.out.1
  have HI := Aside0.mk hI
  have HKK := Aside0.mk hK
  clear ha hI hK
  go_enter Try.func13, Try.ntmps13
  go_wp2_with fail
  refine (newOk4_calls _ m 80 w HM.out (by decide) HP.out).mono ?_
  rintro e w1 ⟨g, rfl, hf, st⟩
  have HB1 := Aside0.mk st
  have HFd := Aside0.mk hf
  have HF := Aside0.mk (show ∀ w', Below w1.heap.size w1 w' → Fd 4 121 w' g m from fun w' hb => HFd.out.below hb)
  have RA := Aside0.mk (RA.out.below st)
  have RM := Aside0.mk (RM.out.below st)
  have HM := Aside0.mk (HM.out.below st)
  have U1 := Aside0.mk (Below.refl w1.heap.size w1)
  clear st hf HFd
  go_wp2_with fail
  refine (fromAll4 (HF.out _ U1.out) RA.out DA.out).mono ?_
  rintro e w2 ⟨x, ggx, rfl, hx, st⟩
  have HCx := Aside0.mk hx
  have S2 := Aside0.mk (below_more U1.out st)
  obtain ⟨W2, hW⟩ : ∃ W, (w2.alloc (.cells (c64 (List.replicate 4 0)) 63)).setRow w2.heap.size (c64 (dg 4 x)) = W := ⟨_, rfl⟩
  obtain ⟨b1, b2⟩ := boxed4 w2 x
  rw [hW] at b1 b2
  have Q11 := Aside0.mk b2
  have U2 := Aside0.mk (below_more S2.out b1)
  have SZ2 := Aside0.mk (c64_info info63 (dg_length 4 x))
  have SN2 := Aside0.mk (show (c64 (List.replicate 4 0)).size = (c64 (dg 4 x)).size from c64_sizes (by rw [dg_length]; rfl))
  obtain ⟨p11, hp⟩ : ∃ p, w2.heap.size = p := ⟨_, rfl⟩
  have Z2 := Aside0.mk (show W2.heap.size = p11 + 1 by rw [← hW, ← hp]; exact size_boxed _ _ _ _)
  have hn := heap_alloc_new w2 (.cells (c64 (List.replicate 4 0)) 63)
  rw [hp] at Q11 hn hW
  have HN2 := Aside0.mk hn
  have HW2 := Aside0.mk hW
  clear hx st b1 b2 U1 S2 hn hW
  go_upto_region 7 with (refine wpList_store_row rfl 63 (.tmp 11) (.tmp 42) rfl p11 (c64 (dg 4 x)) (by first | rfl | (rw [← hp]; rfl)) rfl 63 _ HN2.out SZ2.out SN2.out (c64_all _) ?_)
  rw [show (w2.alloc (.cells #[.int .u64 0, .int .u64 0, .int .u64 0, .int .u64 0] 63)).setRow p11 (c64 (dg 4 x)) = W2 from HW2.out]
  clear HN2 HW2 SN2 hp
  by_cases hla : 80 < ka.length
  · obtain rfl := HCx.out.2 hla
    clear hla
    go_wp2_with fail
    refine (wakes02_calls _).mono ?_
    rintro e w3 ⟨rfl, st⟩
    have H2 := Aside0.mk (below_more HB1.out (below_more U2.out st))
    clear st
    go_wp2_with fail
    go_ret
    exact ⟨rfl, H2.out⟩
  have hx := HCx.out.1 (by omega)
  obtain rfl := hx.1
  have Hx := Aside0.mk (EAV.out ▸ hx.2)
  clear hla hx HCx RA DA
  go_wp2_with fail
  have D1 := Aside0.mk ((dn_lit W2 W2.heap.size rfl i 30 BI.out).below (below_alloc1 (W2.alloc (.cells #[.int .u64 i] 30)) (.cells #[.int .u64 k] 30)))
  have D2 := Aside0.mk (dn_lit (W2.alloc (.cells #[.int .u64 i] 30)) (W2.heap.size + 1) (by simp) k 30 BK.out)
  refine (add_n D1.out D2.out (by decide) (by decide)).mono ?_
  rintro e w3 ⟨vs, rfl, cn, st⟩
  have U3 := Aside0.mk (below_more (below_more (below_more U2.out (below_alloc1 _ (.cells #[.int .u64 i] 30))) (below_alloc1 _ (.cells #[.int .u64 k] 30))) st)
  have Q11 := Aside0.mk (((Q11.out.below (below_alloc1 _ (.cells #[.int .u64 i] 30))).below (below_alloc1 _ (.cells #[.int .u64 k] 30))).below st)
  have CS := Aside0.mk cn.dn
  clear cn st D1 D2 U2 Z2
  go_wp2_with fail
  have D1 := Aside0.mk ((dn_lit w3 w3.heap.size rfl i 30 BI.out).below (below_alloc1 (w3.alloc (.cells #[.int .u64 i] 30)) (.cells #[.int .u64 k] 30)))
  have D2 := Aside0.mk (dn_lit (w3.alloc (.cells #[.int .u64 i] 30)) (w3.heap.size + 1) (by simp) k 30 BK.out)
  refine (mul_n D1.out D2.out (by decide) (by decide)).mono ?_
  rintro e w4 ⟨vp, rfl, cn, st⟩
  have U4 := Aside0.mk (below_more (below_more (below_more U3.out (below_alloc1 _ (.cells #[.int .u64 i] 30))) (below_alloc1 _ (.cells #[.int .u64 k] 30))) st)
  have Q11 := Aside0.mk (((Q11.out.below (below_alloc1 _ (.cells #[.int .u64 i] 30))).below (below_alloc1 _ (.cells #[.int .u64 k] 30))).below st)
  have CS := Aside0.mk (((CS.out.below (below_alloc1 _ (.cells #[.int .u64 i] 30))).below (below_alloc1 _ (.cells #[.int .u64 k] 30))).below st)
  have CP := Aside0.mk cn.dn
  clear cn st D1 D2 U3
  go_upto_region 11 with fail
  have HFA := Aside0.mk (HF.out _ U4.out)
  have Bx11 := Aside0.mk Q11.out
  obtain ⟨u, hu⟩ : ∃ v, v = mo 4 m (a ^ I) := ⟨_, rfl⟩
  obtain ⟨v, hv⟩ : ∃ v, v = mo 4 m (a ^ K) := ⟨_, rfl⟩
  have HU := Aside0.mk hu
  have HV := Aside0.mk hv
  have SU := Aside0.mk (c64_info info63 (dg_length 4 u))
  have SV := Aside0.mk (c64_info info63 (dg_length 4 v))
  have SNU := Aside0.mk (show (c64 (List.replicate 4 0)).size = (c64 (dg 4 u)).size from c64_sizes (by rw [dg_length]; rfl))
  have SNV := Aside0.mk (show (c64 (List.replicate 4 0)).size = (c64 (dg 4 v)).size from c64_sizes (by rw [dg_length]; rfl))
  clear hu hv Q11
  refine wp_region_noPanic ?_
  refine wp_region_held_drew (S := (fun w' => Aside0 (Below w4.heap.size w4 w'))) (by kernel_rfl) ⟨below_drew (Below.refl _ _)⟩ (fun hHeld => ?_)
  refine tkG 0 (v := ?_) rfl (by kernel_rfl) (by kernel_rfl) (by kernel_rfl) (fun _ _ _ h => h) (Or.inl ⟨wantedN rfl, ?_⟩) hHeld ?_
  rotate_left; · (intro w' hSw; go_simp; first | done | with_reducible rfl)
  try simp only [Act.put, List.getElem_toArray, List.getElem_cons_succ, List.getElem_cons_zero, List.setIfInBounds_toArray, List.set_cons_zero, List.set_cons_succ]
  refine tkG 1 (v := elt 4 x) rfl (by kernel_rfl) (by kernel_rfl) (by kernel_rfl) (fun _ _ _ h => h) (Or.inl ⟨wantedN rfl, fun w' hSw => loadG 63 (.tmp 11) rfl ⟨p11, 0, none⟩ rfl (elt_load63 (Bx11.out.below hSw.out))⟩) hHeld ?_
  try simp only [Act.put, List.getElem_toArray, List.getElem_cons_succ, List.getElem_cons_zero, List.setIfInBounds_toArray, List.set_cons_zero, List.set_cons_succ]
  refine tkG 2 (v := ?_) rfl (by kernel_rfl) (by kernel_rfl) (by kernel_rfl) (fun _ _ _ h => h) (Or.inl ⟨wantedN rfl, ?_⟩) hHeld ?_
  rotate_left; · (intro w' hSw; go_simp; first | done | with_reducible rfl)
  try simp only [Act.put, List.getElem_toArray, List.getElem_cons_succ, List.getElem_cons_zero, List.setIfInBounds_toArray, List.set_cons_zero, List.set_cons_succ]
  refine tkG 5 (v := ?_) rfl (by kernel_rfl) (by kernel_rfl) (by kernel_rfl) (fun _ _ _ h => h) (Or.inl ⟨wantedN rfl, ?_⟩) hHeld ?_
  rotate_left; · (intro w' hSw; go_simp; first | done | with_reducible rfl)
  try simp only [Act.put, List.getElem_toArray, List.getElem_cons_succ, List.getElem_cons_zero, List.setIfInBounds_toArray, List.set_cons_zero, List.set_cons_succ]
  refine tkG 6 (v := elt 4 x) rfl (by kernel_rfl) (by kernel_rfl) (by kernel_rfl) (fun _ _ _ h => h) (Or.inl ⟨wantedN rfl, fun w' hSw => loadG 63 (.tmp 11) rfl ⟨p11, 0, none⟩ rfl (elt_load63 (Bx11.out.below hSw.out))⟩) hHeld ?_
  try simp only [Act.put, List.getElem_toArray, List.getElem_cons_succ, List.getElem_cons_zero, List.setIfInBounds_toArray, List.set_cons_zero, List.set_cons_succ]
  refine tkG 7 (v := ?_) rfl (by kernel_rfl) (by kernel_rfl) (by kernel_rfl) (fun _ _ _ h => h) (Or.inl ⟨wantedN rfl, ?_⟩) hHeld ?_
  rotate_left; · (intro w' hSw; go_simp; first | done | with_reducible rfl)
  try simp only [Act.put, List.getElem_toArray, List.getElem_cons_succ, List.getElem_cons_zero, List.setIfInBounds_toArray, List.set_cons_zero, List.set_cons_succ]
  refine wpAnyH_named (fun A hA => ?_)
  refine wpAnyH_inv (R11 w4 A i k u v) (fun l a' wr h => ⟨by obtain ⟨_, _, _, _, _, _, _, _, _, hs⟩ := h.out; exact hs.B⟩) (fun l a' wr j hI hj => ?_) (fun l a' wr hI hr => ?_) _ _ _ _ (by first | decide | (simp; done) | rfl) ⟨⟨undef, undef, undef, undef, undef, undef, 0, 0, by rw [hA]; rfl, ?_⟩⟩
  · obtain ⟨v66, v67, v71, v72, v17, v18, q17, q18, rfl, hs⟩ := hI.out
    have hun := ready_un hj
    have hlt : j < 14 := ready_lt hj
    have hcase : j = 3 ∨ j = 4 ∨ j = 8 ∨ j = 9 ∨ j = 10 ∨ j = 11 ∨ j = 12 ∨ j = 13 := by
      have s0 : l.getD 0 false = true := hs.fr 0 (by decide)
      have s1 : l.getD 1 false = true := hs.fr 1 (by decide)
      have s2 : l.getD 2 false = true := hs.fr 2 (by decide)
      have s5 : l.getD 5 false = true := hs.fr 5 (by decide)
      have s6 : l.getD 6 false = true := hs.fr 6 (by decide)
      have s7 : l.getD 7 false = true := hs.fr 7 (by decide)
      have n0 : j ≠ 0 := fun e => by rw [e, s0] at hun; cases hun
      have n1 : j ≠ 1 := fun e => by rw [e, s1] at hun; cases hun
      have n2 : j ≠ 2 := fun e => by rw [e, s2] at hun; cases hun
      have n5 : j ≠ 5 := fun e => by rw [e, s5] at hun; cases hun
      have n6 : j ≠ 6 := fun e => by rw [e, s6] at hun; cases hun
      have n7 : j ≠ 7 := fun e => by rw [e, s7] at hun; cases hun
      omega
    have HUN := Aside0.mk hun
    have HJ := Aside0.mk hj
    have HAA := Aside0.mk hA
    clear hI hlt hun hHeld hj
    have hF := Aside0.mk hs
    clear hs
    rcases hcase with rfl | rfl | rfl | rfl | rfl | rfl | rfl | rfl
    · refine wpOp_shut rfl (fun K' hK => ?_)
      rw [if_pos (wantedN rfl), hA]
      clear hA
      try simp only [Act.put, List.getElem_toArray, List.getElem_cons_succ, List.getElem_cons_zero, List.setIfInBounds_toArray, List.set_cons_zero, List.set_cons_succ]
      go_simp
      exact hK.out _ _ ⟨⟨_, _, _, _, _, _, _, _, by rw [HAA.out]; rfl, (hF.out.keep (below_alloc1 _ _)).s3 HUN.out (dn_at BI.out (heap_alloc_new _ _))⟩⟩
    · refine wpOp_shut rfl (fun K' hK => ?_)
      rw [if_pos (wantedN rfl), hA]
      clear hA
      try simp only [Act.put, List.getElem_toArray, List.getElem_cons_succ, List.getElem_cons_zero, List.setIfInBounds_toArray, List.set_cons_zero, List.set_cons_succ]
      go_simp
      refine (powD a I u (HFA.out.below hF.out.B) Hx.out (hF.out.f3 (ready_deps HJ.out (ds := [0, 1, 3]) (by kernel_rfl) 3 (by decide)) (hF.out.n12 4 (by decide) HUN.out)) (by decide) HI.out HU.out).mono ?_
      rintro e w' ⟨rfl, st⟩
      exact hK.out _ _ ⟨⟨_, _, _, _, _, _, _, _, by rw [HAA.out]; rfl, (hF.out.keep st).s4 HUN.out⟩⟩
    · refine wpOp_shut rfl (fun K' hK => ?_)
      rw [if_pos (wantedN rfl), hA]
      clear hA
      try simp only [Act.put, List.getElem_toArray, List.getElem_cons_succ, List.getElem_cons_zero, List.setIfInBounds_toArray, List.set_cons_zero, List.set_cons_succ]
      go_simp
      exact hK.out _ _ ⟨⟨_, _, _, _, _, _, _, _, by rw [HAA.out]; rfl, (hF.out.keep (below_alloc1 _ _)).s8 HUN.out (dn_at BK.out (heap_alloc_new _ _))⟩⟩
    · refine wpOp_shut rfl (fun K' hK => ?_)
      rw [if_pos (wantedN rfl), hA]
      clear hA
      try simp only [Act.put, List.getElem_toArray, List.getElem_cons_succ, List.getElem_cons_zero, List.setIfInBounds_toArray, List.set_cons_zero, List.set_cons_succ]
      go_simp
      refine (powD a K v (HFA.out.below hF.out.B) Hx.out (hF.out.f8 (ready_deps HJ.out (ds := [5, 6, 8, 4]) (by kernel_rfl) 8 (by decide)) (hF.out.n12 9 (by decide) HUN.out)) (by decide) HKK.out HV.out).mono ?_
      rintro e w' ⟨rfl, st⟩
      exact hK.out _ _ ⟨⟨_, _, _, _, _, _, _, _, by rw [HAA.out]; rfl, (hF.out.keep st).s9 HUN.out (ready_deps HJ.out (ds := [5, 6, 8, 4]) (by kernel_rfl) 8 (by decide))⟩⟩
    · refine wpOp_shut rfl (fun K' hK => ?_)
      rw [if_pos (wantedN rfl), hA]
      clear hA
      try simp only [Act.put, List.getElem_toArray, List.getElem_cons_succ, List.getElem_cons_zero, List.setIfInBounds_toArray, List.set_cons_zero, List.set_cons_succ]
      go_simp
      exact hK.out _ _ ⟨⟨_, _, _, _, _, _, _, _, by rw [HAA.out]; rfl, hF.out.s10 HUN.out⟩⟩
    · refine wpOp_shut rfl (fun K' hK => ?_)
      rw [if_pos (wantedN rfl), hA]
      clear hA
      try simp only [Act.put, List.getElem_toArray, List.getElem_cons_succ, List.getElem_cons_zero, List.setIfInBounds_toArray, List.set_cons_zero, List.set_cons_succ]
      go_simp
      exact hK.out _ _ ⟨⟨_, _, _, _, _, _, _, _, by rw [HAA.out]; rfl, hF.out.s11 HUN.out⟩⟩
    · have h10 := (ready_deps HJ.out (ds := [10, 4, 9, 0, 1, 2, 3, 4, 10, 11]) (by kernel_rfl) 10 (by decide))
      have h11 := (ready_deps HJ.out (ds := [10, 4, 9, 0, 1, 2, 3, 4, 10, 11]) (by kernel_rfl) 11 (by decide))
      have h4 := (ready_deps HJ.out (ds := [10, 4, 9, 0, 1, 2, 3, 4, 10, 11]) (by kernel_rfl) 4 (by decide))
      have h9 := (ready_deps HJ.out (ds := [10, 4, 9, 0, 1, 2, 3, 4, 10, 11]) (by kernel_rfl) 9 (by decide))
      have hall : ∀ j, Six j → FL l j = true := fun j hj => by
        rcases hj with rfl | rfl | rfl | rfl | rfl | rfl
        · exact (ready_deps HJ.out (ds := [10, 4, 9, 0, 1, 2, 3, 4, 10, 11]) (by kernel_rfl) 3 (by decide))
        · exact h4
        · exact hF.out.d9 h9
        · exact h9
        · exact h10
        · exact h11
      obtain rfl := (hF.out.f10 h10).1
      obtain rfl := (hF.out.f11 h11).1
      obtain rfl := hF.out.f4 h4
      obtain rfl := hF.out.f9 h9
      refine wpOp_shut rfl (fun K' hK => ?_)
      rw [if_pos (wantedN rfl), hA]
      clear hA
      try simp only [Act.put, List.getElem_toArray, List.getElem_cons_succ, List.getElem_cons_zero, List.setIfInBounds_toArray, List.set_cons_zero, List.set_cons_succ]
      refine wp_store_row 63 (.tmp 17) (.tmp 67) rfl q17 (c64 (dg 4 u)) rfl rfl 63 _ (hF.out.c10 h10 HUN.out) SU.out SNU.out (c64_all _) ?_
      exact hK.out _ _ ⟨⟨_, _, _, _, _, _, _, _, by rw [HAA.out]; rfl, hF.out.s12 HUN.out hall⟩⟩
    · have h10 := (ready_deps HJ.out (ds := [11, 9, 12, 0, 1, 2, 3, 4, 5, 6, 7, 8, 9, 10, 11, 12]) (by kernel_rfl) 10 (by decide))
      have h11 := (ready_deps HJ.out (ds := [11, 9, 12, 0, 1, 2, 3, 4, 5, 6, 7, 8, 9, 10, 11, 12]) (by kernel_rfl) 11 (by decide))
      have h4 := (ready_deps HJ.out (ds := [11, 9, 12, 0, 1, 2, 3, 4, 5, 6, 7, 8, 9, 10, 11, 12]) (by kernel_rfl) 4 (by decide))
      have h9 := (ready_deps HJ.out (ds := [11, 9, 12, 0, 1, 2, 3, 4, 5, 6, 7, 8, 9, 10, 11, 12]) (by kernel_rfl) 9 (by decide))
      obtain rfl := (hF.out.f10 h10).1
      obtain rfl := (hF.out.f11 h11).1
      obtain rfl := hF.out.f4 h4
      obtain rfl := hF.out.f9 h9
      refine wpOp_shut rfl (fun K' hK => ?_)
      rw [if_pos (wantedN rfl), hA]
      clear hA
      try simp only [Act.put, List.getElem_toArray, List.getElem_cons_succ, List.getElem_cons_zero, List.setIfInBounds_toArray, List.set_cons_zero, List.set_cons_succ]
      refine wp_store_row 63 (.tmp 18) (.tmp 72) rfl q18 (c64 (dg 4 v)) rfl rfl 63 _ (hF.out.c11 h11 HUN.out) SV.out SNV.out (c64_all _) ?_
      exact hK.out _ _ ⟨⟨_, _, _, _, _, _, _, _, by rw [HAA.out]; rfl, hF.out.s13 HUN.out (ready_deps HJ.out (ds := [11, 9, 12, 0, 1, 2, 3, 4, 5, 6, 7, 8, 9, 10, 11, 12]) (by kernel_rfl) 12 (by decide))⟩⟩
  · obtain ⟨v66, v67, v71, v72, v17, v18, q17, q18, rfl, hs⟩ := hI.out
    have g3 : FL l 3 = true := ready_all hr (by decide) (by rw [hs.sz]; decide) (ds := [2]) (by kernel_rfl) (fun d hd => by simp only [List.mem_cons, List.not_mem_nil, or_false] at hd; rcases hd with rfl <;> first | assumption | exact hs.fr _ (by decide))
    have g8 : FL l 8 = true := ready_all hr (by decide) (by rw [hs.sz]; decide) (ds := [7]) (by kernel_rfl) (fun d hd => by simp only [List.mem_cons, List.not_mem_nil, or_false] at hd; rcases hd with rfl <;> first | assumption | exact hs.fr _ (by decide))
    have g10 : FL l 10 = true := ready_all hr (by decide) (by rw [hs.sz]; decide) (ds := []) (by kernel_rfl) (fun d hd => by cases hd)
    have g11 : FL l 11 = true := ready_all hr (by decide) (by rw [hs.sz]; decide) (ds := []) (by kernel_rfl) (fun d hd => by cases hd)
    have g4 : FL l 4 = true := ready_all hr (by decide) (by rw [hs.sz]; decide) (ds := [0, 1, 3]) (by kernel_rfl) (fun d hd => by simp only [List.mem_cons, List.not_mem_nil, or_false] at hd; rcases hd with rfl | rfl | rfl <;> first | assumption | exact hs.fr _ (by decide))
    have g9 : FL l 9 = true := ready_all hr (by decide) (by rw [hs.sz]; decide) (ds := [5, 6, 8, 4]) (by kernel_rfl) (fun d hd => by simp only [List.mem_cons, List.not_mem_nil, or_false] at hd; rcases hd with rfl | rfl | rfl | rfl <;> first | assumption | exact hs.fr _ (by decide))
    have g12 : FL l 12 = true := ready_all hr (by decide) (by rw [hs.sz]; decide) (ds := [10, 4, 9, 0, 1, 2, 3, 4, 10, 11]) (by kernel_rfl) (fun d hd => by simp only [List.mem_cons, List.not_mem_nil, or_false] at hd; rcases hd with rfl | rfl | rfl | rfl | rfl | rfl | rfl | rfl | rfl | rfl <;> first | assumption | exact hs.fr _ (by decide))
    have g13 : FL l 13 = true := ready_all hr (by decide) (by rw [hs.sz]; decide) (ds := [11, 9, 12, 0, 1, 2, 3, 4, 5, 6, 7, 8, 9, 10, 11, 12]) (by kernel_rfl) (fun d hd => by simp only [List.mem_cons, List.not_mem_nil, or_false] at hd; rcases hd with rfl | rfl | rfl | rfl | rfl | rfl | rfl | rfl | rfl | rfl | rfl | rfl | rfl | rfl | rfl | rfl <;> first | assumption | exact hs.fr _ (by decide))
    obtain rfl := (hs.f10 g10).1
    obtain rfl := (hs.f11 g11).1
    obtain rfl := hs.f4 g4
    obtain rfl := hs.f9 g9
    have HW := Aside0.mk hs.B
    have Q17 := Aside0.mk (Bx.mk (n := 4) (T := 63) (x := u) (hs.c12 g12))
    have Q18 := Aside0.mk (Bx.mk (n := 4) (T := 63) (x := v) (hs.c13 g13))
    clear hs hr hI g3 g4 g8 g9 g10 g11 g12 g13 hHeld
    refine NoPanic.normal ?_
    rw [hA]
    clear hA
    try simp only [Act.put, List.getElem_toArray, List.getElem_cons_succ, List.getElem_cons_zero, List.setIfInBounds_toArray, List.set_cons_zero, List.set_cons_succ]
    have VB := Aside0.mk (below_more HB1.out (below_more U4.out HW.out))
    have HFd := Aside0.mk (HFA.out.below HW.out)
    have HF2 := Aside0.mk (show ∀ w', Below wr.heap.size wr w' → Fd 4 121 w' g m from fun w' hb => HFd.out.below hb)
    have CS := Aside0.mk (CS.out.below HW.out)
    have CP := Aside0.mk (CP.out.below HW.out)
    have HM := Aside0.mk (HM.out.below (below_more U4.out HW.out))
    have ba := below_alloc1 wr (.cells #[.int .u64 1] 30)
    have U0 := Aside0.mk ba
    have Q11 := Aside0.mk ((Bx11.out.below HW.out).below ba)
    have Q17 := Aside0.mk (Q17.out.below ba)
    have Q18 := Aside0.mk (Q18.out.below ba)
    clear ba HB1 U4 HW HFA Bx11
    go_wp2_with fail
    refine (fromLit4 wr.heap.size rfl 1 30 (by decide) (HF2.out _ U0.out)).mono ?_
    rintro e w5 ⟨o, ggo, rfl, ho, st⟩
    have HCo := Aside0.mk ho
    have S5 := Aside0.mk (below_more U0.out st)
    obtain ⟨W5, hW⟩ : ∃ W, (w5.alloc (.cells (c64 (List.replicate 4 0)) 63)).setRow w5.heap.size (c64 (dg 4 o)) = W := ⟨_, rfl⟩
    obtain ⟨b1, b2⟩ := boxed4 w5 o
    rw [hW] at b1 b2
    have Q11 := Aside0.mk ((Q11.out.below st).below b1)
    have Q17 := Aside0.mk ((Q17.out.below st).below b1)
    have Q18 := Aside0.mk ((Q18.out.below st).below b1)
    have Q19 := Aside0.mk b2
    have U5 := Aside0.mk (below_more S5.out b1)
    have SZ5 := Aside0.mk (c64_info info63 (dg_length 4 o))
    have SN5 := Aside0.mk (show (c64 (List.replicate 4 0)).size = (c64 (dg 4 o)).size from c64_sizes (by rw [dg_length]; rfl))
    obtain ⟨p19, hp⟩ : ∃ p, w5.heap.size = p := ⟨_, rfl⟩
    have Z5 := Aside0.mk (show W5.heap.size = p19 + 1 by rw [← hW, ← hp]; exact size_boxed _ _ _ _)
    have hn := heap_alloc_new w5 (.cells (c64 (List.replicate 4 0)) 63)
    rw [hp] at Q19 hn hW
    have HN5 := Aside0.mk hn
    have HW5 := Aside0.mk hW
    clear ho st b1 b2 U0 S5 hn hW
    go_upto_region 13 with (refine wpList_store_row rfl 63 (.tmp 19) (.tmp 77) rfl p19 (c64 (dg 4 o)) (by first | rfl | (rw [← hp]; rfl)) rfl 63 _ HN5.out SZ5.out SN5.out (c64_all _) ?_)
    rw [show (w5.alloc (.cells #[.int .u64 0, .int .u64 0, .int .u64 0, .int .u64 0] 63)).setRow p19 (c64 (dg 4 o)) = W5 from HW5.out]
    clear HN5 HW5 SN5 hp
    have Ho := Aside0.mk HCo.out.2
    have HFB := Aside0.mk (HF2.out _ U5.out)
    have CS := Aside0.mk (CS.out.below U5.out)
    have CP := Aside0.mk (CP.out.below U5.out)
    have HM := Aside0.mk (HM.out.below U5.out)
    have VB := Aside0.mk (below_more VB.out U5.out)
    obtain ⟨s1, hs1⟩ : ∃ v, v = mo 4 m (a ^ (I + K)) := ⟨_, rfl⟩
    obtain ⟨s2, hs2⟩ : ∃ v, v = mo 4 m (a ^ (I * K)) := ⟨_, rfl⟩
    have HS1 := Aside0.mk hs1
    have HS2 := Aside0.mk hs2
    have HS1' := Aside0.mk (show s1 = mo 4 m (a ^ I * a ^ K) by rw [hs1, Int.pow_add])
    have HS2' := Aside0.mk (show s2 = mo 4 m ((a ^ I) ^ K) by rw [hs2, Int.pow_mul])
    have HO' := Aside0.mk (show o = mo 4 m (a ^ 0) by rw [Ho.out, Int.pow_zero])
    have HX' := Aside0.mk (show x = mo 4 m (a ^ 1) by rw [Hx.out, Int.pow_succ, Int.pow_zero, Int.one_mul])
    have HIK := Aside0.mk (show i + k = ((I + K : Nat) : Int) by rw [HI.out, HKK.out]; exact (Int.natCast_add _ _).symm)
    have HIK2 := Aside0.mk (show i * k = ((I * K : Nat) : Int) by rw [HI.out, HKK.out]; exact (Int.natCast_mul _ _).symm)
    clear hs1 hs2 HCo HF2 U5
    refine wp_region_noPanic ?_
    refine wp_region_held_drew (S := (fun w' => Aside0 (Below W5.heap.size W5 w'))) (by kernel_rfl) ⟨below_drew (Below.refl _ _)⟩ (fun hHeld => ?_)
    refine tkG 0 (v := ?_) rfl (by kernel_rfl) (by kernel_rfl) (by kernel_rfl) (fun _ _ _ h => h) (Or.inl ⟨wantedN rfl, ?_⟩) hHeld ?_
    rotate_left; · (intro w' hSw; go_simp; first | done | with_reducible rfl)
    try simp only [Act.put, List.getElem_toArray, List.getElem_cons_succ, List.getElem_cons_zero, List.setIfInBounds_toArray, List.set_cons_zero, List.set_cons_succ]
    refine tkG 1 (v := elt 4 x) rfl (by kernel_rfl) (by kernel_rfl) (by kernel_rfl) (fun _ _ _ h => h) (Or.inl ⟨wantedN rfl, fun w' hSw => loadG 63 (.tmp 11) rfl ⟨p11, 0, none⟩ rfl (elt_load63 (Q11.out.below hSw.out))⟩) hHeld ?_
    try simp only [Act.put, List.getElem_toArray, List.getElem_cons_succ, List.getElem_cons_zero, List.setIfInBounds_toArray, List.set_cons_zero, List.set_cons_succ]
    refine tkG 2 (v := ?_) rfl (by kernel_rfl) (by kernel_rfl) (by kernel_rfl) (fun _ _ _ h => h) (Or.inl ⟨wantedN rfl, ?_⟩) hHeld ?_
    rotate_left; · (intro w' hSw; go_simp; first | done | with_reducible rfl)
    try simp only [Act.put, List.getElem_toArray, List.getElem_cons_succ, List.getElem_cons_zero, List.setIfInBounds_toArray, List.set_cons_zero, List.set_cons_succ]
    refine tkG 4 (v := ?_) rfl (by kernel_rfl) (by kernel_rfl) (by kernel_rfl) (fun _ _ _ h => h) (Or.inl ⟨wantedN rfl, ?_⟩) hHeld ?_
    rotate_left; · (intro w' hSw; go_simp; first | done | with_reducible rfl)
    try simp only [Act.put, List.getElem_toArray, List.getElem_cons_succ, List.getElem_cons_zero, List.setIfInBounds_toArray, List.set_cons_zero, List.set_cons_succ]
    refine tkG 5 (v := elt 4 u) rfl (by kernel_rfl) (by kernel_rfl) (by kernel_rfl) (fun _ _ _ h => h) (Or.inl ⟨wantedN rfl, fun w' hSw => loadG 63 (.tmp 17) rfl ⟨q17, 0, none⟩ rfl (elt_load63 (Q17.out.below hSw.out))⟩) hHeld ?_
    try simp only [Act.put, List.getElem_toArray, List.getElem_cons_succ, List.getElem_cons_zero, List.setIfInBounds_toArray, List.set_cons_zero, List.set_cons_succ]
    refine tkG 6 (v := elt 4 v) rfl (by kernel_rfl) (by kernel_rfl) (by kernel_rfl) (fun _ _ _ h => h) (Or.inl ⟨wantedN rfl, fun w' hSw => loadG 63 (.tmp 18) rfl ⟨q18, 0, none⟩ rfl (elt_load63 (Q18.out.below hSw.out))⟩) hHeld ?_
    try simp only [Act.put, List.getElem_toArray, List.getElem_cons_succ, List.getElem_cons_zero, List.setIfInBounds_toArray, List.set_cons_zero, List.set_cons_succ]
    refine brG 3 rfl (by kernel_rfl) (fun KC hK => ?_)
    go_simp
    refine (powD a (I + K) s1 (HFB.out.below hHeld.out) Hx.out (CS.out.below hHeld.out) (by decide) HIK.out HS1.out).mono ?_
    rintro e w1 ⟨rfl, st⟩
    have H1 := Aside0.mk (below_more hHeld.out st)
    clear st hHeld
    refine hK.out _ _ H1 (fun hHeld => ?_)
    clear H1
    clear hK KC
    try simp only [Act.put, List.getElem_toArray, List.getElem_cons_succ, List.getElem_cons_zero, List.setIfInBounds_toArray, List.set_cons_zero, List.set_cons_succ]
    refine brG 7 rfl (by kernel_rfl) (fun KC hK => ?_)
    go_simp
    refine (mulM4 (x := u) (y := v) (a ^ I) (a ^ K) s1 (HFB.out.below hHeld.out) HU.out HV.out HS1'.out).mono ?_
    rintro e w1 ⟨rfl, st⟩
    have H1 := Aside0.mk (below_more hHeld.out st)
    clear st hHeld
    refine hK.out _ _ H1 (fun hHeld => ?_)
    clear H1
    clear hK KC
    try simp only [Act.put, List.getElem_toArray, List.getElem_cons_succ, List.getElem_cons_zero, List.setIfInBounds_toArray, List.set_cons_zero, List.set_cons_succ]
    refine tkG 8 (v := .bool true) rfl (by kernel_rfl) (by kernel_rfl) (by kernel_rfl) (fun _ _ _ h => h) (Or.inl ⟨wantedN rfl, fun w' hSw => eqlS4 (s := s1) rfl rfl rfl⟩) hHeld ?_
    try simp only [Act.put, List.getElem_toArray, List.getElem_cons_succ, List.getElem_cons_zero, List.setIfInBounds_toArray, List.set_cons_zero, List.set_cons_succ]
    refine tkG 9 (v := ?_) rfl (by kernel_rfl) (by kernel_rfl) (by kernel_rfl) (fun _ _ _ h => h) (Or.inl ⟨wantedN rfl, ?_⟩) hHeld ?_
    rotate_left; · (intro w' hSw; go_simp; first | done | with_reducible rfl)
    try simp only [Act.put, List.getElem_toArray, List.getElem_cons_succ, List.getElem_cons_zero, List.setIfInBounds_toArray, List.set_cons_zero, List.set_cons_succ]
    refine tkG 10 (v := ?_) rfl (by kernel_rfl) (by kernel_rfl) (by kernel_rfl) (fun _ _ _ h => h) (Or.inl ⟨wantedG 9 true rfl rfl rfl rfl, ?_⟩) hHeld ?_
    rotate_left; · (intro w' hSw; go_simp; first | done | with_reducible rfl)
    try simp only [Act.put, List.getElem_toArray, List.getElem_cons_succ, List.getElem_cons_zero, List.setIfInBounds_toArray, List.set_cons_zero, List.set_cons_succ]
    refine tkG 11 (v := elt 4 x) rfl (by kernel_rfl) (by kernel_rfl) (by kernel_rfl) (fun _ _ _ h => h) (Or.inl ⟨wantedG 9 true rfl rfl rfl rfl, fun w' hSw => loadG 63 (.tmp 11) rfl ⟨p11, 0, none⟩ rfl (elt_load63 (Q11.out.below hSw.out))⟩) hHeld ?_
    try simp only [Act.put, List.getElem_toArray, List.getElem_cons_succ, List.getElem_cons_zero, List.setIfInBounds_toArray, List.set_cons_zero, List.set_cons_succ]
    refine tkG 12 (v := ?_) rfl (by kernel_rfl) (by kernel_rfl) (by kernel_rfl) (fun _ _ _ h => h) (Or.inl ⟨wantedG 9 true rfl rfl rfl rfl, ?_⟩) hHeld ?_
    rotate_left; · (intro w' hSw; go_simp; first | done | with_reducible rfl)
    try simp only [Act.put, List.getElem_toArray, List.getElem_cons_succ, List.getElem_cons_zero, List.setIfInBounds_toArray, List.set_cons_zero, List.set_cons_succ]
    refine tkG 14 (v := ?_) rfl (by kernel_rfl) (by kernel_rfl) (by kernel_rfl) (fun _ _ _ h => h) (Or.inl ⟨wantedG 9 true rfl rfl rfl rfl, ?_⟩) hHeld ?_
    rotate_left; · (intro w' hSw; go_simp; first | done | with_reducible rfl)
    try simp only [Act.put, List.getElem_toArray, List.getElem_cons_succ, List.getElem_cons_zero, List.setIfInBounds_toArray, List.set_cons_zero, List.set_cons_succ]
    refine tkG 15 (v := elt 4 u) rfl (by kernel_rfl) (by kernel_rfl) (by kernel_rfl) (fun _ _ _ h => h) (Or.inl ⟨wantedG 9 true rfl rfl rfl rfl, fun w' hSw => loadG 63 (.tmp 17) rfl ⟨q17, 0, none⟩ rfl (elt_load63 (Q17.out.below hSw.out))⟩) hHeld ?_
    try simp only [Act.put, List.getElem_toArray, List.getElem_cons_succ, List.getElem_cons_zero, List.setIfInBounds_toArray, List.set_cons_zero, List.set_cons_succ]
    refine tkG 16 (v := ?_) rfl (by kernel_rfl) (by kernel_rfl) (by kernel_rfl) (fun _ _ _ h => h) (Or.inl ⟨wantedG 9 true rfl rfl rfl rfl, ?_⟩) hHeld ?_
    rotate_left; · (intro w' hSw; go_simp; first | done | with_reducible rfl)
    try simp only [Act.put, List.getElem_toArray, List.getElem_cons_succ, List.getElem_cons_zero, List.setIfInBounds_toArray, List.set_cons_zero, List.set_cons_succ]
    refine wpAnyH_ready (rs := [13, 17]) (by kernel_rfl) (by simp) (AllReadyH.cons rfl (fun KC hK => ?_) (AllReadyH.cons rfl (fun KC hK => ?_) AllReadyH.nil))
    focus
      rw [if_pos (wantedG 9 true rfl rfl rfl rfl)]
      go_simp
      refine (powD a (I * K) s2 (HFB.out.below hHeld.out) Hx.out (CP.out.below hHeld.out) (by decide) HIK2.out HS2.out).mono ?_
      rintro e w1 ⟨rfl, st⟩
      have H1 := Aside0.mk (below_more hHeld.out st)
      clear st hHeld
      refine hK.out _ _ H1 (fun hHeld => ?_)
      clear H1
      clear hK KC
      try simp only [Act.put, List.getElem_toArray, List.getElem_cons_succ, List.getElem_cons_zero, List.setIfInBounds_toArray, List.set_cons_zero, List.set_cons_succ]
      refine brG 17 rfl (by kernel_rfl) (fun KC hK => ?_)
      go_simp
      have DK := Aside0.mk (dn_at BK.out (heap_alloc_new w1 (.cells #[.int .u64 k] 30)))
      have H1 := Aside0.mk (below_more hHeld.out (below_alloc1 w1 (.cells #[.int .u64 k] 30)))
      clear hHeld
      refine hK.out _ _ H1 (fun hHeld => ?_)
      clear H1
      clear hK KC
      try simp only [Act.put, List.getElem_toArray, List.getElem_cons_succ, List.getElem_cons_zero, List.setIfInBounds_toArray, List.set_cons_zero, List.set_cons_succ]
    rotate_left
    focus
      rw [if_pos (wantedG 9 true rfl rfl rfl rfl)]
      go_simp
      have DK := Aside0.mk (dn_at BK.out (heap_alloc_new w1 (.cells #[.int .u64 k] 30)))
      have H1 := Aside0.mk (below_more hHeld.out (below_alloc1 w1 (.cells #[.int .u64 k] 30)))
      clear hHeld
      refine hK.out _ _ H1 (fun hHeld => ?_)
      clear H1
      clear hK KC
      try simp only [Act.put, List.getElem_toArray, List.getElem_cons_succ, List.getElem_cons_zero, List.setIfInBounds_toArray, List.set_cons_zero, List.set_cons_succ]
      refine brG 13 rfl (by kernel_rfl) (fun KC hK => ?_)
      go_simp
      refine (powD a (I * K) s2 (HFB.out.below hHeld.out) Hx.out (CP.out.below hHeld.out) (by decide) HIK2.out HS2.out).mono ?_
      rintro e w1 ⟨rfl, st⟩
      have DK := Aside0.mk (DK.out.below st)
      have H1 := Aside0.mk (below_more hHeld.out st)
      clear st hHeld
      refine hK.out _ _ H1 (fun hHeld => ?_)
      clear H1
      clear hK KC
      try simp only [Act.put, List.getElem_toArray, List.getElem_cons_succ, List.getElem_cons_zero, List.setIfInBounds_toArray, List.set_cons_zero, List.set_cons_succ]
    rotate_left
    all_goals
      refine brG 18 rfl (by kernel_rfl) (fun KC hK => ?_)
      go_simp
      refine (powD (a ^ I) K s2 (HFB.out.below hHeld.out) HU.out DK.out (by decide) HKK.out HS2'.out).mono ?_
      rintro e w1 ⟨rfl, st⟩
      have H1 := Aside0.mk (below_more hHeld.out st)
      clear st hHeld
      refine hK.out _ _ H1 (fun hHeld => ?_)
      clear H1
      clear hK KC
      try simp only [Act.put, List.getElem_toArray, List.getElem_cons_succ, List.getElem_cons_zero, List.setIfInBounds_toArray, List.set_cons_zero, List.set_cons_succ]
      refine tkG 19 (v := .bool true) rfl (by kernel_rfl) (by kernel_rfl) (by kernel_rfl) (fun _ _ _ h => h) (Or.inl ⟨wantedG 9 true rfl rfl rfl rfl, fun w' hSw => eqlS4 (s := s2) rfl rfl rfl⟩) hHeld ?_
      try simp only [Act.put, List.getElem_toArray, List.getElem_cons_succ, List.getElem_cons_zero, List.setIfInBounds_toArray, List.set_cons_zero, List.set_cons_succ]
      refine tkG 20 (v := ?_) rfl (by kernel_rfl) (by kernel_rfl) (by kernel_rfl) (fun _ _ _ h => h) (Or.inl ⟨wantedN rfl, ?_⟩) hHeld ?_
      rotate_left; · (intro w' hSw; go_simp; first | done | with_reducible rfl)
      try simp only [Act.put, List.getElem_toArray, List.getElem_cons_succ, List.getElem_cons_zero, List.setIfInBounds_toArray, List.set_cons_zero, List.set_cons_succ]
      refine tkG 21 (v := ?_) rfl (by kernel_rfl) (by kernel_rfl) (by kernel_rfl) (fun _ _ _ h => h) (Or.inl ⟨wantedN rfl, ?_⟩) hHeld ?_
      rotate_left; · (intro w' hSw; go_simp; first | done | with_reducible rfl)
      try simp only [Act.put, List.getElem_toArray, List.getElem_cons_succ, List.getElem_cons_zero, List.setIfInBounds_toArray, List.set_cons_zero, List.set_cons_succ]
      refine tkG 22 (v := ?_) rfl (by kernel_rfl) (by kernel_rfl) (by kernel_rfl) (fun _ _ _ h => h) (Or.inl ⟨wantedG 21 true rfl rfl rfl rfl, ?_⟩) hHeld ?_
      rotate_left; · (intro w' hSw; go_simp; first | done | with_reducible rfl)
      try simp only [Act.put, List.getElem_toArray, List.getElem_cons_succ, List.getElem_cons_zero, List.setIfInBounds_toArray, List.set_cons_zero, List.set_cons_succ]
      refine tkG 23 (v := elt 4 x) rfl (by kernel_rfl) (by kernel_rfl) (by kernel_rfl) (fun _ _ _ h => h) (Or.inl ⟨wantedG 21 true rfl rfl rfl rfl, fun w' hSw => loadG 63 (.tmp 11) rfl ⟨p11, 0, none⟩ rfl (elt_load63 (Q11.out.below hSw.out))⟩) hHeld ?_
      try simp only [Act.put, List.getElem_toArray, List.getElem_cons_succ, List.getElem_cons_zero, List.setIfInBounds_toArray, List.set_cons_zero, List.set_cons_succ]
      refine tkG 25 (v := elt 4 o) rfl (by kernel_rfl) (by kernel_rfl) (by kernel_rfl) (fun _ _ _ h => h) (Or.inl ⟨wantedG 21 true rfl rfl rfl rfl, fun w' hSw => loadG 63 (.tmp 19) rfl ⟨p19, 0, none⟩ rfl (elt_load63 (Q19.out.below hSw.out))⟩) hHeld ?_
      try simp only [Act.put, List.getElem_toArray, List.getElem_cons_succ, List.getElem_cons_zero, List.setIfInBounds_toArray, List.set_cons_zero, List.set_cons_succ]
      refine brG 24 rfl (by kernel_rfl) (fun KC hK => ?_)
      go_simp
      refine (powD a 0 o (HFB.out.below hHeld.out) Hx.out (dn_nil _) (by decide) rfl HO'.out).mono ?_
      rintro e w1 ⟨rfl, st⟩
      have H1 := Aside0.mk (below_more hHeld.out st)
      clear st hHeld
      refine hK.out _ _ H1 (fun hHeld => ?_)
      clear H1
      clear hK KC
      try simp only [Act.put, List.getElem_toArray, List.getElem_cons_succ, List.getElem_cons_zero, List.setIfInBounds_toArray, List.set_cons_zero, List.set_cons_succ]
      refine tkG 26 (v := .bool true) rfl (by kernel_rfl) (by kernel_rfl) (by kernel_rfl) (fun _ _ _ h => h) (Or.inl ⟨wantedG 21 true rfl rfl rfl rfl, fun w' hSw => eqlS4 (s := o) rfl rfl rfl⟩) hHeld ?_
      try simp only [Act.put, List.getElem_toArray, List.getElem_cons_succ, List.getElem_cons_zero, List.setIfInBounds_toArray, List.set_cons_zero, List.set_cons_succ]
      refine tkG 27 (v := ?_) rfl (by kernel_rfl) (by kernel_rfl) (by kernel_rfl) (fun _ _ _ h => h) (Or.inl ⟨wantedN rfl, ?_⟩) hHeld ?_
      rotate_left; · (intro w' hSw; go_simp; first | done | with_reducible rfl)
      try simp only [Act.put, List.getElem_toArray, List.getElem_cons_succ, List.getElem_cons_zero, List.setIfInBounds_toArray, List.set_cons_zero, List.set_cons_succ]
      refine tkG 28 (v := ?_) rfl (by kernel_rfl) (by kernel_rfl) (by kernel_rfl) (fun _ _ _ h => h) (Or.inl ⟨wantedN rfl, ?_⟩) hHeld ?_
      rotate_left; · (intro w' hSw; go_simp; first | done | with_reducible rfl)
      try simp only [Act.put, List.getElem_toArray, List.getElem_cons_succ, List.getElem_cons_zero, List.setIfInBounds_toArray, List.set_cons_zero, List.set_cons_succ]
      refine tkG 29 (v := ?_) rfl (by kernel_rfl) (by kernel_rfl) (by kernel_rfl) (fun _ _ _ h => h) (Or.inl ⟨wantedG 28 true rfl rfl rfl rfl, ?_⟩) hHeld ?_
      rotate_left; · (intro w' hSw; go_simp; first | done | with_reducible rfl)
      try simp only [Act.put, List.getElem_toArray, List.getElem_cons_succ, List.getElem_cons_zero, List.setIfInBounds_toArray, List.set_cons_zero, List.set_cons_succ]
      refine tkG 30 (v := elt 4 x) rfl (by kernel_rfl) (by kernel_rfl) (by kernel_rfl) (fun _ _ _ h => h) (Or.inl ⟨wantedG 28 true rfl rfl rfl rfl, fun w' hSw => loadG 63 (.tmp 11) rfl ⟨p11, 0, none⟩ rfl (elt_load63 (Q11.out.below hSw.out))⟩) hHeld ?_
      try simp only [Act.put, List.getElem_toArray, List.getElem_cons_succ, List.getElem_cons_zero, List.setIfInBounds_toArray, List.set_cons_zero, List.set_cons_succ]
      refine tkG 33 (v := elt 4 x) rfl (by kernel_rfl) (by kernel_rfl) (by kernel_rfl) (fun _ _ _ h => h) (Or.inl ⟨wantedG 28 true rfl rfl rfl rfl, fun w' hSw => loadG 63 (.tmp 11) rfl ⟨p11, 0, none⟩ rfl (elt_load63 (Q11.out.below hSw.out))⟩) hHeld ?_
      try simp only [Act.put, List.getElem_toArray, List.getElem_cons_succ, List.getElem_cons_zero, List.setIfInBounds_toArray, List.set_cons_zero, List.set_cons_succ]
      refine brG 31 rfl (by kernel_rfl) (fun KC hK => ?_)
      go_simp
      have DT := Aside0.mk (dn_at2 (heap_alloc_new w1 (.cells #[.int .u64 1, .int .u64 0] 30)))
      have H1 := Aside0.mk (below_more hHeld.out (below_alloc1 w1 (.cells #[.int .u64 1, .int .u64 0] 30)))
      clear hHeld
      refine hK.out _ _ H1 (fun hHeld => ?_)
      clear H1
      clear hK KC
      try simp only [Act.put, List.getElem_toArray, List.getElem_cons_succ, List.getElem_cons_zero, List.setIfInBounds_toArray, List.set_cons_zero, List.set_cons_succ]
      refine brG 32 rfl (by kernel_rfl) (fun KC hK => ?_)
      go_simp
      refine (powD a 1 x (HFB.out.below hHeld.out) Hx.out DT.out (by decide) rfl HX'.out).mono ?_
      rintro e w1 ⟨rfl, st⟩
      have H1 := Aside0.mk (below_more hHeld.out st)
      clear st hHeld
      refine hK.out _ _ H1 (fun hHeld => ?_)
      clear H1
      clear hK KC
      try simp only [Act.put, List.getElem_toArray, List.getElem_cons_succ, List.getElem_cons_zero, List.setIfInBounds_toArray, List.set_cons_zero, List.set_cons_succ]
      refine tkG 34 (v := .bool true) rfl (by kernel_rfl) (by kernel_rfl) (by kernel_rfl) (fun _ _ _ h => h) (Or.inl ⟨wantedG 28 true rfl rfl rfl rfl, fun w' hSw => eqlS4 (s := x) rfl rfl rfl⟩) hHeld ?_
      try simp only [Act.put, List.getElem_toArray, List.getElem_cons_succ, List.getElem_cons_zero, List.setIfInBounds_toArray, List.set_cons_zero, List.set_cons_succ]
      refine tkG 35 (v := ?_) rfl (by kernel_rfl) (by kernel_rfl) (by kernel_rfl) (fun _ _ _ h => h) (Or.inl ⟨wantedN rfl, ?_⟩) hHeld ?_
      rotate_left; · (intro w' hSw; go_simp; first | done | with_reducible rfl)
      try simp only [Act.put, List.getElem_toArray, List.getElem_cons_succ, List.getElem_cons_zero, List.setIfInBounds_toArray, List.set_cons_zero, List.set_cons_succ]
      refine tkG 36 (v := ?_) rfl (by kernel_rfl) (by kernel_rfl) (by kernel_rfl) (fun _ _ _ h => h) (Or.inl ⟨wantedN rfl, ?_⟩) hHeld ?_
      rotate_left; · (intro w' hSw; go_simp; first | done | with_reducible rfl)
      try simp only [Act.put, List.getElem_toArray, List.getElem_cons_succ, List.getElem_cons_zero, List.setIfInBounds_toArray, List.set_cons_zero, List.set_cons_succ]
      refine tkG 37 (v := ?_) rfl (by kernel_rfl) (by kernel_rfl) (by kernel_rfl) (fun _ _ _ h => h) (Or.inl ⟨wantedG 36 true rfl rfl rfl rfl, ?_⟩) hHeld ?_
      rotate_left; · (intro w' hSw; go_simp; first | done | with_reducible rfl)
      try simp only [Act.put, List.getElem_toArray, List.getElem_cons_succ, List.getElem_cons_zero, List.setIfInBounds_toArray, List.set_cons_zero, List.set_cons_succ]
      refine tkG 39 (v := ?_) rfl (by kernel_rfl) (by kernel_rfl) (by kernel_rfl) (fun _ _ _ h => h) (Or.inl ⟨wantedG 36 true rfl rfl rfl rfl, ?_⟩) hHeld ?_
      rotate_left; · (intro w' hSw; go_simp; first | done | with_reducible rfl)
      try simp only [Act.put, List.getElem_toArray, List.getElem_cons_succ, List.getElem_cons_zero, List.setIfInBounds_toArray, List.set_cons_zero, List.set_cons_succ]
      refine brG 38 rfl (by kernel_rfl) (fun KC hK => ?_)
      go_simp
      refine (modulus4_calls g m _ (HFB.out.below hHeld.out)).mono ?_
      rintro e w1 ⟨vm1, rfl, cn, st⟩
      have CM := Aside0.mk cn
      clear cn
      have H1 := Aside0.mk (below_more hHeld.out st)
      clear st hHeld
      refine hK.out _ _ H1 (fun hHeld => ?_)
      clear H1
      clear hK KC
      try simp only [Act.put, List.getElem_toArray, List.getElem_cons_succ, List.getElem_cons_zero, List.setIfInBounds_toArray, List.set_cons_zero, List.set_cons_succ]
      refine brG 40 rfl (by kernel_rfl) (fun KC hK => ?_)
      go_simp
      refine (of_n (HM.out.below hHeld.out) (by decide)).mono ?_
      rintro e w1 ⟨vm2, rfl, cn, st⟩
      have CO := Aside0.mk cn
      clear cn
      have CM := Aside0.mk (CM.out.below st)
      have H1 := Aside0.mk (below_more hHeld.out st)
      clear st hHeld
      refine hK.out _ _ H1 (fun hHeld => ?_)
      clear H1
      clear hK KC
      try simp only [Act.put, List.getElem_toArray, List.getElem_cons_succ, List.getElem_cons_zero, List.setIfInBounds_toArray, List.set_cons_zero, List.set_cons_succ]
      refine brG 41 rfl (by kernel_rfl) (fun KC hK => ?_)
      go_simp
      refine (same_n CM.out CO.out (by decide)).mono ?_
      rintro e w1 ⟨rfl, st⟩
      rw [show decide (m = m) = true from decide_eq_true rfl]
      have H1 := Aside0.mk (below_more hHeld.out st)
      clear st hHeld
      refine hK.out _ _ H1 (fun hHeld => ?_)
      clear H1
      clear hK KC
      try simp only [Act.put, List.getElem_toArray, List.getElem_cons_succ, List.getElem_cons_zero, List.setIfInBounds_toArray, List.set_cons_zero, List.set_cons_succ]
      refine tkG 42 (v := ?_) rfl (by kernel_rfl) (by kernel_rfl) (by kernel_rfl) (fun _ _ _ h => h) (Or.inl ⟨wantedN rfl, ?_⟩) hHeld ?_
      rotate_left; · (intro w' hSw; go_simp; first | done | with_reducible rfl)
      try simp only [Act.put, List.getElem_toArray, List.getElem_cons_succ, List.getElem_cons_zero, List.setIfInBounds_toArray, List.set_cons_zero, List.set_cons_succ]
      refine tkG 43 (v := ?_) rfl (by kernel_rfl) (by kernel_rfl) (by kernel_rfl) (fun _ _ _ h => h) (Or.inl ⟨wantedN rfl, ?_⟩) hHeld ?_
      rotate_left; · (intro w' hSw; go_simp; first | done | with_reducible rfl)
      try simp only [Act.put, List.getElem_toArray, List.getElem_cons_succ, List.getElem_cons_zero, List.setIfInBounds_toArray, List.set_cons_zero, List.set_cons_succ]
      refine brG 44 rfl (by kernel_rfl) (fun KC hK => ?_)
      go_simp
      refine (wakes02_calls _).mono ?_
      rintro e w1 ⟨rfl, st⟩
      have H1 := Aside0.mk (below_more hHeld.out st)
      clear st hHeld
      refine hK.out _ _ H1 (fun hHeld => ?_)
      clear H1
      clear hK KC
      try simp only [Act.put, List.getElem_toArray, List.getElem_cons_succ, List.getElem_cons_zero, List.setIfInBounds_toArray, List.set_cons_zero, List.set_cons_succ]
      refine tkG 45 (v := ?_) rfl (by kernel_rfl) (by kernel_rfl) (by kernel_rfl) (fun _ _ _ h => h) (Or.inl ⟨wantedN rfl, ?_⟩) hHeld ?_
      rotate_left; · (intro w' hSw; go_simp; first | done | with_reducible rfl)
      try simp only [Act.put, List.getElem_toArray, List.getElem_cons_succ, List.getElem_cons_zero, List.setIfInBounds_toArray, List.set_cons_zero, List.set_cons_succ]
      refine tkG 46 (v := ?_) rfl (by kernel_rfl) (by kernel_rfl) (by kernel_rfl) (fun _ _ _ h => h) (Or.inl ⟨wantedN rfl, ?_⟩) hHeld ?_
      rotate_left; · (intro w' hSw; go_simp; first | done | with_reducible rfl)
      try simp only [Act.put, List.getElem_toArray, List.getElem_cons_succ, List.getElem_cons_zero, List.setIfInBounds_toArray, List.set_cons_zero, List.set_cons_succ]
      refine wpAnyH_done (by kernel_rfl) ?_ _
      refine NoPanic.normal ?_
      have UE := Aside0.mk hHeld.out
      clear hHeld
      go_wp2_with fail
      go_ret
      exact ⟨rfl, below_more VB.out UE.out⟩
  · refine ⟨rfl, ?_, below_drew (Below.refl _ _), ?_, ?_, ?_, ?_, ?_, ?_, ?_, ?_, ?_, ?_, ?_, ?_, ?_, ?_⟩
    · intro j hj; rcases hj with rfl | rfl | rfl | rfl | rfl | rfl <;> rfl
    all_goals (intro e; cases e)
end Go.Proofs.Ytokadjfakncdfaa
