/- field: ring, of 6 words. -/
import Derived.Test.YtokadjfakncdfaaFS
set_option linter.unusedVariables false
set_option linter.unusedSimpArgs false
namespace Go.Proofs.Ytokadjfakncdfaa
open Go.RowKit Go.Proofs.YtokadjfakncdfaaW.PrintWords Go.Proofs.YtokadjfakncdfaaW.PrintLast Go.Proofs.YtokadjfakncdfaaW.PrintMore
open PR
theorem boxed6 (w : World) (x : Int) : Below w.heap.size w ((w.alloc (.cells (c64 (List.replicate 6 0)) 62)).setRow w.heap.size (c64 (dg 6 x))) ∧ Bx 6 62 ((w.alloc (.cells (c64 (List.replicate 6 0)) 62)).setRow w.heap.size (c64 (dg 6 x))) w.heap.size x :=
  ⟨below_setRow (below_alloc (Below.refl _ _) _) (Nat.le_refl _) _, ⟨setRow_heap _ _ _ _ 62 _ (heap_alloc_new w _)⟩⟩
theorem fromAny6 {g : Nat} {v : Value} {m : Int} {xs : List Int} {w : World} (hF : Fd 6 145 w g m) (hv : RL .u64 w v xs) (hd : Dig B64 xs) :
    Calls Try.prog 77 #[.pointer (some ⟨g, 0, none⟩), v] w fun e w' => ∃ x ga, e = .returned (.tuple #[elt 6 x, .int .i64 ga]) ∧ ((ga = 0 ∧ x = mo 6 m (nv B64 xs)) ∨ ga = 11) ∧ Below w.heap.size w w' := by
  by_cases h : xs.length ≤ 80
  · refine (fromOk6_calls g v m (nv B64 xs) _ xs.length w hF ⟨xs, hv, hd, rfl, Nat.le_refl _⟩ h rfl).mono ?_
    rintro e w' ⟨rfl, st⟩
    exact ⟨_, 0, rfl, .inl ⟨rfl, rfl⟩, st⟩
  · refine (fromLong6_calls g v xs w hv (by omega)).mono ?_
    rintro e w' ⟨rfl, st⟩
    exact ⟨_, 11, rfl, .inr rfl, st⟩
theorem fromLit6 {g : Nat} {m : Int} {w : World} (gb : Nat) (hgb : w.heap.size = gb) (k : Int) (e : Nat) (hk : 0 ≤ k ∧ k < B64) (hF : Fd 6 145 (w.alloc (.cells #[.int .u64 k] e)) g m) :
    Calls Try.prog 77 #[.pointer (some ⟨g, 0, none⟩), .slice (some ⟨gb, 0, none⟩) 1 1] (w.alloc (.cells #[.int .u64 k] e)) fun e' w' => ∃ x ga, e' = .returned (.tuple #[elt 6 x, .int .i64 ga]) ∧ (ga = 0 ∧ x = mo 6 m k) ∧ Below (w.alloc (.cells #[.int .u64 k] e)).heap.size (w.alloc (.cells #[.int .u64 k] e)) w' := by
  subst hgb
  refine (fromOk6_calls g _ m k _ 1 _ hF (dn_one w k e hk) (by decide) rfl).mono ?_
  rintro e w' ⟨rfl, st⟩
  exact ⟨_, 0, rfl, ⟨rfl, rfl⟩, st⟩
set_option maxRecDepth 100000 in
set_option maxHeartbeats 16000000 in
theorem ring6_calls (vm va vb vc : Value) (ms ka kb kc : List Int) (w : World) (hm : RL .u64 w vm ms) (ha : RL .u64 w va ka) (hb : RL .u64 w vb kb) (hc : RL .u64 w vc kc)
    (dm : Dig B64 ms) (da : Dig B64 ka) (db : Dig B64 kb) (dc : Dig B64 kc) :
    Calls Try.prog 43 #[vm, va, vb, vc] w fun e w' => e = .returned (.bool true) ∧ Below w.heap.size w w' := by
  have RM := Aside0.mk hm
  have RA := Aside0.mk ha
  have RB := Aside0.mk hb
  have RC := Aside0.mk hc
  have DM := Aside0.mk dm
  have DA := Aside0.mk da
  have DB := Aside0.mk db
  have DC := Aside0.mk dc
  clear hm ha hb hc dm da db dc
  by_cases hl : 80 < ms.length
  · go_enter Try.func43, Try.ntmps43
    go_wp2_with fail
    refine (newLong6_calls vm ms w RM.out hl).mono ?_
    rintro e w1 ⟨rfl, st⟩
    have H1 := Aside0.mk st
    clear st
    go_wp2_with fail
    go_ret
    exact ⟨rfl, H1.out⟩
  by_cases hp : ¬ FP 6 (nv B64 ms)
  · go_enter Try.func43, Try.ntmps43
    go_wp2_with fail
    refine (newBad6_calls vm (nv B64 ms) 80 w ⟨ms, RM.out, DM.out, rfl, by omega⟩ (by decide) hp).mono ?_
    rintro e w1 ⟨rfl, st⟩
    have H1 := Aside0.mk st
    clear st
    go_wp2_with fail
    go_ret
    exact ⟨rfl, H1.out⟩
  have HP := Aside0.mk (Classical.not_not.1 hp)
  have HM := Aside0.mk (show DN w vm (nv B64 ms) 80 from ⟨ms, RM.out, DM.out, rfl, by omega⟩)
  obtain ⟨m, em⟩ : ∃ m, nv B64 ms = m := ⟨_, rfl⟩
  obtain ⟨a, ea⟩ : ∃ a, nv B64 ka = a := ⟨_, rfl⟩
  obtain ⟨b, eb⟩ : ∃ b, nv B64 kb = b := ⟨_, rfl⟩
  obtain ⟨c, ec⟩ : ∃ c, nv B64 kc = c := ⟨_, rfl⟩
  rw [em] at HP HM
  have EA := Aside0.mk ea
  have EB := Aside0.mk eb
  have EC := Aside0.mk ec
  clear hp hl em ea eb ec
  go_enter Try.func43, Try.ntmps43
  go_wp2_with fail
  refine (newOk6_calls vm m 80 w HM.out (by decide) HP.out).mono ?_
  rintro e w1 ⟨g, rfl, hf, st⟩
  have HF := Aside0.mk (show ∀ w', Below w1.heap.size w1 w' → Fd 6 145 w' g m from fun w' hb => hf.below hb)
  have U1 := Aside0.mk (Below.refl w1.heap.size w1)
  have HB1 := Aside0.mk st
  clear hf st
  go_wp2_with fail
  refine (fromAny6 (HF.out _ U1.out) (RA.out.below HB1.out) DA.out).mono ?_
  rintro e w2 ⟨x, ggx, rfl, hx, st⟩
  have HCx := Aside0.mk hx
  have S2 := Aside0.mk (below_more U1.out st)
  obtain ⟨W2, hW⟩ : ∃ W, (w2.alloc (.cells (c64 (List.replicate 6 0)) 62)).setRow w2.heap.size (c64 (dg 6 x)) = W := ⟨_, rfl⟩
  obtain ⟨b1, b2⟩ := boxed6 w2 x
  rw [hW] at b1 b2
  have Q11 := Aside0.mk b2
  have U2 := Aside0.mk (below_more S2.out b1)
  have SZ2 := Aside0.mk (c64_info info62 (dg_length 6 x))
  have SN2 := Aside0.mk (show (c64 (List.replicate 6 0)).size = (c64 (dg 6 x)).size from c64_sizes (by rw [dg_length]; rfl))
  obtain ⟨p11, hp⟩ : ∃ p, w2.heap.size = p := ⟨_, rfl⟩
  have Z2 := Aside0.mk (show W2.heap.size = p11 + 1 by rw [← hW, ← hp]; exact size_boxed _ _ _ _)
  have hn := heap_alloc_new w2 (.cells (c64 (List.replicate 6 0)) 62)
  rw [hp] at Q11 hn hW
  have HN2 := Aside0.mk hn
  have HW2 := Aside0.mk hW
  clear hx st b1 b2 U1 hn hW
  go_wp2_with (refine wpList_store_row rfl 62 (.tmp 11) (.tmp 33) rfl p11 (c64 (dg 6 x)) (by first | rfl | (rw [← hp]; rfl)) rfl 62 _ HN2.out SZ2.out SN2.out (c64_all _) ?_)
  rw [show (w2.alloc (.cells #[.int .u64 0, .int .u64 0, .int .u64 0, .int .u64 0, .int .u64 0, .int .u64 0] 62)).setRow p11 (c64 (dg 6 x)) = W2 from HW2.out]
  clear HN2 HW2 SZ2 SN2
  refine (fromAny6 (HF.out _ U2.out) (RB.out.below (below_more HB1.out U2.out)) DB.out).mono ?_
  rintro e w3 ⟨y, ggy, rfl, hy, st⟩
  have HCy := Aside0.mk hy
  have S3 := Aside0.mk (below_more U2.out st)
  obtain ⟨W3, hW⟩ : ∃ W, (w3.alloc (.cells (c64 (List.replicate 6 0)) 62)).setRow w3.heap.size (c64 (dg 6 y)) = W := ⟨_, rfl⟩
  obtain ⟨b1, b2⟩ := boxed6 w3 y
  rw [hW] at b1 b2
  have Q11 := Aside0.mk ((Q11.out.below st).below b1)
  have Q13 := Aside0.mk b2
  have U3 := Aside0.mk (below_more S3.out b1)
  have SZ3 := Aside0.mk (c64_info info62 (dg_length 6 y))
  have SN3 := Aside0.mk (show (c64 (List.replicate 6 0)).size = (c64 (dg 6 y)).size from c64_sizes (by rw [dg_length]; rfl))
  obtain ⟨p13, hp⟩ : ∃ p, w3.heap.size = p := ⟨_, rfl⟩
  have Z3 := Aside0.mk (show W3.heap.size = p13 + 1 by rw [← hW, ← hp]; exact size_boxed _ _ _ _)
  have hn := heap_alloc_new w3 (.cells (c64 (List.replicate 6 0)) 62)
  rw [hp] at Q13 hn hW
  have HN3 := Aside0.mk hn
  have HW3 := Aside0.mk hW
  clear hy st b1 b2 U2 hn hW
  go_wp2_with (refine wpList_store_row rfl 62 (.tmp 13) (.tmp 39) rfl p13 (c64 (dg 6 y)) (by first | rfl | (rw [← hp]; rfl)) rfl 62 _ HN3.out SZ3.out SN3.out (c64_all _) ?_)
  rw [show (w3.alloc (.cells #[.int .u64 0, .int .u64 0, .int .u64 0, .int .u64 0, .int .u64 0, .int .u64 0] 62)).setRow p13 (c64 (dg 6 y)) = W3 from HW3.out]
  clear HN3 HW3 SZ3 SN3
  refine (fromAny6 (HF.out _ U3.out) (RC.out.below (below_more HB1.out U3.out)) DC.out).mono ?_
  rintro e w4 ⟨z, ggz, rfl, hz, st⟩
  have HCz := Aside0.mk hz
  have S4 := Aside0.mk (below_more U3.out st)
  obtain ⟨W4, hW⟩ : ∃ W, (w4.alloc (.cells (c64 (List.replicate 6 0)) 62)).setRow w4.heap.size (c64 (dg 6 z)) = W := ⟨_, rfl⟩
  obtain ⟨b1, b2⟩ := boxed6 w4 z
  rw [hW] at b1 b2
  have Q11 := Aside0.mk ((Q11.out.below st).below b1)
  have Q13 := Aside0.mk ((Q13.out.below st).below b1)
  have Q15 := Aside0.mk b2
  have U4 := Aside0.mk (below_more S4.out b1)
  have SZ4 := Aside0.mk (c64_info info62 (dg_length 6 z))
  have SN4 := Aside0.mk (show (c64 (List.replicate 6 0)).size = (c64 (dg 6 z)).size from c64_sizes (by rw [dg_length]; rfl))
  obtain ⟨p15, hp⟩ : ∃ p, w4.heap.size = p := ⟨_, rfl⟩
  have Z4 := Aside0.mk (show W4.heap.size = p15 + 1 by rw [← hW, ← hp]; exact size_boxed _ _ _ _)
  have hn := heap_alloc_new w4 (.cells (c64 (List.replicate 6 0)) 62)
  rw [hp] at Q15 hn hW
  have HN4 := Aside0.mk hn
  have HW4 := Aside0.mk hW
  clear hz st b1 b2 U3 hn hW
  go_wp2_with (refine wpList_store_row rfl 62 (.tmp 15) (.tmp 45) rfl p15 (c64 (dg 6 z)) (by first | rfl | (rw [← hp]; rfl)) rfl 62 _ HN4.out SZ4.out SN4.out (c64_all _) ?_)
  rw [show (w4.alloc (.cells #[.int .u64 0, .int .u64 0, .int .u64 0, .int .u64 0, .int .u64 0, .int .u64 0] 62)).setRow p15 (c64 (dg 6 z)) = W4 from HW4.out]
  clear HN4 HW4 SZ4 SN4
  have U4a := Aside0.mk (below_more U4.out (below_alloc (Below.refl _ _) (.cells #[.int .u64 1] 30)))
  have Q11 := Aside0.mk (Q11.out.below (below_alloc (Below.refl W4.heap.size W4) (.cells #[.int .u64 1] 30)))
  have Q13 := Aside0.mk (Q13.out.below (below_alloc (Below.refl W4.heap.size W4) (.cells #[.int .u64 1] 30)))
  have Q15 := Aside0.mk (Q15.out.below (below_alloc (Below.refl W4.heap.size W4) (.cells #[.int .u64 1] 30)))
  clear U4
  refine (fromLit6 (p15 + 1) Z4.out 1 30 (by decide) (HF.out _ U4a.out)).mono ?_
  rintro e w5 ⟨o, ggo, rfl, ho, st⟩
  have HCo := Aside0.mk ho
  have S5 := Aside0.mk (below_more U4a.out st)
  obtain ⟨W5, hW⟩ : ∃ W, (w5.alloc (.cells (c64 (List.replicate 6 0)) 62)).setRow w5.heap.size (c64 (dg 6 o)) = W := ⟨_, rfl⟩
  obtain ⟨b1, b2⟩ := boxed6 w5 o
  rw [hW] at b1 b2
  have Q11 := Aside0.mk ((Q11.out.below st).below b1)
  have Q13 := Aside0.mk ((Q13.out.below st).below b1)
  have Q15 := Aside0.mk ((Q15.out.below st).below b1)
  have Q17 := Aside0.mk b2
  have U5 := Aside0.mk (below_more S5.out b1)
  have SZ5 := Aside0.mk (c64_info info62 (dg_length 6 o))
  have SN5 := Aside0.mk (show (c64 (List.replicate 6 0)).size = (c64 (dg 6 o)).size from c64_sizes (by rw [dg_length]; rfl))
  obtain ⟨p17, hp⟩ : ∃ p, w5.heap.size = p := ⟨_, rfl⟩
  have Z5 := Aside0.mk (show W5.heap.size = p17 + 1 by rw [← hW, ← hp]; exact size_boxed _ _ _ _)
  have hn := heap_alloc_new w5 (.cells (c64 (List.replicate 6 0)) 62)
  rw [hp] at Q17 hn hW
  have HN5 := Aside0.mk hn
  have HW5 := Aside0.mk hW
  clear ho st b1 b2 U4a hn hW
  go_upto_region 8 with (refine wpList_store_row rfl 62 (.tmp 17) (.tmp 51) rfl p17 (c64 (dg 6 o)) (by first | rfl | (rw [← hp]; rfl)) rfl 62 _ HN5.out SZ5.out SN5.out (c64_all _) ?_)
  rw [show (w5.alloc (.cells #[.int .u64 0, .int .u64 0, .int .u64 0, .int .u64 0, .int .u64 0, .int .u64 0] 62)).setRow p17 (c64 (dg 6 o)) = W5 from HW5.out]
  clear HN5 HW5 SZ5 SN5
  obtain rfl := HCo.out.1
  rcases HCx.out with hx | hx
  rotate_left
  · subst hx
    go_wp2_with fail
    go_ret
    exact ⟨rfl, HB1.out.trans (U5.out.mono HB1.out.size)⟩
  rcases HCy.out with hy | hy
  rotate_left
  · subst hy
    obtain rfl := hx.1
    clear hx
    go_wp2_with fail
    go_ret
    exact ⟨rfl, HB1.out.trans (U5.out.mono HB1.out.size)⟩
  rcases HCz.out with hz | hz
  rotate_left
  · subst hz
    obtain rfl := hx.1
    obtain rfl := hy.1
    clear hx hy
    go_wp2_with fail
    go_ret
    exact ⟨rfl, HB1.out.trans (U5.out.mono HB1.out.size)⟩
  obtain rfl := hx.1
  obtain rfl := hy.1
  obtain rfl := hz.1
  have Hx := Aside0.mk (EA.out ▸ hx.2)
  have Hy := Aside0.mk (EB.out ▸ hy.2)
  have Hz := Aside0.mk (EC.out ▸ hz.2)
  have Ho := Aside0.mk HCo.out.2
  have H0 := Aside0.mk (show (0 : Int) = mo 6 m 0 from (mo_zero _ _).symm)
  have WM := Aside0.mk (HM.out.below HB1.out)
  clear hx hy hz HCx HCy HCz HCo RA RB RC RM DA DB DC DM EA EB EC HM
  go_upto_region 11 with fail
  obtain ⟨W6, hW6⟩ : ∃ W, W5.alloc (.cells #[.int .u64 0, .int .u64 0, .int .u64 0, .int .u64 0, .int .u64 0, .int .u64 0] 62) = W := ⟨_, rfl⟩
  have st : Below W5.heap.size W5 W6 := hW6 ▸ below_alloc (Below.refl _ _) _
  have q19 : Bx 6 62 W6 W5.heap.size 0 := ⟨by rw [← hW6]; exact heap_alloc_new W5 _⟩
  rw [hW6]
  have U6 := Aside0.mk (below_more U5.out st)
  have Bx11 := Aside0.mk (Q11.out.below st)
  have Bx13 := Aside0.mk (Q13.out.below st)
  have Bx15 := Aside0.mk (Q15.out.below st)
  have Bx17 := Aside0.mk (Q17.out.below st)
  have Bx19 := Aside0.mk q19
  have HFA := Aside0.mk (HF.out _ U6.out)
  clear hW6 st q19 U5 Q11 Q13 Q15 Q17 Z5
  obtain ⟨As0, hAs0⟩ : ∃ v, v = mo 6 m (a + b) := ⟨_, rfl⟩
  have HAs0 := Aside0.mk hAs0
  clear hAs0
  obtain ⟨As1, hAs1⟩ : ∃ v, v = mo 6 m ((a + b) + c) := ⟨_, rfl⟩
  have HAs1 := Aside0.mk hAs1
  clear hAs1
  obtain ⟨As2, hAs2⟩ : ∃ v, v = mo 6 m (a * b) := ⟨_, rfl⟩
  have HAs2 := Aside0.mk hAs2
  clear hAs2
  obtain ⟨As3, hAs3⟩ : ∃ v, v = mo 6 m ((a * b) * c) := ⟨_, rfl⟩
  have HAs3 := Aside0.mk hAs3
  clear hAs3
  obtain ⟨As4, hAs4⟩ : ∃ v, v = mo 6 m (a + b) := ⟨_, rfl⟩
  have HAs4 := Aside0.mk hAs4
  clear hAs4
  obtain ⟨As5, hAs5⟩ : ∃ v, v = mo 6 m (b + c) := ⟨_, rfl⟩
  have HAs5 := Aside0.mk hAs5
  clear hAs5
  obtain ⟨As6, hAs6⟩ : ∃ v, v = mo 6 m (a * b) := ⟨_, rfl⟩
  have HAs6 := Aside0.mk hAs6
  clear hAs6
  obtain ⟨As7, hAs7⟩ : ∃ v, v = mo 6 m (b * c) := ⟨_, rfl⟩
  have HAs7 := Aside0.mk hAs7
  clear hAs7
  refine wp_region_noPanic ?_
  refine wp_region_held_drew (S := (fun w' => Aside0 (Below W6.heap.size W6 w'))) (by kernel_rfl) ⟨below_drew (Below.refl _ _)⟩ (fun hHeld => ?_)
  refine tkG (o := { dst := some 67, op := Op.move (Operand.tmp 9), type := 105, pos := "outright.go:24", after := #[], guard := none }) 0 (v := ?_) rfl (by kernel_rfl) (by kernel_rfl) (by kernel_rfl) (fun _ _ _ h => h) (Or.inl ⟨wantedN rfl, ?_⟩) hHeld ?_
  rotate_left; · (intro w' hSw;  go_simp; first | done | with_reducible rfl)
  try simp only [Act.put, List.getElem_toArray, List.getElem_cons_succ, List.getElem_cons_zero, List.setIfInBounds_toArray, List.set_cons_zero, List.set_cons_succ]
  refine tkG (o := { dst := some 68, op := Op.load 62 (Operand.tmp 11), type := 62, pos := "outright.go:24", after := #[], guard := none }) 1 (v := elt 6 x) rfl (by kernel_rfl) (by kernel_rfl) (by kernel_rfl) (fun _ _ _ h => h) (Or.inl ⟨wantedN rfl, fun w' hSw => loadG 62 (.tmp 11) rfl ⟨p11, 0, none⟩ rfl (elt_load62 (Bx11.out.below hSw.out))⟩) hHeld ?_
  try simp only [Act.put, List.getElem_toArray, List.getElem_cons_succ, List.getElem_cons_zero, List.setIfInBounds_toArray, List.set_cons_zero, List.set_cons_succ]
  refine tkG (o := { dst := some 69, op := Op.load 62 (Operand.tmp 13), type := 62, pos := "outright.go:24", after := #[], guard := none }) 2 (v := elt 6 y) rfl (by kernel_rfl) (by kernel_rfl) (by kernel_rfl) (fun _ _ _ h => h) (Or.inl ⟨wantedN rfl, fun w' hSw => loadG 62 (.tmp 13) rfl ⟨p13, 0, none⟩ rfl (elt_load62 (Bx13.out.below hSw.out))⟩) hHeld ?_
  try simp only [Act.put, List.getElem_toArray, List.getElem_cons_succ, List.getElem_cons_zero, List.setIfInBounds_toArray, List.set_cons_zero, List.set_cons_succ]
  refine tkG (o := { dst := some 71, op := Op.move (Operand.tmp 9), type := 105, pos := "outright.go:24", after := #[], guard := none }) 4 (v := ?_) rfl (by kernel_rfl) (by kernel_rfl) (by kernel_rfl) (fun _ _ _ h => h) (Or.inl ⟨wantedN rfl, ?_⟩) hHeld ?_
  rotate_left; · (intro w' hSw;  go_simp; first | done | with_reducible rfl)
  try simp only [Act.put, List.getElem_toArray, List.getElem_cons_succ, List.getElem_cons_zero, List.setIfInBounds_toArray, List.set_cons_zero, List.set_cons_succ]
  refine tkG (o := { dst := some 72, op := Op.load 62 (Operand.tmp 13), type := 62, pos := "outright.go:24", after := #[], guard := none }) 5 (v := elt 6 y) rfl (by kernel_rfl) (by kernel_rfl) (by kernel_rfl) (fun _ _ _ h => h) (Or.inl ⟨wantedN rfl, fun w' hSw => loadG 62 (.tmp 13) rfl ⟨p13, 0, none⟩ rfl (elt_load62 (Bx13.out.below hSw.out))⟩) hHeld ?_
  try simp only [Act.put, List.getElem_toArray, List.getElem_cons_succ, List.getElem_cons_zero, List.setIfInBounds_toArray, List.set_cons_zero, List.set_cons_succ]
  refine tkG (o := { dst := some 73, op := Op.load 62 (Operand.tmp 11), type := 62, pos := "outright.go:24", after := #[], guard := none }) 6 (v := elt 6 x) rfl (by kernel_rfl) (by kernel_rfl) (by kernel_rfl) (fun _ _ _ h => h) (Or.inl ⟨wantedN rfl, fun w' hSw => loadG 62 (.tmp 11) rfl ⟨p11, 0, none⟩ rfl (elt_load62 (Bx11.out.below hSw.out))⟩) hHeld ?_
  try simp only [Act.put, List.getElem_toArray, List.getElem_cons_succ, List.getElem_cons_zero, List.setIfInBounds_toArray, List.set_cons_zero, List.set_cons_succ]
  refine brG (o := { dst := some 70, op := Op.call { callee := Callee.value (Operand.func 78), args := #[Operand.tmp 67, Operand.tmp 68, Operand.tmp 69], argTypes := #[105, 62, 62] }, type := 62, pos := "outright.go:24", after := #[{ on := 0, ground := Ground.data }, { on := 1, ground := Ground.data }, { on := 2, ground := Ground.data }], guard := none }) 3 rfl (by kernel_rfl) (fun K hK => ?_)
  go_simp
  refine (addM6 (a) (b) As0 (HFA.out.below hHeld.out) Hx.out Hy.out HAs0.out).mono ?_
  rintro e w1 ⟨rfl, st⟩
  have H1 := Aside0.mk (below_more hHeld.out st)
  clear st
  refine hK.out _ _ H1 (fun hHeld => ?_)
  clear H1
  clear hK K
  try simp only [Act.put, List.getElem_toArray, List.getElem_cons_succ, List.getElem_cons_zero, List.setIfInBounds_toArray, List.set_cons_zero, List.set_cons_succ]
  refine brG (o := { dst := some 74, op := Op.call { callee := Callee.value (Operand.func 78), args := #[Operand.tmp 71, Operand.tmp 72, Operand.tmp 73], argTypes := #[105, 62, 62] }, type := 62, pos := "outright.go:24", after := #[{ on := 4, ground := Ground.data }, { on := 5, ground := Ground.data }, { on := 6, ground := Ground.data }, { on := 3, ground := Ground.chain }], guard := none }) 7 rfl (by kernel_rfl) (fun K hK => ?_)
  go_simp
  refine (addM6 (b) (a) As0 (HFA.out.below hHeld.out) Hy.out Hx.out (HAs0.out.trans (congrArg (mo 6 m) (by grind)))).mono ?_
  rintro e w1 ⟨rfl, st⟩
  have H1 := Aside0.mk (below_more hHeld.out st)
  clear st
  refine hK.out _ _ H1 (fun hHeld => ?_)
  clear H1
  clear hK K
  try simp only [Act.put, List.getElem_toArray, List.getElem_cons_succ, List.getElem_cons_zero, List.setIfInBounds_toArray, List.set_cons_zero, List.set_cons_succ]
  refine tkG (o := { dst := some 75, op := Op.binOp BinOp.neq 62 (Operand.tmp 70) (Operand.tmp 74) 62, type := 4, pos := "outright.go:24", after := #[{ on := 3, ground := Ground.data }, { on := 7, ground := Ground.data }], guard := none }) 8 (v := .bool false) rfl (by kernel_rfl) (by kernel_rfl) (by kernel_rfl) (fun _ _ _ h => h) (Or.inl ⟨wantedN rfl, fun w' hSw => neqS6 (s := As0) rfl rfl rfl⟩) hHeld ?_
  try simp only [Act.put, List.getElem_toArray, List.getElem_cons_succ, List.getElem_cons_zero, List.setIfInBounds_toArray, List.set_cons_zero, List.set_cons_succ]
  refine tkG (o := { dst := some 76, op := Op.move (Operand.tmp 75), type := 4, pos := "outright.go:24", after := #[{ on := 8, ground := Ground.data }, { on := 7, ground := Ground.chain }], guard := none }) 9 (v := ?_) rfl (by kernel_rfl) (by kernel_rfl) (by kernel_rfl) (fun _ _ _ h => h) (Or.inl ⟨wantedN rfl, ?_⟩) hHeld ?_
  rotate_left; · (intro w' hSw;  go_simp; first | done | with_reducible rfl)
  try simp only [Act.put, List.getElem_toArray, List.getElem_cons_succ, List.getElem_cons_zero, List.setIfInBounds_toArray, List.set_cons_zero, List.set_cons_succ]
  refine tkG (o := { dst := some 77, op := Op.move (Operand.tmp 9), type := 105, pos := "outright.go:24", after := #[{ on := 9, ground := Ground.guard }], guard := some (9, false) }) 10 (v := ?_) rfl (by kernel_rfl) (by kernel_rfl) (by kernel_rfl) (fun _ _ _ h => h) (Or.inl ⟨wantedG 9 false rfl rfl rfl rfl, ?_⟩) hHeld ?_
  rotate_left; · (intro w' hSw;  go_simp; first | done | with_reducible rfl)
  try simp only [Act.put, List.getElem_toArray, List.getElem_cons_succ, List.getElem_cons_zero, List.setIfInBounds_toArray, List.set_cons_zero, List.set_cons_succ]
  refine tkG (o := { dst := some 78, op := Op.move (Operand.tmp 9), type := 105, pos := "outright.go:24", after := #[{ on := 9, ground := Ground.guard }], guard := some (9, false) }) 11 (v := ?_) rfl (by kernel_rfl) (by kernel_rfl) (by kernel_rfl) (fun _ _ _ h => h) (Or.inl ⟨wantedG 9 false rfl rfl rfl rfl, ?_⟩) hHeld ?_
  rotate_left; · (intro w' hSw;  go_simp; first | done | with_reducible rfl)
  try simp only [Act.put, List.getElem_toArray, List.getElem_cons_succ, List.getElem_cons_zero, List.setIfInBounds_toArray, List.set_cons_zero, List.set_cons_succ]
  refine tkG (o := { dst := some 79, op := Op.load 62 (Operand.tmp 11), type := 62, pos := "outright.go:24", after := #[{ on := 9, ground := Ground.guard }], guard := some (9, false) }) 12 (v := elt 6 x) rfl (by kernel_rfl) (by kernel_rfl) (by kernel_rfl) (fun _ _ _ h => h) (Or.inl ⟨wantedG 9 false rfl rfl rfl rfl, fun w' hSw => loadG 62 (.tmp 11) rfl ⟨p11, 0, none⟩ rfl (elt_load62 (Bx11.out.below hSw.out))⟩) hHeld ?_
  try simp only [Act.put, List.getElem_toArray, List.getElem_cons_succ, List.getElem_cons_zero, List.setIfInBounds_toArray, List.set_cons_zero, List.set_cons_succ]
  refine tkG (o := { dst := some 80, op := Op.load 62 (Operand.tmp 13), type := 62, pos := "outright.go:24", after := #[{ on := 9, ground := Ground.guard }], guard := some (9, false) }) 13 (v := elt 6 y) rfl (by kernel_rfl) (by kernel_rfl) (by kernel_rfl) (fun _ _ _ h => h) (Or.inl ⟨wantedG 9 false rfl rfl rfl rfl, fun w' hSw => loadG 62 (.tmp 13) rfl ⟨p13, 0, none⟩ rfl (elt_load62 (Bx13.out.below hSw.out))⟩) hHeld ?_
  try simp only [Act.put, List.getElem_toArray, List.getElem_cons_succ, List.getElem_cons_zero, List.setIfInBounds_toArray, List.set_cons_zero, List.set_cons_succ]
  refine tkG (o := { dst := some 82, op := Op.load 62 (Operand.tmp 15), type := 62, pos := "outright.go:24", after := #[{ on := 9, ground := Ground.guard }], guard := some (9, false) }) 15 (v := elt 6 z) rfl (by kernel_rfl) (by kernel_rfl) (by kernel_rfl) (fun _ _ _ h => h) (Or.inl ⟨wantedG 9 false rfl rfl rfl rfl, fun w' hSw => loadG 62 (.tmp 15) rfl ⟨p15, 0, none⟩ rfl (elt_load62 (Bx15.out.below hSw.out))⟩) hHeld ?_
  try simp only [Act.put, List.getElem_toArray, List.getElem_cons_succ, List.getElem_cons_zero, List.setIfInBounds_toArray, List.set_cons_zero, List.set_cons_succ]
  refine tkG (o := { dst := some 84, op := Op.move (Operand.tmp 9), type := 105, pos := "outright.go:24", after := #[{ on := 9, ground := Ground.guard }], guard := some (9, false) }) 17 (v := ?_) rfl (by kernel_rfl) (by kernel_rfl) (by kernel_rfl) (fun _ _ _ h => h) (Or.inl ⟨wantedG 9 false rfl rfl rfl rfl, ?_⟩) hHeld ?_
  rotate_left; · (intro w' hSw;  go_simp; first | done | with_reducible rfl)
  try simp only [Act.put, List.getElem_toArray, List.getElem_cons_succ, List.getElem_cons_zero, List.setIfInBounds_toArray, List.set_cons_zero, List.set_cons_succ]
  refine tkG (o := { dst := some 85, op := Op.load 62 (Operand.tmp 11), type := 62, pos := "outright.go:24", after := #[{ on := 9, ground := Ground.guard }], guard := some (9, false) }) 18 (v := elt 6 x) rfl (by kernel_rfl) (by kernel_rfl) (by kernel_rfl) (fun _ _ _ h => h) (Or.inl ⟨wantedG 9 false rfl rfl rfl rfl, fun w' hSw => loadG 62 (.tmp 11) rfl ⟨p11, 0, none⟩ rfl (elt_load62 (Bx11.out.below hSw.out))⟩) hHeld ?_
  try simp only [Act.put, List.getElem_toArray, List.getElem_cons_succ, List.getElem_cons_zero, List.setIfInBounds_toArray, List.set_cons_zero, List.set_cons_succ]
  refine tkG (o := { dst := some 86, op := Op.move (Operand.tmp 9), type := 105, pos := "outright.go:24", after := #[{ on := 9, ground := Ground.guard }], guard := some (9, false) }) 19 (v := ?_) rfl (by kernel_rfl) (by kernel_rfl) (by kernel_rfl) (fun _ _ _ h => h) (Or.inl ⟨wantedG 9 false rfl rfl rfl rfl, ?_⟩) hHeld ?_
  rotate_left; · (intro w' hSw;  go_simp; first | done | with_reducible rfl)
  try simp only [Act.put, List.getElem_toArray, List.getElem_cons_succ, List.getElem_cons_zero, List.setIfInBounds_toArray, List.set_cons_zero, List.set_cons_succ]
  refine tkG (o := { dst := some 87, op := Op.load 62 (Operand.tmp 13), type := 62, pos := "outright.go:24", after := #[{ on := 9, ground := Ground.guard }], guard := some (9, false) }) 20 (v := elt 6 y) rfl (by kernel_rfl) (by kernel_rfl) (by kernel_rfl) (fun _ _ _ h => h) (Or.inl ⟨wantedG 9 false rfl rfl rfl rfl, fun w' hSw => loadG 62 (.tmp 13) rfl ⟨p13, 0, none⟩ rfl (elt_load62 (Bx13.out.below hSw.out))⟩) hHeld ?_
  try simp only [Act.put, List.getElem_toArray, List.getElem_cons_succ, List.getElem_cons_zero, List.setIfInBounds_toArray, List.set_cons_zero, List.set_cons_succ]
  refine tkG (o := { dst := some 88, op := Op.load 62 (Operand.tmp 15), type := 62, pos := "outright.go:24", after := #[{ on := 9, ground := Ground.guard }], guard := some (9, false) }) 21 (v := elt 6 z) rfl (by kernel_rfl) (by kernel_rfl) (by kernel_rfl) (fun _ _ _ h => h) (Or.inl ⟨wantedG 9 false rfl rfl rfl rfl, fun w' hSw => loadG 62 (.tmp 15) rfl ⟨p15, 0, none⟩ rfl (elt_load62 (Bx15.out.below hSw.out))⟩) hHeld ?_
  try simp only [Act.put, List.getElem_toArray, List.getElem_cons_succ, List.getElem_cons_zero, List.setIfInBounds_toArray, List.set_cons_zero, List.set_cons_succ]
  refine brG (o := { dst := some 81, op := Op.call { callee := Callee.value (Operand.func 78), args := #[Operand.tmp 78, Operand.tmp 79, Operand.tmp 80], argTypes := #[105, 62, 62] }, type := 62, pos := "outright.go:24", after := #[{ on := 11, ground := Ground.data }, { on := 12, ground := Ground.data }, { on := 13, ground := Ground.data }, { on := 9, ground := Ground.chain }, { on := 9, ground := Ground.guard }], guard := some (9, false) }) 14 rfl (by kernel_rfl) (fun K hK => ?_)
  go_simp
  refine (addM6 (a) (b) As4 (HFA.out.below hHeld.out) Hx.out Hy.out HAs4.out).mono ?_
  rintro e w1 ⟨rfl, st⟩
  have H1 := Aside0.mk (below_more hHeld.out st)
  clear st
  refine hK.out _ _ H1 (fun hHeld => ?_)
  clear H1
  clear hK K
  try simp only [Act.put, List.getElem_toArray, List.getElem_cons_succ, List.getElem_cons_zero, List.setIfInBounds_toArray, List.set_cons_zero, List.set_cons_succ]
  refine brG (o := { dst := some 83, op := Op.call { callee := Callee.value (Operand.func 78), args := #[Operand.tmp 77, Operand.tmp 81, Operand.tmp 82], argTypes := #[105, 62, 62] }, type := 62, pos := "outright.go:24", after := #[{ on := 10, ground := Ground.data }, { on := 14, ground := Ground.data }, { on := 15, ground := Ground.data }, { on := 14, ground := Ground.chain }, { on := 9, ground := Ground.guard }], guard := some (9, false) }) 16 rfl (by kernel_rfl) (fun K hK => ?_)
  go_simp
  refine (addM6 ((a + b)) (c) As1 (HFA.out.below hHeld.out) HAs4.out Hz.out HAs1.out).mono ?_
  rintro e w1 ⟨rfl, st⟩
  have H1 := Aside0.mk (below_more hHeld.out st)
  clear st
  refine hK.out _ _ H1 (fun hHeld => ?_)
  clear H1
  clear hK K
  try simp only [Act.put, List.getElem_toArray, List.getElem_cons_succ, List.getElem_cons_zero, List.setIfInBounds_toArray, List.set_cons_zero, List.set_cons_succ]
  refine brG (o := { dst := some 89, op := Op.call { callee := Callee.value (Operand.func 78), args := #[Operand.tmp 86, Operand.tmp 87, Operand.tmp 88], argTypes := #[105, 62, 62] }, type := 62, pos := "outright.go:24", after := #[{ on := 19, ground := Ground.data }, { on := 20, ground := Ground.data }, { on := 21, ground := Ground.data }, { on := 16, ground := Ground.chain }, { on := 9, ground := Ground.guard }], guard := some (9, false) }) 22 rfl (by kernel_rfl) (fun K hK => ?_)
  go_simp
  refine (addM6 (b) (c) As5 (HFA.out.below hHeld.out) Hy.out Hz.out HAs5.out).mono ?_
  rintro e w1 ⟨rfl, st⟩
  have H1 := Aside0.mk (below_more hHeld.out st)
  clear st
  refine hK.out _ _ H1 (fun hHeld => ?_)
  clear H1
  clear hK K
  try simp only [Act.put, List.getElem_toArray, List.getElem_cons_succ, List.getElem_cons_zero, List.setIfInBounds_toArray, List.set_cons_zero, List.set_cons_succ]
  refine brG (o := { dst := some 90, op := Op.call { callee := Callee.value (Operand.func 78), args := #[Operand.tmp 84, Operand.tmp 85, Operand.tmp 89], argTypes := #[105, 62, 62] }, type := 62, pos := "outright.go:24", after := #[{ on := 17, ground := Ground.data }, { on := 18, ground := Ground.data }, { on := 22, ground := Ground.data }, { on := 22, ground := Ground.chain }, { on := 9, ground := Ground.guard }], guard := some (9, false) }) 23 rfl (by kernel_rfl) (fun K hK => ?_)
  go_simp
  refine (addM6 (a) ((b + c)) As1 (HFA.out.below hHeld.out) Hx.out HAs5.out (HAs1.out.trans (congrArg (mo 6 m) (by grind)))).mono ?_
  rintro e w1 ⟨rfl, st⟩
  have H1 := Aside0.mk (below_more hHeld.out st)
  clear st
  refine hK.out _ _ H1 (fun hHeld => ?_)
  clear H1
  clear hK K
  try simp only [Act.put, List.getElem_toArray, List.getElem_cons_succ, List.getElem_cons_zero, List.setIfInBounds_toArray, List.set_cons_zero, List.set_cons_succ]
  refine tkG (o := { dst := some 91, op := Op.binOp BinOp.neq 62 (Operand.tmp 83) (Operand.tmp 90) 62, type := 4, pos := "outright.go:24", after := #[{ on := 16, ground := Ground.data }, { on := 23, ground := Ground.data }, { on := 9, ground := Ground.guard }], guard := some (9, false) }) 24 (v := .bool false) rfl (by kernel_rfl) (by kernel_rfl) (by kernel_rfl) (fun _ _ _ h => h) (Or.inl ⟨wantedG 9 false rfl rfl rfl rfl, fun w' hSw => neqS6 (s := As1) rfl rfl rfl⟩) hHeld ?_
  try simp only [Act.put, List.getElem_toArray, List.getElem_cons_succ, List.getElem_cons_zero, List.setIfInBounds_toArray, List.set_cons_zero, List.set_cons_succ]
  refine tkG (o := { dst := some 92, op := Op.pick (Operand.tmp 76) (Operand.const (Value.bool true)) (Operand.tmp 91), type := 4, pos := "outright.go:24", after := #[{ on := 9, ground := Ground.data }, { on := 24, ground := Ground.data }], guard := none }) 25 (v := ?_) rfl (by kernel_rfl) (by kernel_rfl) (by kernel_rfl) (fun _ _ _ h => h) (Or.inl ⟨wantedN rfl, ?_⟩) hHeld ?_
  rotate_left; · (intro w' hSw;  go_simp; first | done | with_reducible rfl)
  try simp only [Act.put, List.getElem_toArray, List.getElem_cons_succ, List.getElem_cons_zero, List.setIfInBounds_toArray, List.set_cons_zero, List.set_cons_succ]
  refine tkG (o := { dst := some 93, op := Op.move (Operand.tmp 92), type := 4, pos := "outright.go:24", after := #[{ on := 25, ground := Ground.data }, { on := 23, ground := Ground.chain }], guard := none }) 26 (v := ?_) rfl (by kernel_rfl) (by kernel_rfl) (by kernel_rfl) (fun _ _ _ h => h) (Or.inl ⟨wantedN rfl, ?_⟩) hHeld ?_
  rotate_left; · (intro w' hSw;  go_simp; first | done | with_reducible rfl)
  try simp only [Act.put, List.getElem_toArray, List.getElem_cons_succ, List.getElem_cons_zero, List.setIfInBounds_toArray, List.set_cons_zero, List.set_cons_succ]
  refine tkG (o := { dst := some 94, op := Op.move (Operand.tmp 9), type := 105, pos := "outright.go:24", after := #[{ on := 26, ground := Ground.guard }], guard := some (26, false) }) 27 (v := ?_) rfl (by kernel_rfl) (by kernel_rfl) (by kernel_rfl) (fun _ _ _ h => h) (Or.inl ⟨wantedG 26 false rfl rfl rfl rfl, ?_⟩) hHeld ?_
  rotate_left; · (intro w' hSw;  go_simp; first | done | with_reducible rfl)
  try simp only [Act.put, List.getElem_toArray, List.getElem_cons_succ, List.getElem_cons_zero, List.setIfInBounds_toArray, List.set_cons_zero, List.set_cons_succ]
  refine tkG (o := { dst := some 95, op := Op.load 62 (Operand.tmp 11), type := 62, pos := "outright.go:24", after := #[{ on := 26, ground := Ground.guard }], guard := some (26, false) }) 28 (v := elt 6 x) rfl (by kernel_rfl) (by kernel_rfl) (by kernel_rfl) (fun _ _ _ h => h) (Or.inl ⟨wantedG 26 false rfl rfl rfl rfl, fun w' hSw => loadG 62 (.tmp 11) rfl ⟨p11, 0, none⟩ rfl (elt_load62 (Bx11.out.below hSw.out))⟩) hHeld ?_
  try simp only [Act.put, List.getElem_toArray, List.getElem_cons_succ, List.getElem_cons_zero, List.setIfInBounds_toArray, List.set_cons_zero, List.set_cons_succ]
  refine tkG (o := { dst := some 96, op := Op.load 62 (Operand.tmp 13), type := 62, pos := "outright.go:24", after := #[{ on := 26, ground := Ground.guard }], guard := some (26, false) }) 29 (v := elt 6 y) rfl (by kernel_rfl) (by kernel_rfl) (by kernel_rfl) (fun _ _ _ h => h) (Or.inl ⟨wantedG 26 false rfl rfl rfl rfl, fun w' hSw => loadG 62 (.tmp 13) rfl ⟨p13, 0, none⟩ rfl (elt_load62 (Bx13.out.below hSw.out))⟩) hHeld ?_
  try simp only [Act.put, List.getElem_toArray, List.getElem_cons_succ, List.getElem_cons_zero, List.setIfInBounds_toArray, List.set_cons_zero, List.set_cons_succ]
  refine tkG (o := { dst := some 98, op := Op.move (Operand.tmp 9), type := 105, pos := "outright.go:24", after := #[{ on := 26, ground := Ground.guard }], guard := some (26, false) }) 31 (v := ?_) rfl (by kernel_rfl) (by kernel_rfl) (by kernel_rfl) (fun _ _ _ h => h) (Or.inl ⟨wantedG 26 false rfl rfl rfl rfl, ?_⟩) hHeld ?_
  rotate_left; · (intro w' hSw;  go_simp; first | done | with_reducible rfl)
  try simp only [Act.put, List.getElem_toArray, List.getElem_cons_succ, List.getElem_cons_zero, List.setIfInBounds_toArray, List.set_cons_zero, List.set_cons_succ]
  refine tkG (o := { dst := some 99, op := Op.load 62 (Operand.tmp 13), type := 62, pos := "outright.go:24", after := #[{ on := 26, ground := Ground.guard }], guard := some (26, false) }) 32 (v := elt 6 y) rfl (by kernel_rfl) (by kernel_rfl) (by kernel_rfl) (fun _ _ _ h => h) (Or.inl ⟨wantedG 26 false rfl rfl rfl rfl, fun w' hSw => loadG 62 (.tmp 13) rfl ⟨p13, 0, none⟩ rfl (elt_load62 (Bx13.out.below hSw.out))⟩) hHeld ?_
  try simp only [Act.put, List.getElem_toArray, List.getElem_cons_succ, List.getElem_cons_zero, List.setIfInBounds_toArray, List.set_cons_zero, List.set_cons_succ]
  refine tkG (o := { dst := some 100, op := Op.load 62 (Operand.tmp 11), type := 62, pos := "outright.go:24", after := #[{ on := 26, ground := Ground.guard }], guard := some (26, false) }) 33 (v := elt 6 x) rfl (by kernel_rfl) (by kernel_rfl) (by kernel_rfl) (fun _ _ _ h => h) (Or.inl ⟨wantedG 26 false rfl rfl rfl rfl, fun w' hSw => loadG 62 (.tmp 11) rfl ⟨p11, 0, none⟩ rfl (elt_load62 (Bx11.out.below hSw.out))⟩) hHeld ?_
  try simp only [Act.put, List.getElem_toArray, List.getElem_cons_succ, List.getElem_cons_zero, List.setIfInBounds_toArray, List.set_cons_zero, List.set_cons_succ]
  refine brG (o := { dst := some 97, op := Op.call { callee := Callee.value (Operand.func 79), args := #[Operand.tmp 94, Operand.tmp 95, Operand.tmp 96], argTypes := #[105, 62, 62] }, type := 62, pos := "outright.go:24", after := #[{ on := 27, ground := Ground.data }, { on := 28, ground := Ground.data }, { on := 29, ground := Ground.data }, { on := 26, ground := Ground.chain }, { on := 26, ground := Ground.guard }], guard := some (26, false) }) 30 rfl (by kernel_rfl) (fun K hK => ?_)
  go_simp
  refine (mulM6 (a) (b) As2 (HFA.out.below hHeld.out) Hx.out Hy.out HAs2.out).mono ?_
  rintro e w1 ⟨rfl, st⟩
  have H1 := Aside0.mk (below_more hHeld.out st)
  clear st
  refine hK.out _ _ H1 (fun hHeld => ?_)
  clear H1
  clear hK K
  try simp only [Act.put, List.getElem_toArray, List.getElem_cons_succ, List.getElem_cons_zero, List.setIfInBounds_toArray, List.set_cons_zero, List.set_cons_succ]
  refine brG (o := { dst := some 101, op := Op.call { callee := Callee.value (Operand.func 79), args := #[Operand.tmp 98, Operand.tmp 99, Operand.tmp 100], argTypes := #[105, 62, 62] }, type := 62, pos := "outright.go:24", after := #[{ on := 31, ground := Ground.data }, { on := 32, ground := Ground.data }, { on := 33, ground := Ground.data }, { on := 30, ground := Ground.chain }, { on := 26, ground := Ground.guard }], guard := some (26, false) }) 34 rfl (by kernel_rfl) (fun K hK => ?_)
  go_simp
  refine (mulM6 (b) (a) As2 (HFA.out.below hHeld.out) Hy.out Hx.out (HAs2.out.trans (congrArg (mo 6 m) (by grind)))).mono ?_
  rintro e w1 ⟨rfl, st⟩
  have H1 := Aside0.mk (below_more hHeld.out st)
  clear st
  refine hK.out _ _ H1 (fun hHeld => ?_)
  clear H1
  clear hK K
  try simp only [Act.put, List.getElem_toArray, List.getElem_cons_succ, List.getElem_cons_zero, List.setIfInBounds_toArray, List.set_cons_zero, List.set_cons_succ]
  refine tkG (o := { dst := some 102, op := Op.binOp BinOp.neq 62 (Operand.tmp 97) (Operand.tmp 101) 62, type := 4, pos := "outright.go:24", after := #[{ on := 30, ground := Ground.data }, { on := 34, ground := Ground.data }, { on := 26, ground := Ground.guard }], guard := some (26, false) }) 35 (v := .bool false) rfl (by kernel_rfl) (by kernel_rfl) (by kernel_rfl) (fun _ _ _ h => h) (Or.inl ⟨wantedG 26 false rfl rfl rfl rfl, fun w' hSw => neqS6 (s := As2) rfl rfl rfl⟩) hHeld ?_
  try simp only [Act.put, List.getElem_toArray, List.getElem_cons_succ, List.getElem_cons_zero, List.setIfInBounds_toArray, List.set_cons_zero, List.set_cons_succ]
  refine tkG (o := { dst := some 103, op := Op.pick (Operand.tmp 93) (Operand.const (Value.bool true)) (Operand.tmp 102), type := 4, pos := "outright.go:24", after := #[{ on := 26, ground := Ground.data }, { on := 35, ground := Ground.data }], guard := none }) 36 (v := ?_) rfl (by kernel_rfl) (by kernel_rfl) (by kernel_rfl) (fun _ _ _ h => h) (Or.inl ⟨wantedN rfl, ?_⟩) hHeld ?_
  rotate_left; · (intro w' hSw;  go_simp; first | done | with_reducible rfl)
  try simp only [Act.put, List.getElem_toArray, List.getElem_cons_succ, List.getElem_cons_zero, List.setIfInBounds_toArray, List.set_cons_zero, List.set_cons_succ]
  refine tkG (o := { dst := some 104, op := Op.move (Operand.tmp 103), type := 4, pos := "outright.go:24", after := #[{ on := 36, ground := Ground.data }, { on := 34, ground := Ground.chain }], guard := none }) 37 (v := ?_) rfl (by kernel_rfl) (by kernel_rfl) (by kernel_rfl) (fun _ _ _ h => h) (Or.inl ⟨wantedN rfl, ?_⟩) hHeld ?_
  rotate_left; · (intro w' hSw;  go_simp; first | done | with_reducible rfl)
  try simp only [Act.put, List.getElem_toArray, List.getElem_cons_succ, List.getElem_cons_zero, List.setIfInBounds_toArray, List.set_cons_zero, List.set_cons_succ]
  refine tkG (o := { dst := some 105, op := Op.move (Operand.tmp 9), type := 105, pos := "outright.go:24", after := #[{ on := 37, ground := Ground.guard }], guard := some (37, false) }) 38 (v := ?_) rfl (by kernel_rfl) (by kernel_rfl) (by kernel_rfl) (fun _ _ _ h => h) (Or.inl ⟨wantedG 37 false rfl rfl rfl rfl, ?_⟩) hHeld ?_
  rotate_left; · (intro w' hSw;  go_simp; first | done | with_reducible rfl)
  try simp only [Act.put, List.getElem_toArray, List.getElem_cons_succ, List.getElem_cons_zero, List.setIfInBounds_toArray, List.set_cons_zero, List.set_cons_succ]
  refine tkG (o := { dst := some 106, op := Op.move (Operand.tmp 9), type := 105, pos := "outright.go:24", after := #[{ on := 37, ground := Ground.guard }], guard := some (37, false) }) 39 (v := ?_) rfl (by kernel_rfl) (by kernel_rfl) (by kernel_rfl) (fun _ _ _ h => h) (Or.inl ⟨wantedG 37 false rfl rfl rfl rfl, ?_⟩) hHeld ?_
  rotate_left; · (intro w' hSw;  go_simp; first | done | with_reducible rfl)
  try simp only [Act.put, List.getElem_toArray, List.getElem_cons_succ, List.getElem_cons_zero, List.setIfInBounds_toArray, List.set_cons_zero, List.set_cons_succ]
  refine tkG (o := { dst := some 107, op := Op.load 62 (Operand.tmp 11), type := 62, pos := "outright.go:24", after := #[{ on := 37, ground := Ground.guard }], guard := some (37, false) }) 40 (v := elt 6 x) rfl (by kernel_rfl) (by kernel_rfl) (by kernel_rfl) (fun _ _ _ h => h) (Or.inl ⟨wantedG 37 false rfl rfl rfl rfl, fun w' hSw => loadG 62 (.tmp 11) rfl ⟨p11, 0, none⟩ rfl (elt_load62 (Bx11.out.below hSw.out))⟩) hHeld ?_
  try simp only [Act.put, List.getElem_toArray, List.getElem_cons_succ, List.getElem_cons_zero, List.setIfInBounds_toArray, List.set_cons_zero, List.set_cons_succ]
  refine tkG (o := { dst := some 108, op := Op.load 62 (Operand.tmp 13), type := 62, pos := "outright.go:24", after := #[{ on := 37, ground := Ground.guard }], guard := some (37, false) }) 41 (v := elt 6 y) rfl (by kernel_rfl) (by kernel_rfl) (by kernel_rfl) (fun _ _ _ h => h) (Or.inl ⟨wantedG 37 false rfl rfl rfl rfl, fun w' hSw => loadG 62 (.tmp 13) rfl ⟨p13, 0, none⟩ rfl (elt_load62 (Bx13.out.below hSw.out))⟩) hHeld ?_
  try simp only [Act.put, List.getElem_toArray, List.getElem_cons_succ, List.getElem_cons_zero, List.setIfInBounds_toArray, List.set_cons_zero, List.set_cons_succ]
  refine tkG (o := { dst := some 110, op := Op.load 62 (Operand.tmp 15), type := 62, pos := "outright.go:24", after := #[{ on := 37, ground := Ground.guard }], guard := some (37, false) }) 43 (v := elt 6 z) rfl (by kernel_rfl) (by kernel_rfl) (by kernel_rfl) (fun _ _ _ h => h) (Or.inl ⟨wantedG 37 false rfl rfl rfl rfl, fun w' hSw => loadG 62 (.tmp 15) rfl ⟨p15, 0, none⟩ rfl (elt_load62 (Bx15.out.below hSw.out))⟩) hHeld ?_
  try simp only [Act.put, List.getElem_toArray, List.getElem_cons_succ, List.getElem_cons_zero, List.setIfInBounds_toArray, List.set_cons_zero, List.set_cons_succ]
  refine tkG (o := { dst := some 112, op := Op.move (Operand.tmp 9), type := 105, pos := "outright.go:24", after := #[{ on := 37, ground := Ground.guard }], guard := some (37, false) }) 45 (v := ?_) rfl (by kernel_rfl) (by kernel_rfl) (by kernel_rfl) (fun _ _ _ h => h) (Or.inl ⟨wantedG 37 false rfl rfl rfl rfl, ?_⟩) hHeld ?_
  rotate_left; · (intro w' hSw;  go_simp; first | done | with_reducible rfl)
  try simp only [Act.put, List.getElem_toArray, List.getElem_cons_succ, List.getElem_cons_zero, List.setIfInBounds_toArray, List.set_cons_zero, List.set_cons_succ]
  refine tkG (o := { dst := some 113, op := Op.load 62 (Operand.tmp 11), type := 62, pos := "outright.go:24", after := #[{ on := 37, ground := Ground.guard }], guard := some (37, false) }) 46 (v := elt 6 x) rfl (by kernel_rfl) (by kernel_rfl) (by kernel_rfl) (fun _ _ _ h => h) (Or.inl ⟨wantedG 37 false rfl rfl rfl rfl, fun w' hSw => loadG 62 (.tmp 11) rfl ⟨p11, 0, none⟩ rfl (elt_load62 (Bx11.out.below hSw.out))⟩) hHeld ?_
  try simp only [Act.put, List.getElem_toArray, List.getElem_cons_succ, List.getElem_cons_zero, List.setIfInBounds_toArray, List.set_cons_zero, List.set_cons_succ]
  refine tkG (o := { dst := some 114, op := Op.move (Operand.tmp 9), type := 105, pos := "outright.go:24", after := #[{ on := 37, ground := Ground.guard }], guard := some (37, false) }) 47 (v := ?_) rfl (by kernel_rfl) (by kernel_rfl) (by kernel_rfl) (fun _ _ _ h => h) (Or.inl ⟨wantedG 37 false rfl rfl rfl rfl, ?_⟩) hHeld ?_
  rotate_left; · (intro w' hSw;  go_simp; first | done | with_reducible rfl)
  try simp only [Act.put, List.getElem_toArray, List.getElem_cons_succ, List.getElem_cons_zero, List.setIfInBounds_toArray, List.set_cons_zero, List.set_cons_succ]
  refine tkG (o := { dst := some 115, op := Op.load 62 (Operand.tmp 13), type := 62, pos := "outright.go:24", after := #[{ on := 37, ground := Ground.guard }], guard := some (37, false) }) 48 (v := elt 6 y) rfl (by kernel_rfl) (by kernel_rfl) (by kernel_rfl) (fun _ _ _ h => h) (Or.inl ⟨wantedG 37 false rfl rfl rfl rfl, fun w' hSw => loadG 62 (.tmp 13) rfl ⟨p13, 0, none⟩ rfl (elt_load62 (Bx13.out.below hSw.out))⟩) hHeld ?_
  try simp only [Act.put, List.getElem_toArray, List.getElem_cons_succ, List.getElem_cons_zero, List.setIfInBounds_toArray, List.set_cons_zero, List.set_cons_succ]
  refine tkG (o := { dst := some 116, op := Op.load 62 (Operand.tmp 15), type := 62, pos := "outright.go:24", after := #[{ on := 37, ground := Ground.guard }], guard := some (37, false) }) 49 (v := elt 6 z) rfl (by kernel_rfl) (by kernel_rfl) (by kernel_rfl) (fun _ _ _ h => h) (Or.inl ⟨wantedG 37 false rfl rfl rfl rfl, fun w' hSw => loadG 62 (.tmp 15) rfl ⟨p15, 0, none⟩ rfl (elt_load62 (Bx15.out.below hSw.out))⟩) hHeld ?_
  try simp only [Act.put, List.getElem_toArray, List.getElem_cons_succ, List.getElem_cons_zero, List.setIfInBounds_toArray, List.set_cons_zero, List.set_cons_succ]
  refine brG (o := { dst := some 109, op := Op.call { callee := Callee.value (Operand.func 79), args := #[Operand.tmp 106, Operand.tmp 107, Operand.tmp 108], argTypes := #[105, 62, 62] }, type := 62, pos := "outright.go:24", after := #[{ on := 39, ground := Ground.data }, { on := 40, ground := Ground.data }, { on := 41, ground := Ground.data }, { on := 37, ground := Ground.chain }, { on := 37, ground := Ground.guard }], guard := some (37, false) }) 42 rfl (by kernel_rfl) (fun K hK => ?_)
  go_simp
  refine (mulM6 (a) (b) As6 (HFA.out.below hHeld.out) Hx.out Hy.out HAs6.out).mono ?_
  rintro e w1 ⟨rfl, st⟩
  have H1 := Aside0.mk (below_more hHeld.out st)
  clear st
  refine hK.out _ _ H1 (fun hHeld => ?_)
  clear H1
  clear hK K
  try simp only [Act.put, List.getElem_toArray, List.getElem_cons_succ, List.getElem_cons_zero, List.setIfInBounds_toArray, List.set_cons_zero, List.set_cons_succ]
  refine brG (o := { dst := some 111, op := Op.call { callee := Callee.value (Operand.func 79), args := #[Operand.tmp 105, Operand.tmp 109, Operand.tmp 110], argTypes := #[105, 62, 62] }, type := 62, pos := "outright.go:24", after := #[{ on := 38, ground := Ground.data }, { on := 42, ground := Ground.data }, { on := 43, ground := Ground.data }, { on := 42, ground := Ground.chain }, { on := 37, ground := Ground.guard }], guard := some (37, false) }) 44 rfl (by kernel_rfl) (fun K hK => ?_)
  go_simp
  refine (mulM6 ((a * b)) (c) As3 (HFA.out.below hHeld.out) HAs6.out Hz.out HAs3.out).mono ?_
  rintro e w1 ⟨rfl, st⟩
  have H1 := Aside0.mk (below_more hHeld.out st)
  clear st
  refine hK.out _ _ H1 (fun hHeld => ?_)
  clear H1
  clear hK K
  try simp only [Act.put, List.getElem_toArray, List.getElem_cons_succ, List.getElem_cons_zero, List.setIfInBounds_toArray, List.set_cons_zero, List.set_cons_succ]
  refine brG (o := { dst := some 117, op := Op.call { callee := Callee.value (Operand.func 79), args := #[Operand.tmp 114, Operand.tmp 115, Operand.tmp 116], argTypes := #[105, 62, 62] }, type := 62, pos := "outright.go:24", after := #[{ on := 47, ground := Ground.data }, { on := 48, ground := Ground.data }, { on := 49, ground := Ground.data }, { on := 44, ground := Ground.chain }, { on := 37, ground := Ground.guard }], guard := some (37, false) }) 50 rfl (by kernel_rfl) (fun K hK => ?_)
  go_simp
  refine (mulM6 (b) (c) As7 (HFA.out.below hHeld.out) Hy.out Hz.out HAs7.out).mono ?_
  rintro e w1 ⟨rfl, st⟩
  have H1 := Aside0.mk (below_more hHeld.out st)
  clear st
  refine hK.out _ _ H1 (fun hHeld => ?_)
  clear H1
  clear hK K
  try simp only [Act.put, List.getElem_toArray, List.getElem_cons_succ, List.getElem_cons_zero, List.setIfInBounds_toArray, List.set_cons_zero, List.set_cons_succ]
  refine brG (o := { dst := some 118, op := Op.call { callee := Callee.value (Operand.func 79), args := #[Operand.tmp 112, Operand.tmp 113, Operand.tmp 117], argTypes := #[105, 62, 62] }, type := 62, pos := "outright.go:24", after := #[{ on := 45, ground := Ground.data }, { on := 46, ground := Ground.data }, { on := 50, ground := Ground.data }, { on := 50, ground := Ground.chain }, { on := 37, ground := Ground.guard }], guard := some (37, false) }) 51 rfl (by kernel_rfl) (fun K hK => ?_)
  go_simp
  refine (mulM6 (a) ((b * c)) As3 (HFA.out.below hHeld.out) Hx.out HAs7.out (HAs3.out.trans (congrArg (mo 6 m) (by grind)))).mono ?_
  rintro e w1 ⟨rfl, st⟩
  have H1 := Aside0.mk (below_more hHeld.out st)
  clear st
  refine hK.out _ _ H1 (fun hHeld => ?_)
  clear H1
  clear hK K
  try simp only [Act.put, List.getElem_toArray, List.getElem_cons_succ, List.getElem_cons_zero, List.setIfInBounds_toArray, List.set_cons_zero, List.set_cons_succ]
  refine tkG (o := { dst := some 119, op := Op.binOp BinOp.neq 62 (Operand.tmp 111) (Operand.tmp 118) 62, type := 4, pos := "outright.go:24", after := #[{ on := 44, ground := Ground.data }, { on := 51, ground := Ground.data }, { on := 37, ground := Ground.guard }], guard := some (37, false) }) 52 (v := .bool false) rfl (by kernel_rfl) (by kernel_rfl) (by kernel_rfl) (fun _ _ _ h => h) (Or.inl ⟨wantedG 37 false rfl rfl rfl rfl, fun w' hSw => neqS6 (s := As3) rfl rfl rfl⟩) hHeld ?_
  try simp only [Act.put, List.getElem_toArray, List.getElem_cons_succ, List.getElem_cons_zero, List.setIfInBounds_toArray, List.set_cons_zero, List.set_cons_succ]
  refine tkG (o := { dst := some 120, op := Op.pick (Operand.tmp 104) (Operand.const (Value.bool true)) (Operand.tmp 119), type := 4, pos := "outright.go:24", after := #[{ on := 37, ground := Ground.data }, { on := 52, ground := Ground.data }], guard := none }) 53 (v := ?_) rfl (by kernel_rfl) (by kernel_rfl) (by kernel_rfl) (fun _ _ _ h => h) (Or.inl ⟨wantedN rfl, ?_⟩) hHeld ?_
  rotate_left; · (intro w' hSw;  go_simp; first | done | with_reducible rfl)
  try simp only [Act.put, List.getElem_toArray, List.getElem_cons_succ, List.getElem_cons_zero, List.setIfInBounds_toArray, List.set_cons_zero, List.set_cons_succ]
  refine wpAnyH_done (by kernel_rfl) ?_ _
  refine NoPanic.normal ?_
  have V7 := Aside0.mk (below_more U6.out hHeld.out)
  have HFB := Aside0.mk (HFA.out.below hHeld.out)
  have By11 := Aside0.mk (Bx11.out.below hHeld.out)
  have By13 := Aside0.mk (Bx13.out.below hHeld.out)
  have By15 := Aside0.mk (Bx15.out.below hHeld.out)
  have By17 := Aside0.mk (Bx17.out.below hHeld.out)
  have By19 := Aside0.mk (Bx19.out.below hHeld.out)
  clear hHeld U6 HFA Bx11 Bx13 Bx15 Bx17 Bx19 HAs0 HAs1 HAs2 HAs3 HAs4 HAs5 HAs6 HAs7
  go_upto_region 13 with fail
  obtain ⟨Bs0, hBs0⟩ : ∃ v, v = mo 6 m ((a + b) * c) := ⟨_, rfl⟩
  have HBs0 := Aside0.mk hBs0
  clear hBs0
  obtain ⟨Bs1, hBs1⟩ : ∃ v, v = mo 6 m (a - b) := ⟨_, rfl⟩
  have HBs1 := Aside0.mk hBs1
  clear hBs1
  obtain ⟨Bs2, hBs2⟩ : ∃ v, v = mo 6 m (a + b) := ⟨_, rfl⟩
  have HBs2 := Aside0.mk hBs2
  clear hBs2
  obtain ⟨Bs3, hBs3⟩ : ∃ v, v = mo 6 m (a * c) := ⟨_, rfl⟩
  have HBs3 := Aside0.mk hBs3
  clear hBs3
  obtain ⟨Bs4, hBs4⟩ : ∃ v, v = mo 6 m (b * c) := ⟨_, rfl⟩
  have HBs4 := Aside0.mk hBs4
  clear hBs4
  obtain ⟨Bs5, hBs5⟩ : ∃ v, v = mo 6 m (-a) := ⟨_, rfl⟩
  have HBs5 := Aside0.mk hBs5
  clear hBs5
  obtain ⟨Bs6, hBs6⟩ : ∃ v, v = mo 6 m (-b) := ⟨_, rfl⟩
  have HBs6 := Aside0.mk hBs6
  clear hBs6
  obtain ⟨Bs7, hBs7⟩ : ∃ v, v = mo 6 m (-a) := ⟨_, rfl⟩
  have HBs7 := Aside0.mk hBs7
  clear hBs7
  refine wp_region_noPanic ?_
  refine wp_region_held_drew (S := (fun w' => Aside0 (Below w1.heap.size w1 w'))) (by kernel_rfl) ⟨below_drew (Below.refl _ _)⟩ (fun hHeld => ?_)
  refine tkG (o := { dst := some 121, op := Op.move (Operand.tmp 9), type := 105, pos := "outright.go:27", after := #[], guard := none }) 0 (v := ?_) rfl (by kernel_rfl) (by kernel_rfl) (by kernel_rfl) (fun _ _ _ h => h) (Or.inl ⟨wantedN rfl, ?_⟩) hHeld ?_
  rotate_left; · (intro w' hSw;  go_simp; first | done | with_reducible rfl)
  try simp only [Act.put, List.getElem_toArray, List.getElem_cons_succ, List.getElem_cons_zero, List.setIfInBounds_toArray, List.set_cons_zero, List.set_cons_succ]
  refine tkG (o := { dst := some 122, op := Op.move (Operand.tmp 9), type := 105, pos := "outright.go:27", after := #[], guard := none }) 1 (v := ?_) rfl (by kernel_rfl) (by kernel_rfl) (by kernel_rfl) (fun _ _ _ h => h) (Or.inl ⟨wantedN rfl, ?_⟩) hHeld ?_
  rotate_left; · (intro w' hSw;  go_simp; first | done | with_reducible rfl)
  try simp only [Act.put, List.getElem_toArray, List.getElem_cons_succ, List.getElem_cons_zero, List.setIfInBounds_toArray, List.set_cons_zero, List.set_cons_succ]
  refine tkG (o := { dst := some 123, op := Op.load 62 (Operand.tmp 11), type := 62, pos := "outright.go:27", after := #[], guard := none }) 2 (v := elt 6 x) rfl (by kernel_rfl) (by kernel_rfl) (by kernel_rfl) (fun _ _ _ h => h) (Or.inl ⟨wantedN rfl, fun w' hSw => loadG 62 (.tmp 11) rfl ⟨p11, 0, none⟩ rfl (elt_load62 (By11.out.below hSw.out))⟩) hHeld ?_
  try simp only [Act.put, List.getElem_toArray, List.getElem_cons_succ, List.getElem_cons_zero, List.setIfInBounds_toArray, List.set_cons_zero, List.set_cons_succ]
  refine tkG (o := { dst := some 124, op := Op.load 62 (Operand.tmp 13), type := 62, pos := "outright.go:27", after := #[], guard := none }) 3 (v := elt 6 y) rfl (by kernel_rfl) (by kernel_rfl) (by kernel_rfl) (fun _ _ _ h => h) (Or.inl ⟨wantedN rfl, fun w' hSw => loadG 62 (.tmp 13) rfl ⟨p13, 0, none⟩ rfl (elt_load62 (By13.out.below hSw.out))⟩) hHeld ?_
  try simp only [Act.put, List.getElem_toArray, List.getElem_cons_succ, List.getElem_cons_zero, List.setIfInBounds_toArray, List.set_cons_zero, List.set_cons_succ]
  refine tkG (o := { dst := some 126, op := Op.load 62 (Operand.tmp 15), type := 62, pos := "outright.go:27", after := #[], guard := none }) 5 (v := elt 6 z) rfl (by kernel_rfl) (by kernel_rfl) (by kernel_rfl) (fun _ _ _ h => h) (Or.inl ⟨wantedN rfl, fun w' hSw => loadG 62 (.tmp 15) rfl ⟨p15, 0, none⟩ rfl (elt_load62 (By15.out.below hSw.out))⟩) hHeld ?_
  try simp only [Act.put, List.getElem_toArray, List.getElem_cons_succ, List.getElem_cons_zero, List.setIfInBounds_toArray, List.set_cons_zero, List.set_cons_succ]
  refine tkG (o := { dst := some 128, op := Op.move (Operand.tmp 9), type := 105, pos := "outright.go:27", after := #[], guard := none }) 7 (v := ?_) rfl (by kernel_rfl) (by kernel_rfl) (by kernel_rfl) (fun _ _ _ h => h) (Or.inl ⟨wantedN rfl, ?_⟩) hHeld ?_
  rotate_left; · (intro w' hSw;  go_simp; first | done | with_reducible rfl)
  try simp only [Act.put, List.getElem_toArray, List.getElem_cons_succ, List.getElem_cons_zero, List.setIfInBounds_toArray, List.set_cons_zero, List.set_cons_succ]
  refine tkG (o := { dst := some 129, op := Op.move (Operand.tmp 9), type := 105, pos := "outright.go:27", after := #[], guard := none }) 8 (v := ?_) rfl (by kernel_rfl) (by kernel_rfl) (by kernel_rfl) (fun _ _ _ h => h) (Or.inl ⟨wantedN rfl, ?_⟩) hHeld ?_
  rotate_left; · (intro w' hSw;  go_simp; first | done | with_reducible rfl)
  try simp only [Act.put, List.getElem_toArray, List.getElem_cons_succ, List.getElem_cons_zero, List.setIfInBounds_toArray, List.set_cons_zero, List.set_cons_succ]
  refine tkG (o := { dst := some 130, op := Op.load 62 (Operand.tmp 11), type := 62, pos := "outright.go:27", after := #[], guard := none }) 9 (v := elt 6 x) rfl (by kernel_rfl) (by kernel_rfl) (by kernel_rfl) (fun _ _ _ h => h) (Or.inl ⟨wantedN rfl, fun w' hSw => loadG 62 (.tmp 11) rfl ⟨p11, 0, none⟩ rfl (elt_load62 (By11.out.below hSw.out))⟩) hHeld ?_
  try simp only [Act.put, List.getElem_toArray, List.getElem_cons_succ, List.getElem_cons_zero, List.setIfInBounds_toArray, List.set_cons_zero, List.set_cons_succ]
  refine tkG (o := { dst := some 131, op := Op.load 62 (Operand.tmp 15), type := 62, pos := "outright.go:27", after := #[], guard := none }) 10 (v := elt 6 z) rfl (by kernel_rfl) (by kernel_rfl) (by kernel_rfl) (fun _ _ _ h => h) (Or.inl ⟨wantedN rfl, fun w' hSw => loadG 62 (.tmp 15) rfl ⟨p15, 0, none⟩ rfl (elt_load62 (By15.out.below hSw.out))⟩) hHeld ?_
  try simp only [Act.put, List.getElem_toArray, List.getElem_cons_succ, List.getElem_cons_zero, List.setIfInBounds_toArray, List.set_cons_zero, List.set_cons_succ]
  refine tkG (o := { dst := some 133, op := Op.move (Operand.tmp 9), type := 105, pos := "outright.go:27", after := #[], guard := none }) 12 (v := ?_) rfl (by kernel_rfl) (by kernel_rfl) (by kernel_rfl) (fun _ _ _ h => h) (Or.inl ⟨wantedN rfl, ?_⟩) hHeld ?_
  rotate_left; · (intro w' hSw;  go_simp; first | done | with_reducible rfl)
  try simp only [Act.put, List.getElem_toArray, List.getElem_cons_succ, List.getElem_cons_zero, List.setIfInBounds_toArray, List.set_cons_zero, List.set_cons_succ]
  refine tkG (o := { dst := some 134, op := Op.load 62 (Operand.tmp 13), type := 62, pos := "outright.go:27", after := #[], guard := none }) 13 (v := elt 6 y) rfl (by kernel_rfl) (by kernel_rfl) (by kernel_rfl) (fun _ _ _ h => h) (Or.inl ⟨wantedN rfl, fun w' hSw => loadG 62 (.tmp 13) rfl ⟨p13, 0, none⟩ rfl (elt_load62 (By13.out.below hSw.out))⟩) hHeld ?_
  try simp only [Act.put, List.getElem_toArray, List.getElem_cons_succ, List.getElem_cons_zero, List.setIfInBounds_toArray, List.set_cons_zero, List.set_cons_succ]
  refine tkG (o := { dst := some 135, op := Op.load 62 (Operand.tmp 15), type := 62, pos := "outright.go:27", after := #[], guard := none }) 14 (v := elt 6 z) rfl (by kernel_rfl) (by kernel_rfl) (by kernel_rfl) (fun _ _ _ h => h) (Or.inl ⟨wantedN rfl, fun w' hSw => loadG 62 (.tmp 15) rfl ⟨p15, 0, none⟩ rfl (elt_load62 (By15.out.below hSw.out))⟩) hHeld ?_
  try simp only [Act.put, List.getElem_toArray, List.getElem_cons_succ, List.getElem_cons_zero, List.setIfInBounds_toArray, List.set_cons_zero, List.set_cons_succ]
  refine brG (o := { dst := some 125, op := Op.call { callee := Callee.value (Operand.func 78), args := #[Operand.tmp 122, Operand.tmp 123, Operand.tmp 124], argTypes := #[105, 62, 62] }, type := 62, pos := "outright.go:27", after := #[{ on := 1, ground := Ground.data }, { on := 2, ground := Ground.data }, { on := 3, ground := Ground.data }], guard := none }) 4 rfl (by kernel_rfl) (fun K hK => ?_)
  go_simp
  refine (addM6 (a) (b) Bs2 (HFB.out.below hHeld.out) Hx.out Hy.out HBs2.out).mono ?_
  rintro e w1 ⟨rfl, st⟩
  have H1 := Aside0.mk (below_more hHeld.out st)
  clear st
  refine hK.out _ _ H1 (fun hHeld => ?_)
  clear H1
  clear hK K
  try simp only [Act.put, List.getElem_toArray, List.getElem_cons_succ, List.getElem_cons_zero, List.setIfInBounds_toArray, List.set_cons_zero, List.set_cons_succ]
  refine brG (o := { dst := some 127, op := Op.call { callee := Callee.value (Operand.func 79), args := #[Operand.tmp 121, Operand.tmp 125, Operand.tmp 126], argTypes := #[105, 62, 62] }, type := 62, pos := "outright.go:27", after := #[{ on := 0, ground := Ground.data }, { on := 4, ground := Ground.data }, { on := 5, ground := Ground.data }, { on := 4, ground := Ground.chain }], guard := none }) 6 rfl (by kernel_rfl) (fun K hK => ?_)
  go_simp
  refine (mulM6 ((a + b)) (c) Bs0 (HFB.out.below hHeld.out) HBs2.out Hz.out HBs0.out).mono ?_
  rintro e w1 ⟨rfl, st⟩
  have H1 := Aside0.mk (below_more hHeld.out st)
  clear st
  refine hK.out _ _ H1 (fun hHeld => ?_)
  clear H1
  clear hK K
  try simp only [Act.put, List.getElem_toArray, List.getElem_cons_succ, List.getElem_cons_zero, List.setIfInBounds_toArray, List.set_cons_zero, List.set_cons_succ]
  refine brG (o := { dst := some 132, op := Op.call { callee := Callee.value (Operand.func 79), args := #[Operand.tmp 129, Operand.tmp 130, Operand.tmp 131], argTypes := #[105, 62, 62] }, type := 62, pos := "outright.go:27", after := #[{ on := 8, ground := Ground.data }, { on := 9, ground := Ground.data }, { on := 10, ground := Ground.data }, { on := 6, ground := Ground.chain }], guard := none }) 11 rfl (by kernel_rfl) (fun K hK => ?_)
  go_simp
  refine (mulM6 (a) (c) Bs3 (HFB.out.below hHeld.out) Hx.out Hz.out HBs3.out).mono ?_
  rintro e w1 ⟨rfl, st⟩
  have H1 := Aside0.mk (below_more hHeld.out st)
  clear st
  refine hK.out _ _ H1 (fun hHeld => ?_)
  clear H1
  clear hK K
  try simp only [Act.put, List.getElem_toArray, List.getElem_cons_succ, List.getElem_cons_zero, List.setIfInBounds_toArray, List.set_cons_zero, List.set_cons_succ]
  refine brG (o := { dst := some 136, op := Op.call { callee := Callee.value (Operand.func 79), args := #[Operand.tmp 133, Operand.tmp 134, Operand.tmp 135], argTypes := #[105, 62, 62] }, type := 62, pos := "outright.go:27", after := #[{ on := 12, ground := Ground.data }, { on := 13, ground := Ground.data }, { on := 14, ground := Ground.data }, { on := 11, ground := Ground.chain }], guard := none }) 15 rfl (by kernel_rfl) (fun K hK => ?_)
  go_simp
  refine (mulM6 (b) (c) Bs4 (HFB.out.below hHeld.out) Hy.out Hz.out HBs4.out).mono ?_
  rintro e w1 ⟨rfl, st⟩
  have H1 := Aside0.mk (below_more hHeld.out st)
  clear st
  refine hK.out _ _ H1 (fun hHeld => ?_)
  clear H1
  clear hK K
  try simp only [Act.put, List.getElem_toArray, List.getElem_cons_succ, List.getElem_cons_zero, List.setIfInBounds_toArray, List.set_cons_zero, List.set_cons_succ]
  refine brG (o := { dst := some 137, op := Op.call { callee := Callee.value (Operand.func 78), args := #[Operand.tmp 128, Operand.tmp 132, Operand.tmp 136], argTypes := #[105, 62, 62] }, type := 62, pos := "outright.go:27", after := #[{ on := 7, ground := Ground.data }, { on := 11, ground := Ground.data }, { on := 15, ground := Ground.data }, { on := 15, ground := Ground.chain }], guard := none }) 16 rfl (by kernel_rfl) (fun K hK => ?_)
  go_simp
  refine (addM6 ((a * c)) ((b * c)) Bs0 (HFB.out.below hHeld.out) HBs3.out HBs4.out (HBs0.out.trans (congrArg (mo 6 m) (by grind)))).mono ?_
  rintro e w1 ⟨rfl, st⟩
  have H1 := Aside0.mk (below_more hHeld.out st)
  clear st
  refine hK.out _ _ H1 (fun hHeld => ?_)
  clear H1
  clear hK K
  try simp only [Act.put, List.getElem_toArray, List.getElem_cons_succ, List.getElem_cons_zero, List.setIfInBounds_toArray, List.set_cons_zero, List.set_cons_succ]
  refine tkG (o := { dst := some 138, op := Op.binOp BinOp.neq 62 (Operand.tmp 127) (Operand.tmp 137) 62, type := 4, pos := "outright.go:27", after := #[{ on := 6, ground := Ground.data }, { on := 16, ground := Ground.data }], guard := none }) 17 (v := .bool false) rfl (by kernel_rfl) (by kernel_rfl) (by kernel_rfl) (fun _ _ _ h => h) (Or.inl ⟨wantedN rfl, fun w' hSw => neqS6 (s := Bs0) rfl rfl rfl⟩) hHeld ?_
  try simp only [Act.put, List.getElem_toArray, List.getElem_cons_succ, List.getElem_cons_zero, List.setIfInBounds_toArray, List.set_cons_zero, List.set_cons_succ]
  refine tkG (o := { dst := some 139, op := Op.move (Operand.tmp 138), type := 4, pos := "outright.go:27", after := #[{ on := 17, ground := Ground.data }, { on := 16, ground := Ground.chain }], guard := none }) 18 (v := ?_) rfl (by kernel_rfl) (by kernel_rfl) (by kernel_rfl) (fun _ _ _ h => h) (Or.inl ⟨wantedN rfl, ?_⟩) hHeld ?_
  rotate_left; · (intro w' hSw;  go_simp; first | done | with_reducible rfl)
  try simp only [Act.put, List.getElem_toArray, List.getElem_cons_succ, List.getElem_cons_zero, List.setIfInBounds_toArray, List.set_cons_zero, List.set_cons_succ]
  refine tkG (o := { dst := some 140, op := Op.move (Operand.tmp 9), type := 105, pos := "outright.go:27", after := #[{ on := 18, ground := Ground.guard }], guard := some (18, false) }) 19 (v := ?_) rfl (by kernel_rfl) (by kernel_rfl) (by kernel_rfl) (fun _ _ _ h => h) (Or.inl ⟨wantedG 18 false rfl rfl rfl rfl, ?_⟩) hHeld ?_
  rotate_left; · (intro w' hSw;  go_simp; first | done | with_reducible rfl)
  try simp only [Act.put, List.getElem_toArray, List.getElem_cons_succ, List.getElem_cons_zero, List.setIfInBounds_toArray, List.set_cons_zero, List.set_cons_succ]
  refine tkG (o := { dst := some 141, op := Op.load 62 (Operand.tmp 11), type := 62, pos := "outright.go:27", after := #[{ on := 18, ground := Ground.guard }], guard := some (18, false) }) 20 (v := elt 6 x) rfl (by kernel_rfl) (by kernel_rfl) (by kernel_rfl) (fun _ _ _ h => h) (Or.inl ⟨wantedG 18 false rfl rfl rfl rfl, fun w' hSw => loadG 62 (.tmp 11) rfl ⟨p11, 0, none⟩ rfl (elt_load62 (By11.out.below hSw.out))⟩) hHeld ?_
  try simp only [Act.put, List.getElem_toArray, List.getElem_cons_succ, List.getElem_cons_zero, List.setIfInBounds_toArray, List.set_cons_zero, List.set_cons_succ]
  refine tkG (o := { dst := some 142, op := Op.move (Operand.tmp 9), type := 105, pos := "outright.go:27", after := #[{ on := 18, ground := Ground.guard }], guard := some (18, false) }) 21 (v := ?_) rfl (by kernel_rfl) (by kernel_rfl) (by kernel_rfl) (fun _ _ _ h => h) (Or.inl ⟨wantedG 18 false rfl rfl rfl rfl, ?_⟩) hHeld ?_
  rotate_left; · (intro w' hSw;  go_simp; first | done | with_reducible rfl)
  try simp only [Act.put, List.getElem_toArray, List.getElem_cons_succ, List.getElem_cons_zero, List.setIfInBounds_toArray, List.set_cons_zero, List.set_cons_succ]
  refine tkG (o := { dst := some 143, op := Op.load 62 (Operand.tmp 11), type := 62, pos := "outright.go:27", after := #[{ on := 18, ground := Ground.guard }], guard := some (18, false) }) 22 (v := elt 6 x) rfl (by kernel_rfl) (by kernel_rfl) (by kernel_rfl) (fun _ _ _ h => h) (Or.inl ⟨wantedG 18 false rfl rfl rfl rfl, fun w' hSw => loadG 62 (.tmp 11) rfl ⟨p11, 0, none⟩ rfl (elt_load62 (By11.out.below hSw.out))⟩) hHeld ?_
  try simp only [Act.put, List.getElem_toArray, List.getElem_cons_succ, List.getElem_cons_zero, List.setIfInBounds_toArray, List.set_cons_zero, List.set_cons_succ]
  refine tkG (o := { dst := some 146, op := Op.load 62 (Operand.tmp 19), type := 62, pos := "outright.go:27", after := #[{ on := 18, ground := Ground.guard }], guard := some (18, false) }) 25 (v := elt 6 0) rfl (by kernel_rfl) (by kernel_rfl) (by kernel_rfl) (fun _ _ _ h => h) (Or.inl ⟨wantedG 18 false rfl rfl rfl rfl, fun w' hSw => loadG 62 (.tmp 19) rfl ⟨W5.heap.size, 0, none⟩ rfl (elt_load62 (By19.out.below hSw.out))⟩) hHeld ?_
  try simp only [Act.put, List.getElem_toArray, List.getElem_cons_succ, List.getElem_cons_zero, List.setIfInBounds_toArray, List.set_cons_zero, List.set_cons_succ]
  refine brG (o := { dst := some 144, op := Op.call { callee := Callee.value (Operand.func 80), args := #[Operand.tmp 142, Operand.tmp 143], argTypes := #[105, 62] }, type := 62, pos := "outright.go:27", after := #[{ on := 21, ground := Ground.data }, { on := 22, ground := Ground.data }, { on := 18, ground := Ground.chain }, { on := 18, ground := Ground.guard }], guard := some (18, false) }) 23 rfl (by kernel_rfl) (fun K hK => ?_)
  go_simp
  refine (negM6 (a) Bs5 (HFB.out.below hHeld.out) Hx.out HBs5.out).mono ?_
  rintro e w1 ⟨rfl, st⟩
  have H1 := Aside0.mk (below_more hHeld.out st)
  clear st
  refine hK.out _ _ H1 (fun hHeld => ?_)
  clear H1
  clear hK K
  try simp only [Act.put, List.getElem_toArray, List.getElem_cons_succ, List.getElem_cons_zero, List.setIfInBounds_toArray, List.set_cons_zero, List.set_cons_succ]
  refine brG (o := { dst := some 145, op := Op.call { callee := Callee.value (Operand.func 78), args := #[Operand.tmp 140, Operand.tmp 141, Operand.tmp 144], argTypes := #[105, 62, 62] }, type := 62, pos := "outright.go:27", after := #[{ on := 19, ground := Ground.data }, { on := 20, ground := Ground.data }, { on := 23, ground := Ground.data }, { on := 23, ground := Ground.chain }, { on := 18, ground := Ground.guard }], guard := some (18, false) }) 24 rfl (by kernel_rfl) (fun K hK => ?_)
  go_simp
  refine (addM6 (a) ((-a)) 0 (HFB.out.below hHeld.out) Hx.out HBs5.out (H0.out.trans (congrArg (mo 6 m) (by grind)))).mono ?_
  rintro e w1 ⟨rfl, st⟩
  have H1 := Aside0.mk (below_more hHeld.out st)
  clear st
  refine hK.out _ _ H1 (fun hHeld => ?_)
  clear H1
  clear hK K
  try simp only [Act.put, List.getElem_toArray, List.getElem_cons_succ, List.getElem_cons_zero, List.setIfInBounds_toArray, List.set_cons_zero, List.set_cons_succ]
  refine tkG (o := { dst := some 147, op := Op.binOp BinOp.neq 62 (Operand.tmp 145) (Operand.tmp 146) 62, type := 4, pos := "outright.go:27", after := #[{ on := 24, ground := Ground.data }, { on := 25, ground := Ground.data }, { on := 18, ground := Ground.guard }], guard := some (18, false) }) 26 (v := .bool false) rfl (by kernel_rfl) (by kernel_rfl) (by kernel_rfl) (fun _ _ _ h => h) (Or.inl ⟨wantedG 18 false rfl rfl rfl rfl, fun w' hSw => neqS6 (s := 0) rfl rfl rfl⟩) hHeld ?_
  try simp only [Act.put, List.getElem_toArray, List.getElem_cons_succ, List.getElem_cons_zero, List.setIfInBounds_toArray, List.set_cons_zero, List.set_cons_succ]
  refine tkG (o := { dst := some 148, op := Op.pick (Operand.tmp 139) (Operand.const (Value.bool true)) (Operand.tmp 147), type := 4, pos := "outright.go:27", after := #[{ on := 18, ground := Ground.data }, { on := 26, ground := Ground.data }], guard := none }) 27 (v := ?_) rfl (by kernel_rfl) (by kernel_rfl) (by kernel_rfl) (fun _ _ _ h => h) (Or.inl ⟨wantedN rfl, ?_⟩) hHeld ?_
  rotate_left; · (intro w' hSw;  go_simp; first | done | with_reducible rfl)
  try simp only [Act.put, List.getElem_toArray, List.getElem_cons_succ, List.getElem_cons_zero, List.setIfInBounds_toArray, List.set_cons_zero, List.set_cons_succ]
  refine tkG (o := { dst := some 149, op := Op.move (Operand.tmp 148), type := 4, pos := "outright.go:27", after := #[{ on := 27, ground := Ground.data }, { on := 24, ground := Ground.chain }], guard := none }) 28 (v := ?_) rfl (by kernel_rfl) (by kernel_rfl) (by kernel_rfl) (fun _ _ _ h => h) (Or.inl ⟨wantedN rfl, ?_⟩) hHeld ?_
  rotate_left; · (intro w' hSw;  go_simp; first | done | with_reducible rfl)
  try simp only [Act.put, List.getElem_toArray, List.getElem_cons_succ, List.getElem_cons_zero, List.setIfInBounds_toArray, List.set_cons_zero, List.set_cons_succ]
  refine tkG (o := { dst := some 150, op := Op.move (Operand.tmp 9), type := 105, pos := "outright.go:27", after := #[{ on := 28, ground := Ground.guard }], guard := some (28, false) }) 29 (v := ?_) rfl (by kernel_rfl) (by kernel_rfl) (by kernel_rfl) (fun _ _ _ h => h) (Or.inl ⟨wantedG 28 false rfl rfl rfl rfl, ?_⟩) hHeld ?_
  rotate_left; · (intro w' hSw;  go_simp; first | done | with_reducible rfl)
  try simp only [Act.put, List.getElem_toArray, List.getElem_cons_succ, List.getElem_cons_zero, List.setIfInBounds_toArray, List.set_cons_zero, List.set_cons_succ]
  refine tkG (o := { dst := some 151, op := Op.load 62 (Operand.tmp 11), type := 62, pos := "outright.go:27", after := #[{ on := 28, ground := Ground.guard }], guard := some (28, false) }) 30 (v := elt 6 x) rfl (by kernel_rfl) (by kernel_rfl) (by kernel_rfl) (fun _ _ _ h => h) (Or.inl ⟨wantedG 28 false rfl rfl rfl rfl, fun w' hSw => loadG 62 (.tmp 11) rfl ⟨p11, 0, none⟩ rfl (elt_load62 (By11.out.below hSw.out))⟩) hHeld ?_
  try simp only [Act.put, List.getElem_toArray, List.getElem_cons_succ, List.getElem_cons_zero, List.setIfInBounds_toArray, List.set_cons_zero, List.set_cons_succ]
  refine tkG (o := { dst := some 152, op := Op.load 62 (Operand.tmp 13), type := 62, pos := "outright.go:27", after := #[{ on := 28, ground := Ground.guard }], guard := some (28, false) }) 31 (v := elt 6 y) rfl (by kernel_rfl) (by kernel_rfl) (by kernel_rfl) (fun _ _ _ h => h) (Or.inl ⟨wantedG 28 false rfl rfl rfl rfl, fun w' hSw => loadG 62 (.tmp 13) rfl ⟨p13, 0, none⟩ rfl (elt_load62 (By13.out.below hSw.out))⟩) hHeld ?_
  try simp only [Act.put, List.getElem_toArray, List.getElem_cons_succ, List.getElem_cons_zero, List.setIfInBounds_toArray, List.set_cons_zero, List.set_cons_succ]
  refine tkG (o := { dst := some 154, op := Op.move (Operand.tmp 9), type := 105, pos := "outright.go:27", after := #[{ on := 28, ground := Ground.guard }], guard := some (28, false) }) 33 (v := ?_) rfl (by kernel_rfl) (by kernel_rfl) (by kernel_rfl) (fun _ _ _ h => h) (Or.inl ⟨wantedG 28 false rfl rfl rfl rfl, ?_⟩) hHeld ?_
  rotate_left; · (intro w' hSw;  go_simp; first | done | with_reducible rfl)
  try simp only [Act.put, List.getElem_toArray, List.getElem_cons_succ, List.getElem_cons_zero, List.setIfInBounds_toArray, List.set_cons_zero, List.set_cons_succ]
  refine tkG (o := { dst := some 155, op := Op.load 62 (Operand.tmp 11), type := 62, pos := "outright.go:27", after := #[{ on := 28, ground := Ground.guard }], guard := some (28, false) }) 34 (v := elt 6 x) rfl (by kernel_rfl) (by kernel_rfl) (by kernel_rfl) (fun _ _ _ h => h) (Or.inl ⟨wantedG 28 false rfl rfl rfl rfl, fun w' hSw => loadG 62 (.tmp 11) rfl ⟨p11, 0, none⟩ rfl (elt_load62 (By11.out.below hSw.out))⟩) hHeld ?_
  try simp only [Act.put, List.getElem_toArray, List.getElem_cons_succ, List.getElem_cons_zero, List.setIfInBounds_toArray, List.set_cons_zero, List.set_cons_succ]
  refine tkG (o := { dst := some 156, op := Op.move (Operand.tmp 9), type := 105, pos := "outright.go:27", after := #[{ on := 28, ground := Ground.guard }], guard := some (28, false) }) 35 (v := ?_) rfl (by kernel_rfl) (by kernel_rfl) (by kernel_rfl) (fun _ _ _ h => h) (Or.inl ⟨wantedG 28 false rfl rfl rfl rfl, ?_⟩) hHeld ?_
  rotate_left; · (intro w' hSw;  go_simp; first | done | with_reducible rfl)
  try simp only [Act.put, List.getElem_toArray, List.getElem_cons_succ, List.getElem_cons_zero, List.setIfInBounds_toArray, List.set_cons_zero, List.set_cons_succ]
  refine tkG (o := { dst := some 157, op := Op.load 62 (Operand.tmp 13), type := 62, pos := "outright.go:27", after := #[{ on := 28, ground := Ground.guard }], guard := some (28, false) }) 36 (v := elt 6 y) rfl (by kernel_rfl) (by kernel_rfl) (by kernel_rfl) (fun _ _ _ h => h) (Or.inl ⟨wantedG 28 false rfl rfl rfl rfl, fun w' hSw => loadG 62 (.tmp 13) rfl ⟨p13, 0, none⟩ rfl (elt_load62 (By13.out.below hSw.out))⟩) hHeld ?_
  try simp only [Act.put, List.getElem_toArray, List.getElem_cons_succ, List.getElem_cons_zero, List.setIfInBounds_toArray, List.set_cons_zero, List.set_cons_succ]
  refine brG (o := { dst := some 153, op := Op.call { callee := Callee.value (Operand.func 81), args := #[Operand.tmp 150, Operand.tmp 151, Operand.tmp 152], argTypes := #[105, 62, 62] }, type := 62, pos := "outright.go:27", after := #[{ on := 29, ground := Ground.data }, { on := 30, ground := Ground.data }, { on := 31, ground := Ground.data }, { on := 28, ground := Ground.chain }, { on := 28, ground := Ground.guard }], guard := some (28, false) }) 32 rfl (by kernel_rfl) (fun K hK => ?_)
  go_simp
  refine (subM6 (a) (b) Bs1 (HFB.out.below hHeld.out) Hx.out Hy.out HBs1.out).mono ?_
  rintro e w1 ⟨rfl, st⟩
  have H1 := Aside0.mk (below_more hHeld.out st)
  clear st
  refine hK.out _ _ H1 (fun hHeld => ?_)
  clear H1
  clear hK K
  try simp only [Act.put, List.getElem_toArray, List.getElem_cons_succ, List.getElem_cons_zero, List.setIfInBounds_toArray, List.set_cons_zero, List.set_cons_succ]
  refine brG (o := { dst := some 158, op := Op.call { callee := Callee.value (Operand.func 80), args := #[Operand.tmp 156, Operand.tmp 157], argTypes := #[105, 62] }, type := 62, pos := "outright.go:27", after := #[{ on := 35, ground := Ground.data }, { on := 36, ground := Ground.data }, { on := 32, ground := Ground.chain }, { on := 28, ground := Ground.guard }], guard := some (28, false) }) 37 rfl (by kernel_rfl) (fun K hK => ?_)
  go_simp
  refine (negM6 (b) Bs6 (HFB.out.below hHeld.out) Hy.out HBs6.out).mono ?_
  rintro e w1 ⟨rfl, st⟩
  have H1 := Aside0.mk (below_more hHeld.out st)
  clear st
  refine hK.out _ _ H1 (fun hHeld => ?_)
  clear H1
  clear hK K
  try simp only [Act.put, List.getElem_toArray, List.getElem_cons_succ, List.getElem_cons_zero, List.setIfInBounds_toArray, List.set_cons_zero, List.set_cons_succ]
  refine brG (o := { dst := some 159, op := Op.call { callee := Callee.value (Operand.func 78), args := #[Operand.tmp 154, Operand.tmp 155, Operand.tmp 158], argTypes := #[105, 62, 62] }, type := 62, pos := "outright.go:27", after := #[{ on := 33, ground := Ground.data }, { on := 34, ground := Ground.data }, { on := 37, ground := Ground.data }, { on := 37, ground := Ground.chain }, { on := 28, ground := Ground.guard }], guard := some (28, false) }) 38 rfl (by kernel_rfl) (fun K hK => ?_)
  go_simp
  refine (addM6 (a) ((-b)) Bs1 (HFB.out.below hHeld.out) Hx.out HBs6.out (HBs1.out.trans (congrArg (mo 6 m) (by grind)))).mono ?_
  rintro e w1 ⟨rfl, st⟩
  have H1 := Aside0.mk (below_more hHeld.out st)
  clear st
  refine hK.out _ _ H1 (fun hHeld => ?_)
  clear H1
  clear hK K
  try simp only [Act.put, List.getElem_toArray, List.getElem_cons_succ, List.getElem_cons_zero, List.setIfInBounds_toArray, List.set_cons_zero, List.set_cons_succ]
  refine tkG (o := { dst := some 160, op := Op.binOp BinOp.neq 62 (Operand.tmp 153) (Operand.tmp 159) 62, type := 4, pos := "outright.go:27", after := #[{ on := 32, ground := Ground.data }, { on := 38, ground := Ground.data }, { on := 28, ground := Ground.guard }], guard := some (28, false) }) 39 (v := .bool false) rfl (by kernel_rfl) (by kernel_rfl) (by kernel_rfl) (fun _ _ _ h => h) (Or.inl ⟨wantedG 28 false rfl rfl rfl rfl, fun w' hSw => neqS6 (s := Bs1) rfl rfl rfl⟩) hHeld ?_
  try simp only [Act.put, List.getElem_toArray, List.getElem_cons_succ, List.getElem_cons_zero, List.setIfInBounds_toArray, List.set_cons_zero, List.set_cons_succ]
  refine tkG (o := { dst := some 161, op := Op.pick (Operand.tmp 149) (Operand.const (Value.bool true)) (Operand.tmp 160), type := 4, pos := "outright.go:27", after := #[{ on := 28, ground := Ground.data }, { on := 39, ground := Ground.data }], guard := none }) 40 (v := ?_) rfl (by kernel_rfl) (by kernel_rfl) (by kernel_rfl) (fun _ _ _ h => h) (Or.inl ⟨wantedN rfl, ?_⟩) hHeld ?_
  rotate_left; · (intro w' hSw;  go_simp; first | done | with_reducible rfl)
  try simp only [Act.put, List.getElem_toArray, List.getElem_cons_succ, List.getElem_cons_zero, List.setIfInBounds_toArray, List.set_cons_zero, List.set_cons_succ]
  refine tkG (o := { dst := some 162, op := Op.move (Operand.tmp 161), type := 4, pos := "outright.go:27", after := #[{ on := 40, ground := Ground.data }, { on := 38, ground := Ground.chain }], guard := none }) 41 (v := ?_) rfl (by kernel_rfl) (by kernel_rfl) (by kernel_rfl) (fun _ _ _ h => h) (Or.inl ⟨wantedN rfl, ?_⟩) hHeld ?_
  rotate_left; · (intro w' hSw;  go_simp; first | done | with_reducible rfl)
  try simp only [Act.put, List.getElem_toArray, List.getElem_cons_succ, List.getElem_cons_zero, List.setIfInBounds_toArray, List.set_cons_zero, List.set_cons_succ]
  refine tkG (o := { dst := some 163, op := Op.move (Operand.tmp 9), type := 105, pos := "outright.go:27", after := #[{ on := 41, ground := Ground.guard }], guard := some (41, false) }) 42 (v := ?_) rfl (by kernel_rfl) (by kernel_rfl) (by kernel_rfl) (fun _ _ _ h => h) (Or.inl ⟨wantedG 41 false rfl rfl rfl rfl, ?_⟩) hHeld ?_
  rotate_left; · (intro w' hSw;  go_simp; first | done | with_reducible rfl)
  try simp only [Act.put, List.getElem_toArray, List.getElem_cons_succ, List.getElem_cons_zero, List.setIfInBounds_toArray, List.set_cons_zero, List.set_cons_succ]
  refine tkG (o := { dst := some 164, op := Op.load 62 (Operand.tmp 11), type := 62, pos := "outright.go:27", after := #[{ on := 41, ground := Ground.guard }], guard := some (41, false) }) 43 (v := elt 6 x) rfl (by kernel_rfl) (by kernel_rfl) (by kernel_rfl) (fun _ _ _ h => h) (Or.inl ⟨wantedG 41 false rfl rfl rfl rfl, fun w' hSw => loadG 62 (.tmp 11) rfl ⟨p11, 0, none⟩ rfl (elt_load62 (By11.out.below hSw.out))⟩) hHeld ?_
  try simp only [Act.put, List.getElem_toArray, List.getElem_cons_succ, List.getElem_cons_zero, List.setIfInBounds_toArray, List.set_cons_zero, List.set_cons_succ]
  refine tkG (o := { dst := some 165, op := Op.load 62 (Operand.tmp 19), type := 62, pos := "outright.go:27", after := #[{ on := 41, ground := Ground.guard }], guard := some (41, false) }) 44 (v := elt 6 0) rfl (by kernel_rfl) (by kernel_rfl) (by kernel_rfl) (fun _ _ _ h => h) (Or.inl ⟨wantedG 41 false rfl rfl rfl rfl, fun w' hSw => loadG 62 (.tmp 19) rfl ⟨W5.heap.size, 0, none⟩ rfl (elt_load62 (By19.out.below hSw.out))⟩) hHeld ?_
  try simp only [Act.put, List.getElem_toArray, List.getElem_cons_succ, List.getElem_cons_zero, List.setIfInBounds_toArray, List.set_cons_zero, List.set_cons_succ]
  refine tkG (o := { dst := some 167, op := Op.load 62 (Operand.tmp 11), type := 62, pos := "outright.go:27", after := #[{ on := 41, ground := Ground.guard }], guard := some (41, false) }) 46 (v := elt 6 x) rfl (by kernel_rfl) (by kernel_rfl) (by kernel_rfl) (fun _ _ _ h => h) (Or.inl ⟨wantedG 41 false rfl rfl rfl rfl, fun w' hSw => loadG 62 (.tmp 11) rfl ⟨p11, 0, none⟩ rfl (elt_load62 (By11.out.below hSw.out))⟩) hHeld ?_
  try simp only [Act.put, List.getElem_toArray, List.getElem_cons_succ, List.getElem_cons_zero, List.setIfInBounds_toArray, List.set_cons_zero, List.set_cons_succ]
  refine brG (o := { dst := some 166, op := Op.call { callee := Callee.value (Operand.func 78), args := #[Operand.tmp 163, Operand.tmp 164, Operand.tmp 165], argTypes := #[105, 62, 62] }, type := 62, pos := "outright.go:27", after := #[{ on := 42, ground := Ground.data }, { on := 43, ground := Ground.data }, { on := 44, ground := Ground.data }, { on := 41, ground := Ground.chain }, { on := 41, ground := Ground.guard }], guard := some (41, false) }) 45 rfl (by kernel_rfl) (fun K hK => ?_)
  go_simp
  refine (addM6 (a) ((0 : Int)) x (HFB.out.below hHeld.out) Hx.out H0.out (Hx.out.trans (congrArg (mo 6 m) (by grind)))).mono ?_
  rintro e w1 ⟨rfl, st⟩
  have H1 := Aside0.mk (below_more hHeld.out st)
  clear st
  refine hK.out _ _ H1 (fun hHeld => ?_)
  clear H1
  clear hK K
  try simp only [Act.put, List.getElem_toArray, List.getElem_cons_succ, List.getElem_cons_zero, List.setIfInBounds_toArray, List.set_cons_zero, List.set_cons_succ]
  refine tkG (o := { dst := some 168, op := Op.binOp BinOp.neq 62 (Operand.tmp 166) (Operand.tmp 167) 62, type := 4, pos := "outright.go:27", after := #[{ on := 45, ground := Ground.data }, { on := 46, ground := Ground.data }, { on := 41, ground := Ground.guard }], guard := some (41, false) }) 47 (v := .bool false) rfl (by kernel_rfl) (by kernel_rfl) (by kernel_rfl) (fun _ _ _ h => h) (Or.inl ⟨wantedG 41 false rfl rfl rfl rfl, fun w' hSw => neqS6 (s := x) rfl rfl rfl⟩) hHeld ?_
  try simp only [Act.put, List.getElem_toArray, List.getElem_cons_succ, List.getElem_cons_zero, List.setIfInBounds_toArray, List.set_cons_zero, List.set_cons_succ]
  refine tkG (o := { dst := some 169, op := Op.pick (Operand.tmp 162) (Operand.const (Value.bool true)) (Operand.tmp 168), type := 4, pos := "outright.go:27", after := #[{ on := 41, ground := Ground.data }, { on := 47, ground := Ground.data }], guard := none }) 48 (v := ?_) rfl (by kernel_rfl) (by kernel_rfl) (by kernel_rfl) (fun _ _ _ h => h) (Or.inl ⟨wantedN rfl, ?_⟩) hHeld ?_
  rotate_left; · (intro w' hSw;  go_simp; first | done | with_reducible rfl)
  try simp only [Act.put, List.getElem_toArray, List.getElem_cons_succ, List.getElem_cons_zero, List.setIfInBounds_toArray, List.set_cons_zero, List.set_cons_succ]
  refine tkG (o := { dst := some 170, op := Op.move (Operand.tmp 169), type := 4, pos := "outright.go:27", after := #[{ on := 48, ground := Ground.data }, { on := 45, ground := Ground.chain }], guard := none }) 49 (v := ?_) rfl (by kernel_rfl) (by kernel_rfl) (by kernel_rfl) (fun _ _ _ h => h) (Or.inl ⟨wantedN rfl, ?_⟩) hHeld ?_
  rotate_left; · (intro w' hSw;  go_simp; first | done | with_reducible rfl)
  try simp only [Act.put, List.getElem_toArray, List.getElem_cons_succ, List.getElem_cons_zero, List.setIfInBounds_toArray, List.set_cons_zero, List.set_cons_succ]
  refine tkG (o := { dst := some 171, op := Op.move (Operand.tmp 9), type := 105, pos := "outright.go:27", after := #[{ on := 49, ground := Ground.guard }], guard := some (49, false) }) 50 (v := ?_) rfl (by kernel_rfl) (by kernel_rfl) (by kernel_rfl) (fun _ _ _ h => h) (Or.inl ⟨wantedG 49 false rfl rfl rfl rfl, ?_⟩) hHeld ?_
  rotate_left; · (intro w' hSw;  go_simp; first | done | with_reducible rfl)
  try simp only [Act.put, List.getElem_toArray, List.getElem_cons_succ, List.getElem_cons_zero, List.setIfInBounds_toArray, List.set_cons_zero, List.set_cons_succ]
  refine tkG (o := { dst := some 172, op := Op.load 62 (Operand.tmp 11), type := 62, pos := "outright.go:27", after := #[{ on := 49, ground := Ground.guard }], guard := some (49, false) }) 51 (v := elt 6 x) rfl (by kernel_rfl) (by kernel_rfl) (by kernel_rfl) (fun _ _ _ h => h) (Or.inl ⟨wantedG 49 false rfl rfl rfl rfl, fun w' hSw => loadG 62 (.tmp 11) rfl ⟨p11, 0, none⟩ rfl (elt_load62 (By11.out.below hSw.out))⟩) hHeld ?_
  try simp only [Act.put, List.getElem_toArray, List.getElem_cons_succ, List.getElem_cons_zero, List.setIfInBounds_toArray, List.set_cons_zero, List.set_cons_succ]
  refine tkG (o := { dst := some 173, op := Op.load 62 (Operand.tmp 17), type := 62, pos := "outright.go:27", after := #[{ on := 49, ground := Ground.guard }], guard := some (49, false) }) 52 (v := elt 6 o) rfl (by kernel_rfl) (by kernel_rfl) (by kernel_rfl) (fun _ _ _ h => h) (Or.inl ⟨wantedG 49 false rfl rfl rfl rfl, fun w' hSw => loadG 62 (.tmp 17) rfl ⟨p17, 0, none⟩ rfl (elt_load62 (By17.out.below hSw.out))⟩) hHeld ?_
  try simp only [Act.put, List.getElem_toArray, List.getElem_cons_succ, List.getElem_cons_zero, List.setIfInBounds_toArray, List.set_cons_zero, List.set_cons_succ]
  refine tkG (o := { dst := some 175, op := Op.load 62 (Operand.tmp 11), type := 62, pos := "outright.go:27", after := #[{ on := 49, ground := Ground.guard }], guard := some (49, false) }) 54 (v := elt 6 x) rfl (by kernel_rfl) (by kernel_rfl) (by kernel_rfl) (fun _ _ _ h => h) (Or.inl ⟨wantedG 49 false rfl rfl rfl rfl, fun w' hSw => loadG 62 (.tmp 11) rfl ⟨p11, 0, none⟩ rfl (elt_load62 (By11.out.below hSw.out))⟩) hHeld ?_
  try simp only [Act.put, List.getElem_toArray, List.getElem_cons_succ, List.getElem_cons_zero, List.setIfInBounds_toArray, List.set_cons_zero, List.set_cons_succ]
  refine brG (o := { dst := some 174, op := Op.call { callee := Callee.value (Operand.func 79), args := #[Operand.tmp 171, Operand.tmp 172, Operand.tmp 173], argTypes := #[105, 62, 62] }, type := 62, pos := "outright.go:27", after := #[{ on := 50, ground := Ground.data }, { on := 51, ground := Ground.data }, { on := 52, ground := Ground.data }, { on := 49, ground := Ground.chain }, { on := 49, ground := Ground.guard }], guard := some (49, false) }) 53 rfl (by kernel_rfl) (fun K hK => ?_)
  go_simp
  refine (mulM6 (a) ((1 : Int)) x (HFB.out.below hHeld.out) Hx.out Ho.out (Hx.out.trans (congrArg (mo 6 m) (by grind)))).mono ?_
  rintro e w1 ⟨rfl, st⟩
  have H1 := Aside0.mk (below_more hHeld.out st)
  clear st
  refine hK.out _ _ H1 (fun hHeld => ?_)
  clear H1
  clear hK K
  try simp only [Act.put, List.getElem_toArray, List.getElem_cons_succ, List.getElem_cons_zero, List.setIfInBounds_toArray, List.set_cons_zero, List.set_cons_succ]
  refine tkG (o := { dst := some 176, op := Op.binOp BinOp.neq 62 (Operand.tmp 174) (Operand.tmp 175) 62, type := 4, pos := "outright.go:27", after := #[{ on := 53, ground := Ground.data }, { on := 54, ground := Ground.data }, { on := 49, ground := Ground.guard }], guard := some (49, false) }) 55 (v := .bool false) rfl (by kernel_rfl) (by kernel_rfl) (by kernel_rfl) (fun _ _ _ h => h) (Or.inl ⟨wantedG 49 false rfl rfl rfl rfl, fun w' hSw => neqS6 (s := x) rfl rfl rfl⟩) hHeld ?_
  try simp only [Act.put, List.getElem_toArray, List.getElem_cons_succ, List.getElem_cons_zero, List.setIfInBounds_toArray, List.set_cons_zero, List.set_cons_succ]
  refine tkG (o := { dst := some 177, op := Op.pick (Operand.tmp 170) (Operand.const (Value.bool true)) (Operand.tmp 176), type := 4, pos := "outright.go:27", after := #[{ on := 49, ground := Ground.data }, { on := 55, ground := Ground.data }], guard := none }) 56 (v := ?_) rfl (by kernel_rfl) (by kernel_rfl) (by kernel_rfl) (fun _ _ _ h => h) (Or.inl ⟨wantedN rfl, ?_⟩) hHeld ?_
  rotate_left; · (intro w' hSw;  go_simp; first | done | with_reducible rfl)
  try simp only [Act.put, List.getElem_toArray, List.getElem_cons_succ, List.getElem_cons_zero, List.setIfInBounds_toArray, List.set_cons_zero, List.set_cons_succ]
  refine tkG (o := { dst := some 178, op := Op.move (Operand.tmp 177), type := 4, pos := "outright.go:27", after := #[{ on := 56, ground := Ground.data }, { on := 53, ground := Ground.chain }], guard := none }) 57 (v := ?_) rfl (by kernel_rfl) (by kernel_rfl) (by kernel_rfl) (fun _ _ _ h => h) (Or.inl ⟨wantedN rfl, ?_⟩) hHeld ?_
  rotate_left; · (intro w' hSw;  go_simp; first | done | with_reducible rfl)
  try simp only [Act.put, List.getElem_toArray, List.getElem_cons_succ, List.getElem_cons_zero, List.setIfInBounds_toArray, List.set_cons_zero, List.set_cons_succ]
  refine tkG (o := { dst := some 179, op := Op.move (Operand.tmp 9), type := 105, pos := "outright.go:27", after := #[{ on := 57, ground := Ground.guard }], guard := some (57, false) }) 58 (v := ?_) rfl (by kernel_rfl) (by kernel_rfl) (by kernel_rfl) (fun _ _ _ h => h) (Or.inl ⟨wantedG 57 false rfl rfl rfl rfl, ?_⟩) hHeld ?_
  rotate_left; · (intro w' hSw;  go_simp; first | done | with_reducible rfl)
  try simp only [Act.put, List.getElem_toArray, List.getElem_cons_succ, List.getElem_cons_zero, List.setIfInBounds_toArray, List.set_cons_zero, List.set_cons_succ]
  refine tkG (o := { dst := some 180, op := Op.move (Operand.tmp 9), type := 105, pos := "outright.go:27", after := #[{ on := 57, ground := Ground.guard }], guard := some (57, false) }) 59 (v := ?_) rfl (by kernel_rfl) (by kernel_rfl) (by kernel_rfl) (fun _ _ _ h => h) (Or.inl ⟨wantedG 57 false rfl rfl rfl rfl, ?_⟩) hHeld ?_
  rotate_left; · (intro w' hSw;  go_simp; first | done | with_reducible rfl)
  try simp only [Act.put, List.getElem_toArray, List.getElem_cons_succ, List.getElem_cons_zero, List.setIfInBounds_toArray, List.set_cons_zero, List.set_cons_succ]
  refine tkG (o := { dst := some 181, op := Op.load 62 (Operand.tmp 11), type := 62, pos := "outright.go:27", after := #[{ on := 57, ground := Ground.guard }], guard := some (57, false) }) 60 (v := elt 6 x) rfl (by kernel_rfl) (by kernel_rfl) (by kernel_rfl) (fun _ _ _ h => h) (Or.inl ⟨wantedG 57 false rfl rfl rfl rfl, fun w' hSw => loadG 62 (.tmp 11) rfl ⟨p11, 0, none⟩ rfl (elt_load62 (By11.out.below hSw.out))⟩) hHeld ?_
  try simp only [Act.put, List.getElem_toArray, List.getElem_cons_succ, List.getElem_cons_zero, List.setIfInBounds_toArray, List.set_cons_zero, List.set_cons_succ]
  refine tkG (o := { dst := some 184, op := Op.load 62 (Operand.tmp 11), type := 62, pos := "outright.go:27", after := #[{ on := 57, ground := Ground.guard }], guard := some (57, false) }) 63 (v := elt 6 x) rfl (by kernel_rfl) (by kernel_rfl) (by kernel_rfl) (fun _ _ _ h => h) (Or.inl ⟨wantedG 57 false rfl rfl rfl rfl, fun w' hSw => loadG 62 (.tmp 11) rfl ⟨p11, 0, none⟩ rfl (elt_load62 (By11.out.below hSw.out))⟩) hHeld ?_
  try simp only [Act.put, List.getElem_toArray, List.getElem_cons_succ, List.getElem_cons_zero, List.setIfInBounds_toArray, List.set_cons_zero, List.set_cons_succ]
  refine brG (o := { dst := some 182, op := Op.call { callee := Callee.value (Operand.func 80), args := #[Operand.tmp 180, Operand.tmp 181], argTypes := #[105, 62] }, type := 62, pos := "outright.go:27", after := #[{ on := 59, ground := Ground.data }, { on := 60, ground := Ground.data }, { on := 57, ground := Ground.chain }, { on := 57, ground := Ground.guard }], guard := some (57, false) }) 61 rfl (by kernel_rfl) (fun K hK => ?_)
  go_simp
  refine (negM6 (a) Bs7 (HFB.out.below hHeld.out) Hx.out HBs7.out).mono ?_
  rintro e w1 ⟨rfl, st⟩
  have H1 := Aside0.mk (below_more hHeld.out st)
  clear st
  refine hK.out _ _ H1 (fun hHeld => ?_)
  clear H1
  clear hK K
  try simp only [Act.put, List.getElem_toArray, List.getElem_cons_succ, List.getElem_cons_zero, List.setIfInBounds_toArray, List.set_cons_zero, List.set_cons_succ]
  refine brG (o := { dst := some 183, op := Op.call { callee := Callee.value (Operand.func 80), args := #[Operand.tmp 179, Operand.tmp 182], argTypes := #[105, 62] }, type := 62, pos := "outright.go:27", after := #[{ on := 58, ground := Ground.data }, { on := 61, ground := Ground.data }, { on := 61, ground := Ground.chain }, { on := 57, ground := Ground.guard }], guard := some (57, false) }) 62 rfl (by kernel_rfl) (fun K hK => ?_)
  go_simp
  refine (negM6 ((-a)) x (HFB.out.below hHeld.out) HBs7.out (Hx.out.trans (congrArg (mo 6 m) (by grind)))).mono ?_
  rintro e w1 ⟨rfl, st⟩
  have H1 := Aside0.mk (below_more hHeld.out st)
  clear st
  refine hK.out _ _ H1 (fun hHeld => ?_)
  clear H1
  clear hK K
  try simp only [Act.put, List.getElem_toArray, List.getElem_cons_succ, List.getElem_cons_zero, List.setIfInBounds_toArray, List.set_cons_zero, List.set_cons_succ]
  refine tkG (o := { dst := some 185, op := Op.binOp BinOp.neq 62 (Operand.tmp 183) (Operand.tmp 184) 62, type := 4, pos := "outright.go:27", after := #[{ on := 62, ground := Ground.data }, { on := 63, ground := Ground.data }, { on := 57, ground := Ground.guard }], guard := some (57, false) }) 64 (v := .bool false) rfl (by kernel_rfl) (by kernel_rfl) (by kernel_rfl) (fun _ _ _ h => h) (Or.inl ⟨wantedG 57 false rfl rfl rfl rfl, fun w' hSw => neqS6 (s := x) rfl rfl rfl⟩) hHeld ?_
  try simp only [Act.put, List.getElem_toArray, List.getElem_cons_succ, List.getElem_cons_zero, List.setIfInBounds_toArray, List.set_cons_zero, List.set_cons_succ]
  refine tkG (o := { dst := some 186, op := Op.pick (Operand.tmp 178) (Operand.const (Value.bool true)) (Operand.tmp 185), type := 4, pos := "outright.go:27", after := #[{ on := 57, ground := Ground.data }, { on := 64, ground := Ground.data }], guard := none }) 65 (v := ?_) rfl (by kernel_rfl) (by kernel_rfl) (by kernel_rfl) (fun _ _ _ h => h) (Or.inl ⟨wantedN rfl, ?_⟩) hHeld ?_
  rotate_left; · (intro w' hSw;  go_simp; first | done | with_reducible rfl)
  try simp only [Act.put, List.getElem_toArray, List.getElem_cons_succ, List.getElem_cons_zero, List.setIfInBounds_toArray, List.set_cons_zero, List.set_cons_succ]
  refine wpAnyH_done (by kernel_rfl) ?_ _
  refine NoPanic.normal ?_
  have V8 := Aside0.mk (below_more V7.out hHeld.out)
  have HFC := Aside0.mk (HFB.out.below hHeld.out)
  have Bz11 := Aside0.mk (By11.out.below hHeld.out)
  clear hHeld V7 HFB By11 By13 By15 By17 By19 HBs0 HBs1 HBs2 HBs3 HBs4 HBs5 HBs6 HBs7
  obtain ⟨na, hna⟩ : ∃ n, n = a % m := ⟨_, rfl⟩
  have HNA := Aside0.mk hna
  have HX2 := Aside0.mk (show x = mo 6 m na from by rw [hna, Hx.out]; exact (mo_congr (Cg.mod m a)).symm)
  have LT := Aside0.mk (show na < m from hna ▸ Int.emod_lt_of_pos _ HP.out.pos)
  have SZ := Aside0.mk (c64_info info62 (dg_length 6 x))
  clear hna
  go_wp2_with (refine wpList_load_row rfl 62 (.tmp 11) rfl p11 rfl 62 (c64 (dg 6 x)) (0, 0) _ Bz11.out.out Try.underlying62 rfl SZ.out ?_)
  refine (natM6 (x := x) a na HFC.out Hx.out HNA.out).mono ?_
  rintro e w9 ⟨vn, rfl, cn, st⟩
  have HFD := Aside0.mk (HFC.out.below st)
  have Bz := Aside0.mk (Bz11.out.below st)
  have V9 := Aside0.mk (below_more V8.out st)
  have CN9 := Aside0.mk cn
  clear cn st V8 HFC Bz11
  go_wp2_with fail
  refine (fromOk6_calls g vn m na x 6 w9 HFD.out CN9.out.dn (by decide) HX2.out).mono ?_
  rintro e w10 ⟨rfl, st⟩
  have HFE := Aside0.mk (HFD.out.below st)
  have Bz2 := Aside0.mk (Bz.out.below st)
  have V10 := Aside0.mk (below_more V9.out st)
  clear st V9 HFD Bz CN9
  have SN := Aside0.mk (show (c64 (List.replicate 6 0)).size = (c64 (dg 6 x)).size from c64_sizes (by rw [dg_length]; rfl))
  obtain ⟨W11, hW⟩ : ∃ W, (w10.alloc (.cells (c64 (List.replicate 6 0)) 62)).setRow w10.heap.size (c64 (dg 6 x)) = W := ⟨_, rfl⟩
  obtain ⟨b1, b2⟩ := boxed6 w10 x
  rw [hW] at b1 b2
  have HN := Aside0.mk (heap_alloc_new w10 (.cells (c64 (List.replicate 6 0)) 62))
  have HWW := Aside0.mk hW
  have HFG := Aside0.mk (HFE.out.below b1)
  have Bz3 := Aside0.mk (Bz2.out.below b1)
  have Bw := Aside0.mk b2
  have V11 := Aside0.mk (below_more V10.out b1)
  clear hW b1 b2 HFE Bz2 V10
  go_upto_region 16 with (refine wpList_store_row rfl 62 (.tmp 20) (.tmp 193) rfl w10.heap.size (c64 (dg 6 x)) rfl rfl 62 _ HN.out SZ.out SN.out (c64_all _) ?_)
  rw [show (w10.alloc (.cells #[.int .u64 0, .int .u64 0, .int .u64 0, .int .u64 0, .int .u64 0, .int .u64 0] 62)).setRow w10.heap.size (c64 (dg 6 x)) = W11 from HWW.out]
  clear HWW HN SN
  have ge := guard62
  have eq0 := eq62 (dg 6 x) (dg 6 x) (dg_length _ _) (dg_length _ _)
  simp only [decide_true] at eq0
  go_wp2_with (first | (refine wpList_load_rowG (by rfl) 62 (.tmp 20) rfl _ rfl 62 (c64 (dg 6 x)) (0, 0) _ Bw.out.out Try.underlying62 rfl SZ.out ?_) | (refine wpList_load_rowG (by rfl) 62 (.tmp 11) rfl _ rfl 62 (c64 (dg 6 x)) (0, 0) _ Bz3.out.out Try.underlying62 rfl SZ.out ?_))
  clear eq0 ge
  refine (natM6 (x := x) a na HFG.out Hx.out HNA.out).mono ?_
  rintro e w12 ⟨vq, rfl, cn, st⟩
  have CN12 := Aside0.mk cn
  have V12 := Aside0.mk (below_more V11.out st)
  clear cn st V11 HFG Bz3 Bw
  go_wp2_with fail
  refine (cmp_n CN12.out.dn (WM.out.below V12.out) (by decide) (by decide)).mono ?_
  rintro e w13 ⟨rfl, st⟩
  rw [cmpI_lt LT.out]
  have V13 := Aside0.mk (below_more V12.out st)
  clear st V12 CN12
  go_wp2_with fail
  go_ret
  exact ⟨rfl, HB1.out.trans (V13.out.mono HB1.out.size)⟩
end Go.Proofs.Ytokadjfakncdfaa
