/- marlinspikelaw02: tells, of 4 words. -/
import Derived.Test.YtokadjfakncdfaaHF27x4
import Derived.Test.YtokadjfakncdfaaHF23x4
import Derived.Test.YtokadjfakncdfaaHR1
set_option linter.unusedVariables false
set_option linter.unusedSimpArgs false
namespace Go.Proofs.Ytokadjfakncdfaa
open Go.RowKit Go.Proofs.YtokadjfakncdfaaW.PrintWords Go.Proofs.YtokadjfakncdfaaW.PrintLast Go.Proofs.YtokadjfakncdfaaW.PrintMore
open PR
set_option maxRecDepth 100000 in
set_option maxHeartbeats 16000000 in
theorem tells4_calls (vm va vb ve : Value) (ms ka kb es : List Int) (w : World) (hm : RL .u64 w vm ms) (ha : RL .u64 w va ka) (hb : RL .u64 w vb kb) (he : RL .u64 w ve es)
    (dm : Dig B64 ms) (da : Dig B64 ka) (db : Dig B64 kb) (de : Dig B64 es) (lm : ms.length ≤ 100) (la : ka.length ≤ 100) (lb : kb.length ≤ 100) (le : es.length ≤ 3) :
    Calls Try.prog 46 #[vm, va, vb, ve] w fun e w' => e = .returned (.bool true) ∧ Below w.heap.size w w' := by
  have RM := Aside0.mk hm
  have RA := Aside0.mk ha
  have RB := Aside0.mk hb
  have RE := Aside0.mk he
  have DM := Aside0.mk dm
  have DA := Aside0.mk da
  have DB := Aside0.mk db
  have DE := Aside0.mk de
  have LM := Aside0.mk lm
  have LA := Aside0.mk la
  have LB := Aside0.mk lb
  have LE := Aside0.mk le
  clear hm ha hb he dm da db de lm la lb le
  have SZ := Aside0.mk (c64_info info63 (dg_length 4 0))
  by_cases hl : 80 < ms.length
  · have e80 := Aside0.mk (decide_eq_true (show ((ms.length : Int) > 80) by omega))
    have HL := Aside0.mk hl
    clear hl
    go_enter Try.func46, Try.ntmps46
    go_wp2_with fail
    refine (newLong4_calls vm ms _ (RM.out.below (below_alloc1 w _)) HL.out).mono ?_
    rintro e w1 ⟨rfl, st⟩
    have H1 := Aside0.mk (below_more (below_alloc1 w _) st)
    clear st
    go_wp2_with fail
    refine (digits_n (x := nv B64 ms) (la := 100) ⟨ms, RM.out.below H1.out, DM.out, rfl, LM.out⟩ (by decide)).mono ?_
    rintro e w2 ⟨vd, rfl, hd, st⟩
    have H2 := Aside0.mk (below_more H1.out st)
    clear hd st
    go_wp2_with fail
    refine (long_n (RM.out.below H2.out)).mono ?_
    rintro e w3 ⟨rfl, st⟩
    rw [e80.out]
    have H3 := Aside0.mk (below_more H2.out st)
    clear st
    go_wp2_with fail
    go_ret
    exact ⟨rfl, H3.out⟩
  have e80 := Aside0.mk (decide_eq_false (show ¬ ((ms.length : Int) > 80) by omega))
  have HM := Aside0.mk (show DN w vm (nv B64 ms) 80 from ⟨ms, RM.out, DM.out, rfl, by omega⟩)
  obtain ⟨m, em⟩ : ∃ m, nv B64 ms = m := ⟨_, rfl⟩
  obtain ⟨r, hr⟩ := exists_len m.toNat
  have HR := Aside0.mk hr
  rw [em] at HM
  clear hl em hr
  have hgood := good_fp (n := 4) (m := m) (r := r) HM.out.nonneg HR.out (by decide)
  by_cases hp : ¬ FP 4 m
  · have eG := Aside0.mk (show decide (m % 2 = 1 ∧ 2 < m ∧ r ≤ 64 * 4 - 1) = false from decide_eq_false (fun h => hp (hgood.1 h)))
    have HP := Aside0.mk hp
    clear hp hgood
    go_enter Try.func46, Try.ntmps46
    go_wp2_with fail
    refine (newBad4_calls vm m 80 _ (HM.out.below (below_alloc1 w _)) (by decide) HP.out).mono ?_
    rintro e w1 ⟨rfl, st⟩
    have H1 := Aside0.mk (below_more (below_alloc1 w _) st)
    have Q9 := Aside0.mk (show Bx 4 63 w1 w.heap.size 0 from (Bx.mk (heap_alloc_new w _) : Bx 4 63 (w.alloc (.cells #[.int .u64 0, .int .u64 0, .int .u64 0, .int .u64 0] 63)) w.heap.size 0).below st)
    clear st
    go_wp2_with fail
    refine (digits_n (HM.out.below H1.out) (by decide)).mono ?_
    rintro e w2 ⟨vd, rfl, hd, st⟩
    have H2 := Aside0.mk (below_more H1.out st)
    have Q9 := Aside0.mk (Q9.out.below st)
    have DD := Aside0.mk hd
    clear hd st
    go_wp2_with fail
    refine (long_n (RM.out.below H2.out)).mono ?_
    rintro e w3 ⟨rfl, st⟩
    rw [e80.out]
    have H3 := Aside0.mk (below_more H2.out st)
    have Q9 := Aside0.mk (Q9.out.below st)
    have DD := Aside0.mk (DD.out.below st)
    clear st
    go_wp2_with (refine wpList_load_row rfl 63 (.tmp 9) rfl _ rfl 63 (c64 (dg 4 0)) (0, 0) _ Q9.out.out Try.underlying63 rfl SZ.out ?_)
    refine (good_n DD.out (by decide) (64 * 4 - 1) r (by decide) HR.out).mono ?_
    rintro e w4 ⟨rfl, st⟩
    rw [eG.out]
    have H4 := Aside0.mk (below_more H3.out st)
    clear st
    go_wp2_with fail
    go_ret
    exact ⟨rfl, H4.out⟩
  have HP := Aside0.mk (Classical.not_not.1 hp)
  have eG := Aside0.mk (show decide (m % 2 = 1 ∧ 2 < m ∧ r ≤ 64 * 4 - 1) = true from decide_eq_true (hgood.2 HP.out))
  clear hp hgood
  go_enter Try.func46, Try.ntmps46
  go_wp2_with fail
  refine (newOk4_calls vm m 80 _ (HM.out.below (below_alloc1 w _)) (by decide) HP.out).mono ?_
  rintro e w1 ⟨g, rfl, hf, st⟩
  have H1 := Aside0.mk (below_more (below_alloc1 w _) st)
  have HF := Aside0.mk hf
  have Q9 := Aside0.mk (show Bx 4 63 w1 w.heap.size 0 from (Bx.mk (heap_alloc_new w _) : Bx 4 63 (w.alloc (.cells #[.int .u64 0, .int .u64 0, .int .u64 0, .int .u64 0] 63)) w.heap.size 0).below st)
  clear st hf
  go_wp2_with fail
  refine (digits_n (HM.out.below H1.out) (by decide)).mono ?_
  rintro e w2 ⟨vd, rfl, hd, st⟩
  have H2 := Aside0.mk (below_more H1.out st)
  have HF := Aside0.mk (HF.out.below st)
  have Q9 := Aside0.mk (Q9.out.below st)
  have DD := Aside0.mk hd
  clear hd st H1
  go_wp2_with fail
  refine (long_n (RM.out.below H2.out)).mono ?_
  rintro e w3 ⟨rfl, st⟩
  rw [e80.out]
  have H3 := Aside0.mk (below_more H2.out st)
  have HF := Aside0.mk (HF.out.below st)
  have Q9 := Aside0.mk (Q9.out.below st)
  have DD := Aside0.mk (DD.out.below st)
  clear st H2
  go_wp2_with (refine wpList_load_row rfl 63 (.tmp 9) rfl _ rfl 63 (c64 (dg 4 0)) (0, 0) _ Q9.out.out Try.underlying63 rfl SZ.out ?_)
  refine (good_n DD.out (by decide) (64 * 4 - 1) r (by decide) HR.out).mono ?_
  rintro e w4 ⟨rfl, st⟩
  rw [eG.out]
  have H4 := Aside0.mk (below_more H3.out st)
  have HF := Aside0.mk (HF.out.below st)
  have Q9 := Aside0.mk (Q9.out.below st)
  have DD := Aside0.mk (DD.out.below st)
  clear st H3 eG e80 HR
  go_wp2_with fail
  refine (modulus4_calls g m w4 HF.out).mono ?_
  rintro e w5 ⟨vw, rfl, cn, st⟩
  have H5 := Aside0.mk (below_more H4.out st)
  have HF := Aside0.mk (HF.out.below st)
  have Q9 := Aside0.mk (Q9.out.below st)
  have DD := Aside0.mk (DD.out.below st)
  have CN5 := Aside0.mk cn
  clear st H4 cn
  go_wp2_with fail
  refine (words_n DD.out (by decide)).mono ?_
  rintro e w6 ⟨vw2, rfl, cn, st⟩
  have H6 := Aside0.mk (below_more H5.out st)
  have HF := Aside0.mk (HF.out.below st)
  have Q9 := Aside0.mk (Q9.out.below st)
  have DD := Aside0.mk (DD.out.below st)
  have CN5 := Aside0.mk (CN5.out.below st)
  have CN6 := Aside0.mk cn
  clear st H5 cn
  go_wp2_with fail
  refine (same_n CN5.out CN6.out (by decide)).mono ?_
  rintro e w7 ⟨rfl, st⟩
  rw [show decide (m = m) = true from decide_eq_true rfl]
  have HB1 := Aside0.mk (below_more H6.out st)
  have HFd := Aside0.mk (HF.out.below st)
  have HF := Aside0.mk (show ∀ w', Below w7.heap.size w7 w' → Fd 4 121 w' g m from fun w' hb => HFd.out.below hb)
  have Q9 := Aside0.mk (Q9.out.below st)
  have DD := Aside0.mk (DD.out.below st)
  have RA := Aside0.mk (RA.out.below HB1.out)
  have RB := Aside0.mk (RB.out.below HB1.out)
  have RE := Aside0.mk (RE.out.below HB1.out)
  have U1 := Aside0.mk (Below.refl w7.heap.size w7)
  clear st H6 CN5 CN6 HM RM DM HFd LM
  obtain ⟨a, ea⟩ : ∃ a, nv B64 ka = a := ⟨_, rfl⟩
  obtain ⟨b, eb⟩ : ∃ b, nv B64 kb = b := ⟨_, rfl⟩
  have EA := Aside0.mk ea
  have EB := Aside0.mk eb
  clear ea eb
  go_wp2_with fail
  refine (fromAll4 (HF.out _ U1.out) RA.out DA.out).mono ?_
  rintro e w8 ⟨x, ggx, rfl, hx, st⟩
  have HCx := Aside0.mk hx
  have S8 := Aside0.mk (below_more U1.out st)
  obtain ⟨W8, hW⟩ : ∃ W, (w8.alloc (.cells (c64 (List.replicate 4 0)) 63)).setRow w8.heap.size (c64 (dg 4 x)) = W := ⟨_, rfl⟩
  obtain ⟨b1, b2⟩ := boxed4 w8 x
  rw [hW] at b1 b2
  have Q9 := Aside0.mk ((Q9.out.below st).below b1)
  have Q13 := Aside0.mk b2
  have U8 := Aside0.mk (below_more S8.out b1)
  have SZ8 := Aside0.mk (c64_info info63 (dg_length 4 x))
  have SN8 := Aside0.mk (show (c64 (List.replicate 4 0)).size = (c64 (dg 4 x)).size from c64_sizes (by rw [dg_length]; rfl))
  obtain ⟨p13, hp⟩ : ∃ p, w8.heap.size = p := ⟨_, rfl⟩
  have hn := heap_alloc_new w8 (.cells (c64 (List.replicate 4 0)) 63)
  rw [hp] at Q13 hn hW
  have HN8 := Aside0.mk hn
  have HW8 := Aside0.mk hW
  clear hx st b1 b2 U1 S8 hn hW
  go_wp2_with (refine wpList_store_row rfl 63 (.tmp 13) (.tmp 65) rfl p13 (c64 (dg 4 x)) (by first | rfl | (rw [← hp]; rfl)) rfl 63 _ HN8.out SZ8.out SN8.out (c64_all _) ?_)
  rw [show (w8.alloc (.cells #[.int .u64 0, .int .u64 0, .int .u64 0, .int .u64 0] 63)).setRow p13 (c64 (dg 4 x)) = W8 from HW8.out]
  clear HN8 HW8 SN8 hp
  refine (fromAll4 (HF.out _ U8.out) (RB.out.below U8.out) DB.out).mono ?_
  rintro e w9 ⟨y, ggy, rfl, hy, st⟩
  have HCy := Aside0.mk hy
  have S9 := Aside0.mk (below_more U8.out st)
  obtain ⟨W9, hW⟩ : ∃ W, (w9.alloc (.cells (c64 (List.replicate 4 0)) 63)).setRow w9.heap.size (c64 (dg 4 y)) = W := ⟨_, rfl⟩
  obtain ⟨b1, b2⟩ := boxed4 w9 y
  rw [hW] at b1 b2
  have Q9 := Aside0.mk ((Q9.out.below st).below b1)
  have Q13 := Aside0.mk ((Q13.out.below st).below b1)
  have Q15 := Aside0.mk b2
  have U9 := Aside0.mk (below_more S9.out b1)
  have SZ9 := Aside0.mk (c64_info info63 (dg_length 4 y))
  have SN9 := Aside0.mk (show (c64 (List.replicate 4 0)).size = (c64 (dg 4 y)).size from c64_sizes (by rw [dg_length]; rfl))
  obtain ⟨p15, hp⟩ : ∃ p, w9.heap.size = p := ⟨_, rfl⟩
  have hn := heap_alloc_new w9 (.cells (c64 (List.replicate 4 0)) 63)
  rw [hp] at Q15 hn hW
  have HN9 := Aside0.mk hn
  have HW9 := Aside0.mk hW
  clear hy st b1 b2 U8 S9 hn hW
  go_wp2_with (refine wpList_store_row rfl 63 (.tmp 15) (.tmp 71) rfl p15 (c64 (dg 4 y)) (by first | rfl | (rw [← hp]; rfl)) rfl 63 _ HN9.out SZ9.out SN9.out (c64_all _) ?_)
  rw [show (w9.alloc (.cells #[.int .u64 0, .int .u64 0, .int .u64 0, .int .u64 0] 63)).setRow p15 (c64 (dg 4 y)) = W9 from HW9.out]
  clear HN9 HW9 SN9 hp
  refine (long_n (RA.out.below U9.out)).mono ?_
  rintro e w10 ⟨rfl, st⟩
  have U10 := Aside0.mk (below_more U9.out st)
  have Q9 := Aside0.mk (Q9.out.below st)
  have Q13 := Aside0.mk (Q13.out.below st)
  have Q15 := Aside0.mk (Q15.out.below st)
  clear st U9
  have dl : ∀ xs : List Int, 80 < xs.length → decide ((xs.length : Int) > 80) = true := fun xs h => decide_eq_true (by omega)
  have ds : ∀ xs : List Int, xs.length ≤ 80 → decide ((xs.length : Int) > 80) = false := fun xs h => decide_eq_false (by omega)
  have DL := Aside0.mk dl
  have DS := Aside0.mk ds
  clear dl ds
  by_cases hla : 80 < ka.length
  · rw [DL.out ka hla]
    obtain rfl := HCx.out.2 hla
    have HLA := Aside0.mk hla
    clear hla
    go_wp2_with fail
    refine (long_n (RA.out.below U10.out)).mono ?_
    rintro e w11 ⟨rfl, st⟩
    rw [DL.out ka HLA.out]
    have U11 := Aside0.mk (below_more U10.out st)
    clear st U10
    go_wp2_with fail
    refine (long_n (RB.out.below U11.out)).mono ?_
    rintro e w12 ⟨rfl, st⟩
    have U12 := Aside0.mk (below_more U11.out st)
    clear st U11
    by_cases hlb : 80 < kb.length
    · rw [DL.out kb hlb]
      obtain rfl := HCy.out.2 hlb
      clear hlb
      go_wp2_with fail
      go_ret
      exact ⟨rfl, below_more HB1.out U12.out⟩
    · rw [DS.out kb (by omega)]
      obtain rfl := (HCy.out.1 (by omega)).1
      clear hlb
      go_wp2_with fail
      go_ret
      exact ⟨rfl, below_more HB1.out U12.out⟩
  rw [DS.out ka (by omega)]
  have la80 : ka.length ≤ 80 := by omega
  have hx := HCx.out.1 la80
  obtain rfl := hx.1
  have Hx := Aside0.mk (EA.out ▸ hx.2)
  have DNa := Aside0.mk (show ∀ w', Below w7.heap.size w7 w' → DN w' va a 80 from fun w' hb => ⟨ka, RA.out.below hb, DA.out, EA.out, la80⟩)
  have LA80 := Aside0.mk la80
  clear hla hx HCx la80
  go_wp2_with fail
  refine (long_n (RB.out.below U10.out)).mono ?_
  rintro e w11 ⟨rfl, st⟩
  have U11 := Aside0.mk (below_more U10.out st)
  have Q9 := Aside0.mk (Q9.out.below st)
  have Q13 := Aside0.mk (Q13.out.below st)
  have Q15 := Aside0.mk (Q15.out.below st)
  clear st U10
  by_cases hlb : 80 < kb.length
  · rw [DL.out kb hlb]
    obtain rfl := HCy.out.2 hlb
    have HLB := Aside0.mk hlb
    clear hlb
    go_wp2_with fail
    refine (long_n (RA.out.below U11.out)).mono ?_
    rintro e w12 ⟨rfl, st⟩
    rw [DS.out ka LA80.out]
    have U12 := Aside0.mk (below_more U11.out st)
    clear st U11
    go_wp2_with fail
    refine (long_n (RB.out.below U12.out)).mono ?_
    rintro e w13 ⟨rfl, st⟩
    rw [DL.out kb HLB.out]
    have U13 := Aside0.mk (below_more U12.out st)
    clear st U12
    go_wp2_with fail
    go_ret
    exact ⟨rfl, below_more HB1.out U13.out⟩
  rw [DS.out kb (by omega)]
  have lb80 : kb.length ≤ 80 := by omega
  have hy := HCy.out.1 lb80
  obtain rfl := hy.1
  have Hy := Aside0.mk (EB.out ▸ hy.2)
  have DNb := Aside0.mk (show ∀ w', Below w7.heap.size w7 w' → DN w' vb b 80 from fun w' hb => ⟨kb, RB.out.below hb, DB.out, EB.out, lb80⟩)
  obtain ⟨E, hE⟩ := Int.eq_ofNat_of_zero_le (nv_nonneg B64_pos DE.out)
  obtain ⟨p, hp⟩ : ∃ p, p = a % m := ⟨_, rfl⟩
  obtain ⟨q, hq⟩ : ∃ q, q = b % m := ⟨_, rfl⟩
  have HE := Aside0.mk hE
  have HDE := DE
  have HPe := Aside0.mk hp
  have HQe := Aside0.mk hq
  clear hlb hy HCy lb80 hE hp hq DL DS LA80
  go_wp2_with fail
  refine (digits_n (DNa.out _ U11.out) (by decide)).mono ?_
  rintro e w12 ⟨vda, rfl, hd, st⟩
  have U12 := Aside0.mk (below_more U11.out st)
  have Q9 := Aside0.mk (Q9.out.below st)
  have Q13 := Aside0.mk (Q13.out.below st)
  have Q15 := Aside0.mk (Q15.out.below st)
  have DA1 := Aside0.mk hd
  clear st U11 hd
  go_wp2_with fail
  refine (by_n p DA1.out (DD.out.below U12.out) (by decide) (by decide) HP.out.pos HPe.out).mono ?_
  rintro e w13 ⟨vp, rfl, hd, st⟩
  have U13 := Aside0.mk (below_more U12.out st)
  have Q9 := Aside0.mk (Q9.out.below st)
  have Q13 := Aside0.mk (Q13.out.below st)
  have Q15 := Aside0.mk (Q15.out.below st)
  have DP := Aside0.mk hd
  clear st U12 hd DA1
  go_wp2_with fail
  refine (digits_n (DNb.out _ U13.out) (by decide)).mono ?_
  rintro e w14 ⟨vdb, rfl, hd, st⟩
  have U14 := Aside0.mk (below_more U13.out st)
  have Q9 := Aside0.mk (Q9.out.below st)
  have Q13 := Aside0.mk (Q13.out.below st)
  have Q15 := Aside0.mk (Q15.out.below st)
  have DP := Aside0.mk (DP.out.below st)
  have DB1 := Aside0.mk hd
  clear st U13 hd
  go_wp2_with fail
  refine (by_n q DB1.out (DD.out.below U14.out) (by decide) (by decide) HP.out.pos HQe.out).mono ?_
  rintro e w15 ⟨vq, rfl, hd, st⟩
  have U15 := Aside0.mk (below_more U14.out st)
  have VB := Aside0.mk (below_more HB1.out U15.out)
  have Bx9 := Aside0.mk (Q9.out.below st)
  have Bx13 := Aside0.mk (Q13.out.below st)
  have Bx15 := Aside0.mk (Q15.out.below st)
  have DP := Aside0.mk (DP.out.below st)
  have DQ := Aside0.mk hd
  have DD := Aside0.mk (DD.out.below U15.out)
  have HFA := Aside0.mk (HF.out _ U15.out)
  have RE := Aside0.mk (RE.out.below U15.out)
  obtain ⟨Ap, np, cp, hvp, hnp⟩ := DG.len4 DP.out
  subst hvp
  obtain ⟨e1, he1⟩ : ∃ b, b = decide (dg 4 x = dg 4 y) := ⟨_, rfl⟩
  obtain ⟨e2, he2⟩ : ∃ b, b = decide (dg 4 x = dg 4 0) := ⟨_, rfl⟩
  have hxy := elt_eq4 HP.out Hx.out Hy.out
  have hx0 := elt_eq4 HP.out Hx.out (mo_zero 4 m).symm
  have HE1 := Aside0.mk he1
  have HE2 := Aside0.mk he2
  have HPQ := Aside0.mk (show decide (p = q) = e1 from by rw [he1]; exact decide_eq_decide.2 (by rw [hxy, HPe.out, HQe.out]))
  have n0 : decide (((np : Nat) : Int) = 0) = e2 := by
    rw [he2]; exact decide_eq_decide.2 (by rw [hx0, Int.zero_emod, ← HPe.out, ← hnp]; omega)
  have HN0 := Aside0.mk n0
  clear st hd U14 DB1 Q9 Q13 Q15 DNa DNb RA RB DA DB EA EB HF HB1 U15 hnp he1 he2 hxy hx0 n0
  go_upto_region 15 with fail
  refine wp_region_noPanic ?_
  refine wp_region_held_drew (S := (fun w' => Aside0 (Below w15.heap.size w15 w'))) (by kernel_rfl) ⟨below_drew (Below.refl _ _)⟩ (fun hHeld => ?_)
  refine tkG 0 (v := ?_) rfl (by kernel_rfl) (by kernel_rfl) (by kernel_rfl) (fun _ _ _ h => h) (Or.inl ⟨wantedN rfl, ?_⟩) hHeld ?_
  rotate_left; · (intro w' hSw;  go_simp; first | done | with_reducible rfl)
  try simp only [Act.put, List.getElem_toArray, List.getElem_cons_succ, List.getElem_cons_zero, List.setIfInBounds_toArray, List.set_cons_zero, List.set_cons_succ]
  refine tkG 1 (v := ?_) rfl (by kernel_rfl) (by kernel_rfl) (by kernel_rfl) (fun _ _ _ h => h) (Or.inl ⟨wantedN rfl, ?_⟩) hHeld ?_
  rotate_left; · (intro w' hSw;  go_simp; first | done | with_reducible rfl)
  try simp only [Act.put, List.getElem_toArray, List.getElem_cons_succ, List.getElem_cons_zero, List.setIfInBounds_toArray, List.set_cons_zero, List.set_cons_succ]
  refine tkG 2 (v := ?_) rfl (by kernel_rfl) (by kernel_rfl) (by kernel_rfl) (fun _ _ _ h => h) (Or.inl ⟨wantedN rfl, ?_⟩) hHeld ?_
  rotate_left; · (intro w' hSw;  go_simp; first | done | with_reducible rfl)
  try simp only [Act.put, List.getElem_toArray, List.getElem_cons_succ, List.getElem_cons_zero, List.setIfInBounds_toArray, List.set_cons_zero, List.set_cons_succ]
  refine tkG 3 (v := ?_) rfl (by kernel_rfl) (by kernel_rfl) (by kernel_rfl) (fun _ _ _ h => h) (Or.inl ⟨wantedG 2 false rfl rfl rfl rfl, ?_⟩) hHeld ?_
  rotate_left; · (intro w' hSw;  go_simp; first | done | with_reducible rfl)
  try simp only [Act.put, List.getElem_toArray, List.getElem_cons_succ, List.getElem_cons_zero, List.setIfInBounds_toArray, List.set_cons_zero, List.set_cons_succ]
  refine tkG 4 (v := ?_) rfl (by kernel_rfl) (by kernel_rfl) (by kernel_rfl) (fun _ _ _ h => h) (Or.inl ⟨wantedG 2 false rfl rfl rfl rfl, ?_⟩) hHeld ?_
  rotate_left; · (intro w' hSw;  go_simp; first | done | with_reducible rfl)
  try simp only [Act.put, List.getElem_toArray, List.getElem_cons_succ, List.getElem_cons_zero, List.setIfInBounds_toArray, List.set_cons_zero, List.set_cons_succ]
  refine tkG 5 (v := ?_) rfl (by kernel_rfl) (by kernel_rfl) (by kernel_rfl) (fun _ _ _ h => h) (Or.inl ⟨wantedN rfl, ?_⟩) hHeld ?_
  rotate_left; · (intro w' hSw;  go_simp; first | done | with_reducible rfl)
  try simp only [Act.put, List.getElem_toArray, List.getElem_cons_succ, List.getElem_cons_zero, List.setIfInBounds_toArray, List.set_cons_zero, List.set_cons_succ]
  refine tkG 6 (v := ?_) rfl (by kernel_rfl) (by kernel_rfl) (by kernel_rfl) (fun _ _ _ h => h) (Or.inl ⟨wantedN rfl, ?_⟩) hHeld ?_
  rotate_left; · (intro w' hSw;  go_simp; first | done | with_reducible rfl)
  try simp only [Act.put, List.getElem_toArray, List.getElem_cons_succ, List.getElem_cons_zero, List.setIfInBounds_toArray, List.set_cons_zero, List.set_cons_succ]
  refine tkG 7 (v := ?_) rfl (by kernel_rfl) (by kernel_rfl) (by kernel_rfl) (fun _ _ _ h => h) (Or.inl ⟨wantedG 6 false rfl rfl rfl rfl, ?_⟩) hHeld ?_
  rotate_left; · (intro w' hSw;  go_simp; first | done | with_reducible rfl)
  try simp only [Act.put, List.getElem_toArray, List.getElem_cons_succ, List.getElem_cons_zero, List.setIfInBounds_toArray, List.set_cons_zero, List.set_cons_succ]
  refine tkG 8 (v := elt 4 x) rfl (by kernel_rfl) (by kernel_rfl) (by kernel_rfl) (fun _ _ _ h => h) (Or.inl ⟨wantedG 6 false rfl rfl rfl rfl, fun w' hSw => loadG 63 (.tmp 13) rfl ⟨p13, 0, none⟩ rfl (elt_load63 (Bx13.out.below hSw.out))⟩) hHeld ?_
  try simp only [Act.put, List.getElem_toArray, List.getElem_cons_succ, List.getElem_cons_zero, List.setIfInBounds_toArray, List.set_cons_zero, List.set_cons_succ]
  refine tkG 9 (v := ?_) rfl (by kernel_rfl) (by kernel_rfl) (by kernel_rfl) (fun _ _ _ h => h) (Or.inl ⟨wantedG 6 false rfl rfl rfl rfl, ?_⟩) hHeld ?_
  rotate_left; · (intro w' hSw;  go_simp; first | done | with_reducible rfl)
  try simp only [Act.put, List.getElem_toArray, List.getElem_cons_succ, List.getElem_cons_zero, List.setIfInBounds_toArray, List.set_cons_zero, List.set_cons_succ]
  refine brG 10 rfl (by kernel_rfl) (fun K hK => ?_)
  go_simp
  refine (isT4 a p (HFA.out.below hHeld.out) Hx.out (DP.out.below hHeld.out) (by decide) HPe.out.symm).mono ?_
  rintro e w1 ⟨rfl, st⟩
  have H1 := Aside0.mk (below_more hHeld.out st)
  clear st
  refine hK.out _ _ H1 (fun hHeld => ?_)
  clear H1
  clear hK K
  try simp only [Act.put, List.getElem_toArray, List.getElem_cons_succ, List.getElem_cons_zero, List.setIfInBounds_toArray, List.set_cons_zero, List.set_cons_succ]
  refine tkG 11 (v := ?_) rfl (by kernel_rfl) (by kernel_rfl) (by kernel_rfl) (fun _ _ _ h => h) (Or.inl ⟨wantedG 6 false rfl rfl rfl rfl, ?_⟩) hHeld ?_
  rotate_left; · (intro w' hSw;  go_simp; first | done | with_reducible rfl)
  try simp only [Act.put, List.getElem_toArray, List.getElem_cons_succ, List.getElem_cons_zero, List.setIfInBounds_toArray, List.set_cons_zero, List.set_cons_succ]
  refine tkG 12 (v := ?_) rfl (by kernel_rfl) (by kernel_rfl) (by kernel_rfl) (fun _ _ _ h => h) (Or.inl ⟨wantedN rfl, ?_⟩) hHeld ?_
  rotate_left; · (intro w' hSw;  go_simp; first | done | with_reducible rfl)
  try simp only [Act.put, List.getElem_toArray, List.getElem_cons_succ, List.getElem_cons_zero, List.setIfInBounds_toArray, List.set_cons_zero, List.set_cons_succ]
  refine tkG 13 (v := ?_) rfl (by kernel_rfl) (by kernel_rfl) (by kernel_rfl) (fun _ _ _ h => h) (Or.inl ⟨wantedN rfl, ?_⟩) hHeld ?_
  rotate_left; · (intro w' hSw;  go_simp; first | done | with_reducible rfl)
  try simp only [Act.put, List.getElem_toArray, List.getElem_cons_succ, List.getElem_cons_zero, List.setIfInBounds_toArray, List.set_cons_zero, List.set_cons_succ]
  refine tkG 14 (v := ?_) rfl (by kernel_rfl) (by kernel_rfl) (by kernel_rfl) (fun _ _ _ h => h) (Or.inl ⟨wantedG 13 false rfl rfl rfl rfl, ?_⟩) hHeld ?_
  rotate_left; · (intro w' hSw;  go_simp; first | done | with_reducible rfl)
  try simp only [Act.put, List.getElem_toArray, List.getElem_cons_succ, List.getElem_cons_zero, List.setIfInBounds_toArray, List.set_cons_zero, List.set_cons_succ]
  refine tkG 15 (v := elt 4 y) rfl (by kernel_rfl) (by kernel_rfl) (by kernel_rfl) (fun _ _ _ h => h) (Or.inl ⟨wantedG 13 false rfl rfl rfl rfl, fun w' hSw => loadG 63 (.tmp 15) rfl ⟨p15, 0, none⟩ rfl (elt_load63 (Bx15.out.below hSw.out))⟩) hHeld ?_
  try simp only [Act.put, List.getElem_toArray, List.getElem_cons_succ, List.getElem_cons_zero, List.setIfInBounds_toArray, List.set_cons_zero, List.set_cons_succ]
  refine tkG 16 (v := ?_) rfl (by kernel_rfl) (by kernel_rfl) (by kernel_rfl) (fun _ _ _ h => h) (Or.inl ⟨wantedG 13 false rfl rfl rfl rfl, ?_⟩) hHeld ?_
  rotate_left; · (intro w' hSw;  go_simp; first | done | with_reducible rfl)
  try simp only [Act.put, List.getElem_toArray, List.getElem_cons_succ, List.getElem_cons_zero, List.setIfInBounds_toArray, List.set_cons_zero, List.set_cons_succ]
  refine brG 17 rfl (by kernel_rfl) (fun K hK => ?_)
  go_simp
  refine (isT4 b q (HFA.out.below hHeld.out) Hy.out (DQ.out.below hHeld.out) (by decide) HQe.out.symm).mono ?_
  rintro e w1 ⟨rfl, st⟩
  have H1 := Aside0.mk (below_more hHeld.out st)
  clear st
  refine hK.out _ _ H1 (fun hHeld => ?_)
  clear H1
  clear hK K
  try simp only [Act.put, List.getElem_toArray, List.getElem_cons_succ, List.getElem_cons_zero, List.setIfInBounds_toArray, List.set_cons_zero, List.set_cons_succ]
  refine tkG 18 (v := ?_) rfl (by kernel_rfl) (by kernel_rfl) (by kernel_rfl) (fun _ _ _ h => h) (Or.inl ⟨wantedG 13 false rfl rfl rfl rfl, ?_⟩) hHeld ?_
  rotate_left; · (intro w' hSw;  go_simp; first | done | with_reducible rfl)
  try simp only [Act.put, List.getElem_toArray, List.getElem_cons_succ, List.getElem_cons_zero, List.setIfInBounds_toArray, List.set_cons_zero, List.set_cons_succ]
  refine tkG 19 (v := ?_) rfl (by kernel_rfl) (by kernel_rfl) (by kernel_rfl) (fun _ _ _ h => h) (Or.inl ⟨wantedN rfl, ?_⟩) hHeld ?_
  rotate_left; · (intro w' hSw;  go_simp; first | done | with_reducible rfl)
  try simp only [Act.put, List.getElem_toArray, List.getElem_cons_succ, List.getElem_cons_zero, List.setIfInBounds_toArray, List.set_cons_zero, List.set_cons_succ]
  refine tkG 20 (v := ?_) rfl (by kernel_rfl) (by kernel_rfl) (by kernel_rfl) (fun _ _ _ h => h) (Or.inl ⟨wantedN rfl, ?_⟩) hHeld ?_
  rotate_left; · (intro w' hSw;  go_simp; first | done | with_reducible rfl)
  try simp only [Act.put, List.getElem_toArray, List.getElem_cons_succ, List.getElem_cons_zero, List.setIfInBounds_toArray, List.set_cons_zero, List.set_cons_succ]
  refine tkG 21 (v := elt 4 x) rfl (by kernel_rfl) (by kernel_rfl) (by kernel_rfl) (fun _ _ _ h => h) (Or.inl ⟨wantedG 20 false rfl rfl rfl rfl, fun w' hSw => loadG 63 (.tmp 13) rfl ⟨p13, 0, none⟩ rfl (elt_load63 (Bx13.out.below hSw.out))⟩) hHeld ?_
  try simp only [Act.put, List.getElem_toArray, List.getElem_cons_succ, List.getElem_cons_zero, List.setIfInBounds_toArray, List.set_cons_zero, List.set_cons_succ]
  refine tkG 22 (v := elt 4 y) rfl (by kernel_rfl) (by kernel_rfl) (by kernel_rfl) (fun _ _ _ h => h) (Or.inl ⟨wantedG 20 false rfl rfl rfl rfl, fun w' hSw => loadG 63 (.tmp 15) rfl ⟨p15, 0, none⟩ rfl (elt_load63 (Bx15.out.below hSw.out))⟩) hHeld ?_
  try simp only [Act.put, List.getElem_toArray, List.getElem_cons_succ, List.getElem_cons_zero, List.setIfInBounds_toArray, List.set_cons_zero, List.set_cons_succ]
  refine tkG 23 (v := .bool e1) rfl (by kernel_rfl) (by kernel_rfl) (by kernel_rfl) (fun _ _ _ h => h) (Or.inl ⟨wantedG 20 false rfl rfl rfl rfl, fun w' hSw => eqlV4 rfl rfl rfl HE1.out⟩) hHeld ?_
  try simp only [Act.put, List.getElem_toArray, List.getElem_cons_succ, List.getElem_cons_zero, List.setIfInBounds_toArray, List.set_cons_zero, List.set_cons_succ]
  refine tkG 24 (v := ?_) rfl (by kernel_rfl) (by kernel_rfl) (by kernel_rfl) (fun _ _ _ h => h) (Or.inl ⟨wantedG 20 false rfl rfl rfl rfl, ?_⟩) hHeld ?_
  rotate_left; · (intro w' hSw;  go_simp; first | done | with_reducible rfl)
  try simp only [Act.put, List.getElem_toArray, List.getElem_cons_succ, List.getElem_cons_zero, List.setIfInBounds_toArray, List.set_cons_zero, List.set_cons_succ]
  refine tkG 26 (v := ?_) rfl (by kernel_rfl) (by kernel_rfl) (by kernel_rfl) (fun _ _ _ h => h) (Or.inl ⟨wantedG 20 false rfl rfl rfl rfl, ?_⟩) hHeld ?_
  rotate_left; · (intro w' hSw;  go_simp; first | done | with_reducible rfl)
  try simp only [Act.put, List.getElem_toArray, List.getElem_cons_succ, List.getElem_cons_zero, List.setIfInBounds_toArray, List.set_cons_zero, List.set_cons_succ]
  refine brG 25 rfl (by kernel_rfl) (fun K hK => ?_)
  go_simp
  refine (words_n (DP.out.below hHeld.out) (by decide)).mono ?_
  rintro e w1 ⟨vwp, rfl, cn, st⟩
  have CP := Aside0.mk cn
  have CPB := Aside0.mk (show ∀ w', Below w1.heap.size w1 w' → CN w' vwp p ((4 * 80 + 3) / 4) from fun w' hb => CP.out.below hb)
  clear cn
  have H1 := Aside0.mk (below_more hHeld.out st)
  clear st
  refine hK.out _ _ H1 (fun hHeld => ?_)
  clear H1
  clear hK K
  try simp only [Act.put, List.getElem_toArray, List.getElem_cons_succ, List.getElem_cons_zero, List.setIfInBounds_toArray, List.set_cons_zero, List.set_cons_succ]
  refine brG 27 rfl (by kernel_rfl) (fun K hK => ?_)
  go_simp
  refine (words_n (DQ.out.below hHeld.out) (by decide)).mono ?_
  rintro e w1 ⟨vwq, rfl, cn, st⟩
  have CQ := Aside0.mk cn
  have CP2 := Aside0.mk (CPB.out _ st)
  clear cn
  have H1 := Aside0.mk (below_more hHeld.out st)
  clear st
  refine hK.out _ _ H1 (fun hHeld => ?_)
  clear H1
  clear hK K
  try simp only [Act.put, List.getElem_toArray, List.getElem_cons_succ, List.getElem_cons_zero, List.setIfInBounds_toArray, List.set_cons_zero, List.set_cons_succ]
  refine brG 28 rfl (by kernel_rfl) (fun K hK => ?_)
  go_simp
  refine (same_n CP2.out CQ.out (by decide)).mono ?_
  rintro e w1 ⟨rfl, st⟩
  rw [HPQ.out]
  have H1 := Aside0.mk (below_more hHeld.out st)
  clear st
  refine hK.out _ _ H1 (fun hHeld => ?_)
  clear H1
  clear hK K
  try simp only [Act.put, List.getElem_toArray, List.getElem_cons_succ, List.getElem_cons_zero, List.setIfInBounds_toArray, List.set_cons_zero, List.set_cons_succ]
  refine tkG 29 (v := .bool false) rfl (by kernel_rfl) (by kernel_rfl) (by kernel_rfl) (fun _ _ _ h => h) (Or.inl ⟨wantedG 20 false rfl rfl rfl rfl, fun w' hSw => neqB4 (b := e1) rfl rfl rfl⟩) hHeld ?_
  try simp only [Act.put, List.getElem_toArray, List.getElem_cons_succ, List.getElem_cons_zero, List.setIfInBounds_toArray, List.set_cons_zero, List.set_cons_succ]
  refine tkG 30 (v := ?_) rfl (by kernel_rfl) (by kernel_rfl) (by kernel_rfl) (fun _ _ _ h => h) (Or.inl ⟨wantedN rfl, ?_⟩) hHeld ?_
  rotate_left; · (intro w' hSw;  go_simp; first | done | with_reducible rfl)
  try simp only [Act.put, List.getElem_toArray, List.getElem_cons_succ, List.getElem_cons_zero, List.setIfInBounds_toArray, List.set_cons_zero, List.set_cons_succ]
  refine tkG 31 (v := ?_) rfl (by kernel_rfl) (by kernel_rfl) (by kernel_rfl) (fun _ _ _ h => h) (Or.inl ⟨wantedN rfl, ?_⟩) hHeld ?_
  rotate_left; · (intro w' hSw;  go_simp; first | done | with_reducible rfl)
  try simp only [Act.put, List.getElem_toArray, List.getElem_cons_succ, List.getElem_cons_zero, List.setIfInBounds_toArray, List.set_cons_zero, List.set_cons_succ]
  refine tkG 32 (v := elt 4 x) rfl (by kernel_rfl) (by kernel_rfl) (by kernel_rfl) (fun _ _ _ h => h) (Or.inl ⟨wantedG 31 false rfl rfl rfl rfl, fun w' hSw => loadG 63 (.tmp 13) rfl ⟨p13, 0, none⟩ rfl (elt_load63 (Bx13.out.below hSw.out))⟩) hHeld ?_
  try simp only [Act.put, List.getElem_toArray, List.getElem_cons_succ, List.getElem_cons_zero, List.setIfInBounds_toArray, List.set_cons_zero, List.set_cons_succ]
  refine tkG 33 (v := elt 4 (0 : Int)) rfl (by kernel_rfl) (by kernel_rfl) (by kernel_rfl) (fun _ _ _ h => h) (Or.inl ⟨wantedG 31 false rfl rfl rfl rfl, fun w' hSw => loadG 63 (.tmp 9) rfl ⟨w.heap.size, 0, none⟩ rfl (elt_load63 (Bx9.out.below hSw.out))⟩) hHeld ?_
  try simp only [Act.put, List.getElem_toArray, List.getElem_cons_succ, List.getElem_cons_zero, List.setIfInBounds_toArray, List.set_cons_zero, List.set_cons_succ]
  refine tkG 34 (v := .bool e2) rfl (by kernel_rfl) (by kernel_rfl) (by kernel_rfl) (fun _ _ _ h => h) (Or.inl ⟨wantedG 31 false rfl rfl rfl rfl, fun w' hSw => eqlV4 rfl rfl rfl HE2.out⟩) hHeld ?_
  try simp only [Act.put, List.getElem_toArray, List.getElem_cons_succ, List.getElem_cons_zero, List.setIfInBounds_toArray, List.set_cons_zero, List.set_cons_succ]
  refine tkG 35 (v := ?_) rfl (by kernel_rfl) (by kernel_rfl) (by kernel_rfl) (fun _ _ _ h => h) (Or.inl ⟨wantedG 31 false rfl rfl rfl rfl, ?_⟩) hHeld ?_
  rotate_left; · (intro w' hSw;  go_simp; first | done | with_reducible rfl)
  try simp only [Act.put, List.getElem_toArray, List.getElem_cons_succ, List.getElem_cons_zero, List.setIfInBounds_toArray, List.set_cons_zero, List.set_cons_succ]
  refine tkG 36 (v := ?_) rfl (by kernel_rfl) (by kernel_rfl) (by kernel_rfl) (fun _ _ _ h => h) (Or.inl ⟨wantedG 31 false rfl rfl rfl rfl, ?_⟩) hHeld ?_
  rotate_left; · (intro w' hSw;  go_simp; first | done | with_reducible rfl)
  try simp only [Act.put, List.getElem_toArray, List.getElem_cons_succ, List.getElem_cons_zero, List.setIfInBounds_toArray, List.set_cons_zero, List.set_cons_succ]
  refine tkG 37 (v := .bool e2) rfl (by kernel_rfl) (by kernel_rfl) (by kernel_rfl) (fun _ _ _ h => h) (Or.inl ⟨wantedG 31 false rfl rfl rfl rfl, fun w' hSw => eql04 rfl rfl HN0.out⟩) hHeld ?_
  try simp only [Act.put, List.getElem_toArray, List.getElem_cons_succ, List.getElem_cons_zero, List.setIfInBounds_toArray, List.set_cons_zero, List.set_cons_succ]
  refine tkG 38 (v := .bool false) rfl (by kernel_rfl) (by kernel_rfl) (by kernel_rfl) (fun _ _ _ h => h) (Or.inl ⟨wantedG 31 false rfl rfl rfl rfl, fun w' hSw => neqB4 (b := e2) rfl rfl rfl⟩) hHeld ?_
  try simp only [Act.put, List.getElem_toArray, List.getElem_cons_succ, List.getElem_cons_zero, List.setIfInBounds_toArray, List.set_cons_zero, List.set_cons_succ]
  refine tkG 39 (v := ?_) rfl (by kernel_rfl) (by kernel_rfl) (by kernel_rfl) (fun _ _ _ h => h) (Or.inl ⟨wantedN rfl, ?_⟩) hHeld ?_
  rotate_left; · (intro w' hSw;  go_simp; first | done | with_reducible rfl)
  try simp only [Act.put, List.getElem_toArray, List.getElem_cons_succ, List.getElem_cons_zero, List.setIfInBounds_toArray, List.set_cons_zero, List.set_cons_succ]
  refine wpAnyH_done (by kernel_rfl) ?_ _
  refine NoPanic.normal ?_
  have U16 := Aside0.mk (show Below w15.heap.size w15 _ from hHeld.out)
  have SX := Aside0.mk (c64_info info63 (dg_length 4 x))
  have SY := Aside0.mk (c64_info info63 (dg_length 4 y))
  clear hHeld HPQ HE1 HE2 HN0 Bx9
  have cp : Cg m p a := HPe.out ▸ Cg.mod m a
  have cq : Cg m q b := HQe.out ▸ Cg.mod m b
  have cn : Cg m (m - p) (-a) := Cg.trans ⟨1, by grind⟩ cp.neg
  have cs : Cg m (p + (m - q)) (a - b) := Cg.trans ⟨1, by grind⟩ (cp.sub cq)
  obtain ⟨s1, hs⟩ : ∃ v, v = mo 4 m (a + b) := ⟨_, rfl⟩
  obtain ⟨z1, hz⟩ : ∃ v, v = (p + q) % m := ⟨_, rfl⟩
  have HS1 := Aside0.mk hs
  have HZ1 := Aside0.mk hz
  have HK1 := Aside0.mk (show (a + b) % m = z1 from by rw [hz]; exact (cp.add cq).emod.symm)
  clear hs hz
  obtain ⟨s2, hs⟩ : ∃ v, v = mo 4 m (a * b) := ⟨_, rfl⟩
  obtain ⟨z2, hz⟩ : ∃ v, v = (p * q) % m := ⟨_, rfl⟩
  have HS2 := Aside0.mk hs
  have HZ2 := Aside0.mk hz
  have HK2 := Aside0.mk (show (a * b) % m = z2 from by rw [hz]; exact (cp.mul cq).emod.symm)
  clear hs hz
  obtain ⟨s3, hs⟩ : ∃ v, v = mo 4 m (-a) := ⟨_, rfl⟩
  obtain ⟨z3, hz⟩ : ∃ v, v = (m - p) % m := ⟨_, rfl⟩
  have HS3 := Aside0.mk hs
  have HZ3 := Aside0.mk hz
  have HK3 := Aside0.mk (show (-a) % m = z3 from by rw [hz]; exact (cn).emod.symm)
  clear hs hz
  obtain ⟨s4, hs⟩ : ∃ v, v = mo 4 m (a - b) := ⟨_, rfl⟩
  obtain ⟨z4, hz⟩ : ∃ v, v = (p + (m - q)) % m := ⟨_, rfl⟩
  have HS4 := Aside0.mk hs
  have HZ4 := Aside0.mk hz
  have HK4 := Aside0.mk (show (a - b) % m = z4 from by rw [hz]; exact (cs).emod.symm)
  clear hs hz
  obtain ⟨s5, hs⟩ : ∃ v, v = mo 4 m (a ^ E) := ⟨_, rfl⟩
  obtain ⟨z5, hz⟩ : ∃ v, v = (p ^ E) % m := ⟨_, rfl⟩
  have HS5 := Aside0.mk hs
  have HZ5 := Aside0.mk hz
  have HK5 := Aside0.mk (show (a ^ E) % m = z5 from by rw [hz]; exact (cp.pow E).emod.symm)
  clear hs hz
  have hpm : p < m := by rw [HPe.out]; exact Int.emod_lt_of_pos _ HP.out.pos
  have hqm : q < m := by rw [HQe.out]; exact Int.emod_lt_of_pos _ HP.out.pos
  have LP := Aside0.mk (Int.le_of_lt hpm)
  have LQ := Aside0.mk (Int.le_of_lt hqm)
  clear cp cq cn cs hpm hqm
  go_wp2_with (first | (refine wpList_load_rowG (by rfl) 63 (.tmp 13) rfl _ rfl 63 (c64 (dg 4 x)) (0, 0) _ (Bx13.out.below U16.out).out Try.underlying63 rfl SX.out ?_) | (refine wpList_load_rowG (by rfl) 63 (.tmp 15) rfl _ rfl 63 (c64 (dg 4 y)) (0, 0) _ (Bx15.out.below U16.out).out Try.underlying63 rfl SY.out ?_))
  refine (addM4 (x := x) (y := y) a b s1 (HFA.out.below U16.out) Hx.out Hy.out HS1.out).mono ?_
  rintro e w17 ⟨rfl, st⟩
  have U17 := Aside0.mk (below_more U16.out st)
  clear st U16
  go_wp2_with (first | (refine wpList_load_rowG (by rfl) 63 (.tmp 13) rfl _ rfl 63 (c64 (dg 4 x)) (0, 0) _ (Bx13.out.below U17.out).out Try.underlying63 rfl SX.out ?_) | (refine wpList_load_rowG (by rfl) 63 (.tmp 15) rfl _ rfl 63 (c64 (dg 4 y)) (0, 0) _ (Bx15.out.below U17.out).out Try.underlying63 rfl SY.out ?_))
  refine (plus_n (DP.out.below U17.out) (DQ.out.below U17.out) (by decide)).mono ?_
  rintro e w18 ⟨vt, rfl, hd, st⟩
  have U18 := Aside0.mk (below_more U17.out st)
  have DT := Aside0.mk hd
  clear st U17 hd
  go_wp2_with (first | (refine wpList_load_rowG (by rfl) 63 (.tmp 13) rfl _ rfl 63 (c64 (dg 4 x)) (0, 0) _ (Bx13.out.below U18.out).out Try.underlying63 rfl SX.out ?_) | (refine wpList_load_rowG (by rfl) 63 (.tmp 15) rfl _ rfl 63 (c64 (dg 4 y)) (0, 0) _ (Bx15.out.below U18.out).out Try.underlying63 rfl SY.out ?_))
  refine (by_n z1 DT.out (DD.out.below U18.out) (by decide) (by decide) HP.out.pos HZ1.out).mono ?_
  rintro e w19 ⟨vt, rfl, hd, st⟩
  have U19 := Aside0.mk (below_more U18.out st)
  have DR := Aside0.mk hd
  clear st U18 hd DT
  go_wp2_with (first | (refine wpList_load_rowG (by rfl) 63 (.tmp 13) rfl _ rfl 63 (c64 (dg 4 x)) (0, 0) _ (Bx13.out.below U19.out).out Try.underlying63 rfl SX.out ?_) | (refine wpList_load_rowG (by rfl) 63 (.tmp 15) rfl _ rfl 63 (c64 (dg 4 y)) (0, 0) _ (Bx15.out.below U19.out).out Try.underlying63 rfl SY.out ?_))
  refine (isT4 (a + b) z1 (HFA.out.below U19.out) HS1.out DR.out (by decide) HK1.out).mono ?_
  rintro e w20 ⟨rfl, st⟩
  have U20 := Aside0.mk (below_more U19.out st)
  clear st U19 DR
  go_wp2_with (first | (refine wpList_load_rowG (by rfl) 63 (.tmp 13) rfl _ rfl 63 (c64 (dg 4 x)) (0, 0) _ (Bx13.out.below U20.out).out Try.underlying63 rfl SX.out ?_) | (refine wpList_load_rowG (by rfl) 63 (.tmp 15) rfl _ rfl 63 (c64 (dg 4 y)) (0, 0) _ (Bx15.out.below U20.out).out Try.underlying63 rfl SY.out ?_))
  refine (mulM4 (x := x) (y := y) a b s2 (HFA.out.below U20.out) Hx.out Hy.out HS2.out).mono ?_
  rintro e w21 ⟨rfl, st⟩
  have U21 := Aside0.mk (below_more U20.out st)
  clear st U20
  go_wp2_with (first | (refine wpList_load_rowG (by rfl) 63 (.tmp 13) rfl _ rfl 63 (c64 (dg 4 x)) (0, 0) _ (Bx13.out.below U21.out).out Try.underlying63 rfl SX.out ?_) | (refine wpList_load_rowG (by rfl) 63 (.tmp 15) rfl _ rfl 63 (c64 (dg 4 y)) (0, 0) _ (Bx15.out.below U21.out).out Try.underlying63 rfl SY.out ?_))
  refine (times_n (DP.out.below U21.out) (DQ.out.below U21.out) (by decide) (by decide)).mono ?_
  rintro e w22 ⟨vt, rfl, hd, st⟩
  have U22 := Aside0.mk (below_more U21.out st)
  have DT := Aside0.mk hd
  clear st U21 hd
  go_wp2_with (first | (refine wpList_load_rowG (by rfl) 63 (.tmp 13) rfl _ rfl 63 (c64 (dg 4 x)) (0, 0) _ (Bx13.out.below U22.out).out Try.underlying63 rfl SX.out ?_) | (refine wpList_load_rowG (by rfl) 63 (.tmp 15) rfl _ rfl 63 (c64 (dg 4 y)) (0, 0) _ (Bx15.out.below U22.out).out Try.underlying63 rfl SY.out ?_))
  refine (by_n z2 DT.out (DD.out.below U22.out) (by decide) (by decide) HP.out.pos HZ2.out).mono ?_
  rintro e w23 ⟨vt, rfl, hd, st⟩
  have U23 := Aside0.mk (below_more U22.out st)
  have DR := Aside0.mk hd
  clear st U22 hd DT
  go_wp2_with (first | (refine wpList_load_rowG (by rfl) 63 (.tmp 13) rfl _ rfl 63 (c64 (dg 4 x)) (0, 0) _ (Bx13.out.below U23.out).out Try.underlying63 rfl SX.out ?_) | (refine wpList_load_rowG (by rfl) 63 (.tmp 15) rfl _ rfl 63 (c64 (dg 4 y)) (0, 0) _ (Bx15.out.below U23.out).out Try.underlying63 rfl SY.out ?_))
  refine (isT4 (a * b) z2 (HFA.out.below U23.out) HS2.out DR.out (by decide) HK2.out).mono ?_
  rintro e w24 ⟨rfl, st⟩
  have U24 := Aside0.mk (below_more U23.out st)
  clear st U23 DR
  go_wp2_with (first | (refine wpList_load_rowG (by rfl) 63 (.tmp 13) rfl _ rfl 63 (c64 (dg 4 x)) (0, 0) _ (Bx13.out.below U24.out).out Try.underlying63 rfl SX.out ?_) | (refine wpList_load_rowG (by rfl) 63 (.tmp 15) rfl _ rfl 63 (c64 (dg 4 y)) (0, 0) _ (Bx15.out.below U24.out).out Try.underlying63 rfl SY.out ?_))
  refine (negM4 (x := x) a s3 (HFA.out.below U24.out) Hx.out HS3.out).mono ?_
  rintro e w25 ⟨rfl, st⟩
  have U25 := Aside0.mk (below_more U24.out st)
  clear st U24
  go_wp2_with (first | (refine wpList_load_rowG (by rfl) 63 (.tmp 13) rfl _ rfl 63 (c64 (dg 4 x)) (0, 0) _ (Bx13.out.below U25.out).out Try.underlying63 rfl SX.out ?_) | (refine wpList_load_rowG (by rfl) 63 (.tmp 15) rfl _ rfl 63 (c64 (dg 4 y)) (0, 0) _ (Bx15.out.below U25.out).out Try.underlying63 rfl SY.out ?_))
  refine (minus_n (DD.out.below U25.out) (DP.out.below U25.out) (by decide) LP.out).mono ?_
  rintro e w26 ⟨vt, rfl, hd, st⟩
  have U26 := Aside0.mk (below_more U25.out st)
  have DT := Aside0.mk hd
  clear st U25 hd
  go_wp2_with (first | (refine wpList_load_rowG (by rfl) 63 (.tmp 13) rfl _ rfl 63 (c64 (dg 4 x)) (0, 0) _ (Bx13.out.below U26.out).out Try.underlying63 rfl SX.out ?_) | (refine wpList_load_rowG (by rfl) 63 (.tmp 15) rfl _ rfl 63 (c64 (dg 4 y)) (0, 0) _ (Bx15.out.below U26.out).out Try.underlying63 rfl SY.out ?_))
  refine (by_n z3 DT.out (DD.out.below U26.out) (by decide) (by decide) HP.out.pos HZ3.out).mono ?_
  rintro e w27 ⟨vt, rfl, hd, st⟩
  have U27 := Aside0.mk (below_more U26.out st)
  have DR := Aside0.mk hd
  clear st U26 hd DT
  go_wp2_with (first | (refine wpList_load_rowG (by rfl) 63 (.tmp 13) rfl _ rfl 63 (c64 (dg 4 x)) (0, 0) _ (Bx13.out.below U27.out).out Try.underlying63 rfl SX.out ?_) | (refine wpList_load_rowG (by rfl) 63 (.tmp 15) rfl _ rfl 63 (c64 (dg 4 y)) (0, 0) _ (Bx15.out.below U27.out).out Try.underlying63 rfl SY.out ?_))
  refine (isT4 (-a) z3 (HFA.out.below U27.out) HS3.out DR.out (by decide) HK3.out).mono ?_
  rintro e w28 ⟨rfl, st⟩
  have U28 := Aside0.mk (below_more U27.out st)
  clear st U27 DR
  go_wp2_with (first | (refine wpList_load_rowG (by rfl) 63 (.tmp 13) rfl _ rfl 63 (c64 (dg 4 x)) (0, 0) _ (Bx13.out.below U28.out).out Try.underlying63 rfl SX.out ?_) | (refine wpList_load_rowG (by rfl) 63 (.tmp 15) rfl _ rfl 63 (c64 (dg 4 y)) (0, 0) _ (Bx15.out.below U28.out).out Try.underlying63 rfl SY.out ?_))
  refine (subM4 (x := x) (y := y) a b s4 (HFA.out.below U28.out) Hx.out Hy.out HS4.out).mono ?_
  rintro e w29 ⟨rfl, st⟩
  have U29 := Aside0.mk (below_more U28.out st)
  clear st U28
  go_wp2_with (first | (refine wpList_load_rowG (by rfl) 63 (.tmp 13) rfl _ rfl 63 (c64 (dg 4 x)) (0, 0) _ (Bx13.out.below U29.out).out Try.underlying63 rfl SX.out ?_) | (refine wpList_load_rowG (by rfl) 63 (.tmp 15) rfl _ rfl 63 (c64 (dg 4 y)) (0, 0) _ (Bx15.out.below U29.out).out Try.underlying63 rfl SY.out ?_))
  refine (minus_n (DD.out.below U29.out) (DQ.out.below U29.out) (by decide) LQ.out).mono ?_
  rintro e w30 ⟨vt, rfl, hd, st⟩
  have U30 := Aside0.mk (below_more U29.out st)
  have DM := Aside0.mk hd
  clear st U29 hd
  go_wp2_with (first | (refine wpList_load_rowG (by rfl) 63 (.tmp 13) rfl _ rfl 63 (c64 (dg 4 x)) (0, 0) _ (Bx13.out.below U30.out).out Try.underlying63 rfl SX.out ?_) | (refine wpList_load_rowG (by rfl) 63 (.tmp 15) rfl _ rfl 63 (c64 (dg 4 y)) (0, 0) _ (Bx15.out.below U30.out).out Try.underlying63 rfl SY.out ?_))
  refine (plus_n (DP.out.below U30.out) DM.out (by decide)).mono ?_
  rintro e w31 ⟨vt, rfl, hd, st⟩
  have U31 := Aside0.mk (below_more U30.out st)
  have DT := Aside0.mk hd
  clear st U30 hd DM
  go_wp2_with (first | (refine wpList_load_rowG (by rfl) 63 (.tmp 13) rfl _ rfl 63 (c64 (dg 4 x)) (0, 0) _ (Bx13.out.below U31.out).out Try.underlying63 rfl SX.out ?_) | (refine wpList_load_rowG (by rfl) 63 (.tmp 15) rfl _ rfl 63 (c64 (dg 4 y)) (0, 0) _ (Bx15.out.below U31.out).out Try.underlying63 rfl SY.out ?_))
  refine (by_n z4 DT.out (DD.out.below U31.out) (by decide) (by decide) HP.out.pos HZ4.out).mono ?_
  rintro e w32 ⟨vt, rfl, hd, st⟩
  have U32 := Aside0.mk (below_more U31.out st)
  have DR := Aside0.mk hd
  clear st U31 hd DT
  go_wp2_with (first | (refine wpList_load_rowG (by rfl) 63 (.tmp 13) rfl _ rfl 63 (c64 (dg 4 x)) (0, 0) _ (Bx13.out.below U32.out).out Try.underlying63 rfl SX.out ?_) | (refine wpList_load_rowG (by rfl) 63 (.tmp 15) rfl _ rfl 63 (c64 (dg 4 y)) (0, 0) _ (Bx15.out.below U32.out).out Try.underlying63 rfl SY.out ?_))
  refine (isT4 (a - b) z4 (HFA.out.below U32.out) HS4.out DR.out (by decide) HK4.out).mono ?_
  rintro e w33 ⟨rfl, st⟩
  have U33 := Aside0.mk (below_more U32.out st)
  clear st U32 DR
  go_wp2_with (first | (refine wpList_load_rowG (by rfl) 63 (.tmp 13) rfl _ rfl 63 (c64 (dg 4 x)) (0, 0) _ (Bx13.out.below U33.out).out Try.underlying63 rfl SX.out ?_) | (refine wpList_load_rowG (by rfl) 63 (.tmp 15) rfl _ rfl 63 (c64 (dg 4 y)) (0, 0) _ (Bx15.out.below U33.out).out Try.underlying63 rfl SY.out ?_))
  refine (powM4 (x := x) a E s5 (HFA.out.below U33.out) Hx.out (RE.out.below U33.out) HDE.out (by have := LE.out; omega) HE.out HS5.out).mono ?_
  rintro e w34 ⟨rfl, st⟩
  have U34 := Aside0.mk (below_more U33.out st)
  clear st U33
  go_wp2_with (first | (refine wpList_load_rowG (by rfl) 63 (.tmp 13) rfl _ rfl 63 (c64 (dg 4 x)) (0, 0) _ (Bx13.out.below U34.out).out Try.underlying63 rfl SX.out ?_) | (refine wpList_load_rowG (by rfl) 63 (.tmp 15) rfl _ rfl 63 (c64 (dg 4 y)) (0, 0) _ (Bx15.out.below U34.out).out Try.underlying63 rfl SY.out ?_))
  refine (power_n z5 E (DP.out.below U34.out) (RE.out.below U34.out) HDE.out (by have := LE.out; omega) (DD.out.below U34.out) (by decide) (by decide) HP.out.pos HE.out HZ5.out).mono ?_
  rintro e w35 ⟨vt, rfl, hd, st⟩
  have U35 := Aside0.mk (below_more U34.out st)
  have DR := Aside0.mk hd
  clear st U34 hd
  go_wp2_with (first | (refine wpList_load_rowG (by rfl) 63 (.tmp 13) rfl _ rfl 63 (c64 (dg 4 x)) (0, 0) _ (Bx13.out.below U35.out).out Try.underlying63 rfl SX.out ?_) | (refine wpList_load_rowG (by rfl) 63 (.tmp 15) rfl _ rfl 63 (c64 (dg 4 y)) (0, 0) _ (Bx15.out.below U35.out).out Try.underlying63 rfl SY.out ?_))
  refine (isT4 (a ^ E) z5 (HFA.out.below U35.out) HS5.out DR.out (by decide) HK5.out).mono ?_
  rintro e w36 ⟨rfl, st⟩
  have U36 := Aside0.mk (below_more U35.out st)
  clear st U35 DR
  go_wp2_with (first | (refine wpList_load_rowG (by rfl) 63 (.tmp 13) rfl _ rfl 63 (c64 (dg 4 x)) (0, 0) _ (Bx13.out.below U36.out).out Try.underlying63 rfl SX.out ?_) | (refine wpList_load_rowG (by rfl) 63 (.tmp 15) rfl _ rfl 63 (c64 (dg 4 y)) (0, 0) _ (Bx15.out.below U36.out).out Try.underlying63 rfl SY.out ?_))
  go_ret
  exact ⟨rfl, below_more VB.out U36.out⟩
end Go.Proofs.Ytokadjfakncdfaa
