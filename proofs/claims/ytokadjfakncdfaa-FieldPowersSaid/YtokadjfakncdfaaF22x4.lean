/- marlinspikelaw02: is, on a number of one digit, of 4 words. -/
import Derived.Test.YtokadjfakncdfaaFQ
import Derived.Test.YtokadjfakncdfaaPRx4
set_option linter.unusedVariables false
set_option linter.unusedSimpArgs false
namespace Go.Proofs.Ytokadjfakncdfaa
open Go.RowKit Go.Proofs.YtokadjfakncdfaaW.PrintWords Go.Proofs.YtokadjfakncdfaaW.PrintLast Go.Proofs.YtokadjfakncdfaaW.PrintMore
open PR
theorem words_lit {w : World} {gd : Nat} {k : Int} (h : RL .u32 w (.slice (some ⟨gd, 0, none⟩) 1 1) [k]) (hk : 0 < k ∧ k < B16) (hf : marlinspikeref01_Words.f 5 [k] = some [k]) :
    Calls Try.prog 32 #[.slice (some ⟨gd, 0, none⟩) 1 1] w fun e w' => ∃ v', e = .returned v' ∧ CN w' v' k 1 ∧ Below w.heap.size w w' := by
  obtain ⟨A, c, e, hc, hC⟩ := h
  cases e
  refine (marlinspikeref01_Words.calls 5 _ 1 [k] [k] w hC (by simp) hf).mono ?_
  · rintro e w' ⟨v, rfl, hv, st⟩
    rw [B16] at hk
    exact ⟨v, rfl, ⟨[k], RL.of_R hv, ⟨Dig.nil.cons ⟨by omega, by rw [B64_eq]; omega⟩, by simp; omega⟩, by simp [nv], Nat.le_refl _⟩, st⟩
set_option maxRecDepth 100000 in
theorem isL4 {g : Nat} {m : Int} {w : World} (gd : Nat) (a k : Int) {x : Int} (hF : Fd 4 121 w g m) (hx : x = mo 4 m a) (hd : w.heap[gd]? = some (.cells #[.int .u32 k] 75 (0, 0))) (hk : 0 < k ∧ k < B16) (hf : marlinspikeref01_Words.f 5 [k] = some [k]) :
    Calls Try.prog 73 #[.pointer (some ⟨g, 0, none⟩), elt 4 x, .slice (some ⟨gd, 0, none⟩) 1 1] w fun e w' => e = .returned (.bool (decide (a % m = k))) ∧ Below w.heap.size w w' := by
  have HF := Aside0.mk hF
  have HX := Aside0.mk hx
  have HD := Aside0.mk (show RL .u32 w (.slice (some ⟨gd, 0, none⟩) 1 1) [k] from RL.lit1 hd)
  have HL := Aside0.mk hk
  have S := Aside0.mk ((SB0.nil w).alloc 63 (dg 4 x)).S
  have SZ := Aside0.mk (c64_info info63 (dg_length 4 x))
  obtain ⟨na, hna⟩ : ∃ n, n = a % m := ⟨_, rfl⟩
  rw [← hna]
  have HNA := Aside0.mk hna
  clear hF hx hd hk hna
  unfold elt
  go_enter Try.func73, Try.ntmps73
  go_wp2_with (refine wpList_load_row rfl 63 (.tmp 4) rfl _ rfl 63 (c64 (dg 4 x)) (0, 0) _ (S.out.R 0 _ _ rfl) Try.underlying63 rfl SZ.out ?_)
  refine (natM4 (x := x) a na (HF.out.below S.out.B) HX.out HNA.out).mono ?_
  rintro e w1 ⟨vn, rfl, cn, st⟩
  have H1 := Aside0.mk (S.out.B.trans (st.mono S.out.B.size))
  have C1 := Aside0.mk cn
  clear cn st S
  go_wp2_with fail
  refine (words_lit (HD.out.below H1.out) HL.out hf).mono ?_
  rintro e w2 ⟨vw, rfl, cw, st⟩
  have H2 := Aside0.mk (below_more H1.out st)
  have C2 := Aside0.mk cw
  have C1' := Aside0.mk (C1.out.below st)
  clear cw st H1 C1
  go_wp2_with fail
  refine (same_n C1'.out C2.out (by decide)).mono ?_
  rintro e w3 ⟨rfl, st⟩
  have H3 := Aside0.mk (below_more H2.out st)
  clear st H2 C1' C2
  go_wp2_with fail
  go_ret
  exact ⟨rfl, H3.out⟩
theorem words3 : marlinspikeref01_Words.f 5 [3] = some [3] := by kernel_rfl
theorem words7 : marlinspikeref01_Words.f 5 [7] = some [7] := by kernel_rfl
theorem words11 : marlinspikeref01_Words.f 5 [11] = some [11] := by kernel_rfl
end Go.Proofs.Ytokadjfakncdfaa
