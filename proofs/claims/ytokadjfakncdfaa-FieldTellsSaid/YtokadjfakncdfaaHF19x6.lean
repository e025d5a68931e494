/- marlinspikelaw02: is, of 6 words. -/
import Derived.Test.YtokadjfakncdfaaHFS
import Derived.Test.YtokadjfakncdfaaHGC
set_option linter.unusedVariables false
set_option linter.unusedSimpArgs false
namespace Go.Proofs.Ytokadjfakncdfaa
open Go.RowKit Go.Proofs.YtokadjfakncdfaaW.PrintWords Go.Proofs.YtokadjfakncdfaaW.PrintLast Go.Proofs.YtokadjfakncdfaaW.PrintMore
set_option maxRecDepth 100000 in
theorem isM6 {g : Nat} {m : Int} {w : World} {vd : Value} (a k : Int) {x : Int} {la : Nat} (hF : Fd 6 145 w g m) (hx : x = mo 6 m a) (hd : DG w vd k la) (hl : la ≤ 4000) :
    Calls Try.prog 88 #[.pointer (some ⟨g, 0, none⟩), elt 6 x, vd] w fun e w' => e = .returned (.bool (decide (a % m = k))) ∧ Below w.heap.size w w' := by
  have HF := Aside0.mk hF
  have HX := Aside0.mk hx
  have HD := Aside0.mk hd
  have HL := Aside0.mk hl
  have S := Aside0.mk ((SB0.nil w).alloc 62 (dg 6 x)).S
  have SZ := Aside0.mk (c64_info info62 (dg_length 6 x))
  obtain ⟨na, hna⟩ : ∃ n, n = a % m := ⟨_, rfl⟩
  rw [← hna]
  have HNA := Aside0.mk hna
  clear hF hx hd hl hna
  unfold elt
  go_enter Try.func88, Try.ntmps88
  go_wp2_with (refine wpList_load_row rfl 62 (.tmp 4) rfl _ rfl 62 (c64 (dg 6 x)) (0, 0) _ (S.out.R 0 _ _ rfl) Try.underlying62 rfl SZ.out ?_)
  refine (natM6 (x := x) a na (HF.out.below S.out.B) HX.out HNA.out).mono ?_
  rintro e w1 ⟨vn, rfl, cn, st⟩
  have H1 := Aside0.mk (S.out.B.trans (st.mono S.out.B.size))
  have C1 := Aside0.mk cn
  clear cn st S
  go_wp2_with fail
  refine (words_n (HD.out.below H1.out) HL.out).mono ?_
  rintro e w2 ⟨vw, rfl, cw, st⟩
  have H2 := Aside0.mk (below_more H1.out st)
  have C2 := Aside0.mk cw
  have C1' := Aside0.mk (C1.out.below st)
  clear cw st H1 C1
  go_wp2_with fail
  refine (same_n C1'.out C2.out (by decide)).mono ?_
  rintro e w3 ⟨rfl, st⟩
  have H3 := Aside0.mk (below_more H2.out st)
  clear st H2 C1' C2
  go_wp2_with fail
  go_ret
  exact ⟨rfl, H3.out⟩
end Go.Proofs.Ytokadjfakncdfaa
