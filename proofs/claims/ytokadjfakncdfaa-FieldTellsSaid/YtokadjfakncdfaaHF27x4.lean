/- marlinspikelaw02: is, where it says yes; equality, of 4 words. -/
import Derived.Test.YtokadjfakncdfaaHF26x4
import Derived.Test.YtokadjfakncdfaaHF19x4
set_option linter.unusedVariables false
set_option linter.unusedSimpArgs false
namespace Go.Proofs.Ytokadjfakncdfaa
open Go.RowKit Go.Proofs.YtokadjfakncdfaaW.PrintWords Go.Proofs.YtokadjfakncdfaaW.PrintLast Go.Proofs.YtokadjfakncdfaaW.PrintMore
theorem isT4 {g : Nat} {m : Int} {w : World} {vd : Value} (a k : Int) {x : Int} {la : Nat} (hF : Fd 4 121 w g m) (hx : x = mo 4 m a) (hd : DG w vd k la) (hl : la ≤ 4000) (hk : a % m = k) :
    Calls Try.prog 73 #[.pointer (some ⟨g, 0, none⟩), elt 4 x, vd] w fun e w' => e = .returned (.bool true) ∧ Below w.heap.size w w' := by
  refine (isM4 a k hF hx hd hl).mono ?_
  rintro e w' ⟨rfl, st⟩
  exact ⟨by rw [decide_eq_true hk], st⟩
theorem eqlV4 {o : Oper} {a : Act} {w : World} {x y : Tmp} {s t : Int} {b : Bool} (ho : o.op = .binOp .eql 63 (.tmp x) (.tmp y) 63) (hx : a.eval (.tmp x) = elt 4 s) (hy : a.eval (.tmp y) = elt 4 t) (hb : b = decide (dg 4 s = dg 4 t)) :
    (execOp a.eval o).run Try.prog w = .ok (.value (.bool b)) w := by
  subst hb
  have ge := guard63
  have eq := eq63 (dg 4 s) (dg 4 t) (dg_length _ _) (dg_length _ _)
  unfold elt at hx hy
  have hx' : a.tmps[x]?.getD undef = .agg (c64 (dg 4 s)) := by simpa [Act.eval] using hx
  have hy' : a.tmps[y]?.getD undef = .agg (c64 (dg 4 t)) := by simpa [Act.eval] using hy
  unfold execOp
  simp [ho, hx', hy', go_sem, ge, eq]
theorem elt_eq4 {m a b x y : Int} (hp : FP 4 m) (hx : x = mo 4 m a) (hy : y = mo 4 m b) : dg 4 x = dg 4 y ↔ a % m = b % m := by
  have b1 := mo_bd 4 a hp.pos
  have b2 := mo_bd 4 b hp.pos
  have := hp.lt
  rw [hx, hy, dg_inj b1.1 (by omega) b2.1 (by omega), mo_eq hp.odd]
theorem DG.len4 {w : World} {v : Value} {n : Int} {L : Nat} (h : DG w v n L) : ∃ A k c, v = .slice A k c ∧ (k = 0 ↔ n = 0) := by
  obtain ⟨ys, ⟨A, c, rfl, hc, hC⟩, d, rfl, hl⟩ := h.out
  refine ⟨A, _, c, rfl, ⟨fun h => ?_, fun h => ?_⟩⟩
  · rw [List.eq_nil_of_length_eq_zero h]; rfl
  · have := canon_len (n := 0) (by decide) d (by rw [h]; decide)
    omega
theorem neqB4 {o : Oper} {a : Act} {w : World} {x y : Tmp} {b : Bool} (ho : o.op = .binOp .neq 4 (.tmp x) (.tmp y) 4) (hx : a.eval (.tmp x) = .bool b) (hy : a.eval (.tmp y) = .bool b) :
    (execOp a.eval o).run Try.prog w = .ok (.value (.bool false)) w := by
  have hx' : a.tmps[x]?.getD undef = .bool b := by simpa [Act.eval] using hx
  have hy' : a.tmps[y]?.getD undef = .bool b := by simpa [Act.eval] using hy
  unfold execOp
  simp [ho, hx', hy', go_sem]
theorem eql04 {o : Oper} {a : Act} {w : World} {x : Tmp} {n : Int} {b : Bool} (ho : o.op = .binOp .eql 3 (.tmp x) (.const (.int .i64 0)) 3) (hx : a.eval (.tmp x) = .int .i64 n) (hb : decide (n = 0) = b) :
    (execOp a.eval o).run Try.prog w = .ok (.value (.bool b)) w := by
  subst hb
  have hx' : a.tmps[x]?.getD undef = .int .i64 n := by simpa [Act.eval] using hx
  have e : (n == 0) = decide (n = 0) := rfl
  unfold execOp
  simp [ho, hx', go_sem, e]
end Go.Proofs.Ytokadjfakncdfaa
