/- nat: DivMod's one region that leaves its order open. -/
import Derived.Test.YtokadjfakncdfaaN0
import Derived.Shelf.RegionOpen
import Derived.IntWalk
set_option linter.unusedVariables false
set_option linter.unusedSimpArgs false
namespace Go.Proofs.Ytokadjfakncdfaa
open Go.RowKit Go.Proofs.YtokadjfakncdfaaW.PrintWords Go.Proofs.YtokadjfakncdfaaW.PrintLast Go.Proofs.YtokadjfakncdfaaW.PrintMore
attribute [local go_sem] Oper.semAt_some

/-- What the region leaves behind, whatever else the frame holds. -/
def Reg14 (Q : Exit → Act → World → Prop) (W : World) : Prop := ∀ tmps, Q .normal { tmps := tmps, defers := [] } W

set_option maxRecDepth 100000 in
set_option maxHeartbeats 4000000 in
theorem reg14 (l n : Nat) (Q : Exit → Act → World → Prop) (W : World) (g7 gq iv J S m c : Nat) (qv x : Int) (u0 u1 u2 u3 u4 u5 u6 u8 u10 u11 u12 u13 u14 u15 u16 u17 u18 u19 u20 u21 u22 u23 u24 u25 u26 u27 u28 u29 u30 u31 u32 u33 u34 u35 u36 u37 u38 u39 u40 u41 u42 u43 u44 u45 u46 u47 u48 u49 u50 u51 u52 u53 u54 : Value)
    (h7 : W.cell? ⟨g7, 0, none⟩ = some (.slice (some ⟨gq, 0, none⟩) m c)) (hc : W.cell? ⟨gq, J, none⟩ = some (.int .u64 qv)) (hf : W.frozen? ⟨gq, J, none⟩ = false)
    (hi1 : (J : Int) < (m : Int)) (hi3 : (0 : Int) ≤ (J : Int)) (hd1 : Int.tdiv (iv : Int) 64 = (J : Int)) (hd2 : IntKind.i64.wrap (J : Int) = (J : Int)) (hd3 : Int.tmod (iv : Int) 64 = (S : Int)) (hd4 : IntKind.i64.wrap (S : Int) = (S : Int)) (hd5 : (0 : Int) ≤ (S : Int)) (hd6 : S < 64)
    (hx : bits .or .u64 qv (IntKind.u64.wrap (2 ^ S)) = x) (hmx : Try.prog.follows .mixedOrders = true)
    (hQ : Reg14 Q (W.setCell ⟨gq, J, none⟩ (.int .u64 x)).drew) :
    (Code.region 14 (opsOf Try.f25 14) true).wpIn (Fence.wide.inRound l) n Try.prog Q { tmps := #[u0, u1, u2, u3, u4, u5, u6, .pointer (some ⟨g7, 0, none⟩), u8, .int .i64 (iv : Int), u10, u11, u12, u13, u14, u15, u16, u17, u18, u19, u20, u21, u22, u23, u24, u25, u26, u27, u28, u29, u30, u31, u32, u33, u34, u35, u36, u37, u38, u39, u40, u41, u42, u43, u44, u45, u46, u47, u48, u49, u50, u51, u52, u53, u54], defers := [] } W := by
  have HX := Aside0.mk hx
  clear hx
  simp only [opsOf, Try.f25, opsIn, Option.bind_some, Option.getD_some, Nat.reduceEqDiff, Nat.reduceBEq, ↓reduceIte, Bool.false_eq_true, if_false]
  have HQ := Aside0.mk hQ
  clear hQ
  gi_region_with_o (fail)
  all_goals (rw [HX.out]; exact HQ.out _)
end Go.Proofs.Ytokadjfakncdfaa
