/- nat: FromBytes' one region that leaves its order open. -/
import Derived.Test.YtokadjfakncdfaaN18
import Derived.Test.YtokadjfakncdfaaN19
import Derived.Deep.AppendLies
set_option linter.unusedVariables false
set_option linter.unusedSimpArgs false
namespace Go.Proofs.Ytokadjfakncdfaa
open Go.RowKit Go.Proofs.YtokadjfakncdfaaW.PrintWords Go.Proofs.YtokadjfakncdfaaW.PrintLast Go.Proofs.YtokadjfakncdfaaW.PrintMore
open PR
attribute [local go_sem] Oper.semAt_some

theorem append1_run (W : World) (base : Nat) (v : Value) (xs : List Int) (x : Int) (gl : Nat) (ho : RO .u64 30 W base v xs) (hl : W.heap[gl]? = some (.cells #[.int .u64 x] 30 (0, 0))) (hlen : xs.length ≤ 1000) (hb : base ≤ W.heap.size) :
    ∃ v1 w1, (Builtin.append_ #[31, 31] 31 #[v, .slice (some ⟨gl, 0, none⟩) 1 1]).run Try.prog W = .ok v1 w1 ∧ RO .u64 30 w1 base v1 (xs ++ [x]) ∧ W.grownBy w1 v.ownBlock := by
  have h1 := Kd.own_of_R ho
  obtain ⟨i, hi, hzz⟩ := Option.map_eq_some_iff.1 info30
  simp only [Prod.mk.injEq] at hzz
  obtain ⟨hz0, hz1, hz2⟩ := hzz
  obtain ⟨g, cap, w', hr, h2, h3, h4, h5⟩ := run_append_lies (P := Try.prog) (w := W) 31 31 base 30 i (.int .u64 0) 1 8 Try.underlying31 hi hz0 hz1 hz2 rfl (by omega) v xs.length _ h1 ⟨gl, 0, none⟩ 1 1 [.int .u64 x] rfl
    (fun j u hu => by
      have hj : j = 0 := by
        rcases Nat.eq_zero_or_pos j with h | h
        · exact h
        · rw [List.getElem?_eq_none (by simp; omega)] at hu; cases hu
      subst hj
      have : u = .int .u64 x := by simpa using hu.symm
      subst this
      exact cell_of_one hl) (by simp [Value.oneCell']) (by omega) (by simp only [maxLen]; omega) (by omega) hb _ rfl
  refine ⟨_, w', hr, ?_, h3⟩
  have e : encs (Value.int .u64) (xs ++ [x]) = encs (Value.int .u64) xs ++ [.int .u64 x] := by simp [encs]
  refine Kd.R_of_own (h1 := fun _ => rfl) ?_ (fun k hk => ?_)
  · rw [e, List.length_append]
    exact h2
  · exact own_base h2 k hk

/-- The append, held together. -/
def AppO (ats : Array TypeId) (ty : TypeId) (args : Array Value) : Sem Value := Builtin.append_ ats ty args
theorem appO_builtin (ats : Array TypeId) (ty : TypeId) (cs : Array Bool) (args : Array Value) : builtin .append ats ty cs args = (do pure (.value (← AppO ats ty args))) := rfl
attribute [local go_sem ↓ high] appO_builtin
/-- What the region leaves behind. -/
structure Fb (W : World) (go : Nat) (ys : List Int) (W' : World) : Prop where
  out : ∃ vo, W'.heap[go]? = some (.cells #[vo] 31 (0, 0)) ∧ RO .u64 30 W' (go + 3) vo ys
  below : Below go W W'
  keeps : KeepsOthers W W'
  b1 : W'.heap[go + 1]? = W.heap[go + 1]?
  b2 : W'.heap[go + 2]? = W.heap[go + 2]?

set_option maxRecDepth 100000 in
set_option maxHeartbeats 8000000 in
theorem reg7 (l n : Nat) (Q : Exit → Act → World → Prop) (W : World) (go : Nat) (vs vo : Value) (ys zs : List Int) (u0 u1 u2 u3 u4 u7 u8 u9 u10 u11 u12 u13 u14 u15 u16 u17 u18 u19 u20 u21 u22 u23 u24 u25 u26 u27 u28 u29 u30 : Value)
    (h5 : W.heap[go]? = some (.cells #[vo] 31 (0, 0))) (hO : RO .u64 30 W (go + 3) vo ys) (hlen : ys.length ≤ 1000) (hs : go + 3 ≤ W.heap.size)
    (hx : RL .u8 W vs zs) (hd : Dig B8 zs) (hl : zs.length = 8) (hmx : Try.prog.follows .mixedOrders = true)
    (hQ : ∀ tmps W', Fb W go (ys ++ [nv B8 zs.reverse]) W' → Q .normal { tmps := tmps, defers := [] } W') :
    (Code.region 7 (opsOf Try.f17 7) true).wpIn (Fence.wide.inRound l) n Try.prog Q { tmps := #[u0, u1, u2, u3, u4, .pointer (some ⟨go, 0, none⟩), vs, u7, u8, u9, u10, u11, u12, u13, u14, u15, u16, u17, u18, u19, u20, u21, u22, u23, u24, u25, u26, u27, u28, u29, u30], defers := [] } W := by
  have HO := Aside0.mk (And.intro h5 (And.intro hO (And.intro hs (And.intro hx (And.intro hd hl)))))
  have hc5 := cell_of_one h5
  obtain ⟨word, hword⟩ : ∃ word, nv B8 zs.reverse = word := ⟨_, rfl⟩
  rw [hword] at hQ
  have HW := Aside0.mk hword
  have HQ := Aside0.mk hQ
  clear h5 hO hx hd hl hQ hword
  simp only [opsOf, Try.f17, opsIn, Option.bind_some, Option.getD_some, Nat.reduceEqDiff, Nat.reduceBEq, ↓reduceIte, Bool.false_eq_true, if_false]
  gi_region_with_o ((refine ⟨trivial, (fun h => by cases h), (CallsIn.inRound l (callsIn_wide.2 (uint64_calls _ zs _ (HO.out.2.2.2.1.below (by first | exact below_drew (Below.refl _ _) | exact Below.refl _ _)) HO.out.2.2.2.2.1 HO.out.2.2.2.2.2))).mono ?_⟩; rw [HW.out]; rintro e W1 ⟨rfl, hb⟩; have HB := Aside0.mk (show Below W.heap.size W W1 from by first | exact hb | exact (below_drew (Below.refl _ _)).trans hb); clear hb; have hs1 : go + 3 ≤ W1.heap.size := Nat.le_trans hs HB.out.size; have hb5 := (HB.out.block _ (lt_of_block HO.out.1)).trans HO.out.1; have hc51 := cell_of_one hb5; have hc52 : (W1.alloc (.cells #[.int .u64 word] 30)).cell? ⟨go, 0, none⟩ = some vo := cell_of_one ((Below.heap_alloc W1 (.cells #[.int .u64 word] 30) go (lt_of_block hb5)).trans hb5); obtain ⟨v1, w1, hr, ho1, hg1⟩ := append1_run (W1.alloc (.cells #[.int .u64 word] 30)) (go + 3) vo ys word W1.heap.size (Kd.R_alloc (Kd.R_below HO.out.2.1 HB.out) _) (heap_alloc_new _ _) hlen (by simp; omega); obtain ⟨A9, c9, rfl⟩ := Kd.R_slice ho1; have hbb := ((Below.refl (go + 3) W1).alloc hs1 (.cells #[.int .u64 word] 30)).grown hg1 (by simp; omega) (fun k hk => Kd.R_base HO.out.2.1 k hk); have hb5' := (hbb.block _ (by omega)).trans hb5; have hc5' := cell_of_one hb5'; have hf5' := free_of_one hb5'; have hr' : (AppO #[31, 31] 31 #[vo, .slice (some ⟨W1.heap.size, 0, none⟩) 1 1]).run Try.prog (W1.alloc (.cells #[.int .u64 word] 30)) = .ok (.slice A9 (ys ++ [word]).length c9) w1 := hr; clear hr; have hty := Kd.R_typed (Kd.R_alloc (Kd.R_below HO.out.2.1 HB.out) (.cells #[.int .u64 word] 30)); have hkp := (KeepsOthers.of_grownBy (grown_of_below HB.out none) (fun _ _ e => by cases e)).trans ((KeepsOthers.alloc W1 (.cells #[.int .u64 word] 30)).trans (KeepsOthers.of_grownBy hg1 (fun j o e ho => by obtain ⟨cells, hc⟩ := hty j e; rw [hc] at ho; cases ho; rfl))); have FF := Aside0.mk (And.intro ho1 (And.intro hbb (And.intro hb5' hkp))); clear hty hkp; clear ho1 hg1 hbb hb5 hb5'))
  all_goals
    refine HQ.out _ _ ?_
    obtain ⟨f1, f2, f3, f4⟩ := FF.out
    have hlt := lt_of_block HO.out.1
    have hBg : Below go W w1 := (HB.out.mono (by omega)).trans (f2.mono (by omega))
    exact ⟨⟨_, one_setCell f3, Kd.R_far (by simpa using f1) (fun k hk => by have hk' : go + 3 ≤ k := hk; show k ≠ go; omega) _⟩, hBg.setCell (Nat.le_refl _) _, f4.trans (KeepsOthers.setCell _ _ _),
      (Below.heap_setCell w1 _ _ _ (by show go + 1 ≠ go; omega)).trans ((f2.block _ (by omega)).trans (HB.out.block _ (by omega))), (Below.heap_setCell w1 _ _ _ (by show go + 2 ≠ go; omega)).trans ((f2.block _ (by omega)).trans (HB.out.block _ (by omega)))⟩
end Go.Proofs.Ytokadjfakncdfaa
