/- nat: each, with bits.Add64 and bits.Sub64. -/
import Derived.Test.YtokadjfakncdfaaN1
import Derived.Test.YtokadjfakncdfaaN3
import Derived.Test.YtokadjfakncdfaaM3
import Derived.Laws.Externs
set_option linter.unusedVariables false
set_option linter.unusedSimpArgs false
namespace Go.Proofs.Ytokadjfakncdfaa
open Go.RowKit Go.Proofs.YtokadjfakncdfaaW.PrintWords Go.Proofs.YtokadjfakncdfaaW.PrintLast Go.Proofs.YtokadjfakncdfaaW.PrintMore
open PR
attribute [local go_sem] max2_int

def sub64E : Array Value → Sem Value := fun args => do
  let (x, y, b) ← Extern.MathBitsCarry.three "Sub64" args
  pure (Extern.MathBitsCarry.pair ((x + Extern.MathBitsCarry.m64 - y - b) % Extern.MathBitsCarry.m64) (if x < y + b then 1 else 0))

theorem run_sub64E (P : Program) (x y b : Nat) (hb : b ≤ 1) (w : World) :
    (sub64E #[.int .u64 x, .int .u64 y, .int .u64 b]).run P w =
      .ok (.tuple #[.int .u64 (((x + 18446744073709551616 - y - b) % 18446744073709551616 : Nat) : Int), .int .u64 ((if x < y + b then 1 else 0 : Nat) : Int)]) w := by
  have : b = 0 ∨ b = 1 := by omega
  rcases this with rfl | rfl <;> rfl

/-- bits.Add64, as it is called. -/
theorem add64_run (x y c : Int) (hx : 0 ≤ x ∧ x < B64) (hy : 0 ≤ y ∧ y < B64) (hc : c = 0 ∨ c = 1) :
    ∃ s c', (∀ w, (callFunc 64 #[.int .u64 x, .int .u64 y, .int .u64 c]).run Try.prog w = .ok (.value (.tuple #[.int .u64 s, .int .u64 c'])) w) ∧ (0 ≤ s ∧ s < B64) ∧ (c' = 0 ∨ c' = 1) ∧ s + B64 * c' = x + y + c := by
  refine ⟨(x + y + c) % 18446744073709551616, (x + y + c) / 18446744073709551616, fun w => ?_, ?_, ?_, ?_⟩
  · rw [run_callFunc_extern Try.func64 (by kernel_rfl) (by kernel_rfl) (by kernel_rfl) (e := add64Entry) (by kernel_rfl), run_add64 x y c hx.1 hy.1 (by omega) (by omega)]
    rfl
  · rw [B64_eq]; omega
  · rw [B64_eq] at hx hy; omega
  · rw [B64_eq]; omega
/-- bits.Sub64, as it is called. -/
theorem sub64_run (x y c : Int) (hx : 0 ≤ x ∧ x < B64) (hy : 0 ≤ y ∧ y < B64) (hc : c = 0 ∨ c = 1) :
    ∃ s c', (∀ w, (callFunc 66 #[.int .u64 x, .int .u64 y, .int .u64 c]).run Try.prog w = .ok (.value (.tuple #[.int .u64 s, .int .u64 c'])) w) ∧ (0 ≤ s ∧ s < B64) ∧ (c' = 0 ∨ c' = 1) ∧ s + y + c = x + B64 * c' := by
  obtain ⟨X, rfl⟩ := Int.eq_ofNat_of_zero_le hx.1
  obtain ⟨Y, rfl⟩ := Int.eq_ofNat_of_zero_le hy.1
  obtain ⟨C, rfl⟩ : ∃ C : Nat, c = (C : Int) := ⟨c.toNat, by omega⟩
  rw [B64_eq] at *
  refine ⟨(((X + 18446744073709551616 - Y - C) % 18446744073709551616 : Nat) : Int), ((if X < Y + C then 1 else 0 : Nat) : Int), fun w => ?_, ?_, ?_, ?_⟩
  · rw [run_callFunc_extern Try.func66 (by kernel_rfl) (by kernel_rfl) (by kernel_rfl) (e := sub64E) (by kernel_rfl), run_sub64E _ X Y C (by omega)]
    rfl
  · omega
  · split <;> simp
  · split <;> omega

theorem each1_calls (v : Value) (xs : List Int) (i : Nat) (x : Int) (w : World) (hv : RL .u64 w v xs) (hx : xs.getD i 0 = x) (hi : i ≤ 2000000) (hl : xs.length ≤ 1000000) :
    Calls Try.prog 108 #[v, .int .i64 i] w fun e w' => e = .returned (.int .u64 x) ∧ w' = w := by
  subst hx
  obtain ⟨A, c, rfl, hc, hC⟩ := hv
  by_cases h : i < xs.length
  · obtain ⟨ad, rfl, hcell⟩ := C_cell hC i h
    have HC := Aside0.mk hC
    clear hC
    obtain ⟨y, hy⟩ : ∃ y, xs.getD i 0 = y := ⟨_, rfl⟩
    rw [hy] at hcell ⊢
    clear hy
    go_enter Try.func108, Try.ntmps108
    go_wp2_with fail
    go_ret
    exact ⟨rfl, rfl⟩
  · have e : xs.getD i 0 = 0 := by rw [List.getD_eq_getElem?_getD, List.getElem?_eq_none (by omega)]; rfl
    rw [e]
    have HC := Aside0.mk hC
    clear hC e
    go_enter Try.func108, Try.ntmps108
    go_wp2_with fail
    go_ret
    exact ⟨rfl, rfl⟩

/-- each, with whatever is done to a word: P is what holds behind i words. -/
theorem each_calls (g : Nat) (va vb : Value) (a b : List Int) (w : World) (ha : RL .u64 w va a) (hb : RL .u64 w vb b) (da : Dig B64 a) (db : Dig B64 b) (la : a.length ≤ 1000) (lb : b.length ≤ 1000)
    (P : Nat → List Int → Int → Prop) (h0 : P 0 [] 0)
    (hdo : ∀ (i : Nat) (acc : List Int) (c : Int), P i acc c → acc.length = i → Dig B64 acc → (c = 0 ∨ c = 1) →
      ∃ s c', (∀ w, (callFunc g #[.int .u64 (a.getD i 0), .int .u64 (b.getD i 0), .int .u64 c]).run Try.prog w = .ok (.value (.tuple #[.int .u64 s, .int .u64 c'])) w) ∧ (0 ≤ s ∧ s < B64) ∧ (c' = 0 ∨ c' = 1) ∧ P (i + 1) (acc ++ [s]) c') :
    Calls Try.prog 63 #[va, vb, .func (.func g) #[] #[]] w fun e w' => ∃ v' ys acc c, e = .returned v' ∧ RO .u64 30 w' w.heap.size v' ys ∧ Canon B64 ys ∧ nv B64 ys = nv B64 acc ∧
      Dig B64 acc ∧ acc.length = max a.length b.length + 1 ∧ (c = 0 ∨ c = 1) ∧ P (max a.length b.length + 1) acc c ∧ ys.length ≤ acc.length ∧ Below w.heap.size w w' := by
  obtain ⟨A, ca, rfl, hca, hCa⟩ := ha
  obtain ⟨A', cb, rfl, hcb, hCb⟩ := hb
  have HA := Aside0.mk (show RL .u64 w (.slice A a.length ca) a from ⟨A, ca, rfl, hca, hCa⟩)
  have HB := Aside0.mk (show RL .u64 w (.slice A' b.length cb) b from ⟨A', cb, rfl, hcb, hCb⟩)
  have DA := Aside0.mk da
  have DB := Aside0.mk db
  have H0 := Aside0.mk h0
  have HDO := Aside0.mk hdo
  clear hCa hCb da db h0 hdo hca hcb
  obtain ⟨n, hn⟩ : ∃ n, max a.length b.length = n := ⟨_, rfl⟩
  have hm : (if a.length < b.length then (b.length : Int) else (a.length : Int)) = (n : Int) := by split <;> omega
  have hn1 : n ≤ 1000 := by omega
  rw [hn]
  have LA := Aside0.mk (show a.length ≤ n by omega)
  have LB := Aside0.mk (show b.length ≤ n by omega)
  clear hn
  go_enter Try.func63, Try.ntmps63
  go_wp2_with fail
  clear hm
  go_loopg [7, 8, 18] (n + 1) (fun k v7 v8 v18 wr => ∃ (i : Nat) (acc : List Int) (c : Int), i + k = n + 1 ∧ v8 = .int .u64 c ∧ v18 = .int .i64 i ∧
    Aside0 (P i acc c ∧ acc.length = i ∧ Dig B64 acc ∧ (c = 0 ∨ c = 1)) ∧ Aside0 (RO .u64 30 wr w.heap.size v7 acc) ∧ Aside0 (Below w.heap.size w wr))
  case atStart => exact ⟨0, [], 0, by omega, rfl, rfl, ⟨H0.out, rfl, Dig.nil, .inl rfl⟩, ⟨Kd.R_nil _ _ _ _ _⟩, ⟨Below.refl _ _⟩⟩
  case round =>
    obtain ⟨i, acc, c, hi, rfl, rfl, HP, HO, HW⟩ := hrel
    by_cases h0 : i < n + 1
    · obtain ⟨s, c', hrun, hs, hc', hP⟩ := HDO.out i acc c HP.out.1 HP.out.2.1 HP.out.2.2.1 HP.out.2.2.2
      have HP' := Aside0.mk (show P (i + 1) (acc ++ [s]) c' ∧ (acc ++ [s]).length = i + 1 ∧ Dig B64 (acc ++ [s]) ∧ (c' = 0 ∨ c' = 1) from ⟨hP, by simp [HP.out.2.1], HP.out.2.2.1.snoc hs, hc'⟩)
      have HL := Aside0.mk HP.out.2.1
      obtain ⟨x, hx⟩ : ∃ x, a.getD i 0 = x := ⟨_, rfl⟩
      obtain ⟨y, hy⟩ : ∃ y, b.getD i 0 = y := ⟨_, rfl⟩
      rw [hx, hy] at hrun
      have HRUN := Aside0.mk hrun
      have HX := Aside0.mk hx
      have HY := Aside0.mk hy
      clear hP hs hc' hrun hx hy
      go_wp2_with fail
      refine (each1_calls _ a i x _ (HA.out.below HW.out) HX.out (by omega) (by omega)).mono ?_
      rintro e w1 ⟨rfl, rfl⟩
      go_wp2_with fail
      refine (each1_calls _ b i y _ (HB.out.below HW.out) HY.out (by omega) (by omega)).mono ?_
      rintro e w1 ⟨rfl, rfl⟩
      have hrun := HRUN.out
      go_wp2_with (at_builtin; refine Kd.R_append (Kd.int .u64) (w0 := w) w.heap.size rfl _ _ 31 30 (.int .u64 0) 8 rfl Try.underlying31 info30 rfl (by decide) (by omega) u7 acc s [.int .u64 s] (fun b => w.heap.size ≤ b) (fun _ => False) rfl rfl rfl (fun _ hk => hk.elim) (fun b hb => Nat.le_trans HW.out.size hb) HO.out HW.out HW.out.size (by have := HL.out; omega) ?_; intro v1 w1 ho hb hg hat; have HO' := Aside0.mk ho; have HW' := Aside0.mk hb; clear ho hb hg hat hrun)
      go_roundg (gk - 1)
      case measure => omega
      case rel => exact ⟨i + 1, acc ++ [s], c', by omega, rfl, by go_num, HP', HO', HW'⟩
    · obtain rfl : i = n + 1 := by omega
      go_wp2_with fail
      refine (of_calls _ acc _ (RL.of_R HO.out) HP.out.2.2.1 (by have := HP.out.2.1; omega)).mono ?_
      rintro e w1 ⟨v1, ys, rfl, o1, c1, n1, l1, b1⟩
      have F := Aside0.mk (show RO .u64 30 w1 w.heap.size v1 ys ∧ Canon B64 ys ∧ nv B64 ys = nv B64 acc ∧ Dig B64 acc ∧ acc.length = n + 1 ∧ (c = 0 ∨ c = 1) ∧ P (n + 1) acc c ∧ ys.length ≤ acc.length ∧ Below w.heap.size w w1 from
        ⟨Kd.R_mono (Kd.R_lower o1 HW.out.size) (fun b hb => Nat.le_trans HW.out.size hb), c1, n1, HP.out.2.2.1, HP.out.2.1, HP.out.2.2.2, HP.out.1, l1, HW.out.trans (b1.mono HW.out.size)⟩)
      clear o1 c1 n1 l1 b1
      go_wp2_with fail
      go_ret
      exact ⟨v1, ys, acc, c, rfl, F.out⟩
end Go.Proofs.Ytokadjfakncdfaa
