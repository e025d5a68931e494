/- nat: Mul. -/
import Derived.Test.YtokadjfakncdfaaN5
import Derived.Test.YtokadjfakncdfaaN6
import Derived.Test.YtokadjfakncdfaaM4
set_option linter.unusedVariables false
set_option linter.unusedSimpArgs false
namespace Go.Proofs.Ytokadjfakncdfaa
open Go.RowKit Go.Proofs.YtokadjfakncdfaaW.PrintWords Go.Proofs.YtokadjfakncdfaaW.PrintLast Go.Proofs.YtokadjfakncdfaaW.PrintMore
open PR

theorem mul_ok (va vb : Value) (a b : List Int) (w : World) (ha : RL .u64 w va a) (hb : RL .u64 w vb b) (da : Dig B64 a) (db : Dig B64 b) (la : a.length ≤ 80) (lb : b.length ≤ 80) :
    Calls Try.prog 22 #[va, vb] w fun e w' => ∃ v', e = .returned (.tuple #[v', .int .i64 0]) ∧ Num w w' v' (nv B64 a * nv B64 b) ∧ Below w.heap.size w w' := by
  obtain ⟨A, ca, rfl, hca, hCa⟩ := ha
  obtain ⟨A', cb, rfl, hcb, hCb⟩ := hb
  have HA := Aside0.mk hCa
  have HB := Aside0.mk hCb
  have DA := Aside0.mk da
  have DB := Aside0.mk db
  clear hCa hCb da db
  have hlong : decide (80 < a.length ∨ 80 < b.length) = false := by simp; omega
  go_enter Try.func22, Try.ntmps22
  go_wp2_with fail
  refine (long2_calls A A' a.length b.length ca cb w (by omega) (by omega)).mono ?_
  rintro e w1 ⟨rfl, rfl⟩
  go_wp2_with ((with_reducible refine gate_dst (N := 24) rfl ?_); refine Kd.R_make (Kd.int .u64) (w0 := w) w.heap.size 30 rfl (N := 24) rfl 31 _ _ rfl ((a.length : Int) + (b.length : Int)) rfl rfl Try.underlying31 (.int .u64 0) 8 info30 rfl (by decide) (by omega) 0 (ok := fun k => w.heap.size ≤ k) (okp := fun _ => False) rfl (fun _ hk => hk.elim) (by simp) (by omega) (by omega) (below_alloc1 _ _) (by simp) ?_; intro v6 w2 ho hw hg hn; have HO := Aside0.mk ho; have HW := Aside0.mk hw; clear ho hw hg hn)
  have HO1 := Aside0.mk (show RO .u64 30 w2 w.heap.size v6 (List.replicate (a.length + b.length) 0) from by
    have := HO.out
    rw [show ((a.length : Int) + (b.length : Int)).toNat = a.length + b.length by omega] at this
    exact this)
  clear HO
  obtain ⟨A6, c6, rfl⟩ := Kd.R_slice HO1.out
  rw [List.length_replicate] at HO1
  simp only [List.length_replicate]
  obtain ⟨m, hm⟩ : ∃ m, a.length + b.length = m := ⟨_, rfl⟩
  rw [hm] at HO1
  simp only [hm]
  have HM := Aside0.mk hm
  have hm' : m ≤ 160 := by omega
  clear hm
  go_loopg [27] a.length (fun kk v27 wr => ∃ (i : Nat) (out : List Int), i + kk = a.length ∧ v27 = .int .i64 i ∧ Aside0 (MulOut B64 a b i out) ∧ Aside0 (RO .u64 30 wr w.heap.size (.slice A6 m c6) out) ∧ Aside0 (Below w.heap.size w wr))
  case atStart => exact ⟨0, List.replicate m 0, by omega, rfl, ⟨by rw [← HM.out]; exact MulOut.zero B64_pos a b⟩, HO1, HW⟩
  case round =>
    clear HO1 HW
    obtain ⟨i, out, hi, rfl, HP, HO, HW⟩ := hrel
    by_cases h0 : i < a.length
    · obtain ⟨ada, rfl, hcella⟩ := C_cell (Kd.C_below HA.out HW.out) i h0
      obtain ⟨x, hx⟩ : ∃ x, a.getD i 0 = x := ⟨_, rfl⟩
      rw [hx] at hcella
      have HX := Aside0.mk hx
      clear hx
      go_wp2_with fail
      clear hcella
      go_loopg [34, 9] b.length (fun kk v34 v9 wr => ∃ (k : Nat) (out : List Int) (c : Int), k + kk = b.length ∧ v34 = .int .i64 k ∧ v9 = .int .u64 c ∧ Aside0 (MulIn B64 a b i k out c) ∧ Aside0 (RO .u64 30 wr w.heap.size (.slice A6 m c6) out) ∧ Aside0 (Below w.heap.size w wr))
      case atStart => exact ⟨0, out, 0, by omega, rfl, rfl, ⟨HP.out.enter B64_pos⟩, HO, HW⟩
      case round =>
        clear HO HW HP
        obtain ⟨k, out, c, hk, rfl, rfl, HP, HO, HW⟩ := hrel
        obtain ⟨g, cap, eo, hg, hlt, cells, hcells⟩ := Kd.R_form HO.out (by have := HP.out.1; omega)
        have EM := HP.out.1.trans HM.out
        have HG := Aside0.mk hg
        rw [EM] at eo
        have EM' := Aside0.mk EM
        clear EM hg hcells hlt cells
        cases eo
        by_cases h1 : k < b.length
        · obtain ⟨adb, rfl, hcellb⟩ := C_cell (Kd.C_below HB.out HW.out) k h1
          obtain ⟨y, hy⟩ : ∃ y, b.getD k 0 = y := ⟨_, rfl⟩
          rw [hy] at hcellb
          have HY := Aside0.mk hy
          clear hy
          have hik : i + k < m := by have := HM.out; omega
          obtain ⟨hcello, hfro⟩ := Kd.R_celln 0 HO.out ((i + k : Nat) : Int) (by omega) (by have := HM.out; omega)
          rw [Int.toNat_natCast] at hcello hfro
          obtain ⟨o, hoo⟩ : ∃ o, rdOf 0 out ((i + k : Nat) : Int) = o := ⟨_, rfl⟩
          rw [hoo] at hcello
          have HOO := Aside0.mk (show out.getD (i + k) 0 = o from hoo)
          clear hoo
          have hxb := Aside0.mk (HX.out ▸ DA.out.getD B64_pos i)
          have hyb := Aside0.mk (HY.out ▸ DB.out.getD B64_pos k)
          have hob := Aside0.mk (HOO.out ▸ HP.out.2.1.getD B64_pos (i + k))
          go_wp2_with fail
          refine (mul64_calls x y hxb.out hyb.out _).mono ?_
          rintro e w3 ⟨hi', lo, rfl, h2, h3, h4, rfl⟩
          obtain ⟨l1, d1, r1, r2, r3, r4⟩ := add64_run lo o 0 h3 hob.out (.inl rfl)
          obtain ⟨l2, d2, s1, s2, s3, s4⟩ := add64_run l1 c 0 r2 HP.out.2.2.1 (.inl rfl)
          have F := mul_fits (l1 := l1) B64_pos hxb.out hyb.out hob.out HP.out.2.2.1 h2 s2 r3 s3 h4 (by omega) (by omega)
          have FF := Aside0.mk (show (0 ≤ l2 ∧ l2 < B64) ∧ (0 ≤ hi' + d1 + d2 ∧ hi' + d1 + d2 < B64) ∧ B64 * (hi' + d1 + d2) + l2 = x * y + o + c from ⟨s2, ⟨by omega, F.1⟩, F.2.2⟩)
          have GG := Aside0.mk (show 0 ≤ hi' + d1 ∧ hi' + d1 < B64 from ⟨by omega, F.2.1⟩)
          clear F r2 r3 r4 s2 s3 s4 h2 h3 h4
          go_wp2_with fail
          go_roundg (gk - 1)
          case measure => omega
          case rel =>
            refine ⟨k + 1, out.set (i + k) l2, hi' + d1 + d2, by omega, by go_num, ?_, ⟨?_⟩, ⟨?_⟩, ⟨?_⟩⟩
            · obtain ⟨_, f2, _⟩ := FF.out
              obtain ⟨g1, g2⟩ := GG.out
              rw [B64_eq] at f2 g2
              rw [IntKind.wrap_u64, IntKind.wrap_u64]
              congr 1
              omega
            · obtain ⟨f1, f2, f3⟩ := FF.out
              exact HP.out.step B64_pos h0 h1 f1 f2 (by rw [HX.out, HY.out, HOO.out]; exact f3)
            · have := Kd.R_putn HO.out ((i + k : Nat) : Int) l2
              rw [Int.toNat_natCast] at this
              exact this
            · exact below_set HW.out HG.out
        · obtain rfl : k = b.length := by omega
          have hik : i + b.length < m := by have := HM.out; omega
          obtain ⟨hcello, hfro⟩ := Kd.R_celln 0 HO.out ((i + b.length : Nat) : Int) (by omega) (by have := HM.out; omega)
          rw [Int.toNat_natCast] at hcello hfro
          go_wp2_with fail
          go_roundg (a.length - (i + 1))
          case measure => omega
          case rel =>
            refine ⟨i + 1, out.set (i + b.length) c, by omega, by go_num, ⟨HP.out.leave B64_pos h0⟩, ⟨?_⟩, ⟨below_set HW.out HG.out⟩⟩
            have := Kd.R_putn HO.out ((i + b.length : Nat) : Int) c
            rw [Int.toNat_natCast] at this
            exact this
    · obtain rfl : i = a.length := by omega
      go_wp2_with fail
      refine (of_calls _ out _ (RL.of_R HO.out) HP.out.2.1 (by have := HP.out.1; omega)).mono ?_
      rintro e w1 ⟨v1, ys, rfl, o1, c1, n1, l1, b1⟩
      have F := Aside0.mk (show Num w w1 v1 (nv B64 a * nv B64 b) ∧ Below w.heap.size w w1 from
        ⟨⟨ys, Kd.R_mono (Kd.R_lower o1 HW.out.size) (fun b hb => Nat.le_trans HW.out.size hb), c1, by rw [n1, HP.out.done], by have := HP.out.1; omega⟩, HW.out.trans (b1.mono HW.out.size)⟩)
      clear o1 c1 n1 l1 b1
      go_wp2_with fail
      go_ret2
      exact ⟨v1, rfl, F.out⟩

theorem mul_long (va vb : Value) (a b : List Int) (w : World) (ha : RL .u64 w va a) (hb : RL .u64 w vb b) (la : a.length ≤ 1000) (lb : b.length ≤ 1000) (hl : 80 < a.length ∨ 80 < b.length) :
    Calls Try.prog 22 #[va, vb] w fun e w' => e = .returned (.tuple #[.slice none 0 0, .int .i64 11]) ∧ Below w.heap.size w w' := by
  obtain ⟨A, ca, rfl, hca, hCa⟩ := ha
  obtain ⟨A', cb, rfl, hcb, hCb⟩ := hb
  clear hCa hCb hca hcb
  have hlong : decide (80 < a.length ∨ 80 < b.length) = true := by simpa using hl
  clear hl
  go_enter Try.func22, Try.ntmps22
  go_wp2_with fail
  refine (long2_calls A A' a.length b.length ca cb w (by omega) (by omega)).mono ?_
  rintro e w1 ⟨rfl, rfl⟩
  go_wp2_with fail
  go_ret2
  exact ⟨rfl, below_alloc1 _ _⟩
end Go.Proofs.Ytokadjfakncdfaa
