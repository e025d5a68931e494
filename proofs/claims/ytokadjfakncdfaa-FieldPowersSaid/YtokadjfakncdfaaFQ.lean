/- field, of 4 words: array, less, Add, Neg, Sub, Mul, list, Nat, Modulus, New, From. -/
import Derived.Test.YtokadjfakncdfaaFA
import Derived.Laws.Rows
import Derived.Laws.Tables
import Derived.BigQuiet
import Derived.Deep.LoopGhost
section
set_option linter.unusedVariables false
set_option linter.unusedSimpArgs false
namespace Go.Proofs.Ytokadjfakncdfaa
open Go.RowKit Go.Proofs.YtokadjfakncdfaaW.PrintWords Go.Proofs.YtokadjfakncdfaaW.PrintLast Go.Proofs.YtokadjfakncdfaaW.PrintMore
set_option maxRecDepth 100000 in
theorem array4_calls (v : Value) (a : List Int) (w : World) (ha : RL .u64 w v a) (da : Dig B64 a) (la : a.length ≤ 1000) :
    Calls Try.prog 91 #[v] w fun e w' => e = .returned (.agg (c64 (dg 4 (nv B64 a)))) ∧ Below w.heap.size w w' := by
  obtain ⟨A, c, rfl, hc, hC⟩ := ha
  have HC := Aside0.mk hC
  have HD := Aside0.mk (dg_nv_eq 4 da)
  have S := Aside0.mk (((SB0.nil w).alloc 63 (List.replicate 4 0)).alloc 63 (List.replicate 4 0)).S
  clear hC da
  go_enter Try.func91, Try.ntmps91
  go_wp2_with fail
  go_loopg [7] 4 (fun kk v7 wr => ∃ i : Nat, i + kk = 4 ∧ v7 = .int .i64 i ∧ Aside0 (SB w wr [(63, List.replicate 4 0), (63, fillN 4 (fun j => a.getD j 0) (fun _ => 0) i)]))
  case atStart => exact ⟨0, by omega, rfl, S⟩
  case round =>
    clear S
    obtain ⟨i, hi, rfl, S⟩ := hrel
    by_cases h0 : i < 4
    · by_cases h1 : i < a.length
      · obtain ⟨ad, rfl, hcell⟩ := C_cell (Kd.C_below HC.out S.out.B) i h1
        obtain ⟨x, hx⟩ : ∃ x, a.getD i 0 = x := ⟨_, rfl⟩
        rw [hx] at hcell
        have HX := Aside0.mk hx
        clear hx
        have f1 := blk_frozen (S.out.R 1 _ _ rfl) i
        have c1 := c64_cell (S.out.R 1 _ _ rfl) i (by rw [fillN_length]; exact h0)
        go_wp2_with fail
        go_roundg (4 - (i + 1))
        case measure => omega
        case rel =>
          refine ⟨i + 1, by omega, by go_num, ⟨?_⟩⟩
          have := S.out.set 1 _ _ rfl i x
          rw [fillN_set _ _ _ _ _ HX.out.symm] at this
          exact this
      · go_wp2_with fail
        go_roundg (4 - (i + 1))
        case measure => omega
        case rel =>
          refine ⟨i + 1, by omega, by go_num, ⟨?_⟩⟩
          rw [← fillN_skip 4 (fun j => a.getD j 0) (fun _ => 0) i (by rw [List.getD_eq_getElem?_getD, List.getElem?_eq_none (by omega)]; rfl)]
          exact S.out
    · obtain rfl : i = 4 := by omega
      rw [fillN_all, ← HD.out] at S
      obtain ⟨z, hz⟩ : ∃ z, dg 4 (nv B64 a) = z := ⟨_, rfl⟩
      have hl : z.length = 4 := by rw [← hz, dg_length]
      rw [hz] at S
      have SZ := Aside0.mk (c64_info info63 hl)
      have SN := Aside0.mk (show (c64 (List.replicate 4 0)).size = (c64 z).size from c64_sizes (by rw [hl]; rfl))
      have HZ := Aside0.mk hz
      clear HD hz hl
      go_wp2_with (first | (refine wpList_load_row rfl 63 (.tmp 3) rfl _ rfl 63 (c64 z) (0, 0) _ (S.out.R 1 _ _ rfl) Try.underlying63 rfl SZ.out ?_) | (refine wpList_store_row rfl 63 (.tmp 2) (.tmp 21) rfl _ (c64 z) rfl rfl 63 _ (S.out.R 0 _ _ rfl) SZ.out SN.out (c64_all z) ?_))
      have S2 := S.out.setRow 0 _ _ rfl z
      exact bodyPost_ret (v := .agg (c64 z)) (results_cell_row rfl _ _ _ 63 (c64 z) (0, 0) _ rfl (S2.R 0 _ _ rfl) Try.underlying63 rfl SZ.out) rfl ⟨by rw [HZ.out], S2.B⟩
end Go.Proofs.Ytokadjfakncdfaa
end

section
set_option linter.unusedVariables false
set_option linter.unusedSimpArgs false
namespace Go.Proofs.Ytokadjfakncdfaa
open Go.RowKit Go.Proofs.YtokadjfakncdfaaW.PrintWords Go.Proofs.YtokadjfakncdfaaW.PrintLast Go.Proofs.YtokadjfakncdfaaW.PrintMore
set_option maxRecDepth 100000 in
theorem less4_calls (g : Nat) (m sq on inv : Int) (wv : Value) (x : List Int) (over : Int) (w : World) (hF : w.heap[g]? = some (.cells (fcells 4 m sq on inv wv) 121 (0, 0))) (dx : Dig B64 x) (hx : x.length = 4) (ho : 0 ≤ over ∧ over < B64) (hm : 0 ≤ m ∧ m < B64 ^ 4) :
    Calls Try.prog 94 #[.pointer (some ⟨g, 0, none⟩), .agg (c64 x), .int .u64 over] w fun e w' => e = .returned (.agg (c64 (if over = 0 ∧ nv B64 x < m then x else dg 4 (nv B64 x - m)))) ∧ Below w.heap.size w w' := by
  obtain ⟨r, hr⟩ : ∃ r, (if over = 0 ∧ nv B64 x < m then x else dg 4 (nv B64 x - m)) = r := ⟨_, rfl⟩
  rw [hr]
  have HR := Aside0.mk hr
  have HF := Aside0.mk hF
  have DX := Aside0.mk dx
  have HX := Aside0.mk hx
  have HM := Aside0.mk hm
  have HO := Aside0.mk ho
  have S := Aside0.mk ((((SB0.nil w).alloc 63 x).alloc 63 (List.replicate 4 0)).alloc 63 (List.replicate 4 0)).S
  have SX := Aside0.mk (c64_info info63 hx)
  clear hF dx hm hx ho hr
  go_enter Try.func94, Try.ntmps94
  go_wp2_with (refine wpList_load_row rfl 63 (.tmp 4) rfl _ rfl 63 (c64 x) (0, 0) _ (S.out.R 0 _ _ rfl) Try.underlying63 rfl SX.out ?_)
  rw [show w.heap.size + 1 + 1 = w.heap.size + 2 from rfl]
  go_loopg [12, 8] 4 (fun kk v12 v8 wr => ∃ (i : Nat) (b : Int) (zs : List Int), i + kk = 4 ∧ v12 = .int .i64 i ∧ v8 = .int .u64 b ∧ Aside0 (SB w wr [(63, x), (63, List.replicate 4 0), (63, zs)]) ∧ Aside0 (Bor 4 x (dg 4 m) zs i b))
  case atStart => exact ⟨0, 0, _, by omega, rfl, rfl, S, ⟨Bor.start _ _ _⟩⟩
  case round =>
    clear S
    obtain ⟨i, b, zs, hi, rfl, rfl, S, HB⟩ := hrel
    by_cases h0 : i < 4
    · have c0 := c64_cell (S.out.R 0 _ _ rfl) i (by rw [HX.out]; exact h0)
      rw [Nat.add_zero] at c0
      have c1 := (blk_cell (S.out.B.block g (blk_lt HF.out) |>.trans HF.out) i).trans (fcells_m i h0)
      obtain ⟨a, ha⟩ : ∃ a, x.getD i 0 = a := ⟨_, rfl⟩
      obtain ⟨d, hd⟩ : ∃ d, (dg 4 m).getD i 0 = d := ⟨_, rfl⟩
      rw [ha] at c0
      rw [hd] at c1
      obtain ⟨s, b', h1, h2, h3, h4⟩ := sub64_run a d b (ha ▸ DX.out.getD B64_pos i) (hd ▸ (dg_dig _ _).getD B64_pos i) HB.out.B
      have HB2 := Aside0.mk (HB.out.step h0 h2 h3 (by rw [ha, hd]; exact h4))
      clear h2 h3 h4 ha hd
      go_wp2_with fail
      have c2 := c64_cell (S.out.R 2 _ _ rfl) i (by have := HB2.out.L; rw [List.length_set] at this; rw [this]; exact h0)
      have f2 := blk_frozen (S.out.R 2 _ _ rfl) i
      go_region
      go_wp2_with fail
      go_roundg (4 - (i + 1))
      case measure => omega
      case rel => exact ⟨i + 1, b', zs.set i s, by omega, by go_num, rfl, ⟨(S.out.set 2 _ _ rfl i s).drew⟩, HB2⟩
    · obtain rfl : i = 4 := by omega
      obtain ⟨e1, e2⟩ := HB.out.done DX.out (dg_dig _ _) HX.out (dg_length _ _)
      rw [dg_nv_lt _ _ HM.out.1 HM.out.2] at e1 e2
      have HL := Aside0.mk HB.out.L
      have SZ := Aside0.mk (c64_info info63 HB.out.L)
      have E1 := Aside0.mk e1
      have E2 := Aside0.mk e2
      have HB1 := Aside0.mk HB.out.B
      have SN := Aside0.mk (show (c64 (List.replicate 4 0)).size = (c64 x).size from c64_sizes (by rw [HX.out]; rfl))
      have SM := Aside0.mk (show (c64 (List.replicate 4 0)).size = (c64 zs).size from c64_sizes (by rw [HL.out]; rfl))
      clear e1 e2 HB
      by_cases h1 : over = 0
      · subst h1
        rcases HB1.out with rfl | rfl
        · have RZ := Aside0.mk (show zs = r from by rw [← HR.out, if_neg (fun h => by have := E2.out.2 h.2; omega), ← E1.out])
          clear HR E2 E1 HB1
          go_wp2_with (first | (refine wpList_load_row rfl 63 (.tmp 7) rfl _ rfl 63 (c64 zs) (0, 0) _ (S.out.R 2 _ _ rfl) Try.underlying63 rfl SZ.out ?_) | (refine wpList_store_row rfl 63 (.tmp 6) (.tmp 39) rfl _ (c64 zs) rfl rfl 63 _ (S.out.R 1 _ _ rfl) SZ.out SM.out (c64_all zs) ?_))
          have S2 := S.out.setRow 1 _ _ rfl zs
          exact bodyPost_ret (v := .agg (c64 zs)) (results_cell_row rfl _ _ _ 63 (c64 zs) (0, 0) _ rfl (S2.R 1 _ _ rfl) Try.underlying63 rfl SZ.out) rfl ⟨by rw [RZ.out], S2.B⟩
        · have RX := Aside0.mk (show x = r from by rw [← HR.out, if_pos ⟨rfl, E2.out.1 rfl⟩])
          clear HR E2 E1 HB1
          go_wp2_with (first | (refine wpList_load_row rfl 63 (.tmp 4) rfl _ rfl 63 (c64 x) (0, 0) _ (S.out.R 0 _ _ rfl) Try.underlying63 rfl SX.out ?_) | (refine wpList_store_row rfl 63 (.tmp 6) (.tmp 38) rfl _ (c64 x) rfl rfl 63 _ (S.out.R 1 _ _ rfl) SX.out SN.out (c64_all x) ?_))
          have S2 := S.out.setRow 1 _ _ rfl x
          exact bodyPost_ret (v := .agg (c64 x)) (results_cell_row rfl _ _ _ 63 (c64 x) (0, 0) _ rfl (S2.R 1 _ _ rfl) Try.underlying63 rfl SX.out) rfl ⟨by rw [RX.out], S2.B⟩
      · have RZ := Aside0.mk (show zs = r from by rw [← HR.out, if_neg (fun h => h1 h.1), ← E1.out])
        clear HR E2 E1 HB1
        go_wp2_with (first | (refine wpList_load_row rfl 63 (.tmp 7) rfl _ rfl 63 (c64 zs) (0, 0) _ (S.out.R 2 _ _ rfl) Try.underlying63 rfl SZ.out ?_) | (refine wpList_store_row rfl 63 (.tmp 6) (.tmp 39) rfl _ (c64 zs) rfl rfl 63 _ (S.out.R 1 _ _ rfl) SZ.out SM.out (c64_all zs) ?_))
        have S2 := S.out.setRow 1 _ _ rfl zs
        exact bodyPost_ret (v := .agg (c64 zs)) (results_cell_row rfl _ _ _ 63 (c64 zs) (0, 0) _ rfl (S2.R 1 _ _ rfl) Try.underlying63 rfl SZ.out) rfl ⟨by rw [RZ.out], S2.B⟩
end Go.Proofs.Ytokadjfakncdfaa
end

section
set_option linter.unusedVariables false
set_option linter.unusedSimpArgs false
namespace Go.Proofs.Ytokadjfakncdfaa
open Go.RowKit Go.Proofs.YtokadjfakncdfaaW.PrintWords Go.Proofs.YtokadjfakncdfaaW.PrintLast Go.Proofs.YtokadjfakncdfaaW.PrintMore
set_option maxRecDepth 100000 in
theorem addE4_calls (g : Nat) (m X Y Z : Int) (w : World) (hF : Fd 4 121 w g m) (hX : 0 ≤ X ∧ X < m) (hY : 0 ≤ Y ∧ Y < m) (hZ : (X + Y) % m = Z) :
    Calls Try.prog 74 #[.pointer (some ⟨g, 0, none⟩), elt 4 X, elt 4 Y] w fun e w' => e = .returned (elt 4 Z) ∧ Below w.heap.size w w' := by
  subst hZ
  have hp := hF.fp
  have vx := dg_nv_lt 4 X hX.1 (by have := hp.lt; omega)
  have vy := dg_nv_lt 4 Y hY.1 (by have := hp.lt; omega)
  unfold elt
  have dx := dg_dig 4 X
  have lx := dg_length 4 X
  have dy := dg_dig 4 Y
  have ly := dg_length 4 Y
  obtain ⟨x, hx⟩ : ∃ x, dg 4 X = x := ⟨_, rfl⟩
  obtain ⟨y, hy⟩ : ∃ y, dg 4 Y = y := ⟨_, rfl⟩
  obtain ⟨r, hr⟩ : ∃ r, dg 4 ((X + Y) % m) = r := ⟨_, rfl⟩
  rw [hr]
  rw [hx] at vx dx lx ⊢
  rw [hy] at vy dy ly ⊢
  have HF := Aside0.mk hF
  have HP := Aside0.mk hp
  have VX := Aside0.mk vx
  have VY := Aside0.mk vy
  have DX := Aside0.mk dx
  have DY := Aside0.mk dy
  have LX := Aside0.mk lx
  have LY := Aside0.mk ly
  have HX := Aside0.mk hX
  have HY := Aside0.mk hY
  have HR := Aside0.mk hr
  have S := Aside0.mk (((((SB0.nil w).alloc 63 x).alloc 63 y).alloc 63 (List.replicate 4 0)).alloc 63 (List.replicate 4 0)).S
  have SX := Aside0.mk (c64_info info63 lx)
  clear hF hp vx vy dx dy lx ly hx hy hX hY hr
  go_enter Try.func74, Try.ntmps74
  go_wp2_with (refine wpList_load_row rfl 63 (.tmp 4) rfl _ rfl 63 (c64 x) (0, 0) _ (S.out.R 0 _ _ rfl) Try.underlying63 rfl SX.out ?_)
  rw [show w.heap.size + 1 + 1 + 1 = w.heap.size + 3 from rfl, show w.heap.size + 1 + 1 = w.heap.size + 2 from rfl]
  go_loopg [15, 8] 4 (fun kk v15 v8 wr => ∃ (i : Nat) (b : Int) (zs : List Int), i + kk = 4 ∧ v15 = .int .i64 i ∧ v8 = .int .u64 b ∧ Aside0 (SB w wr [(63, x), (63, y), (63, List.replicate 4 0), (63, zs)]) ∧ Aside0 (Car 4 x y zs i b))
  case atStart => exact ⟨0, 0, _, by omega, rfl, rfl, S, ⟨Car.start _ _ _⟩⟩
  case round =>
    clear S
    obtain ⟨i, b, zs, hi, rfl, rfl, S, HB⟩ := hrel
    by_cases h0 : i < 4
    · have c0 := c64_cell (S.out.R 0 _ _ rfl) i (by rw [LX.out]; exact h0)
      rw [Nat.add_zero] at c0
      have c1 := c64_cell (S.out.R 1 _ _ rfl) i (by rw [LY.out]; exact h0)
      obtain ⟨a, ha⟩ : ∃ a, x.getD i 0 = a := ⟨_, rfl⟩
      obtain ⟨d, hd⟩ : ∃ d, y.getD i 0 = d := ⟨_, rfl⟩
      rw [ha] at c0
      rw [hd] at c1
      obtain ⟨s, b', h1, h2, h3, h4⟩ := add64_run a d b (ha ▸ DX.out.getD B64_pos i) (hd ▸ DY.out.getD B64_pos i) HB.out.B
      have HB2 := Aside0.mk (HB.out.step h0 h2 h3 (by rw [ha, hd]; exact h4))
      clear h2 h3 h4 ha hd
      go_wp2_with fail
      have c2 := c64_cell (S.out.R 3 _ _ rfl) i (by have := HB2.out.L; rw [List.length_set] at this; rw [this]; exact h0)
      have f2 := blk_frozen (S.out.R 3 _ _ rfl) i
      go_region
      go_wp2_with fail
      go_roundg (4 - (i + 1))
      case measure => omega
      case rel => exact ⟨i + 1, b', zs.set i s, by omega, by go_num, rfl, ⟨(S.out.set 3 _ _ rfl i s).drew⟩, HB2⟩
    · obtain rfl : i = 4 := by omega
      have HD := Aside0.mk (HB.out.done LX.out LY.out)
      have HL := Aside0.mk HB.out.L
      have DZ := Aside0.mk HB.out.D
      have HC := Aside0.mk HB.out.B
      have SZ := Aside0.mk (c64_info info63 HB.out.L)
      have E := Aside0.mk (add_last HP.out HX.out HY.out DZ.out HL.out HC.out (by rw [HD.out, VX.out, VY.out]))
      clear HB HD
      go_wp2_with (refine wpList_load_row rfl 63 (.tmp 7) rfl _ rfl 63 (c64 zs) (0, 0) _ (S.out.R 3 _ _ rfl) Try.underlying63 rfl SZ.out ?_)
      have hF1 := HF.out.below S.out.B
      obtain ⟨inv, wv, k1, k2, k3, k4, k5⟩ := hF1.out
      refine (less4_calls g m _ _ _ _ zs b wr k1 DZ.out HL.out (by have := HC.out; rw [B64_eq]; omega) HP.out.nn).mono ?_
      rintro e w1 ⟨rfl, b1⟩
      rw [E.out, HR.out]
      have LR := Aside0.mk (show r.length = 4 by rw [← HR.out, dg_length])
      have SR := Aside0.mk (c64_info info63 LR.out)
      have SN := Aside0.mk (show (c64 (List.replicate 4 0)).size = (c64 r).size from c64_sizes (by rw [LR.out]; rfl))
      have S1 := Aside0.mk (S.out.below b1)
      clear k1 k2 k3 k4 k5 hF1 b1 S E HR LR
      go_wp2_with (refine wpList_store_row rfl 63 (.tmp 6) (.tmp 35) rfl _ (c64 r) rfl rfl 63 _ (S1.out.R 2 _ _ rfl) SR.out SN.out (c64_all r) ?_)
      have S2 := S1.out.setRow 2 _ _ rfl r
      exact bodyPost_ret (v := .agg (c64 r)) (results_cell_row rfl _ _ _ 63 (c64 r) (0, 0) _ rfl (S2.R 2 _ _ rfl) Try.underlying63 rfl SR.out) rfl ⟨rfl, S2.B⟩
end Go.Proofs.Ytokadjfakncdfaa
end

section
set_option linter.unusedVariables false
set_option linter.unusedSimpArgs false
namespace Go.Proofs.Ytokadjfakncdfaa
open Go.RowKit Go.Proofs.YtokadjfakncdfaaW.PrintWords Go.Proofs.YtokadjfakncdfaaW.PrintLast Go.Proofs.YtokadjfakncdfaaW.PrintMore
set_option maxRecDepth 100000 in
theorem negE4_calls (g : Nat) (m X Z : Int) (w : World) (hF : Fd 4 121 w g m) (hX : 0 ≤ X ∧ X < m) (hZ : (m - X) % m = Z) :
    Calls Try.prog 83 #[.pointer (some ⟨g, 0, none⟩), elt 4 X] w fun e w' => e = .returned (elt 4 Z) ∧ Below w.heap.size w w' := by
  subst hZ
  have hp := hF.fp
  have vx := dg_nv_lt 4 X hX.1 (by have := hp.lt; omega)
  unfold elt
  have dx := dg_dig 4 X
  have lx := dg_length 4 X
  obtain ⟨zz, hzz⟩ : ∃ z : List Int, List.replicate 4 0 = z := ⟨_, rfl⟩
  have ez : dg 4 X = zz ↔ X = 0 := by
    have h0 : dg 4 0 = zz := by rw [← hzz]; rfl
    rw [← h0]
    exact dg_inj (n := 4) hX.1 (by have := hp.lt; omega) (Int.le_refl 0) (pow_pos' B64_pos _)
  obtain ⟨x, hx⟩ : ∃ x, dg 4 X = x := ⟨_, rfl⟩
  obtain ⟨r, hr⟩ : ∃ r, dg 4 ((m - X) % m) = r := ⟨_, rfl⟩
  rw [hr]
  rw [hx] at vx dx lx ez ⊢
  have lr : r.length = 4 := by rw [← hr, dg_length]
  have HF := Aside0.mk hF
  have HP := Aside0.mk hp
  have VX := Aside0.mk vx
  have DX := Aside0.mk dx
  have LX := Aside0.mk lx
  have LR := Aside0.mk lr
  have HX := Aside0.mk hX
  have HR := Aside0.mk hr
  have s0 := ((((SB0.nil w).alloc 63 x).alloc 63 (List.replicate 4 0)).alloc 63 (List.replicate 4 0)).S
  have lz : zz.length = 4 := by rw [← hzz]; rfl
  have s1 : SB w (((w.alloc (.cells (c64 x) 63)).alloc (.cells (c64 (List.replicate 4 0)) 63)).alloc (.cells (c64 (List.replicate 4 0)) 63)) [(63, x), (63, zz), (63, zz)] := by rw [← hzz]; exact s0
  have S := Aside0.mk s1
  have HZ := Aside0.mk hzz
  have SZ := Aside0.mk (c64_info info63 lz)
  have SX := Aside0.mk (c64_info info63 lx)
  have SR := Aside0.mk (c64_info info63 lr)
  have SN := Aside0.mk (show (c64 zz).size = (c64 r).size from c64_sizes (by rw [lr, lz]))
  have ge := guard63
  have eq := eq63 x zz lx lz
  have he : decide (x = zz) = decide (X = 0) := decide_eq_decide.2 ez
  rw [he] at eq
  clear hF hp vx dx lx hx hX hr ez he lr s0 s1 hzz lz
  have eq' : ∀ w, (Op.equalIn 10000 63 (.agg (c64 x)) (.agg (c64 zz))).run Try.prog w = .ok (decide (X = 0)) w := eq
  clear eq
  by_cases h0 : X = 0
  · have R0 := Aside0.mk (show zz = r from by rw [← HZ.out, ← HR.out, h0, Int.sub_zero, Int.emod_self]; rfl)
    have d0 : decide (X = 0) = true := by simp [h0]
    rw [d0] at eq'
    clear h0 d0
    go_enter Try.func83, Try.ntmps83
    go_wp2_with (first | (refine wpList_load_rowG (by rfl) 63 (.tmp 3) rfl _ rfl 63 (c64 x) (0, 0) _ (S.out.R 0 _ _ rfl) Try.underlying63 rfl SX.out ?_) | (refine wpList_load_rowG (by rfl) 63 (.tmp 5) rfl _ rfl 63 (c64 zz) (0, 0) _ (S.out.R 2 _ _ rfl) Try.underlying63 rfl SZ.out ?_) | (refine wpList_store_row rfl 63 (.tmp 4) (.tmp 15) rfl _ (c64 zz) rfl rfl 63 _ (S.out.R 1 _ _ rfl) SZ.out rfl (c64_all zz) ?_))
    have S2 := S.out.setRow 1 _ _ rfl zz
    exact bodyPost_ret (v := .agg (c64 zz)) (results_cell_row rfl _ _ _ 63 (c64 zz) (0, 0) _ rfl (S2.R 1 _ _ rfl) Try.underlying63 rfl SZ.out) rfl ⟨by rw [R0.out], S2.B⟩
  · have d0 : decide (X = 0) = false := by simp [h0]
    have H0 := Aside0.mk h0
    rw [d0] at eq'
    clear d0 h0
    go_enter Try.func83, Try.ntmps83
    go_wp2_with (first | (refine wpList_load_rowG (by rfl) 63 (.tmp 3) rfl _ rfl 63 (c64 x) (0, 0) _ (S.out.R 0 _ _ rfl) Try.underlying63 rfl SX.out ?_) | (refine wpList_load_rowG (by rfl) 63 (.tmp 5) rfl _ rfl 63 (c64 zz) (0, 0) _ (S.out.R 2 _ _ rfl) Try.underlying63 rfl SZ.out ?_))
    clear eq'
    rw [show w.heap.size + 1 + 1 = w.heap.size + 2 from rfl]
    go_loopg [18, 6] 4 (fun kk v18 v6 wr => ∃ (i : Nat) (b : Int) (zs : List Int), i + kk = 4 ∧ v18 = .int .i64 i ∧ v6 = .int .u64 b ∧ Aside0 (SB w wr [(63, x), (63, zz), (63, zs)]) ∧ Aside0 (Bor 4 (dg 4 m) x zs i b))
    case atStart => exact ⟨0, 0, zz, by omega, rfl, rfl, S, ⟨by rw [← HZ.out]; exact Bor.start _ _ _⟩⟩
    case round =>
      clear S
      obtain ⟨i, b, zs, hi, rfl, rfl, S, HB⟩ := hrel
      by_cases h0 : i < 4
      · have c0 := c64_cell (S.out.R 0 _ _ rfl) i (by rw [LX.out]; exact h0)
        rw [Nat.add_zero] at c0
        obtain ⟨inv, wv, k1, k2⟩ := (HF.out.below S.out.B).out
        have c1 := (blk_cell k1 i).trans (fcells_m i h0)
        clear k1 k2
        obtain ⟨d, hd⟩ : ∃ d, x.getD i 0 = d := ⟨_, rfl⟩
        obtain ⟨a, ha⟩ : ∃ a, (dg 4 m).getD i 0 = a := ⟨_, rfl⟩
        rw [hd] at c0
        rw [ha] at c1
        obtain ⟨s, b', h1, h2, h3, h4⟩ := sub64_run a d b (ha ▸ (dg_dig _ _).getD B64_pos i) (hd ▸ DX.out.getD B64_pos i) HB.out.B
        have HB2 := Aside0.mk (HB.out.step h0 h2 h3 (by rw [ha, hd]; exact h4))
        clear h2 h3 h4 ha hd
        go_wp2_with fail
        have c2 := c64_cell (S.out.R 2 _ _ rfl) i (by have := HB2.out.L; rw [List.length_set] at this; rw [this]; exact h0)
        have f2 := blk_frozen (S.out.R 2 _ _ rfl) i
        go_region
        go_wp2_with fail
        go_roundg (4 - (i + 1))
        case measure => omega
        case rel => exact ⟨i + 1, b', zs.set i s, by omega, by go_num, rfl, ⟨(S.out.set 2 _ _ rfl i s).drew⟩, HB2⟩
      · obtain rfl : i = 4 := by omega
        have hz := (HB.out.done (dg_dig _ _) DX.out (dg_length _ _) LX.out).1
        rw [dg_nv_lt _ _ HP.out.nn.1 HP.out.nn.2, VX.out] at hz
        have RZ := Aside0.mk (show zs = r from by
          have := HX.out
          have := H0.out
          rw [hz, ← HR.out, Int.emod_eq_of_lt (by omega) (by omega)])
        clear hz HB
        obtain rfl := RZ.out
        go_wp2_with (first | (refine wpList_load_row rfl 63 (.tmp 5) rfl _ rfl 63 (c64 zs) (0, 0) _ (S.out.R 2 _ _ rfl) Try.underlying63 rfl SR.out ?_) | (refine wpList_store_row rfl 63 (.tmp 4) (.tmp 38) rfl _ (c64 zs) rfl rfl 63 _ (S.out.R 1 _ _ rfl) SR.out SN.out (c64_all zs) ?_))
        have S2 := S.out.setRow 1 _ _ rfl zs
        exact bodyPost_ret (v := .agg (c64 zs)) (results_cell_row rfl _ _ _ 63 (c64 zs) (0, 0) _ rfl (S2.R 1 _ _ rfl) Try.underlying63 rfl SR.out) rfl ⟨rfl, S2.B⟩

set_option maxRecDepth 100000 in
set_option maxHeartbeats 4000000 in
theorem subE4_calls (g : Nat) (m X Y V Z : Int) (w : World) (hF : Fd 4 121 w g m) (hX : 0 ≤ X ∧ X < m) (hY : 0 ≤ Y ∧ Y < m) (hV : (m - Y) % m = V) (hZ : (X + V) % m = Z) :
    Calls Try.prog 75 #[.pointer (some ⟨g, 0, none⟩), elt 4 X, elt 4 Y] w fun e w' => e = .returned (elt 4 Z) ∧ Below w.heap.size w w' := by
  have HV := Aside0.mk hV
  have HZ := Aside0.mk hZ
  clear hV hZ
  have hp := hF.fp
  have HF := Aside0.mk hF
  have HX := Aside0.mk hX
  have HY := Aside0.mk hY
  have S := Aside0.mk ((((SB0.nil w).alloc 63 (dg 4 X)).alloc 63 (dg 4 Y)).alloc 63 (List.replicate 4 0)).S
  have HP := Aside0.mk hp
  obtain ⟨r, hr⟩ : ∃ r, dg 4 Z = r := ⟨_, rfl⟩
  have LR := Aside0.mk (show r.length = 4 by rw [← hr, dg_length])
  have SR := Aside0.mk (c64_info info63 LR.out)
  have SN := Aside0.mk (show (c64 (List.replicate 4 0)).size = (c64 r).size from c64_sizes (by rw [LR.out]; rfl))
  clear hF hX hY hp
  unfold elt
  go_enter Try.func75, Try.ntmps75
  go_upto_region 1 with fail
  rw [show w.heap.size + 1 + 1 = w.heap.size + 2 from rfl]
  obtain ⟨W, hW⟩ : ∃ W, ((w.alloc (.cells (c64 (dg 4 X)) 63)).alloc (.cells (c64 (dg 4 Y)) 63)).alloc (.cells #[.int .u64 0, .int .u64 0, .int .u64 0, .int .u64 0] 63) = W := ⟨_, rfl⟩
  have s1 : SB w W [(63, dg 4 X), (63, dg 4 Y), (63, List.replicate 4 0)] := hW ▸ S.out
  rw [hW]
  have S1 := Aside0.mk s1.drew
  clear S s1 hW
  refine wp_region_noPanic ?_
  refine wp_region_held_drew (S := (fun w' => Aside0 (∃ z : List Int, z.length = 4 ∧ SB w w' [(63, dg 4 X), (63, dg 4 Y), (63, z)]))) (by kernel_rfl) ⟨⟨_, by simp, S1.out⟩⟩ (fun hHeld => ?_)
  refine tkG 0 (v := ?_) rfl (by kernel_rfl) (by kernel_rfl) (by kernel_rfl) (fun _ _ _ h => h) (Or.inl ⟨by rfl, ?_⟩) hHeld ?_
  rotate_left; · (intro w hSw; go_simp; first | done | with_reducible rfl)
  try simp only [Act.put, List.setIfInBounds_toArray, List.set_cons_zero, List.set_cons_succ]
  refine tkG 1 (v := elt 4 X) rfl (by kernel_rfl) (by kernel_rfl) (by kernel_rfl) (fun _ _ _ h => h) (Or.inl ⟨by rfl, fun w' hSw => loadG 63 (.tmp 4) rfl ⟨w.heap.size, 0, none⟩ rfl (elt_load63 ⟨by obtain ⟨z, _, hz⟩ := hSw.out; exact hz.R 0 _ _ rfl⟩)⟩) hHeld ?_
  try simp only [Act.put, List.setIfInBounds_toArray, List.set_cons_zero, List.set_cons_succ]
  refine tkG 2 (v := ?_) rfl (by kernel_rfl) (by kernel_rfl) (by kernel_rfl) (fun _ _ _ h => h) (Or.inl ⟨by rfl, ?_⟩) hHeld ?_
  rotate_left; · (intro w hSw; go_simp; first | done | with_reducible rfl)
  try simp only [Act.put, List.setIfInBounds_toArray, List.set_cons_zero, List.set_cons_succ]
  refine tkG 3 (v := elt 4 Y) rfl (by kernel_rfl) (by kernel_rfl) (by kernel_rfl) (fun _ _ _ h => h) (Or.inl ⟨by rfl, fun w' hSw => loadG 63 (.tmp 5) rfl ⟨w.heap.size + 1, 0, none⟩ rfl (elt_load63 ⟨by obtain ⟨z, _, hz⟩ := hSw.out; exact hz.R 1 _ _ rfl⟩)⟩) hHeld ?_
  try simp only [Act.put, List.setIfInBounds_toArray, List.set_cons_zero, List.set_cons_succ]
  refine brG 4 rfl (by kernel_rfl) (fun K hK => ?_)
  go_simp
  refine (negE4_calls g m Y V W.drew (HF.out.below S1.out.B) HY.out HV.out).mono ?_
  rintro e w1 ⟨rfl, b1⟩
  have S2 := Aside0.mk (S1.out.below b1)
  clear S1 b1 hHeld
  refine hK.out _ _ ⟨⟨_, by simp, S2.out⟩⟩ (fun hHeld => ?_)
  clear hK K
  try simp only [Act.put, List.setIfInBounds_toArray, List.set_cons_zero, List.set_cons_succ]
  refine brG 5 rfl (by kernel_rfl) (fun K hK => ?_)
  go_simp
  have hY1 : 0 ≤ V ∧ V < m := HV.out ▸ ⟨Int.emod_nonneg _ (by have := HP.out.pos; omega), Int.emod_lt_of_pos _ HP.out.pos⟩
  refine (addE4_calls g m X V Z w1 (HF.out.below S2.out.B) HX.out hY1 HZ.out).mono ?_
  rintro e w2 ⟨rfl, b2⟩
  have S3 := Aside0.mk (S2.out.below b2)
  clear S2 b2 hHeld hY1
  refine hK.out _ _ ⟨⟨_, by simp, S3.out⟩⟩ (fun hHeld => ?_)
  clear hK K
  try simp only [Act.put, List.setIfInBounds_toArray, List.set_cons_zero, List.set_cons_succ]
  refine brG 6 rfl (by kernel_rfl) (fun K hK => ?_)
  rw [if_pos (by rfl)]
  refine wp_store_row 63 (.tmp 6) (.tmp 12) rfl (w.heap.size + 2) (c64 r) rfl (by rw [← hr]; rfl) 63 _ (S3.out.R 2 _ _ rfl) SR.out SN.out (c64_all r) ?_
  have S4 := Aside0.mk (S3.out.setRow 2 _ _ rfl r)
  clear S3 hHeld
  refine hK.out _ _ ⟨⟨r, LR.out, S4.out⟩⟩ (fun hHeld => ?_)
  clear hK K
  try simp only [Act.put, List.setIfInBounds_toArray, List.set_cons_zero, List.set_cons_succ]
  refine wpAnyH_done (by kernel_rfl) ?_ _
  refine NoPanic.normal ?_
  go_wp2_with fail
  exact bodyPost_ret (v := .agg (c64 r)) (results_cell_row rfl _ _ _ 63 (c64 r) (0, 0) _ rfl (S4.out.R 2 _ _ rfl) Try.underlying63 rfl SR.out) rfl ⟨by rw [hr], S4.out.B⟩
end Go.Proofs.Ytokadjfakncdfaa
end

section
set_option linter.unusedVariables false
set_option linter.unusedSimpArgs false
namespace Go.Proofs.Ytokadjfakncdfaa
open Go.RowKit Go.Proofs.YtokadjfakncdfaaW.PrintWords Go.Proofs.YtokadjfakncdfaaW.PrintLast Go.Proofs.YtokadjfakncdfaaW.PrintMore
set_option maxRecDepth 100000 in
set_option maxHeartbeats 4000000 in
theorem mulR4_calls (g : Nat) (m X : Int) (y : List Int) (w : World) (hF : Fd 4 121 w g m) (hX : 0 ≤ X ∧ X < m) (dy : Dig B64 y) (ly : y.length = 4) :
    Calls Try.prog 50 #[.pointer (some ⟨g, 0, none⟩), elt 4 X, .agg (c64 y)] w fun e w' => ∃ Z, e = .returned (elt 4 Z) ∧ (Cg m (Z * B64 ^ 4) (X * nv B64 y) ∧ 0 ≤ Z ∧ Z < m) ∧ Below w.heap.size w w' := by
  have hp := hF.fp
  have vx := dg_nv_lt 4 X hX.1 (by have := hp.lt; omega)
  unfold elt
  have dx := dg_dig 4 X
  have lx := dg_length 4 X
  obtain ⟨x, hx⟩ : ∃ x, dg 4 X = x := ⟨_, rfl⟩
  rw [hx] at vx dx lx ⊢
  have HF := Aside0.mk hF
  have HP := Aside0.mk hp
  have VX := Aside0.mk vx
  have DX := Aside0.mk dx
  have DY := Aside0.mk dy
  have LX := Aside0.mk lx
  have LY := Aside0.mk ly
  have HX := Aside0.mk hX
  have S := Aside0.mk ((((((SB0.nil w).alloc 63 x).alloc 63 y).alloc 63 (List.replicate 4 0)).alloc 63 (List.replicate 4 0)).alloc 124 (List.replicate 8 0)).S
  have S0 := Aside0.mk ((((SB0.nil w).alloc 63 x).alloc 63 y).alloc 63 (List.replicate 4 0)).S
  have SX := Aside0.mk (c64_info info63 lx)
  clear hF hp vx dx dy lx ly hX hx
  go_enter Try.func50, Try.ntmps50
  go_wp2_with (refine wpList_load_row rfl 63 (.tmp 4) rfl _ rfl 63 (c64 x) (0, 0) _ (by first | exact (S0.out.below (below_alloc (Below.refl _ _) _)).R 0 _ _ rfl | exact S0.out.R 0 _ _ rfl) Try.underlying63 rfl SX.out ?_)
  rw [show w.heap.size + 1 + 1 + 1 + 1 = w.heap.size + 4 from rfl, show w.heap.size + 1 + 1 + 1 = w.heap.size + 3 from rfl, show w.heap.size + 1 + 1 = w.heap.size + 2 from rfl]
  clear S0
  go_loopg [32] 4 (fun kk v32 wr => ∃ (i : Nat) (ts : List Int), i + kk = 4 ∧ v32 = .int .i64 i ∧ Aside0 (SB w wr [(63, x), (63, y), (63, List.replicate 4 0), (63, List.replicate 4 0), (124, ts)]) ∧ Aside0 (Mid 4 m X y ts i))
  case atStart => exact ⟨0, _, by omega, rfl, S, ⟨Mid.start _ _ HP.out.pos⟩⟩
  case round =>
    clear S
    obtain ⟨i, ts, hi, rfl, S, HM⟩ := hrel
    by_cases h0 : i < 4
    · obtain ⟨yv, hy⟩ : ∃ yv, y.getD i 0 = yv := ⟨_, rfl⟩
      have HY := Aside0.mk hy
      have BY := Aside0.mk (show 0 ≤ yv ∧ yv < B64 from hy ▸ DY.out.getD B64_pos i)
      clear hy
      go_wp2_with fail
      go_loopg [36, 11] 4 (fun kk v36 v11 wr => ∃ (k : Nat) (c : Int) (t2 : List Int), k + kk = 4 ∧ v36 = .int .i64 k ∧ v11 = .int .u64 c ∧ Aside0 (SB w wr [(63, x), (63, y), (63, List.replicate 4 0), (63, List.replicate 4 0), (124, t2)]) ∧ Aside0 (In1 4 x ts t2 yv k c))
      case atStart => exact ⟨0, 0, ts, by omega, rfl, rfl, S, ⟨In1.start HM.out.L HM.out.D⟩⟩
      case round =>
        clear S
        obtain ⟨k, c, t2, hk, rfl, rfl, S, HI⟩ := hrel
        by_cases h1 : k < 4
        · have c0 := c64_cell (S.out.R 0 _ _ rfl) k (by rw [LX.out]; exact h1)
          rw [Nat.add_zero] at c0
          have c1 := c64_cell (S.out.R 1 _ _ rfl) i (by rw [LY.out]; exact h0)
          have c2 := c64_cell (S.out.R 4 _ _ rfl) k (by rw [HI.out.L]; omega)
          have f2 := blk_frozen (S.out.R 4 _ _ rfl) k
          rw [HY.out] at c1
          obtain ⟨a, ha⟩ : ∃ a, x.getD k 0 = a := ⟨_, rfl⟩
          obtain ⟨b, hb⟩ : ∃ b, t2.getD k 0 = b := ⟨_, rfl⟩
          rw [ha] at c0
          rw [hb] at c2
          have ba : 0 ≤ a ∧ a < B64 := ha ▸ DX.out.getD B64_pos k
          have bb : 0 ≤ b ∧ b < B64 := hb ▸ HI.out.D.getD B64_pos k
          obtain ⟨hi', lo, M, m1, m2, m3⟩ := mul64_c a yv ba BY.out
          obtain ⟨l1, d1, A1, r1, r2, r3⟩ := add64_run lo b 0 m2 bb (.inl rfl)
          obtain ⟨l2, d2, A2, s1, s2, s3⟩ := add64_run l1 c 0 r1 HI.out.C (.inl rfl)
          have F := mul_fits (l1 := l1) B64_pos ba BY.out bb HI.out.C m1 s1 r2 s2 m3 (by omega) (by omega)
          have FF := Aside0.mk (show (0 ≤ l2 ∧ l2 < B64) ∧ (0 ≤ hi' + d1 + d2 ∧ hi' + d1 + d2 < B64) ∧ B64 * (hi' + d1 + d2) + l2 = a * yv + b + c from ⟨s1, ⟨by omega, F.1⟩, F.2.2⟩)
          have GG := Aside0.mk (show 0 ≤ hi' + d1 ∧ hi' + d1 < B64 from ⟨by omega, F.2.1⟩)
          have HA := Aside0.mk ha
          have HB := Aside0.mk hb
          have HMu := Aside0.mk M
          clear F m1 m2 m3 r1 r2 r3 s1 s2 s3 ba bb ha hb M
          have hkN : (k : Int) < 8 := by omega
          have hi8 : (i : Int) < 8 := by omega
          go_wp2_with fail
          go_quiet ((go_at_call 65; refine (HMu.out _).mono ?_; rintro e w' ⟨rfl, rfl⟩; exact ⟨rfl, _, rfl⟩))
          obtain ⟨W1, hW1⟩ : ∃ W1, wr.drewN nq = W1 := ⟨_, rfl⟩
          rw [hW1]
          have S1 := Aside0.mk (hW1 ▸ S.out.drewN nq)
          clear hW1 S c0 c1 c2 f2 HMu
          have c2 := c64_cell (S1.out.R 4 _ _ rfl) k (by rw [HI.out.L]; omega)
          have f2 := blk_frozen (S1.out.R 4 _ _ rfl) k
          rw [HB.out] at c2
          go_wp2_with fail
          clear A1 A2 c2 f2
          go_roundg (gk - 1)
          case measure => omega
          case rel =>
            refine ⟨k + 1, hi' + d1 + d2, t2.set k l2, by omega, by go_num, ?_, ⟨S1.out.set 4 _ _ rfl k l2⟩, ⟨?_⟩⟩
            · obtain ⟨_, f2, _⟩ := FF.out
              obtain ⟨g1, g2⟩ := GG.out
              rw [B64_eq] at f2 g2
              rw [IntKind.wrap_u64, IntKind.wrap_u64]
              congr 1
              omega
            · obtain ⟨f1, f2, f3⟩ := FF.out
              exact HI.out.step (by omega) f1 f2 (by rw [HA.out, HB.out]; exact f3)
        · obtain rfl : k = 4 := by omega
          have c2 := c64_cell (S.out.R 4 _ _ rfl) 4 (by rw [HI.out.L]; omega)
          have f2 := blk_frozen (S.out.R 4 _ _ rfl) 4
          obtain ⟨b, hb⟩ : ∃ b, t2.getD 4 0 = b := ⟨_, rfl⟩
          rw [hb] at c2
          obtain ⟨s, top, A1, r1, r2, r3⟩ := add64_run b c 0 (hb ▸ HI.out.D.getD B64_pos 4) HI.out.C (.inl rfl)
          have hd := HI.out.done (s := s) (top := top) (by decide) LX.out (by rw [hb]; omega)
          rw [VX.out] at hd
          obtain rfl : top = 0 := top_zero HP.out HX.out BY.out r2 (nv_nonneg B64_pos ((HI.out.D.set r1 _).take _)) HM.out.B hd
          rw [Int.mul_zero, Int.add_zero] at hd
          have HD1 := Aside0.mk hd
          have D1 := Aside0.mk (HI.out.D.set r1 4)
          have L1 := Aside0.mk (show (t2.set 4 s).length = 8 by rw [List.length_set, HI.out.L])
          clear hd r1 r2 r3 hb
          go_upto_region 22 with fail
          obtain ⟨W1, hW1⟩ : ∃ W1, wr.setCell ⟨w.heap.size + 4, 4, none⟩ (.int .u64 s) = W1 := ⟨_, rfl⟩
          obtain ⟨t3, ht3⟩ : ∃ t3, t2.set 4 s = t3 := ⟨_, rfl⟩
          rw [ht3] at HD1 D1 L1
          rw [hW1]
          have s1 : SB w W1 [(63, x), (63, y), (63, List.replicate 4 0), (63, List.replicate 4 0), (124, t3)] := by rw [← hW1, ← ht3]; exact S.out.set 4 _ _ rfl 4 s
          have S1 := Aside0.mk s1
          have hF1 := HF.out.below s1.B
          obtain ⟨inv, wv, k1, k2, k3, k4, k5⟩ := hF1.out
          have ci : W1.cell? ⟨g, 13, none⟩ = some (.int .u64 inv) := (blk_cell k1 _).trans (fcells_inv 4 _ _ _ _ _)
          have ct := c64_cell (s1.R 4 _ _ rfl) 0 (by rw [L1.out]; decide)
          obtain ⟨b0, hb0⟩ : ∃ b0, t3.getD 0 0 = b0 := ⟨_, rfl⟩
          obtain ⟨ww, hww⟩ : ∃ ww, IntKind.u64.wrap (b0 * inv) = ww := ⟨_, rfl⟩
          rw [hb0] at ct
          have bb0 : 0 ≤ b0 ∧ b0 < B64 := hb0 ▸ D1.out.getD B64_pos 0
          have hww' : ww = b0 * inv % B64 := by rw [← hww, IntKind.wrap_u64, B64_eq]
          have bw : 0 ≤ ww ∧ ww < B64 := hww' ▸ ⟨Int.emod_nonneg _ (by decide), Int.emod_lt_of_pos _ B64_pos⟩
          have HB0 := Aside0.mk hb0
          have HW := Aside0.mk hww'
          have BB0 := Aside0.mk bb0
          have BW := Aside0.mk bw
          have HK := Aside0.mk k4
          clear hW1 ht3 s1 hF1 k1 k2 k3 k4 k5 hb0 hww' bb0 bw S c2 f2 A1 HI
          go_region
          clear ci ct hww
          obtain ⟨W2, hW2⟩ : ∃ W2, W1.drew = W2 := ⟨_, rfl⟩
          rw [hW2]
          have S2 := Aside0.mk (hW2 ▸ S1.out.drew)
          have hF2 := HF.out.below S2.out.B
          obtain ⟨inv2, wv2, k1, k2⟩ := hF2.out
          obtain ⟨m0, hm0⟩ : ∃ m0, (dg 4 m).getD 0 0 = m0 := ⟨_, rfl⟩
          have cm : W2.cell? ⟨g, 0, none⟩ = some (.int .u64 m0) := hm0 ▸ (blk_cell k1 0).trans (fcells_m 0 (by decide))
          have ct := c64_cell (S2.out.R 4 _ _ rfl) 0 (by rw [L1.out]; decide)
          rw [HB0.out] at ct
          obtain ⟨hi', lo, M, m1, m2, m3⟩ := mul64_c ww m0 BW.out (hm0 ▸ (dg_dig _ _).getD B64_pos 0)
          obtain ⟨s0, d0, A2, r1, r2, r3⟩ := add64_run lo b0 0 m2 BB0.out (.inl rfl)
          rw [Int.add_zero] at r3
          have lg := low_goes (hm0 ▸ low_cg (by decide) HK.out) HW.out m3 r3 r1
          have hc1 : 0 ≤ hi' + d0 ∧ hi' + d0 < B64 := by
            have h5 := Int.mul_le_mul_of_nonneg_left (show m0 ≤ B64 - 1 by have := (dg_dig 4 m).getD B64_pos 0; rw [hm0] at this; omega) BW.out.1
            have h6 := BW.out
            have h7 := BB0.out
            rw [B64_eq] at *
            omega
          obtain ⟨c1, hc⟩ : ∃ c1, IntKind.u64.wrap (hi' + d0) = c1 := ⟨_, rfl⟩
          have hc' : c1 = hi' + d0 := by rw [← hc, IntKind.wrap_u64]; rw [B64_eq] at hc1; omega
          have I2 := Aside0.mk (In2.start (n := 4) (ms := dg 4 m) (w := ww) (c := c1) L1.out D1.out (by rw [hc']; exact hc1) (by rw [HB0.out, hm0, hc', lg, Int.mul_comm ww m0]))
          have HMu := Aside0.mk M
          clear hW2 S1 hF2 k1 k2 hm0 M m1 m2 m3 r1 r2 r3 lg hc1 hc' HK HB0 BB0 HW
          go_wp2_with fail
          refine (HMu.out _).mono ?_
          rintro e w1 ⟨rfl, rfl⟩
          clear HMu
          go_wp2_with fail
          clear cm ct A2 hc
          go_loopg [22, 11] 3 (fun kk v22 v11 wr => ∃ (q : Nat) (c : Int) (t4 : List Int), q + 1 + kk = 4 ∧ v22 = .int .i64 ((q : Int) + 1) ∧ v11 = .int .u64 c ∧ Aside0 (SB w wr [(63, x), (63, y), (63, List.replicate 4 0), (63, List.replicate 4 0), (124, t4)]) ∧ Aside0 (In2 4 (dg 4 m) t3 t4 ww (q + 1) c))
          case atStart => exact ⟨0, _, t3, by omega, rfl, rfl, S2, I2⟩
          case round =>
            clear S2 I2
            obtain ⟨q, c, t4, hq, rfl, rfl, S, HI⟩ := hrel
            by_cases h2 : q + 1 < 4
            · obtain ⟨inv2, wv2, k1, k2⟩ := (HF.out.below S.out.B).out
              have cm := (blk_cell k1 (q + 1)).trans (fcells_m (q + 1) h2)
              have ct := c64_cell (S.out.R 4 _ _ rfl) (q + 1) (by rw [HI.out.L]; omega)
              have f2 := blk_frozen (S.out.R 4 _ _ rfl) q
              have c3 := c64_cell (S.out.R 4 _ _ rfl) q (by rw [HI.out.L]; omega)
              obtain ⟨a, ha⟩ : ∃ a, (dg 4 m).getD (q + 1) 0 = a := ⟨_, rfl⟩
              obtain ⟨b, hb⟩ : ∃ b, t4.getD (q + 1) 0 = b := ⟨_, rfl⟩
              rw [ha] at cm
              rw [hb] at ct
              have ba : 0 ≤ a ∧ a < B64 := ha ▸ (dg_dig _ _).getD B64_pos (q + 1)
              have bb : 0 ≤ b ∧ b < B64 := hb ▸ HI.out.D.getD B64_pos (q + 1)
              obtain ⟨hi', lo, M, m1, m2, m3⟩ := mul64_c ww a BW.out ba
              obtain ⟨l1, d1, A1, r1, r2, r3⟩ := add64_run lo b 0 m2 bb (.inl rfl)
              obtain ⟨l2, d2, A2, s1, s2, s3⟩ := add64_run l1 c 0 r1 HI.out.C (.inl rfl)
              have F := mul_fits (l1 := l1) B64_pos BW.out ba bb HI.out.C m1 s1 r2 s2 m3 (by omega) (by omega)
              have FF := Aside0.mk (show (0 ≤ l2 ∧ l2 < B64) ∧ (0 ≤ hi' + d1 + d2 ∧ hi' + d1 + d2 < B64) ∧ B64 * (hi' + d1 + d2) + l2 = ww * a + b + c from ⟨s1, ⟨by omega, F.1⟩, F.2.2⟩)
              have GG := Aside0.mk (show 0 ≤ hi' + d1 ∧ hi' + d1 < B64 from ⟨by omega, F.2.1⟩)
              have HA := Aside0.mk ha
              have HB := Aside0.mk hb
              have HMu := Aside0.mk M
              clear F m1 m2 m3 r1 r2 r3 s1 s2 s3 ba bb ha hb M k1 k2
              have tq : ((q : Int) + 1).toNat = q + 1 := by omega
              have tl : (q : Int) + 1 < 4 := by omega
              have t8 : (q : Int) + 1 < 8 := by omega
              have tp : (0 : Int) ≤ (q : Int) + 1 := by omega
              go_wp2_with fail
              refine (HMu.out _).mono ?_
              rintro e w1 ⟨rfl, rfl⟩
              clear HMu
              go_wp2_with fail
              clear cm ct f2 c3 A1 A2
              go_roundg (gk - 1)
              case measure => omega
              case rel =>
                refine ⟨q + 1, hi' + d1 + d2, t4.set q l2, by omega, by go_num, ?_, ⟨S.out.set 4 _ _ rfl q l2⟩, ⟨?_⟩⟩
                · obtain ⟨_, f2, _⟩ := FF.out
                  obtain ⟨g1, g2⟩ := GG.out
                  rw [B64_eq] at f2 g2
                  rw [IntKind.wrap_u64, IntKind.wrap_u64]
                  congr 1
                  omega
                · obtain ⟨f1, f2, f3⟩ := FF.out
                  have := HI.out.step (by omega) (by omega) f1 f2 (by rw [HA.out, HB.out]; exact f3)
                  rwa [Nat.add_sub_cancel] at this
            · obtain rfl : q = 3 := by omega
              have ct := c64_cell (S.out.R 4 _ _ rfl) 4 (by rw [HI.out.L]; decide)
              have f2 := blk_frozen (S.out.R 4 _ _ rfl) 3
              have c3 := c64_cell (S.out.R 4 _ _ rfl) 3 (by rw [HI.out.L]; decide)
              have f3 := blk_frozen (S.out.R 4 _ _ rfl) 4
              obtain ⟨b, hb⟩ : ∃ b, t4.getD 4 0 = b := ⟨_, rfl⟩
              rw [hb] at ct
              obtain ⟨s2, d2, A1, r1, r2, r3⟩ := add64_run b c 0 (hb ▸ HI.out.D.getD B64_pos 4) HI.out.C (.inl rfl)
              have hd := HI.out.done (s := s2) (d := d2) (by decide) (by decide) (dg_length _ _) (by rw [hb]; omega)
              rw [dg_nv_lt _ _ HP.out.nn.1 HP.out.nn.2, HD1.out] at hd
              have bd : 0 ≤ d2 ∧ d2 < B64 := by rw [B64_eq]; omega
              have wd : IntKind.u64.wrap d2 = d2 := by rw [IntKind.wrap_u64]; rw [B64_eq] at bd; omega
              have MM := Aside0.mk (HM.out.next HP.out HX.out DY.out BW.out (by rw [List.length_set, List.length_set, HI.out.L]) ((HI.out.D.set r1 3).set bd 4) (by rw [HY.out]; exact hd))
              clear r1 r2 r3 hd hb bd HM HI
              go_wp2_with fail
              clear ct f2 c3 f3 A1 wd
              go_roundg (4 - (i + 1))
              case measure => omega
              case rel => exact ⟨i + 1, (t4.set 3 s2).set 4 d2, by omega, by go_num, ⟨(S.out.set 4 _ _ rfl 3 s2).set 4 _ _ rfl 4 d2⟩, MM⟩
    · obtain rfl : i = 4 := by omega
      obtain ⟨e1, e2, e3⟩ := HM.out.done HP.out (by decide) LY.out
      have E1 := Aside0.mk e1
      have LT := Aside0.mk HM.out.L
      obtain ⟨zs, hzs⟩ : ∃ zs, (List.range 4).map (fun j => ts.getD j 0) = zs := ⟨_, rfl⟩
      have ez : zs = ts.take 4 := by
        rw [← hzs]
        refine List.ext_getElem (by simp [LT.out]) fun j h1 h2 => ?_
        have hj : j < 4 := by simpa using h1
        simp [List.getD_eq_getElem?_getD, LT.out, show j < 8 by omega]
      have DZ := Aside0.mk (show Dig B64 zs from ez ▸ HM.out.D.take 4)
      have LZ := Aside0.mk (show zs.length = 4 by rw [← hzs]; simp)
      rw [← ez] at e2 e3
      obtain ⟨Z, z1, z2⟩ := mul_last HP.out DZ.out LZ.out e2 e3
      have HZ1 := Aside0.mk z1
      have HZ2 := Aside0.mk z2
      have HZS := Aside0.mk hzs
      clear e1 e2 e3 z1 z2 hzs ez HM
      go_wp2_with fail
      go_loopg [166] 4 (fun kk v166 wr => ∃ (i : Nat), i + kk = 4 ∧ v166 = .int .i64 i ∧ Aside0 (SB w wr [(63, x), (63, y), (63, List.replicate 4 0), (63, fillN 4 (fun j => ts.getD j 0) (fun _ => 0) i), (124, ts)]))
      case atStart => exact ⟨0, by omega, rfl, S⟩
      case round =>
        clear S
        obtain ⟨i, hi, rfl, S⟩ := hrel
        by_cases h1 : i < 4
        · have ct := c64_cell (S.out.R 4 _ _ rfl) i (by rw [LT.out]; omega)
          have f2 := blk_frozen (S.out.R 3 _ _ rfl) i
          have c3 := c64_cell (S.out.R 3 _ _ rfl) i (by rw [fillN_length]; exact h1)
          obtain ⟨b, hb⟩ : ∃ b, ts.getD i 0 = b := ⟨_, rfl⟩
          rw [hb] at ct
          have HB := Aside0.mk hb
          clear hb
          have t8 : (i : Int) < 8 := by omega
          go_wp2_with fail
          clear ct f2 c3 t8
          go_roundg (4 - (i + 1))
          case measure => omega
          case rel =>
            refine ⟨i + 1, by omega, by go_num, ⟨?_⟩⟩
            have := S.out.set 3 _ _ rfl i b
            rw [fillN_set _ _ _ _ _ HB.out.symm] at this
            exact this
        · obtain rfl : i = 4 := by omega
          rw [fillN_all, HZS.out] at S
          go_upto_region 42 with fail
          obtain ⟨r, hr⟩ : ∃ r, dg 4 Z = r := ⟨_, rfl⟩
          have HR := Aside0.mk hr
          have LR := Aside0.mk (show r.length = 4 by rw [← hr, dg_length])
          clear hr
          have SR := Aside0.mk (c64_info info63 LR.out)
          have SZ := Aside0.mk (c64_info info63 LZ.out)
          have S1 := Aside0.mk S.out.drew
          refine wp_region_noPanic ?_
          refine wp_region_held_drew (S := (fun w' => Aside0 (∃ z : List Int, z.length = 4 ∧ SB w w' [(63, x), (63, y), (63, z), (63, zs), (124, ts)]))) (by kernel_rfl) ⟨⟨_, by simp, S1.out⟩⟩ (fun hHeld => ?_)
          refine tkG 0 (v := ?_) rfl (by kernel_rfl) (by kernel_rfl) (by kernel_rfl) (fun _ _ _ h => h) (Or.inl ⟨by rfl, ?_⟩) hHeld ?_
          rotate_left; · (intro w hSw;  go_simp; first | done | with_reducible rfl)
          try simp only [Act.put, List.setIfInBounds_toArray, List.set_cons_zero, List.set_cons_succ]
          refine tkG 1 (v := .agg (c64 zs)) rfl (by kernel_rfl) (by kernel_rfl) (by kernel_rfl) (fun _ _ _ h => h) (Or.inl ⟨by rfl, fun w' hSw => loadG 63 (.tmp 7) rfl ⟨w.heap.size + 3, 0, none⟩ rfl (run_loadVar_row w' _ 63 63 _ (0, 0) _ (by obtain ⟨z, _, hz⟩ := hSw.out; exact hz.R 3 _ _ rfl) Try.underlying63 rfl SZ.out)⟩) hHeld ?_
          try simp only [Act.put, List.setIfInBounds_toArray, List.set_cons_zero, List.set_cons_succ]
          refine tkG 2 (v := ?_) rfl (by kernel_rfl) (by kernel_rfl) (by kernel_rfl) (fun _ _ _ h => h) (Or.inl ⟨by rfl, ?_⟩) hHeld ?_
          rotate_left; · (intro w hSw;  go_simp; first | done | with_reducible rfl)
          try simp only [Act.put, List.setIfInBounds_toArray, List.set_cons_zero, List.set_cons_succ]
          refine tkG 3 (v := ?_) rfl (by kernel_rfl) (by kernel_rfl) (by kernel_rfl) (fun _ _ _ h => h) (Or.inl ⟨by rfl, ?_⟩) hHeld ?_
          rotate_left; · (intro w hSw;  go_simp; first | done | with_reducible rfl)
          try simp only [Act.put, List.setIfInBounds_toArray, List.set_cons_zero, List.set_cons_succ]
          refine tkG 4 (v := ?_) rfl (by kernel_rfl) (by kernel_rfl) (by kernel_rfl) (fun _ _ _ h => h) (Or.inl ⟨by rfl, ?_⟩) hHeld ?_
          rotate_left; · (intro w hSw; obtain ⟨z, _, hz⟩ := hSw.out; have ct := c64_cell (hz.R 4 _ _ rfl) 4 (by rw [LT.out]; decide); rw [E1.out] at ct; clear hz; go_simp; first | done | with_reducible rfl)
          try simp only [Act.put, List.setIfInBounds_toArray, List.set_cons_zero, List.set_cons_succ]
          refine brG 5 rfl (by kernel_rfl) (fun K hK => ?_)
          go_simp
          obtain ⟨inv2, wv2, k1, k2⟩ := (HF.out.below S1.out.B).out
          refine (less4_calls g m _ _ _ _ zs 0 _ k1 DZ.out LZ.out (by decide) HP.out.nn).mono ?_
          rintro e w1 ⟨rfl, b1⟩
          rw [show (if (0 : Int) = 0 ∧ nv B64 zs < m then zs else dg 4 (nv B64 zs - m)) = r from by have h := HZ1.out; simp only [true_and] at h ⊢; exact h.trans HR.out]
          have S2 := Aside0.mk (S1.out.below b1)
          clear S1 b1 hHeld k1 k2
          refine hK.out _ _ ⟨⟨_, by simp, S2.out⟩⟩ (fun hHeld => ?_)
          clear hK K
          try simp only [Act.put, List.setIfInBounds_toArray, List.set_cons_zero, List.set_cons_succ]
          refine brG 6 rfl (by kernel_rfl) (fun K hK => ?_)
          rw [if_pos (by rfl)]
          have SN := Aside0.mk (show (c64 (List.replicate 4 0)).size = (c64 r).size from c64_sizes (by rw [LR.out]; rfl))
          refine wp_store_row 63 (.tmp 6) (.tmp 180) rfl (w.heap.size + 2) (c64 r) rfl rfl 63 _ (S2.out.R 2 _ _ rfl) SR.out SN.out (c64_all r) ?_
          have S3 := Aside0.mk (S2.out.setRow 2 _ _ rfl r)
          clear S2 hHeld
          refine hK.out _ _ ⟨⟨r, LR.out, S3.out⟩⟩ (fun hHeld => ?_)
          clear hK K
          try simp only [Act.put, List.setIfInBounds_toArray, List.set_cons_zero, List.set_cons_succ]
          refine wpAnyH_done (by kernel_rfl) ?_ _
          refine NoPanic.normal ?_
          go_wp2_with fail
          exact bodyPost_ret (v := .agg (c64 r)) (results_cell_row rfl _ _ _ 63 (c64 r) (0, 0) _ rfl (S3.out.R 2 _ _ rfl) Try.underlying63 rfl SR.out) rfl ⟨Z, by rw [HR.out], HZ2.out, S3.out.B⟩
end Go.Proofs.Ytokadjfakncdfaa
end

section
set_option linter.unusedVariables false
set_option linter.unusedSimpArgs false
namespace Go.Proofs.Ytokadjfakncdfaa
open Go.RowKit Go.Proofs.YtokadjfakncdfaaW.PrintWords Go.Proofs.YtokadjfakncdfaaW.PrintLast Go.Proofs.YtokadjfakncdfaaW.PrintMore
open PR
set_option maxRecDepth 100000 in
theorem list4_calls (X : Int) (w : World) :
    Calls Try.prog 113 #[elt 4 X] w fun e w' => ∃ v, e = .returned v ∧ RL .u64 w' v (dg 4 X) ∧ Below w.heap.size w w' := by
  unfold elt
  have dx := dg_dig 4 X
  have lx := dg_length 4 X
  obtain ⟨x, hx⟩ : ∃ x, dg 4 X = x := ⟨_, rfl⟩
  rw [hx] at dx lx ⊢
  have LX := Aside0.mk lx
  have S0 := Aside0.mk ((SB0.nil w).alloc 63 x).S
  have SX := Aside0.mk (c64_info info63 lx)
  clear dx lx hx
  go_enter Try.func113, Try.ntmps113
  go_wp2_with (refine wpList_load_row rfl 63 (.tmp 1) rfl _ rfl 63 (c64 x) (0, 0) _ (S0.out.R 0 _ _ rfl) Try.underlying63 rfl SX.out ?_)
  obtain ⟨W0, hW0⟩ : ∃ W0, w.alloc (.cells (c64 x) 63) = W0 := ⟨_, rfl⟩
  have S := Aside0.mk (show SB w W0 [(63, x)] from hW0 ▸ S0.out)
  rw [hW0]
  clear hW0 S0
  go_loopg [7, 3] 4 (fun kk v7 v3 wr => ∃ (i : Nat) (acc : List Int), i + kk = 4 ∧ v7 = .int .i64 i ∧ Aside0 (acc = x.take i) ∧ Aside0 (RO .u64 30 wr W0.heap.size v3 acc) ∧ Aside0 (Below W0.heap.size W0 wr))
  case atStart => exact ⟨0, [], by omega, rfl, ⟨by simp⟩, ⟨Kd.R_nil _ _ _ _ _⟩, ⟨Below.refl _ _⟩⟩
  case round =>
    obtain ⟨i, acc, hi, rfl, HA, HO, HW⟩ := hrel
    by_cases h0 : i < 4
    · have c0 := c64_cell ((S.out.below HW.out).R 0 _ _ rfl) i (by rw [LX.out]; exact h0)
      rw [Nat.add_zero] at c0
      obtain ⟨s, hs⟩ : ∃ s, x.getD i 0 = s := ⟨_, rfl⟩
      rw [hs] at c0
      have HL := Aside0.mk (show acc.length = i by rw [HA.out, List.length_take, LX.out]; omega)
      have HA' := Aside0.mk (show acc ++ [s] = x.take (i + 1) by rw [HA.out, take_snoc' x i (by rw [LX.out]; exact h0), hs])
      clear hs HA
      go_wp2_with (at_builtin; refine Kd.R_append (Kd.int .u64) (w0 := W0) W0.heap.size rfl _ _ 31 30 (.int .u64 0) 8 rfl Try.underlying31 info30 rfl (by decide) (by omega) u3 acc s [.int .u64 s] (fun b => W0.heap.size ≤ b) (fun _ => False) rfl rfl rfl (fun _ hk => hk.elim) (fun b hb => Nat.le_trans HW.out.size hb) HO.out HW.out HW.out.size (by have := HL.out; omega) ?_; intro v1 w1 ho hb hg hat; have HO' := Aside0.mk ho; have HW' := Aside0.mk hb; clear ho hb hg hat)
      go_roundg (gk - 1)
      case measure => omega
      case rel => exact ⟨i + 1, acc ++ [s], by omega, by go_num, HA', HO', HW'⟩
    · obtain rfl : i = 4 := by omega
      go_wp2_with fail
      go_ret
      refine ⟨_, rfl, ?_, S.out.B.trans (HW.out.mono S.out.B.size)⟩
      have := RL.of_R HO.out
      rwa [HA.out, List.take_of_length_le (Nat.le_of_eq LX.out)] at this

set_option maxRecDepth 100000 in
theorem natE4_calls (g : Nat) (m X z : Int) (w : World) (hF : Fd 4 121 w g m) (hX : 0 ≤ X ∧ X < m) (hz : ∀ Z, Cg m (Z * B64 ^ 4) (X * 1) → 0 ≤ Z → Z < m → Z = z) :
    Calls Try.prog 84 #[.pointer (some ⟨g, 0, none⟩), elt 4 X] w fun e w' => ∃ v, e = .returned v ∧ CN w' v z 4 ∧ Below w.heap.size w w' := by
  have HF := Aside0.mk hF
  have HX := Aside0.mk hX
  have HZ := Aside0.mk hz
  have S2 := Aside0.mk (((SB0.nil w).alloc 63 (dg 4 X)).alloc 63 (1 :: List.replicate 3 0)).S
  have SX := Aside0.mk (c64_info info63 (dg_length 4 X))
  have SO := Aside0.mk (c64_info (z := 1 :: List.replicate 3 0) info63 rfl)
  clear hF hX hz
  unfold elt
  go_enter Try.func84, Try.ntmps84
  go_wp2_with (first | (refine wpList_load_row rfl 63 (.tmp 3) rfl _ rfl 63 (c64 (dg 4 X)) (0, 0) _ (S2.out.R 0 _ _ rfl) Try.underlying63 rfl SX.out ?_) | (refine wpList_load_row rfl 63 (.tmp 5) rfl _ rfl 63 (c64 (1 :: List.replicate 3 0)) (0, 0) _ (S2.out.R 1 _ _ rfl) Try.underlying63 rfl SO.out ?_))
  refine (mulR4_calls g m X (1 :: List.replicate 3 0) _ (HF.out.below S2.out.B) HX.out ((Dig.replicate B64_pos 3).cons (by decide)) (by rfl)).mono ?_
  rintro e w1 ⟨Z, rfl, ⟨z1, z2, z3⟩, b1⟩
  have hZ := HZ.out Z (by rw [show nv B64 (1 :: List.replicate 3 0) = 1 by decide] at z1; exact z1) z2 z3
  subst hZ
  have H1 := Aside0.mk (S2.out.B.trans (b1.mono S2.out.B.size))
  have HZZ := Aside0.mk (And.intro z2 (Int.lt_trans z3 HF.out.fp.lt))
  clear z1 z2 z3 b1 S2 HZ
  unfold elt
  go_wp2_with fail
  refine (list4_calls Z w1).mono ?_
  rintro e w2 ⟨v, rfl, hv, b2⟩
  have HV := Aside0.mk hv
  have H2 := Aside0.mk (H1.out.trans (b2.mono H1.out.size))
  clear hv b2
  go_wp2_with fail
  refine (of_n (x := Z) (la := 4) ⟨_, HV.out, dg_dig _ _, dg_nv_lt _ _ HZZ.out.1 HZZ.out.2, Nat.le_of_eq (dg_length _ _)⟩ (by decide)).mono ?_
  rintro e w3 ⟨v', rfl, hv, b3⟩
  have HC := Aside0.mk hv
  have H3 := Aside0.mk (H2.out.trans (b3.mono H2.out.size))
  clear hv b3
  go_wp2_with fail
  go_ret
  exact ⟨v', rfl, HC.out, H3.out⟩

set_option maxRecDepth 100000 in
theorem modulus4_calls (g : Nat) (m : Int) (w : World) (hF : Fd 4 121 w g m) :
    Calls Try.prog 51 #[.pointer (some ⟨g, 0, none⟩)] w fun e w' => ∃ v, e = .returned v ∧ CN w' v m 80 ∧ Below w.heap.size w w' := by
  obtain ⟨inv, wv, k1, k2, k3⟩ := hF.out
  have cw : w.cell? ⟨g, 4, none⟩ = some wv := (blk_cell k1 4).trans (fcells_wv 4 _ _ _ _ _)
  have K2 := Aside0.mk k2
  clear hF k1 k2 k3
  go_enter Try.func51, Try.ntmps51
  go_wp2_with fail
  refine (of_n K2.out.dn (by decide)).mono ?_
  rintro e w3 ⟨v', rfl, hv, b3⟩
  have HC := Aside0.mk hv
  have H3 := Aside0.mk b3
  clear hv b3
  go_wp2_with fail
  go_ret
  exact ⟨v', rfl, HC.out, H3.out⟩
end Go.Proofs.Ytokadjfakncdfaa
end

section
set_option linter.unusedVariables false
set_option linter.unusedSimpArgs false
namespace Go.Proofs.Ytokadjfakncdfaa
open Go.RowKit Go.Proofs.YtokadjfakncdfaaW.PrintWords Go.Proofs.YtokadjfakncdfaaW.PrintLast Go.Proofs.YtokadjfakncdfaaW.PrintMore
theorem split4 {l : List Int} (h : l.length = 4) : ∃ x0 x1 x2 x3, l = [x0, x1, x2, x3] := by
  match l, h with
  | [x0, x1, x2, x3], _ => exact ⟨x0, x1, x2, x3, rfl⟩

theorem array4_n {v : Value} {m : Int} {la : Nat} {w : World} (h : DN w v m la) (hl : la ≤ 100) : Calls Try.prog 91 #[v] w fun e w' => e = .returned (.agg (c64 (dg 4 m))) ∧ Below w.heap.size w w' := by
  obtain ⟨xs, h1, h2, h3, h4⟩ := h.out
  rw [← h3]
  exact array4_calls v xs w h1 h2 (by omega)
set_option maxRecDepth 100000 in
set_option maxHeartbeats 4000000 in
theorem newOk4_calls (v : Value) (m : Int) (la : Nat) (w : World) (hv : DN w v m la) (hl : la ≤ 80) (hp : FP 4 m) :
    Calls Try.prog 47 #[v] w fun e w' => ∃ g, e = .returned (.tuple #[.pointer (some ⟨g, 0, none⟩), .int .i64 0]) ∧ Fd 4 121 w' g m ∧ Below w.heap.size w w' := by
  have HV := Aside0.mk hv
  have HP := Aside0.mk hp
  have HL := Aside0.mk hl
  obtain ⟨xs, hx, dx, nx, lx⟩ := hv.out
  obtain ⟨A, c, rfl, hc, hC⟩ := hx
  obtain ⟨r, hr, r2, rN⟩ := FP.len (by decide) dx nx hp
  have HRR := Aside0.mk hr
  have HO := Aside0.mk hp.odd
  have rW : (r : Int) < IntKind.i64.wrap 256 := rN
  clear rN
  have l80 : (xs.length : Int) ≤ 80 := by omega
  have S := Aside0.mk ((SB0.nil w).alloc 63 (dg 4 0)).S
  clear hv hp hl dx nx lx hc hC hr
  go_enter Try.func47, Try.ntmps47
  go_upto_region 4 with fail
  obtain ⟨W, hW⟩ : ∃ W, w.alloc (.cells #[.int .u64 0, .int .u64 0, .int .u64 0, .int .u64 0] 63) = W := ⟨_, rfl⟩
  have s1 : SB w W [(63, dg 4 0)] := hW ▸ S.out
  rw [hW]
  have HZ := Aside0.mk (show W.heap[w.heap.size]? = _ from s1.R 0 _ _ rfl)
  have HWW := Aside0.mk s1.B
  have HV := Aside0.mk (HV.out.below s1.B)
  clear hW S s1
  refine wp_region_noPanic ?_
  refine wp_region_held_drew (S := (fun w' => Aside0 (Below W.heap.size W w'))) (by kernel_rfl) ⟨below_drew (Below.refl _ _)⟩ (fun hHeld => ?_)
  refine tkG 0 (v := ?_) rfl (by kernel_rfl) (by kernel_rfl) (by kernel_rfl) (fun _ _ _ h => h) (Or.inl ⟨wantedN rfl, ?_⟩) hHeld ?_
  rotate_left; · (intro w' hSw;  go_simp; first | done | with_reducible rfl)
  try simp only [Act.put, List.getElem_toArray, List.getElem_cons_succ, List.getElem_cons_zero, List.setIfInBounds_toArray, List.set_cons_zero, List.set_cons_succ]
  refine brG 1 rfl (by kernel_rfl) (fun K hK => ?_)
  go_simp
  refine (bit0_calls 1 HO.out (HV.out.below hHeld.out) (by have := HL.out; omega)).mono ?_
  rintro e w1 ⟨rfl, rfl⟩
  refine hK.out _ _ hHeld (fun hHeld => ?_)
  clear hK K
  try simp only [Act.put, List.getElem_toArray, List.getElem_cons_succ, List.getElem_cons_zero, List.setIfInBounds_toArray, List.set_cons_zero, List.set_cons_succ]
  refine tkG 2 (v := ?_) rfl (by kernel_rfl) (by kernel_rfl) (by kernel_rfl) (fun _ _ _ h => h) (Or.inl ⟨wantedN rfl, ?_⟩) hHeld ?_
  rotate_left; · (intro w' hSw;  go_simp; first | done | with_reducible rfl)
  try simp only [Act.put, List.getElem_toArray, List.getElem_cons_succ, List.getElem_cons_zero, List.setIfInBounds_toArray, List.set_cons_zero, List.set_cons_succ]
  refine tkG 3 (v := ?_) rfl (by kernel_rfl) (by kernel_rfl) (by kernel_rfl) (fun _ _ _ h => h) (Or.inl ⟨wantedN rfl, ?_⟩) hHeld ?_
  rotate_left; · (intro w' hSw;  go_simp; first | done | with_reducible rfl)
  try simp only [Act.put, List.getElem_toArray, List.getElem_cons_succ, List.getElem_cons_zero, List.setIfInBounds_toArray, List.set_cons_zero, List.set_cons_succ]
  refine tkG 4 (v := ?_) rfl (by kernel_rfl) (by kernel_rfl) (by kernel_rfl) (fun _ _ _ h => h) (Or.inl ⟨wantedG 3 false rfl rfl rfl rfl, ?_⟩) hHeld ?_
  rotate_left; · (intro w' hSw;  go_simp; first | done | with_reducible rfl)
  try simp only [Act.put, List.getElem_toArray, List.getElem_cons_succ, List.getElem_cons_zero, List.setIfInBounds_toArray, List.set_cons_zero, List.set_cons_succ]
  refine brG 5 rfl (by kernel_rfl) (fun K hK => ?_)
  go_simp
  refine (bits_n (HV.out.below hHeld.out) (by have := HL.out; omega) r HRR.out).mono ?_
  rintro e w1 ⟨rfl, st⟩
  have H1 := Aside0.mk (below_more hHeld.out st)
  clear st
  refine hK.out _ _ H1 (fun hHeld => ?_)
  clear H1
  clear hK K
  try simp only [Act.put, List.getElem_toArray, List.getElem_cons_succ, List.getElem_cons_zero, List.setIfInBounds_toArray, List.set_cons_zero, List.set_cons_succ]
  refine tkG 6 (v := ?_) rfl (by kernel_rfl) (by kernel_rfl) (by kernel_rfl) (fun _ _ _ h => h) (Or.inl ⟨wantedG 3 false rfl rfl rfl rfl, ?_⟩) hHeld ?_
  rotate_left; · (intro w' hSw;  go_simp; first | done | with_reducible rfl)
  try simp only [Act.put, List.getElem_toArray, List.getElem_cons_succ, List.getElem_cons_zero, List.setIfInBounds_toArray, List.set_cons_zero, List.set_cons_succ]
  refine tkG 7 (v := ?_) rfl (by kernel_rfl) (by kernel_rfl) (by kernel_rfl) (fun _ _ _ h => h) (Or.inl ⟨wantedN rfl, ?_⟩) hHeld ?_
  rotate_left; · (intro w' hSw;  go_simp; first | done | with_reducible rfl)
  try simp only [Act.put, List.getElem_toArray, List.getElem_cons_succ, List.getElem_cons_zero, List.setIfInBounds_toArray, List.set_cons_zero, List.set_cons_succ]
  refine tkG 8 (v := ?_) rfl (by kernel_rfl) (by kernel_rfl) (by kernel_rfl) (fun _ _ _ h => h) (Or.inl ⟨wantedN rfl, ?_⟩) hHeld ?_
  rotate_left; · (intro w' hSw;  go_simp; first | done | with_reducible rfl)
  try simp only [Act.put, List.getElem_toArray, List.getElem_cons_succ, List.getElem_cons_zero, List.setIfInBounds_toArray, List.set_cons_zero, List.set_cons_succ]
  refine tkG 9 (v := ?_) rfl (by kernel_rfl) (by kernel_rfl) (by kernel_rfl) (fun _ _ _ h => h) (Or.inl ⟨wantedG 8 false rfl rfl rfl rfl, ?_⟩) hHeld ?_
  rotate_left; · (intro w' hSw;  go_simp; first | done | with_reducible rfl)
  try simp only [Act.put, List.getElem_toArray, List.getElem_cons_succ, List.getElem_cons_zero, List.setIfInBounds_toArray, List.set_cons_zero, List.set_cons_succ]
  refine tkG 11 (v := elt 4 0) rfl (by kernel_rfl) (by kernel_rfl) (by kernel_rfl) (fun _ _ _ h => h) (Or.inl ⟨wantedG 8 false rfl rfl rfl rfl, fun w' hSw => loadG 63 (.tmp 4) rfl ⟨w.heap.size, 0, none⟩ rfl (elt_load63 ⟨((hSw.out.block w.heap.size (blk_lt HZ.out)).trans HZ.out)⟩)⟩) hHeld ?_
  try simp only [Act.put, List.getElem_toArray, List.getElem_cons_succ, List.getElem_cons_zero, List.setIfInBounds_toArray, List.set_cons_zero, List.set_cons_succ]
  refine tkG 12 (v := ?_) rfl (by kernel_rfl) (by kernel_rfl) (by kernel_rfl) (fun _ _ _ h => h) (Or.inl ⟨wantedG 8 false rfl rfl rfl rfl, ?_⟩) hHeld ?_
  rotate_left; · (intro w' hSw;  go_simp; first | done | with_reducible rfl)
  try simp only [Act.put, List.getElem_toArray, List.getElem_cons_succ, List.getElem_cons_zero, List.setIfInBounds_toArray, List.set_cons_zero, List.set_cons_succ]
  refine tkG 13 (v := ?_) rfl (by kernel_rfl) (by kernel_rfl) (by kernel_rfl) (fun _ _ _ h => h) (Or.inl ⟨wantedG 8 false rfl rfl rfl rfl, ?_⟩) hHeld ?_
  rotate_left; · (intro w' hSw;  go_simp; first | done | with_reducible rfl)
  try simp only [Act.put, List.getElem_toArray, List.getElem_cons_succ, List.getElem_cons_zero, List.setIfInBounds_toArray, List.set_cons_zero, List.set_cons_succ]
  refine brG 10 rfl (by kernel_rfl) (fun K hK => ?_)
  go_simp
  refine (bits_n (HV.out.below hHeld.out) (by have := HL.out; omega) r HRR.out).mono ?_
  rintro e w1 ⟨rfl, st⟩
  have H1 := Aside0.mk (below_more hHeld.out st)
  clear st
  refine hK.out _ _ H1 (fun hHeld => ?_)
  clear H1
  clear hK K
  try simp only [Act.put, List.getElem_toArray, List.getElem_cons_succ, List.getElem_cons_zero, List.setIfInBounds_toArray, List.set_cons_zero, List.set_cons_succ]
  refine tkG 14 (v := ?_) rfl (by kernel_rfl) (by kernel_rfl) (by kernel_rfl) (fun _ _ _ h => h) (Or.inl ⟨wantedG 8 false rfl rfl rfl rfl, ?_⟩) hHeld ?_
  rotate_left; · (intro w' hSw;  go_simp; first | done | with_reducible rfl)
  try simp only [Act.put, List.getElem_toArray, List.getElem_cons_succ, List.getElem_cons_zero, List.setIfInBounds_toArray, List.set_cons_zero, List.set_cons_succ]
  refine tkG 15 (v := ?_) rfl (by kernel_rfl) (by kernel_rfl) (by kernel_rfl) (fun _ _ _ h => h) (Or.inl ⟨wantedN rfl, ?_⟩) hHeld ?_
  rotate_left; · (intro w' hSw;  go_simp; first | done | with_reducible rfl)
  try simp only [Act.put, List.getElem_toArray, List.getElem_cons_succ, List.getElem_cons_zero, List.setIfInBounds_toArray, List.set_cons_zero, List.set_cons_succ]
  refine tkG 16 (v := ?_) rfl (by kernel_rfl) (by kernel_rfl) (by kernel_rfl) (fun _ _ _ h => h) (Or.inl ⟨wantedN rfl, ?_⟩) hHeld ?_
  rotate_left; · (intro w' hSw;  go_simp; first | done | with_reducible rfl)
  try simp only [Act.put, List.getElem_toArray, List.getElem_cons_succ, List.getElem_cons_zero, List.setIfInBounds_toArray, List.set_cons_zero, List.set_cons_succ]
  refine wpAnyH_done (by kernel_rfl) ?_ _
  refine NoPanic.normal ?_
  have HB1 := hHeld
  have HV1 := Aside0.mk (HV.out.below hHeld.out)
  have SZ := Aside0.mk (c64_info info63 (dg_length 4 0))
  clear hHeld HV HRR
  go_wp2_with fail
  refine (array4_n HV1.out (by have := HL.out; omega)).mono ?_
  rintro e w2 ⟨rfl, st⟩
  have HB2 := Aside0.mk (below_more HB1.out st)
  have HV2 := Aside0.mk (HV1.out.below st)
  obtain ⟨x0, x1, x2, x3, ex⟩ := split4 (dg_length 4 m)
  rw [ex, show c64 [x0, x1, x2, x3] = #[.int .u64 x0, .int .u64 x1, .int .u64 x2, .int .u64 x3] from rfl]
  have EX := Aside0.mk ex
  clear HB1 HV1 st ex rW r2
  go_wp2_with fail
  refine (of_n HV2.out (by have := HL.out; omega)).mono ?_
  rintro e w3 ⟨wv, rfl, hc, st⟩
  have HB3 := Aside0.mk (below_more HB2.out st)
  have HV3 := Aside0.mk (HV2.out.below st)
  obtain ⟨A3, n3, c3, rfl⟩ := hc.slice
  have HC3 := Aside0.mk hc
  clear HB2 HV2 st hc
  go_wp2_with (refine wpList_load_row rfl 63 (.tmp 4) rfl _ rfl 63 (c64 (dg 4 0)) (0, 0) _ (((below_alloc HB3.out _).block w.heap.size (blk_lt HZ.out)).trans HZ.out) Try.underlying63 rfl SZ.out ?_)
  obtain ⟨W4, hW4⟩ : ∃ W4, w3.alloc (.cells #[.int .u64 x0, .int .u64 x1, .int .u64 x2, .int .u64 x3, .slice A3 n3 c3, .int .u64 0, .int .u64 0, .int .u64 0, .int .u64 0, .int .u64 0, .int .u64 0, .int .u64 0, .int .u64 0, .int .u64 0] 121) = W4 := ⟨_, rfl⟩
  obtain ⟨g, hg⟩ : ∃ g, w3.heap.size = g := ⟨_, rfl⟩
  have st : Below w3.heap.size w3 W4 := hW4 ▸ below_alloc (Below.refl _ _) _
  have FB := Aside0.mk (show W4.heap[g]? = some (.cells #[.int .u64 x0, .int .u64 x1, .int .u64 x2, .int .u64 x3, .slice A3 n3 c3, .int .u64 0, .int .u64 0, .int .u64 0, .int .u64 0, .int .u64 0, .int .u64 0, .int .u64 0, .int .u64 0, .int .u64 0] 121 (0, 0)) from by rw [← hW4, ← hg]; exact heap_alloc_new w3 _)
  rw [hW4, hg]
  have GB := Aside0.mk (show W.heap.size ≤ g from hg ▸ HB3.out.size)
  have G3 := Aside0.mk (And.intro hg st)
  have HB4 := Aside0.mk (below_more HB3.out st)
  have HV4 := Aside0.mk (HV3.out.below st)
  clear HB3 HV3 hW4 hg st
  refine (shifted_calls 4 (by decide) W4).mono ?_
  rintro e w5 ⟨v5, rfl, d5, st⟩
  have H5 := Aside0.mk st
  have D5 := Aside0.mk d5
  clear d5 st
  go_wp2_with fail
  refine (divmod_n D5.out (HV4.out.below H5.out) (by decide) HL.out HP.out.pos).mono ?_
  rintro e w6 ⟨q6, r6, rfl, c6q, c6r, st⟩
  have H6 := Aside0.mk (below_more H5.out st)
  have D6 := Aside0.mk c6r.dn
  clear c6q c6r st D5 H5
  go_wp2_with (refine wpList_load_row rfl 63 (.tmp 4) rfl _ rfl 63 (c64 (dg 4 0)) (0, 0) _ (((below_more HB4.out H6.out).block w.heap.size (blk_lt HZ.out)).trans HZ.out) Try.underlying63 rfl SZ.out ?_)
  refine (shifted_calls 8 (by decide) w6).mono ?_
  rintro e w7 ⟨v7, rfl, d7, st⟩
  have H7 := Aside0.mk (below_more H6.out st)
  have D7 := Aside0.mk d7
  have D6' := Aside0.mk (D6.out.below st)
  clear d7 st H6 D6
  go_wp2_with fail
  refine (divmod_n D7.out (HV4.out.below H7.out) (by decide) HL.out HP.out.pos).mono ?_
  rintro e w8 ⟨q8, r8, rfl, c8q, c8r, st⟩
  have H8 := Aside0.mk (below_more H7.out st)
  have D8 := Aside0.mk c8r.dn
  have D6 := Aside0.mk (D6'.out.below st)
  clear c8q c8r st D7 H7 D6'
  go_wp2_with fail
  refine (array4_n D6.out (by have := HL.out; omega)).mono ?_
  rintro e w9 ⟨rfl, st⟩
  have H9 := Aside0.mk (below_more H8.out st)
  have D9 := Aside0.mk (D8.out.below st)
  obtain ⟨o0, o1, o2, o3, eo⟩ := split4 (dg_length 4 (B64 ^ 4 % m))
  rw [eo, show c64 [o0, o1, o2, o3] = #[.int .u64 o0, .int .u64 o1, .int .u64 o2, .int .u64 o3] from rfl]
  have EO := Aside0.mk eo
  clear D6 D8 H8 eo st
  go_wp2_with fail
  refine (array4_n D9.out (by have := HL.out; omega)).mono ?_
  rintro e w10 ⟨rfl, st⟩
  have H10 := Aside0.mk (below_more H9.out st)
  obtain ⟨s0, s1, s2, s3, es⟩ := split4 (dg_length 4 (B64 ^ 8 % m))
  rw [es, show c64 [s0, s1, s2, s3] = #[.int .u64 s0, .int .u64 s1, .int .u64 s2, .int .u64 s3] from rfl]
  have ES := Aside0.mk es
  clear D9 H9 es st
  have FB10 := Aside0.mk ((H10.out.block g (blk_lt FB.out)).trans FB.out)
  have c5 : w10.cell? ⟨g, 5, none⟩ = some (.int .u64 0) := blk_cell FB10.out 5
  have f5 := blk_frozen FB10.out 5
  have c6 : w10.cell? ⟨g, 6, none⟩ = some (.int .u64 0) := blk_cell FB10.out 6
  have f6 := blk_frozen FB10.out 6
  have c7 : w10.cell? ⟨g, 7, none⟩ = some (.int .u64 0) := blk_cell FB10.out 7
  have f7 := blk_frozen FB10.out 7
  have c8 : w10.cell? ⟨g, 8, none⟩ = some (.int .u64 0) := blk_cell FB10.out 8
  have f8 := blk_frozen FB10.out 8
  have c9 : w10.cell? ⟨g, 9, none⟩ = some (.int .u64 0) := blk_cell FB10.out 9
  have f9 := blk_frozen FB10.out 9
  have c10 : w10.cell? ⟨g, 10, none⟩ = some (.int .u64 0) := blk_cell FB10.out 10
  have f10 := blk_frozen FB10.out 10
  have c11 : w10.cell? ⟨g, 11, none⟩ = some (.int .u64 0) := blk_cell FB10.out 11
  have f11 := blk_frozen FB10.out 11
  have c12 : w10.cell? ⟨g, 12, none⟩ = some (.int .u64 0) := blk_cell FB10.out 12
  have f12 := blk_frozen FB10.out 12
  go_wp2_with fail
  clear  c5 f5 c6 f6 c7 f7 c8 f8 c9 f9 c10 f10 c11 f11 c12 f12
  obtain ⟨W11, hW11⟩ : ∃ W11, ((((((((w10.setCell ⟨g, 9, none⟩ (.int .u64 o0)).setCell ⟨g, 10, none⟩ (.int .u64 o1)).setCell ⟨g, 11, none⟩ (.int .u64 o2)).setCell ⟨g, 12, none⟩ (.int .u64 o3)).setCell ⟨g, 5, none⟩ (.int .u64 s0)).setCell ⟨g, 6, none⟩ (.int .u64 s1)).setCell ⟨g, 7, none⟩ (.int .u64 s2)).setCell ⟨g, 8, none⟩ (.int .u64 s3)) = W11 := ⟨_, rfl⟩
  have FB11 := Aside0.mk (show W11.heap[g]? = some (.cells #[.int .u64 x0, .int .u64 x1, .int .u64 x2, .int .u64 x3, .slice A3 n3 c3, .int .u64 s0, .int .u64 s1, .int .u64 s2, .int .u64 s3, .int .u64 o0, .int .u64 o1, .int .u64 o2, .int .u64 o3, .int .u64 0] 121 (0, 0)) from by
    rw [← hW11]
    have u0 := FB10.out
    have u1 := blk_set u0 9 (.int .u64 o0)
    simp only [List.setIfInBounds_toArray, List.set_cons_succ, List.set_cons_zero] at u1
    clear u0
    have u2 := blk_set u1 10 (.int .u64 o1)
    simp only [List.setIfInBounds_toArray, List.set_cons_succ, List.set_cons_zero] at u2
    clear u1
    have u3 := blk_set u2 11 (.int .u64 o2)
    simp only [List.setIfInBounds_toArray, List.set_cons_succ, List.set_cons_zero] at u3
    clear u2
    have u4 := blk_set u3 12 (.int .u64 o3)
    simp only [List.setIfInBounds_toArray, List.set_cons_succ, List.set_cons_zero] at u4
    clear u3
    have u5 := blk_set u4 5 (.int .u64 s0)
    simp only [List.setIfInBounds_toArray, List.set_cons_succ, List.set_cons_zero] at u5
    clear u4
    have u6 := blk_set u5 6 (.int .u64 s1)
    simp only [List.setIfInBounds_toArray, List.set_cons_succ, List.set_cons_zero] at u6
    clear u5
    have u7 := blk_set u6 7 (.int .u64 s2)
    simp only [List.setIfInBounds_toArray, List.set_cons_succ, List.set_cons_zero] at u7
    clear u6
    have u8 := blk_set u7 8 (.int .u64 s3)
    simp only [List.setIfInBounds_toArray, List.set_cons_succ, List.set_cons_zero] at u8
    clear u7
    exact u8)
  have HB11 := Aside0.mk (show Below W.heap.size W W11 from by
    rw [← hW11]
    exact below_set (below_set (below_set (below_set (below_set (below_set (below_set (below_set (below_more HB4.out H10.out) GB.out) GB.out) GB.out) GB.out) GB.out) GB.out) GB.out) GB.out)
  have G11 := Aside0.mk (show Below w3.heap.size w3 W11 from by
    rw [← hW11]
    exact below_set (below_set (below_set (below_set (below_set (below_set (below_set (below_set (below_more G3.out.2 H10.out) (Nat.le_of_eq G3.out.1)) (Nat.le_of_eq G3.out.1)) (Nat.le_of_eq G3.out.1)) (Nat.le_of_eq G3.out.1)) (Nat.le_of_eq G3.out.1)) (Nat.le_of_eq G3.out.1)) (Nat.le_of_eq G3.out.1)) (Nat.le_of_eq G3.out.1))
  rw [hW11]
  clear hW11 HB4 H10 FB10 FB HV4
  go_loopg [69, 12] 6 (fun kk v69 v12 wr => ∃ (i : Nat) (k : Int), i + kk = 6 ∧ v69 = .int .i64 i ∧ v12 = .int .u64 k ∧ wr = W11 ∧ Aside0 (Nwt m k i))
  case atStart => exact ⟨0, 1, by omega, rfl, rfl, rfl, ⟨Nwt.start HP.out.odd⟩⟩
  case round =>
    obtain ⟨i, k, hi, rfl, rfl, rfl, HN⟩ := hrel
    by_cases h0 : i < 6
    · have cx : wr.cell? ⟨g, 0, none⟩ = some (.int .u64 x0) := blk_cell FB11.out 0
      obtain ⟨p1, e1⟩ : ∃ p, IntKind.u64.wrap (x0 * k) = p := ⟨_, rfl⟩
      obtain ⟨p2, e2⟩ : ∃ p, IntKind.u64.wrap (2 - p1) = p := ⟨_, rfl⟩
      obtain ⟨k2, e3⟩ : ∃ p, IntKind.u64.wrap (k * p2) = p := ⟨_, rfl⟩
      have HN2 := Aside0.mk (show Nwt m k2 (i + 1) from by
        have hx : x0 = (dg 4 m).getD 0 0 := by rw [EX.out]; rfl
        have := HN.out.step (m0 := x0) h0 (by rw [hx, dg_getD 4 m 0 (by decide), Int.pow_zero, Int.ediv_one]; exact Cg.mod _ _)
        rw [← e3, ← e2, ← e1, IntKind.wrap_u64, IntKind.wrap_u64, IntKind.wrap_u64]
        rw [B64_eq] at this
        exact this)
      go_wp2_with fail
      clear e1 e2 e3 cx
      go_roundg (6 - (i + 1))
      case measure => omega
      case rel => exact ⟨i + 1, k2, by omega, by go_num, rfl, rfl, HN2⟩
    · obtain rfl : i = 6 := by omega
      have ci : wr.cell? ⟨g, 13, none⟩ = some (.int .u64 0) := blk_cell FB11.out 13
      have fi := blk_frozen FB11.out 13
      obtain ⟨inv, hinv⟩ : ∃ p, IntKind.u64.wrap (-k) = p := ⟨_, rfl⟩
      have HI := Aside0.mk hinv
      go_wp2_with fail
      go_ret2
      clear ci fi
      have FI := FB11.out
      have F12 := blk_set FI 13 (.int .u64 inv)
      simp only [List.setIfInBounds_toArray, List.set_cons_succ, List.set_cons_zero] at F12
      have ec : #[.int .u64 x0, .int .u64 x1, .int .u64 x2, .int .u64 x3, .slice A3 n3 c3, .int .u64 s0, .int .u64 s1, .int .u64 s2, .int .u64 s3, .int .u64 o0, .int .u64 o1, .int .u64 o2, .int .u64 o3, .int .u64 inv] = fcells 4 m (B64 ^ 4 * B64 ^ 4 % m) (B64 ^ 4 % m) inv (.slice A3 n3 c3) := by
        unfold fcells
        rw [show B64 ^ 4 * B64 ^ 4 = B64 ^ 8 from by rw [← Int.pow_add], EX.out, EO.out, ES.out]
        rfl
      rw [ec] at F12
      have hb : 0 ≤ inv ∧ inv < B64 := by
        rw [← HI.out, IntKind.wrap_u64, B64_eq]
        exact ⟨Int.emod_nonneg _ (by decide), Int.emod_lt_of_pos _ (by decide)⟩
      have hg : Cg B64 (inv * m) (-1) := by
        have e1 : Cg B64 inv (-k) := by
          rw [← HI.out, IntKind.wrap_u64]
          exact Cg.mod _ _
        refine (e1.mul (Cg.refl _ m)).trans ?_
        rw [Int.neg_mul]
        exact HN.out.done.neg
      exact ⟨g, rfl, ⟨inv, .slice A3 n3 c3, F12, (HC3.out.below (below_set G11.out (Nat.le_of_eq G3.out.1))).mono HL.out, hb, hg, HP.out⟩, HWW.out.trans ((below_set HB11.out GB.out).mono HWW.out.size)⟩
end Go.Proofs.Ytokadjfakncdfaa
end

section
set_option linter.unusedVariables false
set_option linter.unusedSimpArgs false
namespace Go.Proofs.Ytokadjfakncdfaa
open Go.RowKit Go.Proofs.YtokadjfakncdfaaW.PrintWords Go.Proofs.YtokadjfakncdfaaW.PrintLast Go.Proofs.YtokadjfakncdfaaW.PrintMore

set_option maxRecDepth 100000 in
set_option maxHeartbeats 4000000 in
theorem newEven4_calls (v : Value) (m : Int) (la : Nat) (w : World) (hv : DN w v m la) (hl : la ≤ 80) (ho : m % 2 = 0) :
    Calls Try.prog 47 #[v] w fun e w' => e = .returned (.tuple #[.pointer none, .int .i64 1]) ∧ Below w.heap.size w w' := by
  have HV := Aside0.mk hv
  have HL := Aside0.mk hl
  have hoA := Aside0.mk ho
  obtain ⟨xs, hx, dx, nx, lx⟩ := hv.out
  obtain ⟨A, c, rfl, hc, hC⟩ := hx
  have l80 : (xs.length : Int) ≤ 80 := by omega
  have S := Aside0.mk ((SB0.nil w).alloc 63 (dg 4 0)).S
  clear hv hl dx nx lx hc hC ho
  go_enter Try.func47, Try.ntmps47
  go_upto_region 4 with fail
  obtain ⟨W, hW⟩ : ∃ W, w.alloc (.cells #[.int .u64 0, .int .u64 0, .int .u64 0, .int .u64 0] 63) = W := ⟨_, rfl⟩
  have s1 : SB w W [(63, dg 4 0)] := hW ▸ S.out
  rw [hW]
  have HZ := Aside0.mk (show W.heap[w.heap.size]? = _ from s1.R 0 _ _ rfl)
  have HWW := Aside0.mk s1.B
  have HV := Aside0.mk (HV.out.below s1.B)
  clear hW S s1
  refine wp_region_noPanic ?_
  refine wp_region_held_drew (S := (fun w' => Aside0 (Below W.heap.size W w'))) (by kernel_rfl) ⟨below_drew (Below.refl _ _)⟩ (fun hHeld => ?_)
  refine tkG 0 (v := ?_) rfl (by kernel_rfl) (by kernel_rfl) (by kernel_rfl) (fun _ _ _ h => h) (Or.inl ⟨wantedN rfl, ?_⟩) hHeld ?_
  rotate_left; · (intro w' hSw;  go_simp; first | done | with_reducible rfl)
  try simp only [Act.put, List.getElem_toArray, List.getElem_cons_succ, List.getElem_cons_zero, List.setIfInBounds_toArray, List.set_cons_zero, List.set_cons_succ]
  refine brG 1 rfl (by kernel_rfl) (fun K hK => ?_)
  go_simp
  refine (bit0_calls 0 hoA.out (HV.out.below hHeld.out) (by have := HL.out; omega)).mono ?_
  rintro e w1 ⟨rfl, rfl⟩
  refine hK.out _ _ hHeld (fun hHeld => ?_)
  clear hK K
  try simp only [Act.put, List.getElem_toArray, List.getElem_cons_succ, List.getElem_cons_zero, List.setIfInBounds_toArray, List.set_cons_zero, List.set_cons_succ]
  refine tkG 2 (v := ?_) rfl (by kernel_rfl) (by kernel_rfl) (by kernel_rfl) (fun _ _ _ h => h) (Or.inl ⟨wantedN rfl, ?_⟩) hHeld ?_
  rotate_left; · (intro w' hSw;  go_simp; first | done | with_reducible rfl)
  try simp only [Act.put, List.getElem_toArray, List.getElem_cons_succ, List.getElem_cons_zero, List.setIfInBounds_toArray, List.set_cons_zero, List.set_cons_succ]
  refine tkG 3 (v := ?_) rfl (by kernel_rfl) (by kernel_rfl) (by kernel_rfl) (fun _ _ _ h => h) (Or.inl ⟨wantedN rfl, ?_⟩) hHeld ?_
  rotate_left; · (intro w' hSw;  go_simp; first | done | with_reducible rfl)
  try simp only [Act.put, List.getElem_toArray, List.getElem_cons_succ, List.getElem_cons_zero, List.setIfInBounds_toArray, List.set_cons_zero, List.set_cons_succ]
  refine tkG 4 (v := undef) rfl (by kernel_rfl) (by kernel_rfl) (by kernel_rfl) (fun _ _ _ h => h) (Or.inr ⟨notWanted 3 false true rfl rfl rfl rfl (by decide), rfl⟩) hHeld ?_
  try simp only [Act.put, List.getElem_toArray, List.getElem_cons_succ, List.getElem_cons_zero, List.setIfInBounds_toArray, List.set_cons_zero, List.set_cons_succ]
  refine tkG 5 (v := undef) rfl (by kernel_rfl) (by kernel_rfl) (by kernel_rfl) (fun _ _ _ h => h) (Or.inr ⟨notWanted 3 false true rfl rfl rfl rfl (by decide), rfl⟩) hHeld ?_
  try simp only [Act.put, List.getElem_toArray, List.getElem_cons_succ, List.getElem_cons_zero, List.setIfInBounds_toArray, List.set_cons_zero, List.set_cons_succ]
  refine tkG 6 (v := undef) rfl (by kernel_rfl) (by kernel_rfl) (by kernel_rfl) (fun _ _ _ h => h) (Or.inr ⟨notWanted 3 false true rfl rfl rfl rfl (by decide), rfl⟩) hHeld ?_
  try simp only [Act.put, List.getElem_toArray, List.getElem_cons_succ, List.getElem_cons_zero, List.setIfInBounds_toArray, List.set_cons_zero, List.set_cons_succ]
  refine tkG 7 (v := ?_) rfl (by kernel_rfl) (by kernel_rfl) (by kernel_rfl) (fun _ _ _ h => h) (Or.inl ⟨wantedN rfl, ?_⟩) hHeld ?_
  rotate_left; · (intro w' hSw;  go_simp; first | done | with_reducible rfl)
  try simp only [Act.put, List.getElem_toArray, List.getElem_cons_succ, List.getElem_cons_zero, List.setIfInBounds_toArray, List.set_cons_zero, List.set_cons_succ]
  refine tkG 8 (v := ?_) rfl (by kernel_rfl) (by kernel_rfl) (by kernel_rfl) (fun _ _ _ h => h) (Or.inl ⟨wantedN rfl, ?_⟩) hHeld ?_
  rotate_left; · (intro w' hSw;  go_simp; first | done | with_reducible rfl)
  try simp only [Act.put, List.getElem_toArray, List.getElem_cons_succ, List.getElem_cons_zero, List.setIfInBounds_toArray, List.set_cons_zero, List.set_cons_succ]
  refine tkG 9 (v := undef) rfl (by kernel_rfl) (by kernel_rfl) (by kernel_rfl) (fun _ _ _ h => h) (Or.inr ⟨notWanted 8 false true rfl rfl rfl rfl (by decide), rfl⟩) hHeld ?_
  try simp only [Act.put, List.getElem_toArray, List.getElem_cons_succ, List.getElem_cons_zero, List.setIfInBounds_toArray, List.set_cons_zero, List.set_cons_succ]
  refine tkG 10 (v := undef) rfl (by kernel_rfl) (by kernel_rfl) (by kernel_rfl) (fun _ _ _ h => h) (Or.inr ⟨notWanted 8 false true rfl rfl rfl rfl (by decide), rfl⟩) hHeld ?_
  try simp only [Act.put, List.getElem_toArray, List.getElem_cons_succ, List.getElem_cons_zero, List.setIfInBounds_toArray, List.set_cons_zero, List.set_cons_succ]
  refine tkG 11 (v := undef) rfl (by kernel_rfl) (by kernel_rfl) (by kernel_rfl) (fun _ _ _ h => h) (Or.inr ⟨notWanted 8 false true rfl rfl rfl rfl (by decide), rfl⟩) hHeld ?_
  try simp only [Act.put, List.getElem_toArray, List.getElem_cons_succ, List.getElem_cons_zero, List.setIfInBounds_toArray, List.set_cons_zero, List.set_cons_succ]
  refine tkG 12 (v := undef) rfl (by kernel_rfl) (by kernel_rfl) (by kernel_rfl) (fun _ _ _ h => h) (Or.inr ⟨notWanted 8 false true rfl rfl rfl rfl (by decide), rfl⟩) hHeld ?_
  try simp only [Act.put, List.getElem_toArray, List.getElem_cons_succ, List.getElem_cons_zero, List.setIfInBounds_toArray, List.set_cons_zero, List.set_cons_succ]
  refine tkG 13 (v := undef) rfl (by kernel_rfl) (by kernel_rfl) (by kernel_rfl) (fun _ _ _ h => h) (Or.inr ⟨notWanted 8 false true rfl rfl rfl rfl (by decide), rfl⟩) hHeld ?_
  try simp only [Act.put, List.getElem_toArray, List.getElem_cons_succ, List.getElem_cons_zero, List.setIfInBounds_toArray, List.set_cons_zero, List.set_cons_succ]
  refine tkG 14 (v := undef) rfl (by kernel_rfl) (by kernel_rfl) (by kernel_rfl) (fun _ _ _ h => h) (Or.inr ⟨notWanted 8 false true rfl rfl rfl rfl (by decide), rfl⟩) hHeld ?_
  try simp only [Act.put, List.getElem_toArray, List.getElem_cons_succ, List.getElem_cons_zero, List.setIfInBounds_toArray, List.set_cons_zero, List.set_cons_succ]
  refine tkG 15 (v := ?_) rfl (by kernel_rfl) (by kernel_rfl) (by kernel_rfl) (fun _ _ _ h => h) (Or.inl ⟨wantedN rfl, ?_⟩) hHeld ?_
  rotate_left; · (intro w' hSw;  go_simp; first | done | with_reducible rfl)
  try simp only [Act.put, List.getElem_toArray, List.getElem_cons_succ, List.getElem_cons_zero, List.setIfInBounds_toArray, List.set_cons_zero, List.set_cons_succ]
  refine tkG 16 (v := ?_) rfl (by kernel_rfl) (by kernel_rfl) (by kernel_rfl) (fun _ _ _ h => h) (Or.inl ⟨wantedN rfl, ?_⟩) hHeld ?_
  rotate_left; · (intro w' hSw;  go_simp; first | done | with_reducible rfl)
  try simp only [Act.put, List.getElem_toArray, List.getElem_cons_succ, List.getElem_cons_zero, List.setIfInBounds_toArray, List.set_cons_zero, List.set_cons_succ]
  refine wpAnyH_done (by kernel_rfl) ?_ _
  refine NoPanic.normal ?_
  have HB1 := Aside0.mk (HWW.out.trans (hHeld.out.mono HWW.out.size))
  go_wp2_with fail
  go_ret2
  exact ⟨rfl, HB1.out⟩

set_option maxRecDepth 100000 in
set_option maxHeartbeats 4000000 in
theorem newLow4_calls (v : Value) (m : Int) (la : Nat) (w : World) (hv : DN w v m la) (hl : la ≤ 80) (ho : m % 2 = 1) (h1 : m = 1) :
    Calls Try.prog 47 #[v] w fun e w' => e = .returned (.tuple #[.pointer none, .int .i64 1]) ∧ Below w.heap.size w w' := by
  have HV := Aside0.mk hv
  have HL := Aside0.mk hl
  have hoA := Aside0.mk ho
  obtain ⟨xs, hx, dx, nx, lx⟩ := hv.out
  obtain ⟨A, c, rfl, hc, hC⟩ := hx
  obtain ⟨r, hr⟩ : ∃ r : Nat, r = 1 := ⟨1, rfl⟩
  have HRR := Aside0.mk (show LenN m.toNat r from by rw [h1, hr]; exact ⟨by decide, .inr (by decide)⟩)
  have r2 : (r : Int) < 2 := by omega
  have l80 : (xs.length : Int) ≤ 80 := by omega
  have S := Aside0.mk ((SB0.nil w).alloc 63 (dg 4 0)).S
  clear hv hl dx nx lx hc hC hr h1 ho
  go_enter Try.func47, Try.ntmps47
  go_upto_region 4 with fail
  obtain ⟨W, hW⟩ : ∃ W, w.alloc (.cells #[.int .u64 0, .int .u64 0, .int .u64 0, .int .u64 0] 63) = W := ⟨_, rfl⟩
  have s1 : SB w W [(63, dg 4 0)] := hW ▸ S.out
  rw [hW]
  have HZ := Aside0.mk (show W.heap[w.heap.size]? = _ from s1.R 0 _ _ rfl)
  have HWW := Aside0.mk s1.B
  have HV := Aside0.mk (HV.out.below s1.B)
  clear hW S s1
  refine wp_region_noPanic ?_
  refine wp_region_held_drew (S := (fun w' => Aside0 (Below W.heap.size W w'))) (by kernel_rfl) ⟨below_drew (Below.refl _ _)⟩ (fun hHeld => ?_)
  refine tkG 0 (v := ?_) rfl (by kernel_rfl) (by kernel_rfl) (by kernel_rfl) (fun _ _ _ h => h) (Or.inl ⟨wantedN rfl, ?_⟩) hHeld ?_
  rotate_left; · (intro w' hSw;  go_simp; first | done | with_reducible rfl)
  try simp only [Act.put, List.getElem_toArray, List.getElem_cons_succ, List.getElem_cons_zero, List.setIfInBounds_toArray, List.set_cons_zero, List.set_cons_succ]
  refine brG 1 rfl (by kernel_rfl) (fun K hK => ?_)
  go_simp
  refine (bit0_calls 1 hoA.out (HV.out.below hHeld.out) (by have := HL.out; omega)).mono ?_
  rintro e w1 ⟨rfl, rfl⟩
  refine hK.out _ _ hHeld (fun hHeld => ?_)
  clear hK K
  try simp only [Act.put, List.getElem_toArray, List.getElem_cons_succ, List.getElem_cons_zero, List.setIfInBounds_toArray, List.set_cons_zero, List.set_cons_succ]
  refine tkG 2 (v := ?_) rfl (by kernel_rfl) (by kernel_rfl) (by kernel_rfl) (fun _ _ _ h => h) (Or.inl ⟨wantedN rfl, ?_⟩) hHeld ?_
  rotate_left; · (intro w' hSw;  go_simp; first | done | with_reducible rfl)
  try simp only [Act.put, List.getElem_toArray, List.getElem_cons_succ, List.getElem_cons_zero, List.setIfInBounds_toArray, List.set_cons_zero, List.set_cons_succ]
  refine tkG 3 (v := ?_) rfl (by kernel_rfl) (by kernel_rfl) (by kernel_rfl) (fun _ _ _ h => h) (Or.inl ⟨wantedN rfl, ?_⟩) hHeld ?_
  rotate_left; · (intro w' hSw;  go_simp; first | done | with_reducible rfl)
  try simp only [Act.put, List.getElem_toArray, List.getElem_cons_succ, List.getElem_cons_zero, List.setIfInBounds_toArray, List.set_cons_zero, List.set_cons_succ]
  refine tkG 4 (v := ?_) rfl (by kernel_rfl) (by kernel_rfl) (by kernel_rfl) (fun _ _ _ h => h) (Or.inl ⟨wantedG 3 false rfl rfl rfl rfl, ?_⟩) hHeld ?_
  rotate_left; · (intro w' hSw;  go_simp; first | done | with_reducible rfl)
  try simp only [Act.put, List.getElem_toArray, List.getElem_cons_succ, List.getElem_cons_zero, List.setIfInBounds_toArray, List.set_cons_zero, List.set_cons_succ]
  refine brG 5 rfl (by kernel_rfl) (fun K hK => ?_)
  go_simp
  refine (bits_n (HV.out.below hHeld.out) (by have := HL.out; omega) r HRR.out).mono ?_
  rintro e w1 ⟨rfl, st⟩
  have H1 := Aside0.mk (below_more hHeld.out st)
  clear st
  refine hK.out _ _ H1 (fun hHeld => ?_)
  clear H1
  clear hK K
  try simp only [Act.put, List.getElem_toArray, List.getElem_cons_succ, List.getElem_cons_zero, List.setIfInBounds_toArray, List.set_cons_zero, List.set_cons_succ]
  refine tkG 6 (v := ?_) rfl (by kernel_rfl) (by kernel_rfl) (by kernel_rfl) (fun _ _ _ h => h) (Or.inl ⟨wantedG 3 false rfl rfl rfl rfl, ?_⟩) hHeld ?_
  rotate_left; · (intro w' hSw;  go_simp; first | done | with_reducible rfl)
  try simp only [Act.put, List.getElem_toArray, List.getElem_cons_succ, List.getElem_cons_zero, List.setIfInBounds_toArray, List.set_cons_zero, List.set_cons_succ]
  refine tkG 7 (v := ?_) rfl (by kernel_rfl) (by kernel_rfl) (by kernel_rfl) (fun _ _ _ h => h) (Or.inl ⟨wantedN rfl, ?_⟩) hHeld ?_
  rotate_left; · (intro w' hSw;  go_simp; first | done | with_reducible rfl)
  try simp only [Act.put, List.getElem_toArray, List.getElem_cons_succ, List.getElem_cons_zero, List.setIfInBounds_toArray, List.set_cons_zero, List.set_cons_succ]
  refine tkG 8 (v := ?_) rfl (by kernel_rfl) (by kernel_rfl) (by kernel_rfl) (fun _ _ _ h => h) (Or.inl ⟨wantedN rfl, ?_⟩) hHeld ?_
  rotate_left; · (intro w' hSw;  go_simp; first | done | with_reducible rfl)
  try simp only [Act.put, List.getElem_toArray, List.getElem_cons_succ, List.getElem_cons_zero, List.setIfInBounds_toArray, List.set_cons_zero, List.set_cons_succ]
  refine tkG 9 (v := undef) rfl (by kernel_rfl) (by kernel_rfl) (by kernel_rfl) (fun _ _ _ h => h) (Or.inr ⟨notWanted 8 false true rfl rfl rfl rfl (by decide), rfl⟩) hHeld ?_
  try simp only [Act.put, List.getElem_toArray, List.getElem_cons_succ, List.getElem_cons_zero, List.setIfInBounds_toArray, List.set_cons_zero, List.set_cons_succ]
  refine tkG 10 (v := undef) rfl (by kernel_rfl) (by kernel_rfl) (by kernel_rfl) (fun _ _ _ h => h) (Or.inr ⟨notWanted 8 false true rfl rfl rfl rfl (by decide), rfl⟩) hHeld ?_
  try simp only [Act.put, List.getElem_toArray, List.getElem_cons_succ, List.getElem_cons_zero, List.setIfInBounds_toArray, List.set_cons_zero, List.set_cons_succ]
  refine tkG 11 (v := undef) rfl (by kernel_rfl) (by kernel_rfl) (by kernel_rfl) (fun _ _ _ h => h) (Or.inr ⟨notWanted 8 false true rfl rfl rfl rfl (by decide), rfl⟩) hHeld ?_
  try simp only [Act.put, List.getElem_toArray, List.getElem_cons_succ, List.getElem_cons_zero, List.setIfInBounds_toArray, List.set_cons_zero, List.set_cons_succ]
  refine tkG 12 (v := undef) rfl (by kernel_rfl) (by kernel_rfl) (by kernel_rfl) (fun _ _ _ h => h) (Or.inr ⟨notWanted 8 false true rfl rfl rfl rfl (by decide), rfl⟩) hHeld ?_
  try simp only [Act.put, List.getElem_toArray, List.getElem_cons_succ, List.getElem_cons_zero, List.setIfInBounds_toArray, List.set_cons_zero, List.set_cons_succ]
  refine tkG 13 (v := undef) rfl (by kernel_rfl) (by kernel_rfl) (by kernel_rfl) (fun _ _ _ h => h) (Or.inr ⟨notWanted 8 false true rfl rfl rfl rfl (by decide), rfl⟩) hHeld ?_
  try simp only [Act.put, List.getElem_toArray, List.getElem_cons_succ, List.getElem_cons_zero, List.setIfInBounds_toArray, List.set_cons_zero, List.set_cons_succ]
  refine tkG 14 (v := undef) rfl (by kernel_rfl) (by kernel_rfl) (by kernel_rfl) (fun _ _ _ h => h) (Or.inr ⟨notWanted 8 false true rfl rfl rfl rfl (by decide), rfl⟩) hHeld ?_
  try simp only [Act.put, List.getElem_toArray, List.getElem_cons_succ, List.getElem_cons_zero, List.setIfInBounds_toArray, List.set_cons_zero, List.set_cons_succ]
  refine tkG 15 (v := ?_) rfl (by kernel_rfl) (by kernel_rfl) (by kernel_rfl) (fun _ _ _ h => h) (Or.inl ⟨wantedN rfl, ?_⟩) hHeld ?_
  rotate_left; · (intro w' hSw;  go_simp; first | done | with_reducible rfl)
  try simp only [Act.put, List.getElem_toArray, List.getElem_cons_succ, List.getElem_cons_zero, List.setIfInBounds_toArray, List.set_cons_zero, List.set_cons_succ]
  refine tkG 16 (v := ?_) rfl (by kernel_rfl) (by kernel_rfl) (by kernel_rfl) (fun _ _ _ h => h) (Or.inl ⟨wantedN rfl, ?_⟩) hHeld ?_
  rotate_left; · (intro w' hSw;  go_simp; first | done | with_reducible rfl)
  try simp only [Act.put, List.getElem_toArray, List.getElem_cons_succ, List.getElem_cons_zero, List.setIfInBounds_toArray, List.set_cons_zero, List.set_cons_succ]
  refine wpAnyH_done (by kernel_rfl) ?_ _
  refine NoPanic.normal ?_
  have HB1 := Aside0.mk (HWW.out.trans (hHeld.out.mono HWW.out.size))
  go_wp2_with fail
  go_ret2
  exact ⟨rfl, HB1.out⟩

set_option maxRecDepth 100000 in
set_option maxHeartbeats 4000000 in
theorem newBig4_calls (v : Value) (m : Int) (la : Nat) (w : World) (hv : DN w v m la) (hl : la ≤ 80) (ho : m % 2 = 1) (h3 : 3 ≤ m) (hb : B64 ^ 4 ≤ 2 * m) :
    Calls Try.prog 47 #[v] w fun e w' => e = .returned (.tuple #[.pointer none, .int .i64 1]) ∧ Below w.heap.size w w' := by
  have HV := Aside0.mk hv
  have HL := Aside0.mk hl
  have hoA := Aside0.mk ho
  obtain ⟨xs, hx, dx, nx, lx⟩ := hv.out
  obtain ⟨A, c, rfl, hc, hC⟩ := hx
  obtain ⟨r, hr, hrl⟩ := lenN_of dx
  rw [nx] at hr
  have HRR := Aside0.mk hr
  have r2 : ¬ (r : Int) < 2 := bits_two (by omega) hr
  have rW : IntKind.i64.wrap 256 ≤ (r : Int) := by
    have := bits_lo (n := 4) (by decide) (by omega) hr hb
    show (256 : Int) ≤ r
    omega
  have l80 : (xs.length : Int) ≤ 80 := by omega
  have S := Aside0.mk ((SB0.nil w).alloc 63 (dg 4 0)).S
  clear hv hl dx nx lx hc hC hr hrl hb h3 ho
  go_enter Try.func47, Try.ntmps47
  go_upto_region 4 with fail
  obtain ⟨W, hW⟩ : ∃ W, w.alloc (.cells #[.int .u64 0, .int .u64 0, .int .u64 0, .int .u64 0] 63) = W := ⟨_, rfl⟩
  have s1 : SB w W [(63, dg 4 0)] := hW ▸ S.out
  rw [hW]
  have HZ := Aside0.mk (show W.heap[w.heap.size]? = _ from s1.R 0 _ _ rfl)
  have HWW := Aside0.mk s1.B
  have HV := Aside0.mk (HV.out.below s1.B)
  clear hW S s1
  refine wp_region_noPanic ?_
  refine wp_region_held_drew (S := (fun w' => Aside0 (Below W.heap.size W w'))) (by kernel_rfl) ⟨below_drew (Below.refl _ _)⟩ (fun hHeld => ?_)
  refine tkG 0 (v := ?_) rfl (by kernel_rfl) (by kernel_rfl) (by kernel_rfl) (fun _ _ _ h => h) (Or.inl ⟨wantedN rfl, ?_⟩) hHeld ?_
  rotate_left; · (intro w' hSw;  go_simp; first | done | with_reducible rfl)
  try simp only [Act.put, List.getElem_toArray, List.getElem_cons_succ, List.getElem_cons_zero, List.setIfInBounds_toArray, List.set_cons_zero, List.set_cons_succ]
  refine brG 1 rfl (by kernel_rfl) (fun K hK => ?_)
  go_simp
  refine (bit0_calls 1 hoA.out (HV.out.below hHeld.out) (by have := HL.out; omega)).mono ?_
  rintro e w1 ⟨rfl, rfl⟩
  refine hK.out _ _ hHeld (fun hHeld => ?_)
  clear hK K
  try simp only [Act.put, List.getElem_toArray, List.getElem_cons_succ, List.getElem_cons_zero, List.setIfInBounds_toArray, List.set_cons_zero, List.set_cons_succ]
  refine tkG 2 (v := ?_) rfl (by kernel_rfl) (by kernel_rfl) (by kernel_rfl) (fun _ _ _ h => h) (Or.inl ⟨wantedN rfl, ?_⟩) hHeld ?_
  rotate_left; · (intro w' hSw;  go_simp; first | done | with_reducible rfl)
  try simp only [Act.put, List.getElem_toArray, List.getElem_cons_succ, List.getElem_cons_zero, List.setIfInBounds_toArray, List.set_cons_zero, List.set_cons_succ]
  refine tkG 3 (v := ?_) rfl (by kernel_rfl) (by kernel_rfl) (by kernel_rfl) (fun _ _ _ h => h) (Or.inl ⟨wantedN rfl, ?_⟩) hHeld ?_
  rotate_left; · (intro w' hSw;  go_simp; first | done | with_reducible rfl)
  try simp only [Act.put, List.getElem_toArray, List.getElem_cons_succ, List.getElem_cons_zero, List.setIfInBounds_toArray, List.set_cons_zero, List.set_cons_succ]
  refine tkG 4 (v := ?_) rfl (by kernel_rfl) (by kernel_rfl) (by kernel_rfl) (fun _ _ _ h => h) (Or.inl ⟨wantedG 3 false rfl rfl rfl rfl, ?_⟩) hHeld ?_
  rotate_left; · (intro w' hSw;  go_simp; first | done | with_reducible rfl)
  try simp only [Act.put, List.getElem_toArray, List.getElem_cons_succ, List.getElem_cons_zero, List.setIfInBounds_toArray, List.set_cons_zero, List.set_cons_succ]
  refine brG 5 rfl (by kernel_rfl) (fun K hK => ?_)
  go_simp
  refine (bits_n (HV.out.below hHeld.out) (by have := HL.out; omega) r HRR.out).mono ?_
  rintro e w1 ⟨rfl, st⟩
  have H1 := Aside0.mk (below_more hHeld.out st)
  clear st
  refine hK.out _ _ H1 (fun hHeld => ?_)
  clear H1
  clear hK K
  try simp only [Act.put, List.getElem_toArray, List.getElem_cons_succ, List.getElem_cons_zero, List.setIfInBounds_toArray, List.set_cons_zero, List.set_cons_succ]
  refine tkG 6 (v := ?_) rfl (by kernel_rfl) (by kernel_rfl) (by kernel_rfl) (fun _ _ _ h => h) (Or.inl ⟨wantedG 3 false rfl rfl rfl rfl, ?_⟩) hHeld ?_
  rotate_left; · (intro w' hSw;  go_simp; first | done | with_reducible rfl)
  try simp only [Act.put, List.getElem_toArray, List.getElem_cons_succ, List.getElem_cons_zero, List.setIfInBounds_toArray, List.set_cons_zero, List.set_cons_succ]
  refine tkG 7 (v := ?_) rfl (by kernel_rfl) (by kernel_rfl) (by kernel_rfl) (fun _ _ _ h => h) (Or.inl ⟨wantedN rfl, ?_⟩) hHeld ?_
  rotate_left; · (intro w' hSw;  go_simp; first | done | with_reducible rfl)
  try simp only [Act.put, List.getElem_toArray, List.getElem_cons_succ, List.getElem_cons_zero, List.setIfInBounds_toArray, List.set_cons_zero, List.set_cons_succ]
  refine tkG 8 (v := ?_) rfl (by kernel_rfl) (by kernel_rfl) (by kernel_rfl) (fun _ _ _ h => h) (Or.inl ⟨wantedN rfl, ?_⟩) hHeld ?_
  rotate_left; · (intro w' hSw;  go_simp; first | done | with_reducible rfl)
  try simp only [Act.put, List.getElem_toArray, List.getElem_cons_succ, List.getElem_cons_zero, List.setIfInBounds_toArray, List.set_cons_zero, List.set_cons_succ]
  refine tkG 9 (v := ?_) rfl (by kernel_rfl) (by kernel_rfl) (by kernel_rfl) (fun _ _ _ h => h) (Or.inl ⟨wantedG 8 false rfl rfl rfl rfl, ?_⟩) hHeld ?_
  rotate_left; · (intro w' hSw;  go_simp; first | done | with_reducible rfl)
  try simp only [Act.put, List.getElem_toArray, List.getElem_cons_succ, List.getElem_cons_zero, List.setIfInBounds_toArray, List.set_cons_zero, List.set_cons_succ]
  refine tkG 11 (v := elt 4 0) rfl (by kernel_rfl) (by kernel_rfl) (by kernel_rfl) (fun _ _ _ h => h) (Or.inl ⟨wantedG 8 false rfl rfl rfl rfl, fun w' hSw => loadG 63 (.tmp 4) rfl ⟨w.heap.size, 0, none⟩ rfl (elt_load63 ⟨((hSw.out.block w.heap.size (blk_lt HZ.out)).trans HZ.out)⟩)⟩) hHeld ?_
  try simp only [Act.put, List.getElem_toArray, List.getElem_cons_succ, List.getElem_cons_zero, List.setIfInBounds_toArray, List.set_cons_zero, List.set_cons_succ]
  refine tkG 12 (v := ?_) rfl (by kernel_rfl) (by kernel_rfl) (by kernel_rfl) (fun _ _ _ h => h) (Or.inl ⟨wantedG 8 false rfl rfl rfl rfl, ?_⟩) hHeld ?_
  rotate_left; · (intro w' hSw;  go_simp; first | done | with_reducible rfl)
  try simp only [Act.put, List.getElem_toArray, List.getElem_cons_succ, List.getElem_cons_zero, List.setIfInBounds_toArray, List.set_cons_zero, List.set_cons_succ]
  refine tkG 13 (v := ?_) rfl (by kernel_rfl) (by kernel_rfl) (by kernel_rfl) (fun _ _ _ h => h) (Or.inl ⟨wantedG 8 false rfl rfl rfl rfl, ?_⟩) hHeld ?_
  rotate_left; · (intro w' hSw;  go_simp; first | done | with_reducible rfl)
  try simp only [Act.put, List.getElem_toArray, List.getElem_cons_succ, List.getElem_cons_zero, List.setIfInBounds_toArray, List.set_cons_zero, List.set_cons_succ]
  refine brG 10 rfl (by kernel_rfl) (fun K hK => ?_)
  go_simp
  refine (bits_n (HV.out.below hHeld.out) (by have := HL.out; omega) r HRR.out).mono ?_
  rintro e w1 ⟨rfl, st⟩
  have H1 := Aside0.mk (below_more hHeld.out st)
  clear st
  refine hK.out _ _ H1 (fun hHeld => ?_)
  clear H1
  clear hK K
  try simp only [Act.put, List.getElem_toArray, List.getElem_cons_succ, List.getElem_cons_zero, List.setIfInBounds_toArray, List.set_cons_zero, List.set_cons_succ]
  refine tkG 14 (v := ?_) rfl (by kernel_rfl) (by kernel_rfl) (by kernel_rfl) (fun _ _ _ h => h) (Or.inl ⟨wantedG 8 false rfl rfl rfl rfl, ?_⟩) hHeld ?_
  rotate_left; · (intro w' hSw;  go_simp; first | done | with_reducible rfl)
  try simp only [Act.put, List.getElem_toArray, List.getElem_cons_succ, List.getElem_cons_zero, List.setIfInBounds_toArray, List.set_cons_zero, List.set_cons_succ]
  refine tkG 15 (v := ?_) rfl (by kernel_rfl) (by kernel_rfl) (by kernel_rfl) (fun _ _ _ h => h) (Or.inl ⟨wantedN rfl, ?_⟩) hHeld ?_
  rotate_left; · (intro w' hSw;  go_simp; first | done | with_reducible rfl)
  try simp only [Act.put, List.getElem_toArray, List.getElem_cons_succ, List.getElem_cons_zero, List.setIfInBounds_toArray, List.set_cons_zero, List.set_cons_succ]
  refine tkG 16 (v := ?_) rfl (by kernel_rfl) (by kernel_rfl) (by kernel_rfl) (fun _ _ _ h => h) (Or.inl ⟨wantedN rfl, ?_⟩) hHeld ?_
  rotate_left; · (intro w' hSw;  go_simp; first | done | with_reducible rfl)
  try simp only [Act.put, List.getElem_toArray, List.getElem_cons_succ, List.getElem_cons_zero, List.setIfInBounds_toArray, List.set_cons_zero, List.set_cons_succ]
  refine wpAnyH_done (by kernel_rfl) ?_ _
  refine NoPanic.normal ?_
  have HB1 := Aside0.mk (HWW.out.trans (hHeld.out.mono HWW.out.size))
  go_wp2_with fail
  go_ret2
  exact ⟨rfl, HB1.out⟩

/-- New refuses a number that is no modulus. -/
theorem newBad4_calls (v : Value) (m : Int) (la : Nat) (w : World) (hv : DN w v m la) (hl : la ≤ 80) (hn : ¬ FP 4 m) :
    Calls Try.prog 47 #[v] w fun e w' => e = .returned (.tuple #[.pointer none, .int .i64 1]) ∧ Below w.heap.size w w' := by
  have h0 := hv.nonneg
  rcases Int.emod_two_eq m with h | h
  · exact newEven4_calls v m la w hv hl h
  · by_cases h1 : m = 1
    · exact newLow4_calls v m la w hv hl h h1
    · by_cases h2 : B64 ^ 4 ≤ 2 * m
      · exact newBig4_calls v m la w hv hl h (by omega) h2
      · exact absurd ⟨h, by omega, by omega⟩ hn
set_option maxRecDepth 100000 in
theorem newLong4_calls (v : Value) (xs : List Int) (w : World) (hv : RL .u64 w v xs) (hl : 80 < xs.length) :
    Calls Try.prog 47 #[v] w fun e w' => e = .returned (.tuple #[.pointer none, .int .i64 11]) ∧ Below w.heap.size w w' := by
  obtain ⟨A, c, rfl, hc, hC⟩ := hv
  have h80 : (80 : Int) < xs.length := by omega
  clear hC hc
  go_enter Try.func47, Try.ntmps47
  go_wp2_with fail
  go_ret2
  exact ⟨rfl, below_alloc (Below.refl _ _) _⟩
end Go.Proofs.Ytokadjfakncdfaa
end

section
set_option linter.unusedVariables false
set_option linter.unusedSimpArgs false
namespace Go.Proofs.Ytokadjfakncdfaa
open Go.RowKit Go.Proofs.YtokadjfakncdfaaW.PrintWords Go.Proofs.YtokadjfakncdfaaW.PrintLast Go.Proofs.YtokadjfakncdfaaW.PrintMore
theorem Fd.cells4 {w : World} {g : Nat} {m : Int} (h : Fd 4 121 w g m) : ∃ inv wv, w.heap[g]? = some (.cells (fcells 4 m (B64 ^ 4 * B64 ^ 4 % m) (B64 ^ 4 % m) inv wv) 121 (0, 0)) ∧ CN w wv m 80 := by
  obtain ⟨inv, wv, h1, h2, h3⟩ := h.out
  exact ⟨inv, wv, h1, h2⟩
set_option maxRecDepth 100000 in
set_option maxHeartbeats 4000000 in
theorem fromOk4_calls (g : Nat) (v : Value) (m a z : Int) (la : Nat) (w : World) (hF : Fd 4 121 w g m) (hv : DN w v a la) (hl : la ≤ 80) (hz : z = mo 4 m a) :
    Calls Try.prog 48 #[.pointer (some ⟨g, 0, none⟩), v] w fun e w' => e = .returned (.tuple #[elt 4 z, .int .i64 0]) ∧ Below w.heap.size w w' := by
  have HF := Aside0.mk hF
  have HV := Aside0.mk hv
  have HL := Aside0.mk hl
  obtain ⟨inv, wv, k1, k2⟩ := hF.cells4
  obtain ⟨sq, hsq⟩ : ∃ q, B64 ^ 4 * B64 ^ 4 % m = q := ⟨_, rfl⟩
  obtain ⟨X, hX⟩ : ∃ q, a % m = q := ⟨_, rfl⟩
  have hp := hF.fp
  have bX : 0 ≤ X ∧ X < m := hX ▸ ⟨Int.emod_nonneg _ (by have := hp.pos; omega), Int.emod_lt_of_pos _ hp.pos⟩
  have HX := Aside0.mk bX
  have HZ := Aside0.mk (show ∀ Z, Cg m (Z * B64 ^ 4) (X * nv B64 (dg 4 sq)) → 0 ≤ Z → Z < m → Z = z from fun Z z1 z2 z3 => by
    have hs : 0 ≤ sq ∧ sq < m := hsq ▸ ⟨Int.emod_nonneg _ (by have := hp.pos; omega), Int.emod_lt_of_pos _ hp.pos⟩
    rw [dg_nv_lt _ _ hs.1 (by have := hp.lt; omega)] at z1
    rw [hz]
    refine mo_from hp.odd (hsq ▸ Cg.mod _ _) (z1.trans ?_) z2 z3
    exact (hX ▸ Cg.mod m a : Cg m X a).mul (Cg.refl _ _))
  have HXE := Aside0.mk hX
  have HP := Aside0.mk hp
  rw [hsq] at k1
  have HK := Aside0.mk (Fr.of k1)
  obtain ⟨A, c, n, rfl, h80⟩ : ∃ A c, ∃ n : Nat, v = .slice A n c ∧ (n : Int) ≤ 80 := by
    obtain ⟨xs, h1, h2, h3, h4⟩ := hv.out
    obtain ⟨A, c, e, _⟩ := h1
    exact ⟨A, c, _, e, by omega⟩
  have S := Aside0.mk (((SB0.nil w).alloc 63 (List.replicate 4 0)).alloc 63 (List.replicate 4 0)).S
  have cw : ((w.alloc (.cells #[.int .u64 0, .int .u64 0, .int .u64 0, .int .u64 0] 63)).alloc (.cells #[.int .u64 0, .int .u64 0, .int .u64 0, .int .u64 0] 63)).cell? ⟨g, 4, none⟩ = some wv := (blk_cell (HK.out.out _ S.out.B) 4).trans (fcells_wv 4 _ _ _ _ _)
  have K2 := Aside0.mk k2
  have SR := Aside0.mk (c64_info info63 (dg_length 4 z))
  have SN := Aside0.mk (show (c64 (List.replicate 4 0)).size = (c64 (dg 4 z)).size from c64_sizes (by rw [dg_length]; rfl))
  clear hF hv hl hz k1 k2 hsq hX bX hp
  go_enter Try.func48, Try.ntmps48
  go_wp2_with fail
  refine (divmod_n (HV.out.below S.out.B) (K2.out.dn.below S.out.B) HL.out (by decide) HP.out.pos).mono ?_
  rintro e w1 ⟨vq, vr, rfl, cq, cr, st⟩
  rw [HXE.out] at cr
  have S1 := Aside0.mk (S.out.below st)
  have D1 := Aside0.mk cr.dn
  clear cq cr st S cw
  go_upto_region 7 with fail
  refine wp_region_noPanic ?_
  have S2 := Aside0.mk S1.out.drew
  have DR := Aside0.mk (D1.out.below (w' := w1.drew) (below_drew (Below.refl _ _)))
  clear S1 D1
  refine wp_region_held_drew (S := (fun w' => Aside0 (∃ z : List Int, z.length = 4 ∧ SB w w' [(63, z), (63, List.replicate 4 0)]))) (by kernel_rfl) ⟨⟨_, by simp, S2.out⟩⟩ (fun hHeld => ?_)
  refine tkG 0 (v := ?_) rfl (by kernel_rfl) (by kernel_rfl) (by kernel_rfl) (fun _ _ _ h => h) (Or.inl ⟨wantedN rfl, ?_⟩) hHeld ?_
  rotate_left; · (intro w' hSw;  go_simp; first | done | with_reducible rfl)
  try simp only [Act.put, List.getElem_toArray, List.getElem_cons_succ, List.getElem_cons_zero, List.setIfInBounds_toArray, List.set_cons_zero, List.set_cons_succ]
  refine tkG 1 (v := ?_) rfl (by kernel_rfl) (by kernel_rfl) (by kernel_rfl) (fun _ _ _ h => h) (Or.inl ⟨wantedN rfl, ?_⟩) hHeld ?_
  rotate_left; · (intro w' hSw;  go_simp; first | done | with_reducible rfl)
  try simp only [Act.put, List.getElem_toArray, List.getElem_cons_succ, List.getElem_cons_zero, List.setIfInBounds_toArray, List.set_cons_zero, List.set_cons_succ]
  refine tkG 3 (v := ?_) rfl (by kernel_rfl) (by kernel_rfl) (by kernel_rfl) (fun _ _ _ h => h) (Or.inl ⟨wantedN rfl, ?_⟩) hHeld ?_
  rotate_left; · (intro w' hSw;  go_simp; first | done | with_reducible rfl)
  try simp only [Act.put, List.getElem_toArray, List.getElem_cons_succ, List.getElem_cons_zero, List.setIfInBounds_toArray, List.set_cons_zero, List.set_cons_succ]
  refine tkG 4 (v := ?_) rfl (by kernel_rfl) (by kernel_rfl) (by kernel_rfl) (fun _ _ _ h => h) (Or.inl ⟨wantedN rfl, ?_⟩) hHeld ?_
  rotate_left; · (intro w' hSw;  go_simp; first | done | with_reducible rfl)
  try simp only [Act.put, List.getElem_toArray, List.getElem_cons_succ, List.getElem_cons_zero, List.setIfInBounds_toArray, List.set_cons_zero, List.set_cons_succ]
  refine tkG 5 (v := ?_) rfl (by kernel_rfl) (by kernel_rfl) (by kernel_rfl) (fun _ _ _ h => h) (Or.inl ⟨wantedN rfl, ?_⟩) hHeld ?_
  rotate_left; · (intro w' hSw;  go_simp; first | done | with_reducible rfl)
  try simp only [Act.put, List.getElem_toArray, List.getElem_cons_succ, List.getElem_cons_zero, List.setIfInBounds_toArray, List.set_cons_zero, List.set_cons_succ]
  refine tkG 6 (v := .agg (c64 (dg 4 sq))) rfl (by kernel_rfl) (by kernel_rfl) (by kernel_rfl) (fun _ _ _ h => h) (Or.inl ⟨wantedN rfl, fun w' hSw => loadG 63 (.tmp 34) rfl ⟨g, 5, none⟩ rfl (run_loadVar_part w' g 5 121 63 _ _ _ (HK.out.out w' (by obtain ⟨z, _, hz⟩ := hSw.out; exact hz.B)) Try.underlying63 rfl (by rw [dg_length]; exact info63) (fun j hj => by rw [dg_length] at hj; exact fcells_sq 4 _ _ _ _ _ j hj))⟩) hHeld ?_
  try simp only [Act.put, List.getElem_toArray, List.getElem_cons_succ, List.getElem_cons_zero, List.setIfInBounds_toArray, List.set_cons_zero, List.set_cons_succ]
  refine brG 2 rfl (by kernel_rfl) (fun K hK => ?_)
  go_simp
  refine (array4_n (v := vr) (DR.out) (by decide)).mono ?_
  rintro e w2 ⟨rfl, st⟩
  have S3 := Aside0.mk (S2.out.below st)
  clear st S2 hHeld
  refine hK.out _ _ ⟨⟨_, by simp, S3.out⟩⟩ (fun hHeld => ?_)
  clear hK K
  try simp only [Act.put, List.getElem_toArray, List.getElem_cons_succ, List.getElem_cons_zero, List.setIfInBounds_toArray, List.set_cons_zero, List.set_cons_succ]
  refine brG 7 rfl (by kernel_rfl) (fun K hK => ?_)
  go_simp
  refine (mulR4_calls g m X (dg 4 sq) _ (HF.out.below S3.out.B) HX.out (dg_dig _ _) (dg_length _ _)).mono ?_
  rintro e w3 ⟨Z, rfl, ⟨z1, z2, z3⟩, st⟩
  obtain rfl := HZ.out Z z1 z2 z3
  have S4 := Aside0.mk (S3.out.below st)
  clear st S3 hHeld z1 z2 z3
  refine hK.out _ _ ⟨⟨_, by simp, S4.out⟩⟩ (fun hHeld => ?_)
  clear hK K
  try simp only [Act.put, List.getElem_toArray, List.getElem_cons_succ, List.getElem_cons_zero, List.setIfInBounds_toArray, List.set_cons_zero, List.set_cons_succ]
  refine brG 8 rfl (by kernel_rfl) (fun K hK => ?_)
  rw [if_pos (wantedN rfl)]
  refine wp_store_row 63 (.tmp 4) (.tmp 36) rfl w.heap.size (c64 (dg 4 Z)) rfl rfl 63 _ (S4.out.R 0 _ _ rfl) SR.out SN.out (c64_all _) ?_
  have S5 := Aside0.mk (S4.out.setRow 0 _ _ rfl (dg 4 Z))
  clear S4 hHeld
  refine hK.out _ _ ⟨⟨_, dg_length _ _, S5.out⟩⟩ (fun hHeld => ?_)
  clear hK K
  try simp only [Act.put, List.getElem_toArray, List.getElem_cons_succ, List.getElem_cons_zero, List.setIfInBounds_toArray, List.set_cons_zero, List.set_cons_succ]
  refine tkG 9 (v := ?_) rfl (by kernel_rfl) (by kernel_rfl) (by kernel_rfl) (fun _ _ _ h => h) (Or.inl ⟨wantedN rfl, ?_⟩) hHeld ?_
  rotate_left; · (intro w' hSw;  go_simp; first | done | with_reducible rfl)
  try simp only [Act.put, List.getElem_toArray, List.getElem_cons_succ, List.getElem_cons_zero, List.setIfInBounds_toArray, List.set_cons_zero, List.set_cons_succ]
  refine wpAnyH_done (by kernel_rfl) ?_ _
  refine NoPanic.normal ?_
  go_wp2_with fail
  exact bodyPost_ret (v := .tuple #[elt 4 Z, .int .i64 0]) (results_cell_tmp rfl _ _ w.heap.size 63 (c64 (dg 4 Z)) (0, 0) _ (.int .i64 0) rfl rfl (S5.out.R 0 _ _ rfl) Try.underlying63 rfl SR.out) rfl ⟨rfl, S5.out.B⟩

set_option maxRecDepth 100000 in
theorem fromLong4_calls (g : Nat) (v : Value) (xs : List Int) (w : World) (hv : RL .u64 w v xs) (hl : 80 < xs.length) :
    Calls Try.prog 48 #[.pointer (some ⟨g, 0, none⟩), v] w fun e w' => e = .returned (.tuple #[elt 4 0, .int .i64 11]) ∧ Below w.heap.size w w' := by
  obtain ⟨A, c, rfl, hc, hC⟩ := hv
  have h80 : (80 : Int) < xs.length := by omega
  have S := Aside0.mk (((SB0.nil w).alloc 63 (List.replicate 4 0)).alloc 63 (List.replicate 4 0)).S
  have SZ := Aside0.mk (c64_info info63 (show (List.replicate 4 0).length = 4 from rfl))
  clear hC hc
  go_enter Try.func48, Try.ntmps48
  go_wp2_with (first | (refine wpList_load_row rfl 63 (.tmp 6) rfl _ rfl 63 (c64 (List.replicate 4 0)) (0, 0) _ (S.out.R 1 _ _ rfl) Try.underlying63 rfl SZ.out ?_) | (refine wpList_store_row rfl 63 (.tmp 4) (.tmp 18) rfl _ (c64 (List.replicate 4 0)) rfl rfl 63 _ (S.out.R 0 _ _ rfl) SZ.out rfl (c64_all _) ?_))
  have S2 := S.out.setRow 0 _ _ rfl (List.replicate 4 0)
  exact bodyPost_ret (v := .tuple #[elt 4 0, .int .i64 11]) (results_cell_tmp rfl _ _ w.heap.size 63 (c64 (List.replicate 4 0)) (0, 0) _ (.int .i64 11) rfl rfl (S2.R 0 _ _ rfl) Try.underlying63 rfl SZ.out) rfl ⟨rfl, S2.B⟩
end Go.Proofs.Ytokadjfakncdfaa
end

section
set_option linter.unusedVariables false
set_option linter.unusedSimpArgs false
namespace Go.Proofs.Ytokadjfakncdfaa
open Go.RowKit Go.Proofs.YtokadjfakncdfaaW.PrintWords Go.Proofs.YtokadjfakncdfaaW.PrintLast Go.Proofs.YtokadjfakncdfaaW.PrintMore
theorem addM4 {g : Nat} {m : Int} {w : World} (a b : Int) {x y : Int} (z : Int) (hF : Fd 4 121 w g m) (hx : x = mo 4 m a) (hy : y = mo 4 m b) (hz : z = mo 4 m (a + b)) :
    Calls Try.prog 74 #[.pointer (some ⟨g, 0, none⟩), elt 4 x, elt 4 y] w fun e w' => e = .returned (elt 4 z) ∧ Below w.heap.size w w' := by
  subst hx hy
  exact addE4_calls g m _ _ z w hF (mo_bd _ _ hF.fp.pos) (mo_bd _ _ hF.fp.pos) (by rw [hz, mo_add])
theorem negM4 {g : Nat} {m : Int} {w : World} (a : Int) {x : Int} (z : Int) (hF : Fd 4 121 w g m) (hx : x = mo 4 m a) (hz : z = mo 4 m (-a)) :
    Calls Try.prog 83 #[.pointer (some ⟨g, 0, none⟩), elt 4 x] w fun e w' => e = .returned (elt 4 z) ∧ Below w.heap.size w w' := by
  subst hx
  exact negE4_calls g m _ z w hF (mo_bd _ _ hF.fp.pos) (by rw [hz, mo_neg])
theorem subM4 {g : Nat} {m : Int} {w : World} (a b : Int) {x y : Int} (z : Int) (hF : Fd 4 121 w g m) (hx : x = mo 4 m a) (hy : y = mo 4 m b) (hz : z = mo 4 m (a - b)) :
    Calls Try.prog 75 #[.pointer (some ⟨g, 0, none⟩), elt 4 x, elt 4 y] w fun e w' => e = .returned (elt 4 z) ∧ Below w.heap.size w w' := by
  subst hx hy
  exact subE4_calls g m _ _ _ z w hF (mo_bd _ _ hF.fp.pos) (mo_bd _ _ hF.fp.pos) (mo_neg _ _ _) (by rw [hz, mo_add, Int.sub_eq_add_neg])
theorem mulM4 {g : Nat} {m : Int} {w : World} (a b : Int) {x y : Int} (z : Int) (hF : Fd 4 121 w g m) (hx : x = mo 4 m a) (hy : y = mo 4 m b) (hz : z = mo 4 m (a * b)) :
    Calls Try.prog 50 #[.pointer (some ⟨g, 0, none⟩), elt 4 x, elt 4 y] w fun e w' => e = .returned (elt 4 z) ∧ Below w.heap.size w w' := by
  have hp := hF.fp
  have by' := mo_bd 4 b hp.pos
  refine (mulR4_calls g m x (dg 4 y) w hF (hx ▸ mo_bd _ _ hp.pos) (dg_dig _ _) (dg_length _ _)).mono ?_
  rintro e w' ⟨Z, rfl, ⟨z1, z2, z3⟩, st⟩
  rw [dg_nv_lt _ _ (hy ▸ by'.1) (by rw [hy]; have := hp.lt; omega), hx, hy] at z1
  rw [hz, ← mo_mul hp.odd z1 z2 z3]
  exact ⟨rfl, st⟩
theorem natM4 {g : Nat} {m : Int} {w : World} (a : Int) {x : Int} (z : Int) (hF : Fd 4 121 w g m) (hx : x = mo 4 m a) (hz : z = a % m) :
    Calls Try.prog 84 #[.pointer (some ⟨g, 0, none⟩), elt 4 x] w fun e w' => ∃ v, e = .returned v ∧ CN w' v z 4 ∧ Below w.heap.size w w' := by
  subst hx
  exact natE4_calls g m _ z w hF (mo_bd _ _ hF.fp.pos) (fun Z z1 z2 z3 => by rw [hz]; exact mo_out hF.fp.odd z1 z2 z3)
theorem neqS4 {o : Oper} {a : Act} {w : World} {x y : Tmp} {s : Int} (ho : o.op = .binOp .neq 63 (.tmp x) (.tmp y) 63) (hx : a.eval (.tmp x) = elt 4 s) (hy : a.eval (.tmp y) = elt 4 s) :
    (execOp a.eval o).run Try.prog w = .ok (.value (.bool false)) w := by
  have ge := guard63
  have eq := eq63 (dg 4 s) (dg 4 s) (dg_length _ _) (dg_length _ _)
  simp only [decide_true] at eq
  unfold elt at hx hy
  have hx' : a.tmps[x]?.getD undef = .agg (c64 (dg 4 s)) := by simpa [Act.eval] using hx
  have hy' : a.tmps[y]?.getD undef = .agg (c64 (dg 4 s)) := by simpa [Act.eval] using hy
  unfold execOp
  simp [ho, hx', hy', go_sem, ge, eq]
theorem eqlS4 {o : Oper} {a : Act} {w : World} {x y : Tmp} {s : Int} (ho : o.op = .binOp .eql 63 (.tmp x) (.tmp y) 63) (hx : a.eval (.tmp x) = elt 4 s) (hy : a.eval (.tmp y) = elt 4 s) :
    (execOp a.eval o).run Try.prog w = .ok (.value (.bool true)) w := by
  have ge := guard63
  have eq := eq63 (dg 4 s) (dg 4 s) (dg_length _ _) (dg_length _ _)
  simp only [decide_true] at eq
  unfold elt at hx hy
  have hx' : a.tmps[x]?.getD undef = .agg (c64 (dg 4 s)) := by simpa [Act.eval] using hx
  have hy' : a.tmps[y]?.getD undef = .agg (c64 (dg 4 s)) := by simpa [Act.eval] using hy
  unfold execOp
  simp [ho, hx', hy', go_sem, ge, eq]
end Go.Proofs.Ytokadjfakncdfaa
end
