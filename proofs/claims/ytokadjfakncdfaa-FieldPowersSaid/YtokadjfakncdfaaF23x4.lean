/- field: Pow, of 4 words. -/
import Derived.Test.YtokadjfakncdfaaFQ
set_option linter.unusedVariables false
set_option linter.unusedSimpArgs false
namespace Go.Proofs.Ytokadjfakncdfaa
open Go.RowKit Go.Proofs.YtokadjfakncdfaaW.PrintWords Go.Proofs.YtokadjfakncdfaaW.PrintLast Go.Proofs.YtokadjfakncdfaaW.PrintMore
/-- A load of a part of a row, on its way. -/
theorem wpList_load_at4 {P : Program} {ops : Array Oper} {rest : List Oper} {o : Oper} {a : Act} {w : World} {Q : Exit → Act → World → Prop} (hgd : o.guard = none) (ty : TypeId) (x : Operand) (ho : o.op = .load ty x)
    (ad : Addr) (hx : a.eval x = .pointer (some ad)) (v : Value) (hl : (loadVar ty ad).run P w = .ok v w) (h : wpList P ops Q rest (a.put o.dst v) w) : wpList P ops Q (o :: rest) a w :=
  wpList_plain hgd fun _ hK => by
    unfold Oper.wp execOp
    simp only [ho, hx, Instr.loadAt, Instr.sureAddr, Sem.run_bind, Sem.run_pure, Result.andThen_ok, hl]
    exact hK _ _ h
theorem pow_at4 (n : Nat) (m a : Int) (E i : Nat) : mo n m (if E / 2 ^ i % 2 = 1 then a ^ (E / 2 ^ (i + 1)) * a ^ (E / 2 ^ (i + 1)) * a else a ^ (E / 2 ^ (i + 1)) * a ^ (E / 2 ^ (i + 1))) = mo n m (a ^ (E / 2 ^ i)) := by
  have h := pow_bit a (E / 2 ^ i)
  rw [Nat.div_div_eq_div_mul, ← Nat.pow_succ] at h
  rw [h]
  congr 1
  split
  · rfl
  · rw [Int.mul_one]
set_option maxRecDepth 100000 in
theorem step4_calls (V : World) {w : World} {g : Nat} {m : Int} (pf px po : Nat) (a b bit : Int) {x y : Int} (z1 z : Int) {zs : List Int} (hF : Fd 4 121 V g m) (hf : V.heap[pf]? = some (.cells #[.pointer (some ⟨g, 0, none⟩)] 65 (0, 0))) (epx : V.heap.size = px) (epo : V.heap.size + 2 = po)
    (hS : SB V w [(63, dg 4 x), (63, zs), (63, dg 4 y)]) (hx : x = mo 4 m a) (hy : y = mo 4 m b) (hz1 : z1 = mo 4 m (b * b)) (hz : z = mo 4 m (b * b * a)) :
    Calls Try.prog 93 #[.int .u64 bit, .pointer (some ⟨pf, 0, none⟩), .pointer (some ⟨po, 0, none⟩), .pointer (some ⟨px, 0, none⟩)] w fun e w' => e = .returned (.tuple #[]) ∧ SB V w' [(63, dg 4 x), (63, zs), (63, dg 4 (if bit = 1 then z else z1))] := by
  have HF := Aside0.mk hF
  have S := Aside0.mk hS
  have HX := Aside0.mk hx
  have HY := Aside0.mk hy
  have HZ1 := Aside0.mk hz1
  have HZ := Aside0.mk hz
  have SX := Aside0.mk (c64_info info63 (dg_length 4 x))
  have SY := Aside0.mk (c64_info info63 (dg_length 4 y))
  have SZ1 := Aside0.mk (c64_info info63 (dg_length 4 z1))
  have SZ := Aside0.mk (c64_info info63 (dg_length 4 z))
  have SN1 := Aside0.mk (show (c64 (dg 4 y)).size = (c64 (dg 4 z1)).size from c64_sizes (by rw [dg_length, dg_length]))
  have SN := Aside0.mk (show (c64 (dg 4 z1)).size = (c64 (dg 4 z)).size from c64_sizes (by rw [dg_length, dg_length]))
  have RX := Aside0.mk (show ∀ w' rows, SB V w' ((63, dg 4 x) :: rows) → w'.heap[px]? = some (.cells (c64 (dg 4 x)) 63 (0, 0)) from fun w' rows h => epx ▸ h.R 0 _ _ rfl)
  have RO := Aside0.mk (show ∀ w' xs, SB V w' [(63, dg 4 x), (63, zs), (63, xs)] → w'.heap[po]? = some (.cells (c64 xs) 63 (0, 0)) from fun w' xs h => epo ▸ h.R 2 _ _ rfl)
  have RS := Aside0.mk (show ∀ w' xs ys, SB V w' [(63, dg 4 x), (63, zs), (63, xs)] → SB V (w'.setRow po (c64 ys)) [(63, dg 4 x), (63, zs), (63, ys)] from fun w' xs ys h => epo ▸ h.setRow 2 _ _ rfl ys)
  have HC := Aside0.mk (show ∀ w', Below V.heap.size V w' → w'.cell? ⟨pf, 0, none⟩ = some (.pointer (some ⟨g, 0, none⟩)) from fun w' h => (blk_cell ((h.block pf (blk_lt hf)).trans hf) 0).trans rfl)
  have cf := HC.out w hS.B
  clear hF hS hx hy hz1 hz epx epo hf
  by_cases hb : bit = 1
  · subst hb
    rw [if_pos rfl]
    go_enter Try.func93, Try.ntmps93
    go_wp2_with (refine wpList_load_row rfl 63 (.tmp 2) rfl _ rfl 63 (c64 (dg 4 y)) (0, 0) _ (RO.out _ _ S.out) Try.underlying63 rfl SY.out ?_)
    refine (mulM4 (x := y) (y := y) b b z1 (HF.out.below S.out.B) HY.out HY.out HZ1.out).mono ?_
    rintro e w1 ⟨rfl, st⟩
    have S1 := Aside0.mk (S.out.below st)
    clear st S cf
    unfold elt
    go_upto_region 1 with (refine wpList_store_row rfl 63 (.tmp 2) (.tmp 8) rfl po (c64 (dg 4 z1)) rfl rfl 63 _ (RO.out _ _ S1.out) SZ1.out SN1.out (c64_all _) ?_)
    obtain ⟨W2, hW⟩ : ∃ W, w1.setRow po (c64 (dg 4 z1)) = W := ⟨_, rfl⟩
    have S2 := Aside0.mk (hW ▸ RS.out _ _ (dg 4 z1) S1.out)
    rw [hW]
    have cf := HC.out W2 S2.out.B
    clear hW S1
    go_wp2_with (first | (refine wpList_load_row rfl 63 (.tmp 2) rfl _ rfl 63 (c64 (dg 4 z1)) (0, 0) _ (RO.out _ _ S2.out) Try.underlying63 rfl SZ1.out ?_) | (refine wpList_load_row rfl 63 (.tmp 3) rfl _ rfl 63 (c64 (dg 4 x)) (0, 0) _ (RX.out _ _ S2.out) Try.underlying63 rfl SX.out ?_))
    refine (mulM4 (x := z1) (y := x) (b * b) a z (HF.out.below S2.out.B) HZ1.out HX.out HZ.out).mono ?_
    rintro e w3 ⟨rfl, st⟩
    have S3 := Aside0.mk (S2.out.below st)
    clear st S2 cf
    unfold elt
    go_wp2_with (refine wpList_store_row rfl 63 (.tmp 2) (.tmp 14) rfl po (c64 (dg 4 z)) rfl rfl 63 _ (RO.out _ _ S3.out) SZ.out SN.out (c64_all _) ?_)
    go_end0
    exact ⟨rfl, RS.out _ _ _ S3.out⟩
  · rw [if_neg hb]
    go_enter Try.func93, Try.ntmps93
    go_wp2_with (refine wpList_load_row rfl 63 (.tmp 2) rfl _ rfl 63 (c64 (dg 4 y)) (0, 0) _ (RO.out _ _ S.out) Try.underlying63 rfl SY.out ?_)
    refine (mulM4 (x := y) (y := y) b b z1 (HF.out.below S.out.B) HY.out HY.out HZ1.out).mono ?_
    rintro e w1 ⟨rfl, st⟩
    have S1 := Aside0.mk (S.out.below st)
    clear st S cf
    unfold elt
    go_wp2_with (refine wpList_store_row rfl 63 (.tmp 2) (.tmp 8) rfl po (c64 (dg 4 z1)) rfl rfl 63 _ (RO.out _ _ S1.out) SZ1.out SN1.out (c64_all _) ?_)
    go_end0
    exact ⟨rfl, RS.out _ _ _ S1.out⟩
set_option maxRecDepth 100000 in
theorem powM4 {g : Nat} {m : Int} {w : World} {ve : Value} {es : List Int} (a : Int) (E : Nat) {x : Int} (z : Int) (hF : Fd 4 121 w g m) (hx : x = mo 4 m a) (he : RL .u64 w ve es) (de : Dig B64 es) (le : es.length ≤ 1000) (hE : nv B64 es = (E : Int)) (hz : z = mo 4 m (a ^ E)) :
    Calls Try.prog 49 #[.pointer (some ⟨g, 0, none⟩), elt 4 x, ve] w fun e w' => e = .returned (elt 4 z) ∧ Below w.heap.size w w' := by
  have HF := Aside0.mk hF
  have HX := Aside0.mk hx
  have HV := Aside0.mk he
  have DE := Aside0.mk de
  have LE := Aside0.mk le
  have HE := Aside0.mk hE
  have HZ := Aside0.mk hz
  have SX := Aside0.mk (c64_info info63 (dg_length 4 x))
  obtain ⟨inv, wv, k1, k2⟩ := hF.cells4
  obtain ⟨sq, hsq⟩ : ∃ q, B64 ^ 4 * B64 ^ 4 % m = q := ⟨_, rfl⟩
  obtain ⟨on, hon⟩ : ∃ q, B64 ^ 4 % m = q := ⟨_, rfl⟩
  rw [hsq, hon] at k1
  have HK := Aside0.mk (Fr.of k1)
  have HO := Aside0.mk (show on = mo 4 m 1 by rw [← hon]; simp [mo])
  have SO := Aside0.mk (c64_info info63 (dg_length 4 on))
  have SN := Aside0.mk (show (c64 (List.replicate 4 0)).size = (c64 (dg 4 on)).size from c64_sizes (by rw [dg_length]; rfl))
  obtain ⟨V, hV⟩ : ∃ V, w.alloc (.cells #[.pointer (some ⟨g, 0, none⟩)] 65) = V := ⟨_, rfl⟩
  have VZ : V.heap.size = w.heap.size + 1 := by rw [← hV]; simp
  have VB := Aside0.mk (show Below w.heap.size w V from hV ▸ below_alloc1 w _)
  have VF := Aside0.mk (show V.heap[w.heap.size]? = some (.cells #[.pointer (some ⟨g, 0, none⟩)] 65 (0, 0)) from hV ▸ heap_alloc_new w _)
  have S0 := Aside0.mk ((((SB0.nil V).alloc 63 (dg 4 x)).alloc 63 (List.replicate 4 0)).alloc 63 (List.replicate 4 0)).S
  have S00 := Aside0.mk (((SB0.nil V).alloc 63 (dg 4 x)).alloc 63 (List.replicate 4 0)).S
  have HVV := Aside0.mk hV
  have HVZ := Aside0.mk VZ
  clear hF hx he de le hE hz k1 k2 hsq hon hV VZ
  unfold elt
  go_enter Try.func49, Try.ntmps49
  go_upto_region 4 with fail
  rw [HVV.out, ← HVZ.out]
  obtain ⟨W3, hW3⟩ : ∃ W, (V.alloc (.cells (c64 (dg 4 x)) 63)).alloc (.cells #[.int .u64 0, .int .u64 0, .int .u64 0, .int .u64 0] 63) = W := ⟨_, rfl⟩
  rw [hW3]
  have WZ : W3.heap.size = V.heap.size + 1 + 1 := by rw [← hW3]; simp
  have B3 : Below V.heap.size V W3 := hW3 ▸ S00.out.B
  have b3 : Below w.heap.size w W3 := VB.out.trans (B3.mono VB.out.size)
  have cf : W3.cell? ⟨w.heap.size, 0, none⟩ = some (.pointer (some ⟨g, 0, none⟩)) := (blk_cell ((B3.block _ (blk_lt VF.out)).trans VF.out) 0).trans rfl
  have LP := Aside0.mk (run_loadVar_part W3 g 9 121 63 _ (dg 4 on) _ (HK.out.out W3 b3) Try.underlying63 rfl (by rw [dg_length]; exact info63) (fun j hj => by rw [dg_length] at hj; exact fcells_on 4 _ _ _ _ _ j hj))
  have HW3 := Aside0.mk hW3
  have HN := Aside0.mk (heap_alloc_new W3 (.cells (c64 (List.replicate 4 0)) 63))
  obtain ⟨W4, hW4⟩ : ∃ W, (W3.alloc (.cells (c64 (List.replicate 4 0)) 63)).setRow (V.heap.size + 2) (c64 (dg 4 on)) = W := ⟨_, rfl⟩
  have S4 := Aside0.mk (show SB V W4 [(63, dg 4 x), (63, List.replicate 4 0), (63, dg 4 on)] from by rw [← hW4, ← hW3]; exact S0.out.setRow 2 _ _ rfl (dg 4 on))
  have HW4 := Aside0.mk hW4
  have WZZ := Aside0.mk WZ
  clear hW3 WZ B3 b3 hW4 S00 S0
  go_upto_region 5 with (first | (refine wpList_load_at4 rfl 63 (.tmp 16) rfl ⟨g, 9, none⟩ rfl _ LP.out ?_) | (refine wpList_store_row rfl 63 (.tmp 8) (.tmp 17) rfl _ (c64 (dg 4 on)) rfl rfl 63 _ HN.out SO.out SN.out (c64_all _) ?_))
  rw [show W3.heap.size = V.heap.size + 2 from WZZ.out]
  rw [show (W3.alloc (.cells #[.int .u64 0, .int .u64 0, .int .u64 0, .int .u64 0] 63)).setRow (V.heap.size + 2) (c64 (dg 4 on)) = W4 from HW4.out]
  clear cf HN HW4 HW3 WZZ LP HK HVV
  obtain ⟨po, hpo⟩ : ∃ p, V.heap.size + 2 = p := ⟨_, rfl⟩
  obtain ⟨p6, hp6⟩ : ∃ p, V.heap.size + 1 = p := ⟨_, rfl⟩
  rw [hpo, hp6]
  have HPO := Aside0.mk hpo
  have HP6 := Aside0.mk hp6
  have BW := Aside0.mk (show ∀ w', Below V.heap.size V w' → Below w.heap.size w w' from fun w' h => VB.out.trans (h.mono VB.out.size))
  have HFV := Aside0.mk (HF.out.below VB.out)
  clear hpo hp6 VB HF
  go_wp2_with fail
  refine (bits_calls ve es _ (HV.out.below (BW.out _ S4.out.B)) DE.out LE.out).mono ?_
  rintro e w5 ⟨r, rfl, hr, hr64, st⟩
  have S5 := Aside0.mk (S4.out.below st)
  have HR := Aside0.mk (show E / 2 ^ r = 0 from Nat.div_eq_of_lt (by have := hr.1; rw [HE.out, Int.toNat_natCast] at this; exact this))
  have LR := Aside0.mk (show r ≤ 64 * 1000 by have := LE.out; omega)
  clear st hr hr64 S4
  go_wp2_with fail
  go_loopg [10] r (fun kk v10 wr => ∃ (Y : Int), v10 = .int .i64 ((kk : Int) - 1) ∧ Aside0 (kk ≤ r) ∧ Aside0 (Y = mo 4 m (a ^ (E / 2 ^ kk))) ∧ Aside0 (SB V wr [(63, dg 4 x), (63, List.replicate 4 0), (63, dg 4 Y)]))
  case atStart => exact ⟨on, congrArg (Value.int .i64) (IntWalk.wrap64_in _ (by have := LR.out; omega)), ⟨Nat.le_refl _⟩, ⟨by rw [HR.out, Int.pow_zero, HO.out]⟩, S5⟩
  case round =>
    clear S5
    obtain ⟨Y, rfl, HKK, HY, S⟩ := hrel
    rcases Nat.eq_zero_or_pos gk with h0 | h0
    · subst h0
      have e0 : Y = z := by rw [HY.out, HZ.out, Nat.pow_zero, Nat.div_one]
      subst e0
      have SY := Aside0.mk (c64_info info63 (dg_length 4 Y))
      have SNY := Aside0.mk (show (c64 (List.replicate 4 0)).size = (c64 (dg 4 Y)).size from c64_sizes (by rw [dg_length]; rfl))
      have R2 := Aside0.mk (show wr.heap[po]? = some (.cells (c64 (dg 4 Y)) 63 (0, 0)) from HPO.out ▸ S.out.R 2 _ _ rfl)
      have R1 := Aside0.mk (show wr.heap[p6]? = some (.cells (c64 (List.replicate 4 0)) 63 (0, 0)) from HP6.out ▸ S.out.R 1 _ _ rfl)
      have SS := Aside0.mk (show SB V (wr.setRow p6 (c64 (dg 4 Y))) [(63, dg 4 x), (63, dg 4 Y), (63, dg 4 Y)] from HP6.out ▸ S.out.setRow 1 _ _ rfl (dg 4 Y))
      go_wp2_with (first | (refine wpList_load_row rfl 63 (.tmp 8) rfl _ rfl 63 (c64 (dg 4 Y)) (0, 0) _ R2.out Try.underlying63 rfl SY.out ?_) | (refine wpList_store_row rfl 63 (.tmp 6) (.tmp 31) rfl p6 (c64 (dg 4 Y)) rfl rfl 63 _ R1.out SY.out SNY.out (c64_all _) ?_))
      exact bodyPost_ret (v := .agg (c64 (dg 4 Y))) (results_cell_row rfl _ _ _ 63 (c64 (dg 4 Y)) (0, 0) _ rfl (HP6.out ▸ SS.out.R 1 _ _ rfl) Try.underlying63 rfl SY.out) rfl ⟨rfl, BW.out _ SS.out.B⟩
    · obtain ⟨i, rfl⟩ : ∃ i, gk = i + 1 := ⟨gk - 1, by omega⟩
      clear h0
      rw [show (((i + 1 : Nat) : Int) - 1) = (i : Int) by omega]
      obtain ⟨z1, hz1⟩ : ∃ q, q = mo 4 m (a ^ (E / 2 ^ (i + 1)) * a ^ (E / 2 ^ (i + 1))) := ⟨_, rfl⟩
      obtain ⟨z2, hz2⟩ : ∃ q, q = mo 4 m (a ^ (E / 2 ^ (i + 1)) * a ^ (E / 2 ^ (i + 1)) * a) := ⟨_, rfl⟩
      obtain ⟨bt, hbt⟩ : ∃ b, b = nbit (nv B64 es) i := ⟨_, rfl⟩
      have HZ1 := Aside0.mk hz1
      have HZ2 := Aside0.mk hz2
      have HBT := Aside0.mk hbt
      have HPW := Aside0.mk (pow_at4 4 m a E i)
      clear hz1 hz2 hbt
      go_wp2_with fail
      refine (bit_calls ve es i wr (HV.out.below (BW.out _ S.out.B)) DE.out (by have := LE.out; omega) (by have := LR.out; have := HKK.out; omega)).mono ?_
      rintro e w6 ⟨rfl, rfl⟩
      rw [← HBT.out]
      go_wp2_with fail
      refine (step4_calls V w.heap.size V.heap.size po a (a ^ (E / 2 ^ (i + 1))) bt z1 z2 HFV.out VF.out rfl HPO.out S.out HX.out HY.out HZ1.out HZ2.out).mono ?_
      rintro e w7 ⟨rfl, hs⟩
      obtain ⟨Y2, hY2⟩ : ∃ q, (if bt = 1 then z2 else z1) = q := ⟨_, rfl⟩
      rw [hY2] at hs
      have SS := Aside0.mk hs
      have HY2 := Aside0.mk hY2
      clear hs hY2 S
      go_wp2_with fail
      go_roundg i
      case measure => omega
      case rel =>
        refine ⟨Y2, congrArg (Value.int .i64) ((IntWalk.wrap64_in _ (by have := LR.out; have := HKK.out; omega)).trans rfl), ⟨by have := HKK.out; omega⟩, ⟨?_⟩, SS⟩
        rw [← HPW.out, ← HY2.out, HZ1.out, HZ2.out, HBT.out, HE.out]
        have e : nbit (E : Int) i = ((E / 2 ^ i % 2 : Nat) : Int) := by
          unfold nbit
          rw [← Int.natCast_ediv]; omega
        rw [e]
        by_cases h1 : E / 2 ^ i % 2 = 1
        · rw [h1, if_pos (by rfl), if_pos rfl]
        · rw [if_neg h1, if_neg (by omega)]
end Go.Proofs.Ytokadjfakncdfaa
