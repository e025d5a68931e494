/- The reference of layer 2: By, Good, Power, told by numbers. -/
import Derived.Test.YtokadjfakncdfaaHGC
import Derived.Test.YtokadjfakncdfaaHFA
set_option linter.unusedVariables false
set_option linter.unusedSimpArgs false
namespace Go.Proofs.Ytokadjfakncdfaa
open Go.RowKit Go.Proofs.YtokadjfakncdfaaW.PrintWords Go.Proofs.YtokadjfakncdfaaW.PrintLast Go.Proofs.YtokadjfakncdfaaW.PrintMore
open PR
set_option maxRecDepth 100000 in
theorem by_n {w : World} {va vb : Value} {x y : Int} {L L' : Nat} (z : Int) (ha : DG w va x L) (hb : DG w vb y L') (h1 : L ≤ 1000) (h2 : L' ≤ 1000) (hy : 0 < y) (hz : z = x % y) :
    Calls Try.prog 87 #[va, vb] w fun e w' => ∃ v, e = .returned v ∧ DG w' v z L' ∧ Below w.heap.size w w' := by
  have HA := Aside0.mk ha
  have HB := Aside0.mk hb
  have HY := Aside0.mk hy
  have HZ := Aside0.mk hz
  clear ha hb hy hz
  go_enter Try.func87, Try.ntmps87
  go_wp2_with fail
  refine (over_n HA.out HB.out h1 h2 HY.out).mono ?_
  rintro e w1 ⟨v1, v2, rfl, d1, d2, st⟩
  have D2 := Aside0.mk d2
  have H1 := Aside0.mk st
  clear d1 d2 st
  go_wp2_with fail
  go_ret
  exact ⟨v2, rfl, by rw [HZ.out]; exact D2.out, H1.out⟩
theorem dg_lit {w : World} {gd : Nat} (k : Int) (hk : 0 < k ∧ k < B16) (h : w.heap[gd]? = some (.cells #[.int .u32 k] 75 (0, 0))) : DG w (.slice (some ⟨gd, 0, none⟩) 1 1) k 1 :=
  ⟨[k], RL.lit1 h, ⟨Dig.nil.cons ⟨by omega, hk.2⟩, by simp; omega⟩, by simp [nv], Nat.le_refl _⟩
set_option maxRecDepth 100000 in
theorem good_n {w : World} {vd : Value} {m : Int} {L : Nat} (hd : DG w vd m L) (hL : L ≤ 4000) (k r : Nat) (hk : k ≤ 1000000) (hr : LenN m.toNat r) :
    Calls Try.prog 85 #[vd, .int .i64 k] w fun e w' => e = .returned (.bool (decide (m % 2 = 1 ∧ 2 < m ∧ r ≤ k))) ∧ Below w.heap.size w w' := by
  have HD := Aside0.mk hd
  have HL := Aside0.mk hL
  have HR := Aside0.mk hr
  obtain ⟨ys, ⟨A, c, rfl, hc, hC⟩, d, hm, hl⟩ := hd.out
  have HM := Aside0.mk hm
  have DC := Aside0.mk d.1
  clear hd hL hr d hm
  match ys with
  | [] =>
    have e : decide (m % 2 = 1 ∧ 2 < m ∧ r ≤ k) = false := by
      have := HM.out
      simp only [nv] at this
      rw [decide_eq_false_iff_not]; omega
    rw [e]
    clear hC HM DC
    go_enter Try.func85, Try.ntmps85
    go_wp2_with fail
    go_ret
    exact ⟨rfl, Below.refl _ _⟩
  | y :: ys =>
    obtain ⟨ad, rfl, hcell⟩ := C_cell hC 0 (by simp)
    have hy : y % 2 = m % 2 := by
      rw [← HM.out, nv_cons, B16]; omega
    have by' := DC.out.head
    rw [B16] at by'
    have BY := Aside0.mk by'
    have hl0 : (0 : Int) < ((y :: ys).length : Int) := by simp
    obtain ⟨n, hn⟩ : ∃ n, (y :: ys).length = n := ⟨_, rfl⟩
    rw [hn] at HD hC hl0 hc hl ⊢
    rw [show (y :: ys).getD 0 0 = y from rfl, show ad.add 0 = ad by simp [Addr.add]] at hcell
    clear hC HM DC hn by'
    by_cases h1 : y % 2 = 1
    · rw [h1] at hy
      have HY := Aside0.mk hy
      have ht : y.tmod 2 = 1 := by rw [Int.tmod_eq_emod_of_nonneg BY.out.1]; exact h1
      clear hy
      go_enter Try.func85, Try.ntmps85
      go_wp2_with fail
      refine (less_n (dg_lit 2 (by decide) (heap_alloc_new _ _)) (HD.out.below (below_alloc1 w _)) (by decide) HL.out).mono ?_
      rintro e w1 ⟨rfl, st⟩
      have H1 := Aside0.mk (below_more (below_alloc1 w _) st)
      clear st
      by_cases h2 : 2 < m
      · rw [decide_eq_true h2]
        go_wp2_with fail
        refine (rbits_n (HD.out.below H1.out) HL.out r HR.out).mono ?_
        rintro e w2 ⟨rfl, st⟩
        have H2 := Aside0.mk (below_more H1.out st)
        have e : decide (r ≤ k) = decide (m % 2 = 1 ∧ 2 < m ∧ r ≤ k) := decide_eq_decide.2 ⟨fun h => ⟨HY.out.symm, h2, by omega⟩, fun h => by omega⟩
        have HE := Aside0.mk e
        clear st e
        go_wp2_with fail
        go_ret
        exact ⟨congrArg (fun b => Ending.returned (.bool b)) HE.out, H2.out⟩
      · have e : decide (m % 2 = 1 ∧ 2 < m ∧ r ≤ k) = false := by
          rw [decide_eq_false_iff_not]; omega
        rw [decide_eq_false h2]
        have HE := Aside0.mk e
        clear e
        go_wp2_with fail
        go_ret
        exact ⟨congrArg (fun b => Ending.returned (.bool b)) HE.out.symm, H1.out⟩
    · have e : decide (m % 2 = 1 ∧ 2 < m ∧ r ≤ k) = false := by
        rw [decide_eq_false_iff_not]; omega
      rw [e]
      have ht : ¬ y.tmod 2 = 1 := by rw [Int.tmod_eq_emod_of_nonneg BY.out.1]; exact h1
      clear hy
      go_enter Try.func85, Try.ntmps85
      go_wp2_with fail
      go_ret
      exact ⟨rfl, Below.refl _ _⟩
theorem exists_len (n : Nat) : ∃ r, LenN n r := by
  by_cases h : n = 0
  · exact ⟨0, by subst h; decide⟩
  · exact ⟨Nat.log2 n + 1, Nat.lt_log2_self, .inr (by simpa using Nat.log2_self_le h)⟩
theorem good_fp {n r : Nat} {m : Int} (h0 : 0 ≤ m) (hr : LenN m.toNat r) (hn : 0 < n) : (m % 2 = 1 ∧ 2 < m ∧ r ≤ 64 * n - 1) ↔ FP n m := by
  obtain ⟨h1, h2⟩ := hr
  have e1 : B64 ^ n = ((2 ^ (64 * n) : Nat) : Int) := B64_pow n
  have e2 : (2 : Nat) ^ (64 * n) = 2 * 2 ^ (64 * n - 1) := by rw [← Nat.pow_succ']; congr 1; omega
  obtain ⟨k, rfl⟩ := Int.eq_ofNat_of_zero_le h0
  rw [Int.toNat_natCast] at h1 h2
  refine ⟨fun ⟨g1, g2, g3⟩ => ⟨g1, by omega, ?_⟩, fun g => ⟨g.odd, by have := g.lo; omega, ?_⟩⟩
  · have := Nat.pow_le_pow_right (n := 2) (by decide) g3
    rw [e1, e2]; omega
  · have h3 := g.hi
    rw [e1, e2] at h3
    refine Nat.le_of_not_lt fun h => ?_
    have h4 := Nat.pow_le_pow_right (n := 2) (by decide) (show 64 * n - 1 ≤ r - 1 by omega)
    rcases h2 with h2 | h2 <;> omega
theorem and_bit (x : Int) (i : Nat) (h0 : 0 ≤ x) (h1 : x < B64) : bits .and .u64 (x / 2 ^ (i % 64)) 1 = x / ((2 ^ (i % 64) : Nat) : Int) % 2 := by
  obtain ⟨X, rfl⟩ := Int.eq_ofNat_of_zero_le h0
  rw [B64_eq] at h1
  have e : ((X : Int) / 2 ^ (i % 64)) = ((X / 2 ^ (i % 64) : Nat) : Int) := by
    rw [Int.natCast_ediv, Int.natCast_pow]; rfl
  have h3 : X / 2 ^ (i % 64) ≤ X := Nat.div_le_self _ _
  rw [e, and_one_u64 _ (Int.natCast_nonneg _) (by have := Int.ofNat_le.2 h3; omega), ← Int.natCast_ediv]
theorem nbit_nat (E i : Nat) : nbit (E : Int) i = ((E / 2 ^ i % 2 : Nat) : Int) := by
  unfold nbit
  rw [← Int.natCast_ediv]; omega
/-- A power's rest, bit by bit. -/
theorem pow_rest (m a c : Int) (E i : Nat) (hc : c = a ^ (E / 2 ^ (i + 1)) % m) :
    a ^ (E / 2 ^ i) % m = if E / 2 ^ i % 2 = 1 then (c * c % m) * a % m else c * c % m := by
  have h := pow_bit a (E / 2 ^ i)
  rw [Nat.div_div_eq_div_mul, ← Nat.pow_succ] at h
  have h1 : Cg m c (a ^ (E / 2 ^ (i + 1))) := hc ▸ Cg.mod _ _
  have h2 : Cg m (c * c % m) (a ^ (E / 2 ^ (i + 1)) * a ^ (E / 2 ^ (i + 1))) := (Cg.mod m _).trans (h1.mul h1)
  rw [h]
  split
  · exact (h2.mul (Cg.refl m a)).emod.symm
  · rw [Int.mul_one]; exact (h1.mul h1).emod.symm
set_option maxRecDepth 100000 in
theorem power_n {w : World} {va ve vm : Value} {a m : Int} {es : List Int} {L L' : Nat} (z : Int) (E : Nat) (ha : DG w va a L) (he : RL .u64 w ve es) (de : Dig B64 es) (le : es.length ≤ 100) (hm : DG w vm m L') (h1 : L ≤ 450) (h2 : L' ≤ 450) (h0 : 0 < m)
    (hE : nv B64 es = (E : Int)) (hz : z = a ^ E % m) :
    Calls Try.prog 90 #[va, ve, vm] w fun e w' => ∃ v, e = .returned v ∧ DG w' v z L' ∧ Below w.heap.size w w' := by
  obtain ⟨A, c, rfl, hc, hC⟩ := he
  have HA := Aside0.mk ha
  have HM := Aside0.mk hm
  have H0 := Aside0.mk h0
  have HZ := Aside0.mk hz
  have DE := Aside0.mk de
  have HE := Aside0.mk hE
  have L1 := Aside0.mk h1
  have L2 := Aside0.mk h2
  have HC := Aside0.mk hC
  have LT := Aside0.mk (show E / 2 ^ (64 * es.length) = 0 from by
    have := nv_lt B64_pos de
    rw [hE, B64_pow] at this
    exact Nat.div_eq_of_lt (Int.ofNat_lt.1 this))
  obtain ⟨n, hn⟩ : ∃ n, es.length = n := ⟨_, rfl⟩
  have HN := Aside0.mk hn
  obtain ⟨c0, hc0⟩ : ∃ c, c = 1 % m := ⟨_, rfl⟩
  have HC0 := Aside0.mk hc0
  rw [hn] at le hc LT ⊢
  clear ha hm h0 hz de hE h1 h2 hC hn hc0 hc
  go_enter Try.func90, Try.ntmps90
  go_wp2_with fail
  refine (by_n c0 (dg_lit 1 (by decide) (heap_alloc_new _ _)) (HM.out.below (below_alloc1 w _)) (by decide) (by have := L2.out; omega) H0.out HC0.out).mono ?_
  rintro e w1 ⟨v, rfl, d1, st⟩
  have D1 := Aside0.mk d1
  have S1 := Aside0.mk (below_more (below_alloc1 w _) st)
  clear d1 st
  go_wp2_with fail
  go_loopg [8, 7] (64 * n) (fun kk v8 v7 wr => ∃ (c : Int), v8 = .int .i64 ((kk : Int) - 1) ∧ Aside0 (kk ≤ 64 * n) ∧ Aside0 (c = a ^ (E / 2 ^ kk) % m) ∧ Aside0 (DG wr v7 c L') ∧ Aside0 (Below w.heap.size w wr))
  case atStart => exact ⟨c0, by go_num, ⟨Nat.le_refl _⟩, ⟨by rw [LT.out, Int.pow_zero, HC0.out]⟩, D1, S1⟩
  case round =>
    clear D1 S1
    obtain ⟨c1, rfl, HK, HX, HD, HW⟩ := hrel
    rcases Nat.eq_zero_or_pos gk with h0 | h0
    · subst h0
      have e0 := Aside0.mk (show c1 = z by rw [HX.out, HZ.out, Nat.pow_zero, Nat.div_one])
      go_wp2_with fail
      go_ret
      exact ⟨_, rfl, e0.out ▸ HD.out, HW.out⟩
    · obtain ⟨i, rfl⟩ : ∃ i, gk = i + 1 := ⟨gk - 1, by omega⟩
      clear h0
      rw [show (((i + 1 : Nat) : Int) - 1) = (i : Int) by omega]
      obtain ⟨c2, hc2⟩ : ∃ q, q = c1 * c1 % m := ⟨_, rfl⟩
      obtain ⟨c3, hc3⟩ : ∃ q, q = c2 * a % m := ⟨_, rfl⟩
      have HC2 := Aside0.mk hc2
      have HC3 := Aside0.mk hc3
      clear hc2 hc3
      go_wp2_with fail
      refine (times_n HD.out HD.out (by have := L2.out; omega) (by have := L2.out; omega)).mono ?_
      rintro e w2 ⟨t, rfl, d2, st⟩
      have D2 := Aside0.mk d2
      have S2 := Aside0.mk (below_more HW.out st)
      clear d2 st
      go_wp2_with fail
      refine (by_n c2 D2.out (HM.out.below S2.out) (by have := L2.out; omega) (by have := L2.out; omega) H0.out HC2.out).mono ?_
      rintro e w3 ⟨t2, rfl, d3, st⟩
      have D3 := Aside0.mk d3
      have S3 := Aside0.mk (below_more S2.out st)
      have hC := Kd.C_below HC.out S3.out
      obtain ⟨ad, rfl, hcell⟩ := C_cell hC (i / 64) (by have := HK.out; have := HN.out; omega)
      obtain ⟨x, hx⟩ : ∃ x, es.getD (i / 64) 0 = x := ⟨_, rfl⟩
      rw [hx] at hcell
      have BX := DE.out.getD B64_pos (i / 64)
      rw [hx] at BX
      have hb : bits .and .u64 (x / 2 ^ (i % 64)) 1 = ((E / 2 ^ i % 2 : Nat) : Int) := by
        rw [and_bit x i BX.1 BX.2, ← nbit_nat, ← HE.out, nbit_word DE.out, hx]
      have h164 : ((i : Int) / 64) < (n : Int) := by have := HK.out; omega
      have BXA := Aside0.mk BX
      have HI := Aside0.mk HK.out
      have HPR := Aside0.mk (pow_rest m a c1 E i HX.out)
      clear d3 st hC hx S2 D2 BX HK HC HX
      by_cases h1 : E / 2 ^ i % 2 = 1
      · rw [h1] at hb
        have e := HPR.out
        rw [if_pos h1, ← HC2.out, ← HC3.out] at e
        have HP := Aside0.mk e
        clear e HPR h1
        go_wp2_with fail
        refine (times_n D3.out (HA.out.below S3.out) (by have := L2.out; omega) (by have := L1.out; omega)).mono ?_
        rintro e w4 ⟨t3, rfl, d4, st⟩
        have D4 := Aside0.mk d4
        have S4 := Aside0.mk (below_more S3.out st)
        clear d4 st
        go_wp2_with fail
        refine (by_n c3 D4.out (HM.out.below S4.out) (by have := L1.out; have := L2.out; omega) (by have := L2.out; omega) H0.out HC3.out).mono ?_
        rintro e w5 ⟨t4, rfl, d5, st⟩
        have D5 := Aside0.mk d5
        have S5 := Aside0.mk (below_more S4.out st)
        clear d5 st
        go_wp2_with fail
        go_roundg i
        case measure => omega
        case rel => exact ⟨c3, by go_num, ⟨by have := HI.out; omega⟩, ⟨HP.out.symm⟩, D5, S5⟩
      · have h0 : E / 2 ^ i % 2 = 0 := by omega
        have e := HPR.out
        rw [if_neg h1, ← HC2.out] at e
        have HP := Aside0.mk e
        rw [h0] at hb
        clear e HPR h1 h0
        go_wp2_with fail
        go_roundg i
        case measure => omega
        case rel => exact ⟨c2, by go_num, ⟨by have := HI.out; omega⟩, ⟨HP.out.symm⟩, D3, S3⟩
end Go.Proofs.Ytokadjfakncdfaa
